/- Expressions: whether one may be. -/
import Derived.Test.YtpaddkkfefgkfaaGreatDoorGrc
set_option linter.unusedVariables false
set_option linter.unusedSimpArgs false
namespace Go.Proofs.YtpaddkkfefgkfaaGreatDoor.ex
open Go.Tv Go.Ev Go.Px
set_option maxRecDepth 100000
noncomputable section
theorem IZ (op n l r:Int) (s:List UInt8):bL ay (op,n,s,l,r)=true↔1<=op/\op<=16/\(op=1\/n=0)/\(op=2->ay s=true)/\(op≠2->s=[])/\(op<=4->l=0)/\(6<op\/r=0):=by
 simp only[bL,Bool.and_eq_true,Bool.or_eq_true,decide_eq_true_eq,Bool.not_eq_true',decide_eq_false_iff_not]
 constructor
 .
  rintro ⟨⟨⟨⟨⟨h1,h2⟩,h3⟩,h4⟩,h5⟩,h6⟩;refine ⟨h1,h2,h3,λh=>by rw[if_pos h] at h4;exact h4,λh=>by rw[if_neg h] at h4;exact of_decide_eq_true h4,λh=>by omega,h6⟩
 rintro ⟨h1,h2,h3,h4,h4',h5,h6⟩
 refine ⟨⟨⟨⟨⟨h1,h2⟩,h3⟩,?_⟩,by omega⟩,h6⟩
 split
 .
  rename_i h;exact h4 h
 rename_i h;exact decide_eq_true (h4' h)
def DX (op n l r:Int) (s:List UInt8):Option AV :=
 let r3:Option AV:=pick2 (ltI 6 op) (some (.bool true)) (some (.bool (eqI r 0)))
 let r2:Option AV:=pick2 (!ltI 4 op) (pick2 (!eqI l 0) (some (.bool false)) r3) r3
 let r1b:Option AV:=pick2 (!eqI op 2) (pick2 (!decide (s=[])) (some (.bool false)) r2) r2
 let r1:Option AV:=pick2 (eqI op 2) (pick2 (!ay s) (some (.bool false)) r1b) r1b
 pick2 (ltI op 1) (some (.bool false)) (pick2 (ltI 16 op) (some (.bool false)) (pick2 (!eqI op 1) (pick2 (!eqI n 0) (some (.bool false)) r1) r1))
theorem Ud (op n l r:Int) (s:List UInt8):ag X0 (cN M6 [] AV) bV 5 200 [.agg [.int .i64 op,.int .i64 n,.str s,.int .i64 l,.int .i64 r]] aa.empty (λv _=>some v)=DX op n l r s:=by kernel_rfl
theorem I0 (op n l r:Int) (s:List UInt8):DX op n l r s=some (.bool (bL ay (op,n,s,l,r))):=by
 have hf:∀b:Bool,(b=true↔bL ay (op,n,s,l,r)=true)->some (AV.bool b)=some (.bool (bL ay (op,n,s,l,r))):=λb h=>by rw[Bool.eq_iff_iff.2 h]
 have hi:=IZ op n l r s
 unfold DX
 simp only[aW,cR,aB,aG]
 have no:¬(1<=op/\op<=16/\(op=1\/n=0)/\(op=2->ay s=true)/\(op≠2->s=[])/\(op<=4->l=0)/\(6<op\/r=0))->some (AV.bool false)=some (.bool (bL ay (op,n,s,l,r))):=λh=>hf false ⟨λh=>(by cases h),λh2=>absurd (hi.1 h2) h⟩
 by_cases h1:op<1
 .
  rw[if_pos h1];exact no (by omega)
 rw[if_neg h1]
 by_cases h2:16<op
 .
  rw[if_pos h2];exact no (by omega)
 rw[if_neg h2]
 by_cases h3:op=1\/n=0
 .
  -- the text
  have r1:(if op=2 then pick2 (!ay s) (some (AV.bool false)) (if op=2 then (if op<=4 then (if l=0 then (if 6<op then some (AV.bool true) else some (AV.bool (eqI r 0))) else some (AV.bool false)) else (if 6<op then some (AV.bool true) else some (AV.bool (eqI r 0)))) else pick2 (!decide (s=[])) (some (AV.bool false)) (if op<=4 then (if l=0 then (if 6<op then some (AV.bool true) else some (AV.bool (eqI r 0))) else some (AV.bool false)) else (if 6<op then some (AV.bool true) else some (AV.bool (eqI r 0)))))
   else if op=2 then (if op<=4 then (if l=0 then (if 6<op then some (AV.bool true) else some (AV.bool (eqI r 0))) else some (AV.bool false)) else (if 6<op then some (AV.bool true) else some (AV.bool (eqI r 0)))) else pick2 (!decide (s=[])) (some (AV.bool false)) (if op<=4 then (if l=0 then (if 6<op then some (AV.bool true) else some (AV.bool (eqI r 0))) else some (AV.bool false)) else (if 6<op then some (AV.bool true) else some (AV.bool (eqI r 0)))))=some (.bool (bL ay (op,n,s,l,r))):=by
   have r3:∀(ht:(op=2->ay s=true)/\(op≠2->s=[])) (h5:op<=4->l=0),(if 6<op then some (AV.bool true) else some (AV.bool (eqI r 0)))=some (.bool (bL ay (op,n,s,l,r))):=λht h5=>by
    split
    .
     rename_i h6;exact hf true ⟨λ_=>hi.2 ⟨by omega,by omega,h3,ht.1,ht.2,h5,.inl h6⟩,λ_=>rfl⟩
    rename_i h6;refine hf _ ?_;rw[hi,eqI_spec,beq_iff_eq];exact ⟨λh=>⟨by omega,by omega,h3,ht.1,ht.2,h5,.inr h⟩,λh=>by omega⟩
   have r2:∀(ht:(op=2->ay s=true)/\(op≠2->s=[])),(if op<=4 then (if l=0 then (if 6<op then some (AV.bool true) else some (AV.bool (eqI r 0))) else some (AV.bool false)) else (if 6<op then some (AV.bool true) else some (AV.bool (eqI r 0))))=some (.bool (bL ay (op,n,s,l,r))):=λht=>by
    by_cases h4:op<=4
    .
     rw[if_pos h4];by_cases h5:l=0
     .
      rw[if_pos h5];exact r3 ht (λ_=>h5)
     rw[if_neg h5];exact no (by omega)
    rw[if_neg h4];exact r3 ht (by omega)
   by_cases ho:op=2
   .
    simp only[if_pos ho];cases hn:ay s with
    |true=>exact r2 ⟨λ_=>hn,λh=>absurd ho h⟩
    |false=>exact no (λh=>by have:=h.2.2.2.1 ho;rw[hn] at this;cases this)
   simp only[if_neg ho];by_cases hs:s=[]
   .
    rw[decide_eq_true hs];exact r2 ⟨λh=>absurd h ho,λ_=>hs⟩
   rw[decide_eq_false hs];exact no (λh=>hs (h.2.2.2.2.1 ho))
  rcases h3 with h3|h3
  .
   rw[if_pos h3];exact r1
  by_cases h3':op=1
  .
   rw[if_pos h3'];exact r1
  rw[if_neg h3',if_pos h3];exact r1
 rw[if_neg (λh=>h3 (.inl h)),if_neg (λh=>h3 (.inr h))]
 exact no (λh=>h3 h.2.2.1)
def gFd (args:List AV):Option (Bool×List bA) :=
 match args with
 |[.agg [.int .i64 op,.int .i64 n,.str s,.int .i64 l,.int .i64 r]]=>some (true,[.val (.bool (bL ay (op,n,s,l,r)))])
 |_=>none
theorem YM:aO X0 cg 200 gFd :=
 aJ (λargs=>lt.aL rfl args) (cV qt n0) λargs rs hg=>by
  unfold gFd at hg;split at hg
  .
   rename_i op n s l r;simp only[Option.some.injEq,Prod.mk.injEq] at hg;obtain ⟨h1,rfl⟩:=hg;exact ⟨[.bool (bL ay (op,n,s,l,r))],bV,5,(Ud op n l r s).trans (I0 op n l r s),rfl,rfl⟩
  cases hg
def M7:List nY:=(200,[none],gFd)::M6
theorem Wn:cr X0 cg M7:=.cons YM qt
def pCk:List Bool:=[true,true,true,false,true,false]
def MA:bG:=⟨dG [2,3,10,11,12] pCk,.none,[71,47]⟩
def adV (x:List Nd) (o:AV) (i:Int):cj:=hU 80 [(2,.int .i64 0),(3,o),(10,.bF bB x),(11,.int .i64 x.length),(12,.int .i64 i)]
def jC0 (x:List Nd) (r m:Nat) (i:Int):Option AV:=dH X0 (cN M7 [] AV) MA r 183 pCk (λv _=>some v) m (adV x .bK i) (kC [])
def YN (x:List Nd) (r m:Nat) (n:Nat) (o:List Int) (i:Int):Option AV:=dH X0 (cN M7 [] AV) MA r 183 pCk (λv _=>some v) m (adV x (.own 0 n) i) (kC [.list 3 (.int .i64) o 0 false false])
def e2:Option AV:=some (.int .i64 2)
def Qw (o:List Int) (i:Int) (k:Nat->List Int->Option AV):Option AV:=pick2 (Nat.ble (o.length+1) 1000000) (k (o.length+1) (o++[i])) none
def Ue (o:List Int) (b:Int) (k:List Int->Option AV):Option AV:=pick2 (!ltI b 0 && !ltI o.length b) (k (o.take b.toNat)) none
def Qx (o:List Int) (j:Int) (z:Int) (k:Option AV):Option AV:=Option.rec (motive:=λ_=>Option AV) none (λy=>pick2 (!eqI z y) e2 k) (aI o j)
def Qy (n:Nat) (o:List Int) (i:Int) (nd:Nd) (go:Nat->List Int->Option AV):Option AV :=
 pick2 (!bL ay nd) e2 (pick2 (!ltI 4 nd.1) (Qw o i go)
  (pick2 (!ltI 6 nd.1) (pick2 (ltI n 1) e2 (Qx o (IntKind.wrap .i64 (n-1)) nd.2.2.2.1 (Ue o (IntKind.wrap .i64 (n-1)) λo=>Qw o i go)))
   (pick2 (ltI n 2) e2 (Qx o (IntKind.wrap .i64 (n-2)) nd.2.2.2.1 (Qx o (IntKind.wrap .i64 (n-1)) nd.2.2.2.2 (Ue o (IntKind.wrap .i64 (n-2)) λo=>Qw o i go))))))
set_option maxRecDepth 100000 in
theorem Qz (x:List Nd) (r m n:Nat) (o:List Int) (i:Int):YN x r (m+1) n o i =
 pick2 (ltI i x.length) (Option.rec (motive:=λ_=>Option AV) none (λnd=>Qy n o i nd λn o=>YN x r m n o (IntKind.wrap .i64 (i+1))) (aI x i)) (pick2 (!eqI n 1) e2 (some (.int .i64 0))):=by kernel_rfl
set_option maxRecDepth 100000 in
theorem YO (x:List Nd) (r m:Nat) (i:Int):jC0 x r (m+1) i =
 pick2 (ltI i x.length) (Option.rec (motive:=λ_=>Option AV) none (λnd=>pick2 (!bL ay nd) e2 (pick2 (!ltI 4 nd.1) (YN x r m 1 [i] (IntKind.wrap .i64 (i+1))) (pick2 (!ltI 6 nd.1) e2 e2))) (aI x i)) e2:=by kernel_rfl
set_option maxRecDepth 100000 in
theorem Uf (x:List Nd) (r:Nat):ag X0 (cN M7 [] AV) MA r 183 [.bF bB x] aa.empty (λv _=>some v)=pick2 (ltI 200 x.length) (some (.int .i64 3)) (jC0 x r r 0):=by kernel_rfl
set_option maxRecDepth 100000 in
theorem QA (r:Nat):ag X0 (cN M7 [] AV) MA (r+1) 183 [.bK] aa.empty (λv _=>some v)=e2:=by kernel_rfl
theorem adW (x:List Nd) (hx:x.length<=1000) (r:Nat):∀(rest pre:List Nd) (m:Nat) (o:List Int),x=pre++rest->rest.length<m->o.length<=pre.length->YN x r m o.length o pre.length=some (.int .i64 (od ay pre.length rest o)):=by
 intro rest
 induction rest with
 |
  nil =>
  intro pre m o he hm ho;obtain ⟨m,rfl⟩:∃m',m=m'+1:=⟨m-1,by simp at hm;omega⟩
  have hl:x.length=pre.length:=by rw[he];simp
  rw[Qz,cF (by omega)]
  show pick2 (!eqI (o.length:Int) 1) e2 (some (.int .i64 0))=_;rw[aG,od];by_cases h:o.length=1
  .
   rw[if_pos (by omega),if_pos h]
  rw[if_neg (by omega),if_neg h];rfl
 |
  cons nd rest ih =>
  intro pre m o he hm ho;obtain ⟨m,rfl⟩:∃m',m=m'+1:=⟨m-1,by simp at hm;omega⟩
  have hl:x.length=pre.length+(rest.length+1):=by rw[he];simp
  have hg:aI x (pre.length:Int)=some nd:=by rw[he];exact ei pre rest nd
  have hin:∀o':List Int,o'.length<=pre.length->Qw o' pre.length (λn o=>YN x r m n o ((pre.length:Int)+1))=some (.int .i64 (od ay (pre.length+1) rest (o'++[(pre.length:Int)]))):=λo' ho'=>by
   have:=ih (pre++[nd]) m (o'++[(pre.length:Int)]) (by rw[he];simp) (by simp at hm;omega) (by simp;omega)
   simp only[List.length_append,List.length_cons,List.length_nil,Nat.zero_add] at this;unfold Qw;rw[bO (by omega)]
   exact this
  rw[Qz,kW (by omega),hg,i64_in (n:=(pre.length:Int)+1) (by omega) (by omega)]
  show Qy o.length o pre.length nd (λn o=>YN x r m n o ((pre.length:Int)+1))=_
  unfold Qy;rw[od];cases NT:bL ay nd with
  |false=>rfl
  |
   true =>
   show pick2 (!ltI 4 nd.1) _ _=_;rw[if_pos rfl,cR];unfold zQ;by_cases h4:nd.1<=4
   .
    rw[if_pos h4,if_pos h4];exact hin o ho
   rw[if_neg h4,if_neg h4,cR]
   have QB:∀(j:Nat) (z:Int) (k:Option AV) (R:Option AV),j<o.length->(o[j]? ≠ some z->R=e2)->(o[j]? = some z->k=R)->Qx o (j:Int) z k=R:=λj z k R hj h1 h2=>by
    unfold Qx;rw[mq,List.getElem?_eq_getElem hj];show pick2 (!eqI z o[j]) e2 k=_;rw[aG];by_cases hz:z=o[j]
    .
     rw[if_pos hz];exact h2 (by rw[List.getElem?_eq_getElem hj,hz])
    rw[if_neg hz];exact (h1 (by rw[List.getElem?_eq_getElem hj];intro h;exact hz (Option.some.inj h).symm)).symm
   have adX:∀(j:Nat) (k:List Int->Option AV),j<=o.length->Ue o (j:Int) k=k (o.take j):=λj k hj=>by
    unfold Ue;rw[cF (by omega),cF (by omega)];rfl
   by_cases h6:nd.1<=6
   .
    rw[if_pos h6,if_pos h6,aW];by_cases hn:o.length<1
    .
     rw[if_pos (by omega),if_pos (.inl hn)];rfl
    rw[if_neg (by omega)]
    have e1:IntKind.wrap .i64 ((o.length:Int)-1)=((o.length-1:Nat):Int):=by rw[i64_in (by omega) (by omega)];omega
    rw[e1];refine QB _ _ _ _ (by omega) (λh=>by rw[if_pos (.inr h)];rfl) λh=>?_
    rw[if_neg (by rintro (h1|h1)<;>first|exact hn h1|exact h1 h),adX _ _ (by omega)]
    exact hin _ (by simp;omega)
   rw[if_neg h6,if_neg h6,aW];by_cases hn:o.length<2
   .
    rw[if_pos (by omega),if_pos (.inl hn)];rfl
   rw[if_neg (by omega)]
   have e1:IntKind.wrap .i64 ((o.length:Int)-1)=((o.length-1:Nat):Int):=by rw[i64_in (by omega) (by omega)];omega
   have e2':IntKind.wrap .i64 ((o.length:Int)-2)=((o.length-2:Nat):Int):=by rw[i64_in (by omega) (by omega)];omega
   rw[e1,e2'];refine QB _ _ _ _ (by omega) (λh=>by rw[if_pos (.inr (.inl h))];rfl) λh=>?_
   refine QB _ _ _ _ (by omega) (λh'=>by rw[if_pos (.inr (.inr h'))];rfl) λh'=>?_
   rw[if_neg (by rintro (h1|h1|h1)<;>first|exact hn h1|exact h1 h|exact h1 h'),adX _ _ (by omega)]
   exact hin _ (by simp;omega)
theorem adY (x:List Nd):ag X0 (cN M7 [] AV) MA 202 183 [.bF bB x] aa.empty (λv _=>some v)=some (.int .i64 (jo ay x)):=by
 rw[Uf,aW]
 unfold jo
 by_cases h:200<x.length
 .
  rw[if_pos (by omega),if_pos h]
 rw[if_neg (by omega),if_neg h,YO]
 cases x with
 |nil=>rfl
 |
  cons nd rest =>
  rw[kW (by simp)]
  show pick2 (!bL ay nd) e2 (pick2 (!ltI 4 nd.1) (YN (nd::rest) 202 201 1 [0] (IntKind.wrap .i64 (0+1))) (pick2 (!ltI 6 nd.1) e2 e2))=_;rw[od];cases NT:bL ay nd with
  |false=>rfl
  |
   true =>
   show pick2 (!ltI 4 nd.1) _ _=_;rw[if_pos rfl,cR];unfold zQ;by_cases h4:nd.1<=4
   .
    rw[if_pos h4,if_pos h4];simp only[List.length_cons] at h;exact adW (nd::rest) (by simp;omega) 202 rest [nd] 201 [0] rfl (by omega) (by simp)
   rw[if_neg h4,if_neg h4,cR];by_cases h6:nd.1<=6
   .
    rw[if_pos h6,if_pos h6];rfl
   rw[if_neg h6,if_neg h6];rfl
def YP (args:List AV):Option (Bool×List bA) :=
 match args with
 |
  [L]=>match IW bB L with
  |some x=>some (true,[.val (.int .i64 (jo ay x))])
  |none=>none
 |_=>none
theorem I1:aO X0 cg 183 YP :=
 aJ (λargs=>lt.aL rfl args) (cV Wn n0) λargs rs hg=>by
  unfold YP at hg;split at hg
  .
   split at hg
   .
    rename_i x hx;simp only[Option.some.injEq,Prod.mk.injEq] at hg;obtain ⟨h1,rfl⟩:=hg;refine ⟨[.int .i64 (jo ay x)],MA,202,?_,rfl,rfl⟩;rcases qY hx with rfl|⟨rfl,rfl⟩
    .
     exact adY x
    exact QA 201
   cases hg
  cases hg
def M8:List nY:=(183,[some bB],YP)::M7
theorem Wp:cr X0 cg M8:=.cons I1 Wn
end
end Go.Proofs.YtpaddkkfefgkfaaGreatDoor.ex

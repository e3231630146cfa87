/- Operands: contracts of small functions. Places: which may be; where the bracket closes. Places: what stands in them, as its functions have it; where a term ends. Places: a term. -/
import Derived.Test.YtbeckacfibledaaGreatDoorGrc
import Derived.Test.YtbeckacfibledaaGreatDoorGxa
import Derived.Test.YtbeckacfibledaaGreatDoorLyh
set_option linter.unusedVariables false
set_option linter.unusedSimpArgs false

namespace Go.Proofs.YtbeckacfibledaaGreatDoor.ps
open Go.Tv Go.Ev Go.Px Go.Pp Go.Proofs.YtbeckacfibledaaGreatDoor.ex
set_option maxRecDepth 100000
noncomputable section
abbrev rp:List UInt8->Int×Int×Bool:=rg.pR
theorem nk {f:FuncId}(h:lt.inl f=true):∀args,lt.kn f args=none:=λargs=>lt.bR h args
def gTS (f:Tok->List UInt8->Bool)(args:List AV):Option (Bool×List fy) :=
 match args with
 |[.agg [.int .i64 k,.int .i64 n,.str s,.int .i64 a],.str t]=>some (true,[.val (.bool (f (k,n,s,a) t))])
 |_=>none
theorem O0:cZ X0 fR 156 (gTS qU) :=
 cR (nk rfl) (jy w9 n0) λargs rs hg=>by
  unfold gTS at hg;split at hg
  .rename_i k n s a t;simp only[aq,ax]at hg;obtain⟨_,rfl⟩:=hg;refine⟨[.bool (qU (k,n,s,a) t)],gG,5,?_,rfl,rfl⟩;have h:aT X0 (cN M6 [] AV) gG 5 156 [.agg [.int .i64 k,.int .i64 n,.str s,.int .i64 a],.str t] aG.empty (λv _=>some v)=ah (bI k 1) (some (.bool (decide (s=t)))) (some (.bool false)):=by kernel_rfl
   rw[h,cq];unfold qU;by_cases hk:k=1
   .rw[ag hk,aX hk];rfl
   rw[aa hk,aU hk];rfl
  cases hg
def gTB (f:Tok->Bool)(args:List AV):Option (Bool×List fy) :=
 match args with
 |[.agg [.int .i64 k,.int .i64 n,.str s,.int .i64 a]]=>some (true,[.val (.bool (f (k,n,s,a)))])
 |_=>none
theorem WU:cZ X0 fR 179 (gTB Cu) :=
 cR (nk rfl) (jy w9 n0) λargs rs hg=>by
  unfold gTB at hg;split at hg
  .rename_i k n s a;simp only[aq,ax]at hg;obtain⟨_,rfl⟩:=hg;refine⟨[.bool (Cu (k,n,s,a))],gG,5,?_,rfl,rfl⟩;have h:aT X0 (cN M6 [] AV) gG 5 179 [.agg [.int .i64 k,.int .i64 n,.str s,.int .i64 a]] aG.empty (λv _=>some v)=ah (!bI k 4) (some (.bool true)) (ah (decide (s=[36])) (some (.bool true)) (ah (decide (s=[36,36])) (some (.bool true)) (some (.bool (decide (s=[41])))))):=by kernel_rfl
   rw[h,cw];unfold Cu;by_cases hk:k=4
   .rw[ag hk,aX hk];show _=some (AV.bool (false||(decide (s=[36])||(decide (s=[36,36])||decide (s=[41])))));cases decide (s=[36])<;>cases decide (s=[36,36])<;>rfl
   rw[aa hk,aU hk];rfl
  cases hg
theorem aaz:cZ X0 fR 143 (zi λt=>[.val (.agg [.int .i64 ((qf rp t).getD (0,0)).1,.int .i64 ((qf rp t).getD (0,0)).2]),.val (.bool (qf rp t).isSome)]) :=
 cR (nk rfl) (jy w9 n0) λargs rs hg=>by
  unfold zi at hg;split at hg
  .rename_i k n s a;simp only[aq,ax]at hg;obtain⟨_,rfl⟩:=hg;refine⟨[.agg [.int .i64 ((qf rp (k,n,s,a)).getD (0,0)).1,.int .i64 ((qf rp (k,n,s,a)).getD (0,0)).2],.bool (qf rp (k,n,s,a)).isSome],gG,5,?_,rfl,rfl⟩;have h:aT X0 (cN M6 [] AV) gG 5 143 [.agg [.int .i64 k,.int .i64 n,.str s,.int .i64 a]] aG.empty (λv _=>some v)=(λno=>ah (!bI k 1) no (ah (!(rp s).2.2) no (ah (bI (rp s).1 8) no (some (.fG [.agg [.int .i64 (rp s).1,.int .i64 (rp s).2.1],.bool true])))))
    (some (.fG [.agg [.int .i64 0,.int .i64 0],.bool false])):=by kernel_rfl
   rw[h];simp only[cw,cq];have e:qf rp (k,n,s,a)=if k=1/\(rp s).2.2=true/\(rp s).1≠8 then some ((rp s).1,(rp s).2.1) else none:=rfl;rw[e];by_cases h1:k=1
   .rw[ag h1];cases h2:(rp s).2.2 with
    |false=>rw[aa (show ¬(k=1/\false=true/\(rp s).1≠8) from λh=>by cases h.2.1)];rfl
    |true =>
     by_cases h3:(rp s).1=8
     .rw[ag h3,aa (show ¬(k=1/\true=true/\(rp s).1≠8) from λh=>h.2.2 h3)];rfl
     rw[aa h3,ag ⟨h1,rfl,h3⟩];rfl
   rw[aa h1,aa (show ¬(k=1/\(rp s).2.2=true/\(rp s).1≠8) from λh=>h1 h.1)];rfl
  cases hg
theorem WV:cZ X0 fR 114 (zi λt=>[.val (.int .i64 (pJ t).1),.val (.int .i64 (pJ t).2)]) :=
 cR (nk rfl) (jy w9 n0) λargs rs hg=>by
  unfold zi at hg;split at hg
  .rename_i k n s a;simp only[aq,ax]at hg;obtain⟨_,rfl⟩:=hg;refine⟨[.int .i64 (pJ (k,n,s,a)).1,.int .i64 (pJ (k,n,s,a)).2],gG,5,?_,rfl,rfl⟩;have h:aT X0 (cN M6 [] AV) gG 5 114 [.agg [.int .i64 k,.int .i64 n,.str s,.int .i64 a]] aG.empty (λv _=>some v)=ah (!bI k 1) (some (.fG [.int .i64 0,.int .i64 0])) (Q0.foldr (λq r=>ah (decide (s=q.1)) (some (.fG [.int .i64 q.2.1,.int .i64 q.2.2])) r) (some (.fG [.int .i64 0,.int .i64 0]))):=by kernel_rfl
   rw[h,cw];have e:pJ (k,n,s,a)=if k=1 then kG s Q0 else (0,0):=rfl;rw[e];by_cases h1:k=1
   .rw[ag h1,ag h1];have:∀l:List (List UInt8×Int×Int),l.foldr (λq r=>ah (decide (s=q.1)) (some (AV.fG [.int .i64 q.2.1,.int .i64 q.2.2])) r) (some (.fG [.int .i64 0,.int .i64 0]))=some (AV.fG [.int .i64 (kG s l).1,.int .i64 (kG s l).2]):=λl=>by
     induction l with
     |nil=>rfl
     |cons q l ih =>
      rw[fB,ih,au,show kG s (q::l)=if s=q.1 then q.2 else kG s l from rfl];by_cases hq:s=q.1
      .rw[ag (by simpa using hq),ag hq]
      rw[aa (by simpa using hq),aa hq]
    exact this Q0
   rw[aa h1,aa h1];rfl
  cases hg
def gSA (args:List AV):Option (Bool×List fy) :=
 match args with
 |[L,.int .i64 a,.str s]=>match GM dL L with
  |some l=>some (!bB a 0,[.val (.bool (dI l a s))])
  |none=>none
 |_=>none
theorem Jt (t:Tok)(s:List UInt8):pO t s=(bI t.1 4&&decide (t.2.2.1=s)):=by
 unfold pO;have e:(t.1==4)=decide (t.1=4):=by rw[bO];simp
 rw[eF,e]
theorem ju {α:Type}{l:List α}{a:Int}(h0:0<=a)(h:at? l a=none):(l.length:Int)<=a:=by
 unfold at? at h;split at h
 .have:=gj.1 h;simp;omega
 omega
theorem O1:cZ X0 fR 117 gSA :=
 cR (nk rfl) (jy w9 n0) λargs rs hg=>by
  unfold gSA at hg;split at hg;case h_2=>cases hg
  rename_i L a s;split at hg;case h_2=>cases hg
  rename_i l hl;simp only[aq,ax,aS]at hg;obtain⟨ha,rfl⟩:=hg;have ha:0<=a:=by rw[cA]at ha;simpa using ha
  refine⟨[.bool (dI l a s)],gG,5,?_,rfl,rfl⟩;have h:aT X0 (cN M6 [] AV) gG 5 117 [L,.int .i64 a,.str s] aG.empty (λv _=>some v)=ah (bB a l.length) (Option.rec (motive:=λ_=>Option AV) none (λy=>ah (bI y.1 4) (Option.rec (motive:=λ_=>Option AV) none (λy=>some (.bool (decide (y.2.2.1=s)))) (dQ l a)) (some (.bool false))) (dQ l a)) (some (.bool false)):=by
   rw[iy hl]
   kernel_rfl
  rw[h,cF,getI_at?];unfold dI;cases jx:at? l a with
  |none=>rw[aa (by have:=ju ha jx;omega)];rfl
  |some t =>
   rw[ag (jj jx).2];simp only;rw[Jt];cases bI t.1 4<;>rfl
def J9 (l:List Tok)(a:Int):Int×Bool:=match at? l a with
 |some t=>if t.1=1 then nm.lu t.2.2.1 else (0,false)
 |none=>(0,false)
def gMn (args:List AV):Option (Bool×List fy) :=
 match args with
 |[L,.int .i64 a]=>match GM dL L with
  |some l=>some (!bB a 0,[.val (.int .i64 (J9 l a).1),.val (.bool (J9 l a).2)])
  |none=>none
 |_=>none
theorem afS:cZ X0 fR 113 gMn :=
 cR (nk rfl) (jy w9 n0) λargs rs hg=>by
  unfold gMn at hg;split at hg;case h_2=>cases hg
  rename_i L a;split at hg;case h_2=>cases hg
  rename_i l hl;simp only[aq,ax,aS]at hg;obtain⟨ha,rfl⟩:=hg;have ha:0<=a:=by rw[cA]at ha;simpa using ha
  refine⟨[.int .i64 (J9 l a).1,.bool (J9 l a).2],gG,5,?_,rfl,rfl⟩;have h:aT X0 (cN M6 [] AV) gG 5 113 [L,.int .i64 a] aG.empty (λv _=>some v)=ah (!bB a l.length) (some (.fG [.int .i64 0,.bool false])) (Option.rec (motive:=λ_=>Option AV) none (λy=>ah (!bI y.1 1) (some (.fG [.int .i64 0,.bool false])) (Option.rec (motive:=λ_=>Option AV) none (λy=>some (.fG [.int .i64 (nm.lu y.2.2.1).1,.bool (nm.lu y.2.2.1).2])) (dQ l a))) (dQ l a)):=by
   rw[iy hl]
   kernel_rfl
  rw[h,iP,getI_at?];unfold J9;cases jx:at? l a with
  |none=>rw[ag (ju ha jx)];rfl
  |some t =>
   rw[aa (by have:=(jj jx).2;omega)];simp only[cw];by_cases h1:t.1=1
   .rw[ag h1,ag h1];rfl
   rw[aa h1,aa h1];rfl
def gNB (f:Int->Bool)(args:List AV):Option (Bool×List fy) :=
 match args with
 |[.int .i64 n]=>some (true,[.val (.bool (f n))])
 |_=>none
theorem O4 {f:FuncId}{p:Int->Bool}(hk:lt.inl f=true)(h:∀n,aT X0 (cN M6 [] AV) gG 5 f [.int .i64 n] aG.empty (λv _=>some v)=some (.bool (p n))):cZ X0 fR f (gNB p) :=
 cR (nk hk) (jy w9 n0) λargs rs hg=>by
  unfold gNB at hg;split at hg
  .rename_i n;simp only[aq,ax]at hg;obtain⟨_,rfl⟩:=hg;exact⟨[.bool (p n)],gG,5,h n,rfl,rfl⟩
  cases hg
theorem afT:cZ X0 fR 116 (gNB tv):=O4 rfl λn=>by
 have h:aT X0 (cN M6 [] AV) gG 5 116 [.int .i64 n] aG.empty (λv _=>some v)=ah (bI n 53) (some (.bool true)) (ah (bI n 54) (some (.bool true)) (ah (!bB n 68) (some (.bool (!bB 83 n))) (some (.bool false)))):=by kernel_rfl
 rw[h];unfold tv;simp only[cq,iP];by_cases h1:n=53
 .rw[ag h1,aX h1];rfl
 rw[aa h1,aU h1];by_cases h2:n=54
 .rw[ag h2,aX h2];rfl
 rw[aa h2,aU h2,Bool.false_or,Bool.false_or];by_cases h3:68<=n
 .rw[ag h3,cA];refine cj (λx=>some (AV.bool x)) ?_;rw[bO];simp;omega
 rw[aa h3,aU (by omega)]
theorem S9:cZ X0 fR 183 (gNB sizedB):=O4 rfl λn=>by
 have h:aT X0 (cN M6 [] AV) gG 5 183 [.int .i64 n] aG.empty (λv _=>some v)=[0,1,2,4,8,16].foldr (λq r=>ah (bI n q) (ah (bI n q) (some (.bool true)) (some (.bool false))) r) (ah (bI n 32) (some (.bool true)) (some (.bool false))):=by kernel_rfl
 rw[h];unfold sizedB;simp only[fB,j7,cq];by_cases hs:n=0\/n=1\/n=2\/n=4\/n=8\/n=16\/n=32
 .rw[aX hs];rcases hs with rfl|rfl|rfl|rfl|rfl|rfl|rfl<;>rfl
 rw[aU hs];simp only[kL]at hs;obtain⟨h1,h2,h3,h4,h5,h6,h7⟩:=hs;rw[aa h1,aa h2,aa h3,aa h4,aa h5,aa h6,aa h7]
theorem O5:cZ X0 fR 185 (gNB qs):=O4 rfl λn=>by
 have h:aT X0 (cN M6 [] AV) gG 5 185 [.int .i64 n] aG.empty (λv _=>some v)=[1,2,4,8].foldr (λq r=>ah (bI n q) (some (.bool true)) r) (some (.bool false)):=by kernel_rfl
 rw[h];unfold qs;simp only[fB,j7,cq];by_cases hs:n=1\/n=2\/n=4\/n=8
 .rw[aX hs];rcases hs with rfl|rfl|rfl|rfl<;>rfl
 rw[aU hs];simp only[kL]at hs;obtain⟨h1,h2,h3,h4⟩:=hs;rw[aa h1,aa h2,aa h3,aa h4]
def gRB (f:Int->Int->Bool)(args:List AV):Option (Bool×List fy) :=
 match args with
 |[.agg [.int .i64 c,.int .i64 n]]=>some (true,[.val (.bool (f c n))])
 |_=>none
theorem WW {f:FuncId}{p:Int->Int->Bool}(hk:lt.inl f=true)(h:∀c n,aT X0 (cN M6 [] AV) gG 5 f [.agg [.int .i64 c,.int .i64 n]] aG.empty (λv _=>some v)=some (.bool (p c n))):cZ X0 fR f (gRB p) :=
 cR (nk hk) (jy w9 n0) λargs rs hg=>by
  unfold gRB at hg;split at hg
  .rename_i c n;simp only[aq,ax]at hg;obtain⟨_,rfl⟩:=hg;exact⟨[.bool (p c n)],gG,5,h c n,rfl,rfl⟩
  cases hg
def vq (c n:Int):Bool:=decide ((c=2/\4<=n/\n<8)\/(c=8/\0<=n/\n<1)\/((c=1\/c=3\/c=4\/c=5\/c=6\/c=7)/\0<=n/\n<16))
def inT (n a b:Int):Option AV:=ah (!bB n a) (some (.bool (bB n b))) (some (.bool false))
theorem afU (n a b:Int):inT n a b=some (.bool (decide (a<=n/\n<b))):=by
 unfold inT;rw[iP,cA];by_cases h:a<=n
 .rw[ag h];refine cj (λx=>some (AV.bool x)) ?_;rw[eZ];omega
 rw[aa h,aU (by omega)]
def O6 (c n:Int):Option AV:=ah (bI c 2) (inT n 4 8) (ah (bI c 8) (inT n 0 1) ([1,3,4,5,6].foldr (λq r=>ah (bI c q) (ah (bI c q) (inT n 0 16) (inT n 0 0)) r) (ah (bI c 7) (inT n 0 16) (inT n 0 0))))
theorem Hr (c n:Int):O6 c n=some (.bool (vq c n)):=by
 unfold O6 vq;simp only[fB,j7,cq,afU];by_cases h2:c=2
 .rw[ag h2];refine cj (λx=>some (AV.bool x)) ?_;rw[eZ];omega
 rw[aa h2];by_cases h8:c=8
 .rw[ag h8];refine cj (λx=>some (AV.bool x)) ?_;rw[eZ];omega
 rw[aa h8];repeat' split
 all_goals (refine cj (λx=>some (AV.bool x)) ?_;rw[eZ];omega)
theorem Ta:cZ X0 fR 189 (gRB vq):=WW rfl λc n=>by
 rw[<-Hr]
 kernel_rfl
theorem WX:cZ X0 fR 184 (gRB xb):=WW rfl λc n=>by
 have h:aT X0 (cN M6 [] AV) gG 5 184 [.agg [.int .i64 c,.int .i64 n]] aG.empty (λv _=>some v)=ah (bI c 5) (O6 c n) (some (.bool false)):=by kernel_rfl
 rw[h,cq,Hr];unfold xb vq;by_cases h5:c=5
 .rw[ag h5];refine cj (λx=>some (AV.bool x)) ?_;rw[eZ];omega
 rw[aa h5,aU (by omega)]
def P1:List vW:=(156,[none,none],gTS qU)::(179,[none],gTB Cu)::(143,[none],zi λt=>[.val (.agg [.int .i64 ((qf rp t).getD (0,0)).1,.int .i64 ((qf rp t).getD (0,0)).2]),.val (.bool (qf rp t).isSome)]) ::
 (114,[none],zi λt=>[.val (.int .i64 (pJ t).1),.val (.int .i64 (pJ t).2)])::(117,[some dL,none,none],gSA)::(113,[some dL,none],gMn)::(116,[none],gNB tv) ::
 (183,[none],gNB sizedB)::(185,[none],gNB qs)::(189,[none],gRB vq)::(184,[none],gRB xb)::M6
theorem WY:iO X0 fR P1:=.cons O0 (.cons WU (.cons aaz (.cons WV (.cons O1 (.cons afS (.cons afT (.cons S9 (.cons O5 (.cons Ta (.cons WX w9))))))))))
def iV (n:Int):Option AV:=some (.int .i64 n)
def Ju (bc bn ic ix sc:Int):Option AV:=ah (xd ic ix) (iV 0) (ah (!xb ic ix) (iV 2) (ah (!qs sc) (iV 2) (ah (Mb bc bn) (iV 2) (ah (tP ic ix) (ah (!bI sc 1) (iV 2) (ah (tP bc bn) (iV 2) (iV 0))) (iV 0)))))
def Mf (bc bn ic ix sc:Int):Option AV:=ah (xd ic ix) (ah (!bI sc 0) (iV 2) (Ju bc bn ic ix sc)) (Ju bc bn ic ix sc)
def ckT (bc bn ic ix sc d sz:Int):Option AV:=ah (bB d (-2147483648)) (iV 5) (ah (bB 2147483647 d) (iV 5) (ah (!sizedB sz) (iV 2) (ah (!xd bc bn) (ah (!Mb bc bn) (ah (!xb bc bn) (iV 2) (Mf bc bn ic ix sc)) (Mf bc bn ic ix sc)) (Mf bc bn ic ix sc))))
theorem afV (bc bn ic ix sc d sz:Int):ckT bc bn ic ix sc d sz=iV (Mc bc bn ic ix sc d sz):=by
 have tail:xd ic ix=true/\sc=0\/xd ic ix=false->Ju bc bn ic ix sc=iV (if xd ic ix=true then (if sc=0 then 0 else 2)
  else if xb ic ix=false\/qs sc=false\/Mb bc bn=true then 2
  else if tP ic ix=true/\(sc≠1\/tP bc bn=true) then 2 else 0):=λh=>by
  unfold Ju;rw[cw];rcases h with⟨h,h0⟩|h
  .rw[h,ag rfl,ag h0]
  rw[h];cases xb ic ix
  .rfl
  cases qs sc
  .rfl
  cases Mb bc bn
  .cases tP ic ix
   .rfl
   by_cases h1:sc=1
   .cases tP bc bn
    .simp[h1,ah]
    simp[h1,ah]
   simp[h1,ah]
  rfl
 have mid:Mf bc bn ic ix sc=iV (if xd ic ix=true then (if sc=0 then 0 else 2)
  else if xb ic ix=false\/qs sc=false\/Mb bc bn=true then 2
  else if tP ic ix=true/\(sc≠1\/tP bc bn=true) then 2 else 0):=by
  unfold Mf;rw[cw];cases hz:xd ic ix with
  |false =>
   have ht:=tail (.inr hz);rw[hz]at ht;exact ht
  |true =>
   by_cases h0:sc=0
   .have ht:=tail (.inl ⟨hz,h0⟩);rw[hz]at ht;rw[ag h0];exact ht
   rw[aa h0,ag rfl,aa h0]
 unfold ckT Mc;rw[mid,cF,cF];by_cases h1:d < -2147483648
 .rw[ag h1,ag (.inl h1)]
 rw[aa h1];by_cases h2:2147483647<d
 .rw[ag h2,ag (.inr h2)]
 rw[aa h2,aa (show ¬(d < -2147483648\/2147483647<d) by omega)];cases sizedB sz
 .rfl
 cases xd bc bn
 .cases Mb bc bn
  .cases xb bc bn<;>rfl
  rfl
 rfl
def gCk (args:List AV):Option (Bool×List fy) :=
 match args with
 |[.agg [.int .i64 bc,.int .i64 bn,.int .i64 ic,.int .i64 ix,.int .i64 sc,.int .i64 d,.int .i64 sz]]=>some (true,[.val (.int .i64 (Mc bc bn ic ix sc d sz))])
 |_=>none
theorem O7:cZ X0 fR 172 gCk :=
 cR (nk rfl) (jy WY n0) λargs rs hg=>by
  unfold gCk at hg;split at hg
  .rename_i bc bn ic ix sc d sz;simp only[aq,ax]at hg;obtain⟨_,rfl⟩:=hg;refine⟨[.int .i64 (Mc bc bn ic ix sc d sz)],gG,5,?_,rfl,rfl⟩;have h:aT X0 (cN P1 [] AV) gG 5 172 [.agg [.int .i64 bc,.int .i64 bn,.int .i64 ic,.int .i64 ix,.int .i64 sc,.int .i64 d,.int .i64 sz]] aG.empty (λv _=>some v)=ckT bc bn ic ix sc d sz:=by kernel_rfl
   rw[h,afV];rfl
  cases hg
def pCs:List Bool:=[true,true,false,true,false]
def afX:ez:=⟨gZ [0,6,7] pCs,.none,[]⟩
def jCs (l:List Tok)(r m:Nat)(a d:Int):Option AV:=iH X0 (cN P1 [] AV) afX r 157 pCs (λv _=>some v) m (lq 37 [(0,.dH dL l),(6,.int .i64 d),(7,.int .i64 a)]) aG.empty
def csR:Option Int->Option AV
 |some a=>some (.fG [.int .i64 a,.bool true])
 |none=>some (.fG [.int .i64 0,.bool false])
def mx (d:Int):Int:=ah (bB 0 (IntKind.wrap .i64 (d-1))) (IntKind.wrap .i64 (d-1)) 0
def O8 (l:List Tok)(J:Int->Int->Option AV)(a d:Int):Option AV :=
 ah (bB a l.length) (ah (!bB a 0) (ah (dI l a [40]) (J (IntKind.wrap .i64 (a+1)) (IntKind.wrap .i64 (d+1))) (ah (!bB a 0) (ah (dI l a [41]) (J (IntKind.wrap .i64 (a+1)) (mx d))
  (ah (bI d 0) (ah (!bB a 0) (ah (dI l a [93]) (csR (some a)) (J (IntKind.wrap .i64 (a+1)) d)) none) (J (IntKind.wrap .i64 (a+1)) d))) none)) none) (csR none)
theorem WZ (l:List Tok)(r m:Nat)(a d:Int):jCs l r (m+1) a d=O8 l (jCs l r m) a d:=by kernel_rfl
theorem aaA (l:List Tok)(r:Nat)(a:Int):aT X0 (cN P1 [] AV) afX r 157 [.dH dL l,.int .i64 a] aG.empty (λv _=>some v)=jCs l r r a 0:=by kernel_rfl
theorem Q1 (p r:List Tok)(c:Tok)(s:List UInt8):dI (p++c::r) (p.length:Nat) s=pO c s:=by
 unfold dI;rw[Jo]
theorem ado {d:Int}(h0:0<=d)(h1:d<9000000000000000000):mx d=if 0<d-1 then d-1 else 0:=by
 unfold mx;rw[i64_in (n:=d-1) (by omega) (by omega),cF]
theorem W0 (l:List Tok)(hl:l.length<=2000000)(r:Nat):∀(rest pre:List Tok) (m:Nat) (d:Int),l=pre++rest->rest.length<m->0<=d->d<=pre.length->jCs l r m (pre.length:Nat) d=csR (qe rest (pre.length:Nat) d)
 |[],pre,m,d,he,hm,h0,h1=>by
  obtain⟨m,rfl⟩:∃m',m=m'+1:=⟨m-1,by simp at hm;omega⟩;have hle:l.length=pre.length:=by rw[he];simp
  rw[WZ];unfold O8;rw[fH (by omega)];rfl
 |c::rest,pre,m,d,he,hm,h0,h1=>by
  obtain⟨m,rfl⟩:∃m',m=m'+1:=⟨m-1,by simp at hm;omega⟩;have hle:l.length=pre.length+(rest.length+1):=by rw[he];simp
  have ih:∀d',0<=d'->d'<=(pre.length:Int)+1->jCs l r m ((pre.length:Int)+1) d'=csR (qe rest ((pre.length:Int)+1) d'):=λd' q0 q1=>by
   have:=W0 l hl r rest (pre++[c]) m d' (by rw[he];simp) (by simp at hm;omega) q0 (by simp;omega);rw[show ((pre++[c]).length:Nat)=pre.length+1 by simp]at this;exact this
  have hs:∀s,dI l (pre.length:Nat) s=pO c s:=λs=>by rw[he];exact Q1 pre rest c s
  rw[WZ];unfold O8;rw[qG (by omega),fH (a:=((pre.length:Nat):Int)) (b:=0) (by omega),i64_in (n:=((pre.length:Nat):Int)+1) (by omega) (by omega),i64_in (n:=d+1) (by omega) (by omega),ado h0 (by omega),hs,hs,hs];rw[ih (d+1) (by omega) (by omega),ih d h0 (by omega),ih (if 0<d-1 then d-1 else 0) (by split<;>omega) (by split<;>omega)];rw[show qe (c::rest) ((pre.length:Nat):Int) d=if pO c [40]=true then qe rest ((pre.length:Int)+1) (d+1) else if pO c [41]=true then qe rest ((pre.length:Int)+1) (if 0<d-1 then d-1 else 0) else if d=0/\pO c [93]=true then some ((pre.length:Nat):Int) else qe rest ((pre.length:Int)+1) d from rfl]
  rw[cq];cases pO c [40] with
  |true=>rfl
  |false =>
   cases pO c [41] with
   |true=>rfl
   |false =>
    by_cases hd:d=0
    .cases pO c [93] with
     |true=>rw[ag hd];simp only[hd,cr,ee,and_self,fF];rfl
     |false=>rw[ag hd];simp only[hd,cr,ee,and_false];rfl
    rw[aa hd];simp only[hd,cr,ee,false_and];rfl
def gCs (args:List AV):Option (Bool×List fy) :=
 match args with
 |[L,.int .i64 a]=>match GM dL L with
  |some l=>some (Nat.ble l.length 2000000 && !bB a 0 && !bB l.length a,[.val (.int .i64 ((mG l a).getD 0)),.val (.bool (mG l a).isSome)])
  |none=>none
 |_=>none
theorem Jr {p q:Int}(h:bB p q=false):q<=p:=by rw[cA]at h;simpa using h
theorem afY:cZ X0 fR 157 gCs :=
 cR (nk rfl) (jy WY n0) λargs rs hg=>by
  unfold gCs at hg;split at hg;case h_2=>cases hg
  rename_i L a;split at hg;case h_2=>cases hg
  rename_i l hl;simp only[aq,ax,ak,aS]at hg;obtain⟨⟨⟨g0,g1⟩,g2⟩,rfl⟩:=hg;have g0:=ay g0;have g1:=Jr g1;have g2:=Jr g2;refine⟨[.int .i64 ((mG l a).getD 0),.bool (mG l a).isSome],afX,l.length+1,?_,rfl,rfl⟩;rw[iy hl,aaA];have hp:(l.take a.toNat).length=a.toNat:=by rw[bY];omega
  have:=W0 l g0 (l.length+1) (l.drop a.toNat) (l.take a.toNat) (l.length+1) 0 (eX _ _).symm (by rw[bQ];omega) (bE 0) (by omega);rw[hp,show ((a.toNat:Nat):Int)=a by omega]at this;rw[this];show csR (mG l a)=_;cases mG l a<;>rfl
def P2:List vW:=(157,[some dL,none],gCs)::(172,[none],gCk)::P1
theorem Cv:iO X0 fR P2:=.cons afY (.cons O7 WY)
def BS (l:List Tok)(op en sz:Int)(s:TS)(e f:Int):List fK:=[.val (.dH dL l),.val (.int .i64 op),.val (.int .i64 en),.val (.int .i64 s.bc),.val (.int .i64 s.bn),.val (.int .i64 s.ic),.val (.int .i64 s.ix),.val (.int .i64 s.sc),.val (.int .i64 0),.val (.int .i64 sz),.list 81 dL s.put,.list 76 eC [],.val (.int .i64 e),.val (.int .i64 f)]
def aaB:List (Option (TypeId×Tv.Ty)):=[none,none,none,none,none,none,none,none,none,none,some (81,dL),some (76,eC),none,none]
abbrev FTm:=List Tok->Int->Int->TS->List fK->Option (Bool×(Int×Int×TS)×List fK)
def gTm (F:FTm)(ins:List fK):Option (Bool×List fK×List fK) :=
 match ins with
 |.val (.dH e0 l0) :: .val (.int .i64 op) :: .val (.int .i64 en) :: .val (.int .i64 bc) :: .val (.int .i64 bn) :: .val (.int .i64 ic) :: .val (.int .i64 ix) :: .val (.int .i64 sc) :: .val (.int .i64 d) :: .val (.int .i64 sz) :: .list t1 e1 p :: .list t2 e2 x :: .val (.int .i64 e) :: .val (.int .i64 f)::args =>
  match iu e0 dL l0,iu e1 dL p,iu e2 eC x with
  |some l,some put,some x=>match F l op en ⟨bc,bn,ic,ix,sc,put⟩ args with
   |some (c,q,rs)=>some (c&&(Nat.beq t1 81&&Nat.beq t2 76&&x.isEmpty&&bI d 0&&bI e 0&&bI f 0),BS l op en sz q.2.2 q.1 q.2.1,rs)
   |none=>none
  |_,_,_=>none
 |_=>none
def cTm (F:FTm)(F8:List (Option (TypeId×Tv.Ty))):F6:=⟨some (212,aaB),F8,gTm F⟩
theorem eq0 {a b:Int}(h:bI a b=true):a=b:=by rw[eF]at h;simpa using h
theorem aaC {F:FTm}{ins outs rs:List fK}(h:gTm F ins=some (true,outs,rs)):∃l op en sz s args q,ins=BS l op en sz s 0 0++args/\F l op en s args=some (true,q,rs)/\outs=BS l op en sz q.2.2 q.1 q.2.1:=by
 unfold gTm at h;split at h;case h_2=>cases h
 rename_i e0 l0 op en bc bn ic ix sc d sz t1 e1 p t2 e2 x e f args;split at h;case h_2=>cases h
 rename_i l put x' h0 h1 h2;split at h;case h_2=>cases h
 rename_i c q rs' hF;simp only[aq,ax,ak]at h;obtain⟨⟨hc,⟨⟨⟨⟨g1,g2⟩,g3⟩,g4⟩,g5⟩,g6⟩,rfl,rfl⟩:=h;subst hc;obtain rfl:=bf g1;obtain rfl:=bf g2;obtain rfl:=eq0 g4;obtain rfl:=eq0 g5;obtain rfl:=eq0 g6;obtain⟨rfl,h0⟩:=bS h0;obtain⟨rfl,h1⟩:=bS h1;obtain⟨rfl,h2⟩:=bS h2;have h0:l0=l:=h0;have h1:p=put:=h1;have h2:x=x':=h2;subst h0;subst h1;subst h2;have hx:x=[]:=gU.1 g3;subst hx;exact⟨l0,op,en,sz,⟨bc,bn,ic,ix,sc,p⟩,args,q,rfl,hF,rfl⟩
abbrev dZ:=Option (List fK×List Nat)
abbrev Tb (tQ:List (Option (TypeId×Tv.Ty))):AV->aG->dZ:=afR 212 aaB tQ
theorem Hs:∀(l:List AV),xg (l.map fK.val)=[]
 |[]=>rfl
 |_::l=>Hs l
theorem aaD (l:List Tok)(op en sz:Int)(s:TS)(e f:Int)(vs:List AV):xg (BS l op en sz s e f++vs.map fK.val)=[s.put.length,0]:=by
 show s.put.length::0::xg (vs.map fK.val)=_;rw[Hs]
theorem sJ (n:Nat):∀(l:List AV),Tv.cellsIn n (l.map fK.val)=l
 |[]=>rfl
 |v::l=>by show v::Tv.cellsIn n (l.map fK.val)=_;rw[sJ n l]
theorem aaE (l:List Tok)(op en sz:Int)(s:TS)(e f:Int)(vs:List AV):(Tv.cellsIn 1 (BS l op en sz s e f++vs.map fK.val)).drop aaB.length=vs:=by
 show Tv.cellsIn 3 (vs.map fK.val)=vs;exact sJ 3 vs
theorem O9 {id:FuncId}(hk:lt.inl id=true){M:List vW}{N:List pI}(hM:iO X0 fR M)(hN:gR X0 fR N){F:FTm}{F8 tQ:List (Option (TypeId×Tv.Ty))}
 (h:∀l op en sz s args q rs,F l op en s args=some (true,q,rs)->args.length=F8.length->∃(vs ws:List AV) (an:ez) (rounds:Nat),args=vs.map .val/\rs=ws.map .val/\aT X0 (cN M N _) an rounds id (.ptr 0 0::vs) (ji 212 14 (BS l op en sz s 0 0++vs.map .val)) (Tb tQ)=some (BS l op en sz q.2.2 q.1 q.2.1++ws.map .val,[q.2.2.put.length,0])) :
 gq X0 fR id (cTm F F8) :=
 aay (tQ:=tQ) (nk hk) (jy hM hN) λins outs rs hg hl=>by
  obtain⟨l,op,en,sz,s,args,q,rfl,hF,rfl⟩:=aaC hg;obtain⟨vs,ws,an,rounds,rfl,rfl,hrun⟩:=h l op en sz s args q rs hF (by
   rw[aA,aA]at hl;have:(BS l op en sz s 0 0).length=aaB.length:=rfl;omega)
  refine⟨an,rounds,_,?_,(aaD _ _ _ _ _ _ _ ws).symm⟩;rw[aaE];exact hrun
def lf (b:AV)(l:List Tok)(op en sz:Int)(s:TS)(e f:Int)(n:Nat):dZ:=some (BS l op en sz s e f++[.val b],[n,0])
def mTm (l:List Tok)(op en sz:Int)(n:Nat)(s:TS):aG:=aar [.cells 212 [.dH dL l,.int .i64 op,.int .i64 en,.int .i64 s.bc,.int .i64 s.bn,.int .i64 s.ic,.int .i64 s.ix,.int .i64 s.sc,.int .i64 0,.int .i64 sz,.own 1 n,.own 2 0,.int .i64 0,.int .i64 0],.list 81 dL s.put 0 false false,.list 76 eC [] 0 false false]
def pSt:List Bool:=[true,true,false,true,false]
def af1:ez:=⟨gZ [0,5,6] pSt,.none,[]⟩
def jSt (l:List Tok)(op en sz:Int)(s:TS)(n r m:Nat)(a d:Int):dZ:=iH X0 (cN P2 [] _) af1 r 169 pSt (Tb [none]) m (lq 70 [(0,.ptr 0 0),(5,.int .i64 d),(6,.int .i64 a)]) (mTm l op en sz n s)
def Pa (l:List Tok)(en:Int)(J:Int->Int->dZ)(L:Int->dZ)(a d:Int):dZ :=
 let nx:=J (IntKind.wrap .i64 (a+1)) d
 let yes:=Option.rec (motive:=λ_=>dZ) none (λy=>ah (Cu y) (L a) nx) (dQ l (IntKind.wrap .i64 (a-1)))
 ah (bB a en) (ah (!bB a 0) (ah (dI l a [40]) (J (IntKind.wrap .i64 (a+1)) (IntKind.wrap .i64 (d+1))) (ah (!bB a 0) (ah (dI l a [41]) (J (IntKind.wrap .i64 (a+1)) (mx d))
  (ah (bI d 0) (ah (!bB a 0) (ah (dI l a [43]) yes (ah (!bB a 0) (ah (dI l a [45]) yes nx) none)) none) nx)) none)) none) (L en)
theorem W5 (l:List Tok)(op en sz:Int)(s:TS)(n r m:Nat)(a d:Int):jSt l op en sz s n r (m+1) a d=Pa l en (jSt l op en sz s n r m) (λv=>lf (.int .i64 v) l op en sz s 0 0 n) a d:=by kernel_rfl
theorem aaF (l:List Tok)(op en sz:Int)(s:TS)(r:Nat)(a:Int):aT X0 (cN P2 [] _) af1 r 169 [.ptr 0 0,.int .i64 a] (ji 212 14 (BS l op en sz s 0 0++[.val (.int .i64 a)])) (Tb [none])=jSt l op en sz s s.put.length r r a 0:=by kernel_rfl
theorem af2 {l:List Tok}{op en sz:Int}{s:TS}{n r:Nat}(hl:l.length<=2000000)(he0:0<=en)(Up:en<=l.length):∀(rest q:List Tok) (p:Tok) (m:Nat) (d:Int),l.take en.toNat=q++p::rest->rest.length<m->0<=d->d<=q.length ->
 jSt l op en sz s n r m ((q.length:Nat)+1:Int) d=lf (.int .i64 (tw en p rest ((q.length:Nat)+1:Int) d)) l op en sz s 0 0 n:=by
 intro rest;induction rest with
 |nil =>
  intro q p m d he hm h0 h1;obtain⟨m,rfl⟩:∃m',m=m'+1:=⟨m-1,by simp at hm;omega⟩;have hle:=cj List.length he;simp only[bY,aA,aJ,bz]at hle;have hen:en=(q.length:Int)+1:=by omega
  rw[W5];unfold Pa;simp only;rw[fH (by omega)];rfl
 |cons c rest ih =>
  intro q p m d he hm h0 h1;obtain⟨m,rfl⟩:∃m',m=m'+1:=⟨m-1,by simp at hm;omega⟩;have hle:=cj List.length he;simp only[bY,aA,aJ]at hle;have hlt:(q.length:Int)+1<en:=by omega
  have hx:l=q++p::c::(rest++l.drop en.toNat):=by
   have:=(eX en.toNat l).symm;rw[he]at this;simpa using this
  have ih':∀d',0<=d'->d'<=(q.length:Int)+1->jSt l op en sz s n r m ((q.length:Int)+1+1) d'=lf (.int .i64 (tw en c rest ((q.length:Int)+1+1) d')) l op en sz s 0 0 n:=λd' q0 q1=>by
   have:=ih (q++[p]) c m d' (by rw[he];simp) (by simp at hm;omega) q0 (by simp;omega);rw[show ((q++[p]).length:Nat)=q.length+1 by simp]at this;exact this
  have hs:∀t,dI l ((q.length:Nat)+1:Int) t=pO c t:=λt=>by
   have:=Q1 (q++[p]) (rest++l.drop en.toNat) c t;rw[show q++[p]++c::(rest++l.drop en.toNat)=l by rw[bJ];exact hx.symm]at this;rw[<-this];simp
  have hp:dQ l (((q.length:Nat)+1:Int)-1)=some p:=by
   rw[show ((q.length:Nat)+1:Int)-1=(q.length:Nat) by omega];have:=lY q (c::(rest++l.drop en.toNat)) p;rw[<-hx]at this;exact this
  rw[W5];unfold Pa;simp only;rw[qG hlt,fH (a:=((q.length:Nat)+1:Int)) (b:=0) (by omega),i64_in (n:=((q.length:Nat)+1:Int)+1) (by omega) (by omega),i64_in (n:=((q.length:Nat)+1:Int)-1) (by omega) (by omega),i64_in (n:=d+1) (by omega) (by omega),ado h0 (by omega),hs,hs,hs,hs,hp];rw[ih' (d+1) (by omega) (by omega),ih' d h0 (by omega),ih' (if 0<d-1 then d-1 else 0) (by split<;>omega) (by split<;>omega)];rw[show tw en p (c::rest) ((q.length:Nat)+1:Int) d=if pO c [40]=true then tw en c rest ((q.length:Int)+1+1) (d+1) else if pO c [41]=true then tw en c rest ((q.length:Int)+1+1) (if 0<d-1 then d-1 else 0) else if d=0/\(pO c [43]=true\/pO c [45]=true)/\Cu p=true then ((q.length:Nat)+1:Int) else tw en c rest ((q.length:Int)+1+1) d from rfl]
  rw[cq];cases pO c [40] with
  |true=>rfl
  |false =>
   cases pO c [41] with
   |true=>rfl
   |false =>
    by_cases hd:d=0
    .rw[ag hd];simp only[cr,ee,hd,jw];cases pO c [43]<;>cases pO c [45]<;>cases Cu p<;>rfl
    rw[aa hd];simp only[hd,cr,ee,false_and];rfl
def fSt:FTm:=λl _ en s args=>match args with
 |[.val (.int .i64 a)]=>some (Nat.ble l.length 2000000 && !bB a 1 && !bB en a && !bB l.length en,(0,0,s),[.val (.int .i64 (fN l a en))])
 |_=>none
theorem af3:gq X0 fR 169 (cTm fSt [none]) :=
 O9 rfl Cv n0 (tQ:=[none]) λl op en sz s args q rs hF hal=>by
  unfold fSt at hF;split at hF;case h_2=>cases hF
  rename_i a;simp only[aq,ax,ak,aS]at hF;obtain⟨⟨⟨⟨g0,g1⟩,g2⟩,g3⟩,rfl,rfl⟩:=hF;have g0:=ay g0;have g1:=Jr g1;have g2:=Jr g2;have g3:=Jr g3;refine⟨[.int .i64 a],[.int .i64 (fN l a en)],af1,l.length+1,rfl,rfl,?_⟩;have h1:=aaF l op en sz s (l.length+1) a;rw[show ([AV.int .i64 a].map fK.val)=[fK.val (.int .i64 a)] from rfl];rw[h1];obtain⟨p,hp⟩:∃p,at? l (a-1)=some p:=by
   cases jx:at? l (a-1) with
   |some p=>exact⟨p,rfl⟩
   |none=>have:=ju (by omega) jx;omega
  have hk:(a-1).toNat+1=a.toNat:=by omega
  have hpl:l[(a-1).toNat]? = some p:=by
   have:at? l (((a-1).toNat:Nat):Int)=some p:=by rw[show (((a-1).toNat:Nat):Int)=a-1 by omega];exact hp
   exact this
  have hlt:(a-1).toNat<l.length:=by omega
  have e1:l.take a.toNat=l.take (a-1).toNat++[p]:=by
   rw[<-hk,List.take_add_one,hpl];rfl
  have e2:l.take en.toNat=l.take (a-1).toNat++p::(l.take en.toNat).drop a.toNat:=by
   have h3:=eX a.toNat (l.take en.toNat);have h4:(l.take en.toNat).take a.toNat=l.take (a-1).toNat++[p]:=by rw[o9,gp (by omega),e1]
   rw[h4,bJ]at h3;exact h3.symm
  have hq:((l.take (a-1).toNat).length:Int)=a-1:=by rw[bY];omega
  have:=af2 (l:=l) (op:=op) (en:=en) (sz:=sz) (s:=s) (n:=s.put.length) (r:=l.length+1) g0 (by omega) g3 ((l.take en.toNat).drop a.toNat) (l.take (a-1).toNat) p (l.length+1) 0 e2 (by rw[bQ,bY];omega) (bE 0) (by omega);rw[hq,show a-1+1=a by omega]at this;rw[this];unfold fN;rw[hp];rfl
def NS:List pI:=[(169,cTm fSt [none])]
theorem adp:gR X0 fR NS:=.cons af3 .nil
section
variable (l:List Tok) (op en sz:Int) (sg:List UInt8)
def lfO (o:qK):dZ:=lf (.bool o.1) l op en sz o.2.2.2 o.2.1 o.2.2.1 o.2.2.2.put.length
def flC (s:TS)(e f:Int):dZ:=lf (.bool false) l op en sz s e f s.put.length
def OV (s:TS)(n:Nat):dZ:=lf (.bool true) l op en sz s 0 0 n
def atR (i:Int)(k:Tok->dZ):dZ:=Option.rec (motive:=λ_=>dZ) none k (dQ l i)
def Jv (r:Rg)(a:Int)(s:TS):dZ :=
 ah (decide (sg=[45])) (flC l op en sz s 2 a) (ah (decide (s.bc=0)&&decide (s.bn=0)) (OV l op en sz { s with bc:=r.1,bn:=r.2 } s.put.length)
  (ah (decide (s.ic=0)&&decide (s.ix=0)) (OV l op en sz { s with ic:=r.1,ix:=r.2,sc:=1 } s.put.length) (flC l op en sz s 2 a)))
def Dm (r:Rg)(a num:Int)(s:TS):dZ :=
 ah (decide (sg=[45])) (flC l op en sz s 2 a) (ah (!(decide (s.ic=0)&&decide (s.ix=0))) (flC l op en sz s 2 a)
  (atR l num λy=>[1,2,4].foldr (λq rest=>ah (bI y.2.1 q) (ah (bI y.2.1 q) (OV l op en sz { s with ic:=r.1,ix:=r.2,sc:=y.2.1 } s.put.length) (flC l op en sz s 2 num)) rest)
   (ah (bI y.2.1 8) (OV l op en sz { s with ic:=r.1,ix:=r.2,sc:=y.2.1 } s.put.length) (flC l op en sz s 2 num))))
def Pb (a b:Int)(s:TS):dZ :=
 (λfin:List Tok->Nat->dZ=>(λone:dZ=>ah (decide (sg=[45])) one (ah (bB 0 s.put.length) one (fin s.put s.put.length)))
  (ah (Nat.ble (s.put.length+1) 2000000) (fin (s.put++[F7 sg]) (s.put.length+1)) none))
  (λp _=>ah (Nat.ble (p.length+1) 2000000) (ah (!bB a 0 && !bB b a && !bB (Int.ofNat l.length) b) (ah (bI a 0||bB a (Int.ofNat l.length))
   (ah (Nat.ble ((p++[F7 [40]]).length+(dX l a b).length) 2000000) (ah (Nat.ble ((p++[F7 [40]]++dX l a b).length+1) 2000000)
    (OV l op en sz { s with put:=p++[F7 [40]]++dX l a b++[F7 [41]] } ((p++[F7 [40]]++dX l a b).length+1)) none) none) none) none) none)
def af5 (a b:Int)(s:TS):dZ :=
 (λY3:dZ=>(λsecond:dZ =>
  ah (bI (IntKind.wrap .i64 (b-a)) 0) (flC l op en sz s 4 a)
   (ah (bI (IntKind.wrap .i64 (b-a)) 1) (atR l a λy=>ah (qU y [114,105,112]) (Jv l op en sz sg (8,0) a s) (atR l a λy=>ah (qf rp y).isSome (Jv l op en sz sg ((qf rp y).getD (0,0)) a s) Y3))
   (ah (bI (IntKind.wrap .i64 (b-a)) 3) (ah (!bB (IntKind.wrap .i64 (a+1)) 0) (ah (!dI l (IntKind.wrap .i64 (a+1)) [42]) Y3
    (atR l a λy=>ah (qf rp y).isSome (atR l (IntKind.wrap .i64 (a+2)) λz=>ah (bI z.1 2) (Dm l op en sz sg ((qf rp y).getD (0,0)) a (IntKind.wrap .i64 (a+2)) s) second) second)) none) Y3)))
  (atR l (IntKind.wrap .i64 (a+2)) λy=>ah (qf rp y).isSome (atR l a λz=>ah (bI z.1 2) (Dm l op en sz sg ((qf rp y).getD (0,0)) a a s) Y3) Y3))
  (Pb l op en sz sg a b s)
end
theorem aaG (l:List Tok)(op en sz:Int)(sg:List UInt8)(a b bc bn ic ix sc:Int)(put:List Tok):aT X0 (cN P2 NS _) gG 5 170 [.ptr 0 0,.str sg,.int .i64 a,.int .i64 b] (ji 212 14 (BS l op en sz ⟨bc,bn,ic,ix,sc,put⟩ 0 0++[.val (.str sg),.val (.int .i64 a),.val (.int .i64 b)])) (Tb [none])=af5 l op en sz sg a b ⟨bc,bn,ic,ix,sc,put⟩:=by kernel_rfl
theorem uq {α:Type}{p:Prop}[Decidable p](x y:α):ah (decide p) x y=if p then x else y:=by rw[au];simp
theorem Ht {α:Type}{p q:Prop}[Decidable p][Decidable q](x y:α):ah (decide p&&decide q) x y=if p/\q then x else y:=by rw[au];simp
theorem Pc {α:Type}{p q:Prop}[Decidable p][Decidable q](x y:α):ah (!(decide p&&decide q)) x y=if p/\q then y else x:=by
 rw[au];by_cases h:p/\q
 .rw[ag h,aa];simp[h.1,h.2]
 rw[aa h,ag];by_cases hp:p
 .have hq:¬q:=λhq=>h ⟨hp,hq⟩
  simp[hq]
 simp[hp]
structure BT (l:List Tok)(en a b:Int)(s:TS):Prop where
 len:l.length<=200000
 a0:0<=a
 ab:a<=b
 be:b<=en
 el:en<l.length
 put:s.put.length<=4*a
section
variable {l:List Tok} {op en sz:Int} {sg:List UInt8} {a b:Int} {s:TS}
theorem Hu (r:Rg):Jv l op en sz sg r a s=lfO l op en sz (mH sg r a s):=by
 unfold Jv mH;rw[uq,Ht,Ht];split
 .rfl
 split
 .rfl
 split<;>rfl
theorem sK {i:Int}{t:Tok}(h:at? l i=some t)(k:Tok->dZ):atR l i k=k t:=by
 unfold atR;rw[getI_at?,h]
theorem E7 (r:Rg){num:Int}{t:Tok}(h:at? l num=some t):Dm l op en sz sg r a num s=lfO l op en sz (iZ sg r a num t.2.1 s):=by
 unfold Dm iZ;rw[uq,Pc,sK h];by_cases h1:sg=[45]
 .rw[ag h1,ag (.inl h1)];rfl
 rw[aa h1];by_cases h2:s.ic=0/\s.ix=0
 .rw[ag h2,aa (show ¬(sg=[45]\/¬(s.ic=0/\s.ix=0)) from λh=>h.elim h1 λh=>h h2)];simp only[fB,j7,cq];unfold qs;by_cases hs:t.2.1=1\/t.2.1=2\/t.2.1=4\/t.2.1=8
  .rw[aX hs,ag rfl];rcases hs with h|h|h|h<;>(rw[h];rfl)
  rw[aU hs,aa mE];simp only[kL]at hs;obtain⟨q1,q2,q3,q4⟩:=hs;rw[aa q1,aa q2,aa q3,aa q4];rfl
 rw[aa h2,ag (.inr h2)];rfl
theorem Tc (h:BT l en a b s):Pb l op en sz sg a b s=lfO l op en sz (qV l sg a b s):=by
 have g1:=h.len;have g2:=h.a0;have g3:=h.ab;have g4:=h.be;have g5:=h.el;have g6:=h.put;have SK:(dX l a b).length<=(b-a).toNat:=by unfold dX;rw[bY];omega
 have fin:∀p:List Tok,p.length<=s.put.length+1->(ah (Nat.ble (p.length+1) 2000000) (ah (!bB a 0 && !bB b a && !bB (Int.ofNat l.length) b) (ah (bI a 0||bB a (Int.ofNat l.length))
  (ah (Nat.ble ((p++[F7 [40]]).length+(dX l a b).length) 2000000) (ah (Nat.ble ((p++[F7 [40]]++dX l a b).length+1) 2000000)
   (OV l op en sz { s with put:=p++[F7 [40]]++dX l a b++[F7 [41]] } ((p++[F7 [40]]++dX l a b).length+1)) none) none) none) none) none) =
  lfO l op en sz (okO { s with put:=p++[F7 [40]]++OY l a b++[F7 [41]] }):=λp hp=>by
  have i1:Int.ofNat l.length=(l.length:Int):=rfl;rw[i1,dS (by omega),fH g2,fH g3,fH (show b<=(l.length:Int) by omega),qG (show a<(l.length:Int) by omega),Bool.or_true,dS (by simp;omega),dS (by simp;omega)];show OV _ _ _ _ _ _=lf _ _ _ _ _ _ _ _ _;unfold OV okO;simp only;have:(p++[F7 [40]]++dX l a b).length+1=(p++[F7 [40]]++OY l a b++[F7 [41]]).length:=by simp[OY,dX];omega
  rw[this];rfl
 unfold Pb;simp only;rw[fin s.put (by omega),fin (s.put++[F7 sg]) (by simp),dS (by omega),uq,cF];unfold qV;by_cases h1:sg=[45]
 .rw[ag h1,ag (.inl h1)]
 rw[aa h1];by_cases h2:s.put=[]
 .rw[aa (by rw[h2];simp),aa (show ¬(sg=[45]\/s.put≠[]) from λh=>h.elim h1 λh=>h h2)]
 rw[ag (by have:0<s.put.length:=dJ.2 h2;omega),ag (.inr h2)]
theorem aaH (h:BT l en a b s):af5 l op en sz sg a b s=lfO l op en sz (mQ rp l sg a b s):=by
 have g1:=h.len;have g2:=h.a0;have g3:=h.ab;have g4:=h.be;have g5:=h.el;have tA:∀i:Int,0<=i->i<l.length->∃t,at? l i=some t:=λi h0 h1=>by
  cases jx:at? l i with
  |some t=>exact⟨t,rfl⟩
  |none=>have:=ju h0 jx;omega
 unfold af5 mQ;simp only;rw[Tc h,i64_in (n:=b-a) (by omega) (by omega),i64_in (n:=a+1) (by omega) (by omega),i64_in (n:=a+2) (by omega) (by omega),cq,cq,cq];by_cases h0:b-a=0
 .rw[ag h0,ag h0];rfl
 rw[aa h0,aa h0];obtain⟨t,ht⟩:=tA a g2 (by omega);by_cases h1:b-a=1
 .rw[ag h1,ag h1,ht];rw[sK ht,sK ht];simp only;rw[au];by_cases hn:qU t [114,105,112]=true
  .rw[ag hn,ag hn,Hu]
  rw[aa hn,aa hn];cases hr:qf rp t with
  |none=>rfl
  |some r=>exact Hu r
 rw[aa h1,aa h1];by_cases h3:b-a=3
 .rw[ag h3,fH (show (0:Int)<=a+1 by omega)];obtain⟨u,hu⟩:=tA (a+2) (by omega) (by omega);cases hs:dI l (a+1) [42] with
  |false=>rw[aa (show ¬(b-a=3/\false=true) from λh=>by cases h.2)];rfl
  |true =>
   rw[ag (⟨h3,rfl⟩:b-a=3/\true=true),ht,hu];show atR l a _=_;rw[sK ht,sK hu,sK hu];simp only;rw[sK ht,cq,cq,E7 _ hu,E7 _ ht];by_cases hu2:u.1=2<;>by_cases ht2:t.1=2<;>simp only[ag,aa,hu2,ht2]<;>cases hr:qf rp t<;>cases hq:qf rp u<;>rfl
 rw[aa h3,aa (show ¬(b-a=3/\dI l (a+1) [42]=true) from λh=>h3 h.1)]
end
def fOn:FTm:=λl _ en s args=>match args with
 |[.val (.str sg),.val (.int .i64 a),.val (.int .i64 b)]=>some (Nat.ble l.length 200000 && !bB a 0 && !bB b a && !bB en b&&bB en l.length && !bB (4*a) s.put.length,((mQ rp l sg a b s).2.1,(mQ rp l sg a b s).2.2.1,(mQ rp l sg a b s).2.2.2),[.val (.bool (mQ rp l sg a b s).1)])
 |_=>none
theorem af6:gq X0 fR 170 (cTm fOn [none,none,none]) :=
 O9 rfl Cv adp (tQ:=[none]) λl op en sz s args q rs hF hal=>by
  unfold fOn at hF;split at hF;case h_2=>cases hF
  rename_i sg a b;simp only[aq,ax,ak,aS]at hF;obtain⟨⟨⟨⟨⟨⟨g0,g1⟩,g2⟩,g3⟩,g4⟩,g5⟩,rfl,rfl⟩:=hF;have g0:=ay g0;have g1:=Jr g1;have g2:=Jr g2;have g3:=Jr g3;have g4:en<l.length:=by rw[cA]at g4;simpa using g4
  have g5:=Jr g5;refine⟨[.str sg,.int .i64 a,.int .i64 b],[.bool (mQ rp l sg a b s).1],gG,5,rfl,rfl,?_⟩;have h1:=aaG l op en sz sg a b s.bc s.bn s.ic s.ix s.sc s.put;rw[aaH ⟨g0,g1,g2,g3,g4,g5⟩]at h1;exact h1
end
end Go.Proofs.YtbeckacfibledaaGreatDoor.ps

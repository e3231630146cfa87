/- Operands: contracts of small functions. Places: which may be; where the bracket closes. Places: what stands in them, as its functions have it; where a term ends. Places: a term. -/
import Derived.Test.YtbeckacfibledaaGreatDoorGrc
import Derived.Test.YtbeckacfibledaaGreatDoorGxa
import Derived.Test.YtbeckacfibledaaGreatDoorLyh
set_option linter.unusedVariables false
set_option linter.unusedSimpArgs false

namespace Go.Proofs.YtbeckacfibledaaGreatDoor.ps
open Go.Tv Go.Ev Go.Px Go.Pp Go.Proofs.YtbeckacfibledaaGreatDoor.ex
set_option maxRecDepth 100000
noncomputable section
abbrev rp:List UInt8->Int×Int×Bool:=rg.pR
theorem nk {f:FuncId}(h:lt.inl f=true):∀args,lt.kn f args=none:=λargs=>lt.bS h args
def gTS (f:Tok->List UInt8->Bool)(args:List AV):Option (Bool×List fA) :=
 match args with
 |[.agg [.int .i64 k,.int .i64 n,.str s,.int .i64 a],.str t]=>some (true,[.val (.bool (f (k,n,s,a) t))])
 |_=>none
theorem Pm:dc X0 fU 156 (gTS ry) :=
 cS (nk rfl) (jH xm n0) λargs rs hg=>by
  unfold gTS at hg;split at hg
  .rename_i k n s a t;simp only[aq,ay]at hg;obtain⟨_,rfl⟩:=hg;refine⟨[.bool (ry (k,n,s,a) t)],gO,5,?_,rfl,rfl⟩;have h:aT X0 (cN M6 [] AV) gO 5 156 [.agg [.int .i64 k,.int .i64 n,.str s,.int .i64 a],.str t] aG.empty (λv _=>some v)=ah (bI k 1) (some (.bool (decide (s=t)))) (some (.bool false)):=by kernel_rfl
   rw[h,cq];unfold ry;by_cases hk:k=1
   .rw[ag hk,aX hk];rfl
   rw[aa hk,aU hk];rfl
  cases hg
def gTB (f:Tok->Bool)(args:List AV):Option (Bool×List fA) :=
 match args with
 |[.agg [.int .i64 k,.int .i64 n,.str s,.int .i64 a]]=>some (true,[.val (.bool (f (k,n,s,a)))])
 |_=>none
theorem Xl:dc X0 fU 179 (gTB CI) :=
 cS (nk rfl) (jH xm n0) λargs rs hg=>by
  unfold gTB at hg;split at hg
  .rename_i k n s a;simp only[aq,ay]at hg;obtain⟨_,rfl⟩:=hg;refine⟨[.bool (CI (k,n,s,a))],gO,5,?_,rfl,rfl⟩;have h:aT X0 (cN M6 [] AV) gO 5 179 [.agg [.int .i64 k,.int .i64 n,.str s,.int .i64 a]] aG.empty (λv _=>some v)=ah (!bI k 4) (some (.bool true)) (ah (decide (s=[36])) (some (.bool true)) (ah (decide (s=[36,36])) (some (.bool true)) (some (.bool (decide (s=[41])))))):=by kernel_rfl
   rw[h,cn];unfold CI;by_cases hk:k=4
   .rw[ag hk,aX hk];show _=some (AV.bool (false||(decide (s=[36])||(decide (s=[36,36])||decide (s=[41])))));cases decide (s=[36])<;>cases decide (s=[36,36])<;>rfl
   rw[aa hk,aU hk];rfl
  cases hg
theorem aa3:dc X0 fU 143 (zx λt=>[.val (.agg [.int .i64 ((qo rp t).getD (0,0)).1,.int .i64 ((qo rp t).getD (0,0)).2]),.val (.bool (qo rp t).isSome)]) :=
 cS (nk rfl) (jH xm n0) λargs rs hg=>by
  unfold zx at hg;split at hg
  .rename_i k n s a;simp only[aq,ay]at hg;obtain⟨_,rfl⟩:=hg;refine⟨[.agg [.int .i64 ((qo rp (k,n,s,a)).getD (0,0)).1,.int .i64 ((qo rp (k,n,s,a)).getD (0,0)).2],.bool (qo rp (k,n,s,a)).isSome],gO,5,?_,rfl,rfl⟩;have h:aT X0 (cN M6 [] AV) gO 5 143 [.agg [.int .i64 k,.int .i64 n,.str s,.int .i64 a]] aG.empty (λv _=>some v)=(λno=>ah (!bI k 1) no (ah (!(rp s).2.2) no (ah (bI (rp s).1 8) no (some (.fH [.agg [.int .i64 (rp s).1,.int .i64 (rp s).2.1],.bool true])))))
    (some (.fH [.agg [.int .i64 0,.int .i64 0],.bool false])):=by kernel_rfl
   rw[h];simp only[cn,cq];have e:qo rp (k,n,s,a)=if k=1/\(rp s).2.2=true/\(rp s).1≠8 then some ((rp s).1,(rp s).2.1) else none:=rfl;rw[e];by_cases h1:k=1
   .rw[ag h1];cases h2:(rp s).2.2 with
    |false=>rw[aa (show ¬(k=1/\false=true/\(rp s).1≠8) from λh=>by cases h.2.1)];rfl
    |true =>
     by_cases h3:(rp s).1=8
     .rw[ag h3,aa (show ¬(k=1/\true=true/\(rp s).1≠8) from λh=>h.2.2 h3)];rfl
     rw[aa h3,ag ⟨h1,rfl,h3⟩];rfl
   rw[aa h1,aa (show ¬(k=1/\(rp s).2.2=true/\(rp s).1≠8) from λh=>h1 h.1)];rfl
  cases hg
theorem Xm:dc X0 fU 114 (zx λt=>[.val (.int .i64 (pU t).1),.val (.int .i64 (pU t).2)]) :=
 cS (nk rfl) (jH xm n0) λargs rs hg=>by
  unfold zx at hg;split at hg
  .rename_i k n s a;simp only[aq,ay]at hg;obtain⟨_,rfl⟩:=hg;refine⟨[.int .i64 (pU (k,n,s,a)).1,.int .i64 (pU (k,n,s,a)).2],gO,5,?_,rfl,rfl⟩;have h:aT X0 (cN M6 [] AV) gO 5 114 [.agg [.int .i64 k,.int .i64 n,.str s,.int .i64 a]] aG.empty (λv _=>some v)=ah (!bI k 1) (some (.fH [.int .i64 0,.int .i64 0])) (Ri.foldr (λq r=>ah (decide (s=q.1)) (some (.fH [.int .i64 q.2.1,.int .i64 q.2.2])) r) (some (.fH [.int .i64 0,.int .i64 0]))):=by kernel_rfl
   rw[h,cn];have e:pU (k,n,s,a)=if k=1 then kL s Ri else (0,0):=rfl;rw[e];by_cases h1:k=1
   .rw[ag h1,ag h1];have:∀l:List (List UInt8×Int×Int),l.foldr (λq r=>ah (decide (s=q.1)) (some (AV.fH [.int .i64 q.2.1,.int .i64 q.2.2])) r) (some (.fH [.int .i64 0,.int .i64 0]))=some (AV.fH [.int .i64 (kL s l).1,.int .i64 (kL s l).2]):=λl=>by
     induction l with
     |nil=>rfl
     |cons q l ih =>
      rw[fC,ih,ax,show kL s (q::l)=if s=q.1 then q.2 else kL s l from rfl];by_cases hq:s=q.1
      .rw[ag (by simpa using hq),ag hq]
      rw[aa (by simpa using hq),aa hq]
    exact this Ri
   rw[aa h1,aa h1];rfl
  cases hg
def gSA (args:List AV):Option (Bool×List fA) :=
 match args with
 |[L,.int .i64 a,.str s]=>match G9 dL L with
  |some l=>some (!bC a 0,[.val (.bool (dI l a s))])
  |none=>none
 |_=>none
theorem JI (t:Tok)(s:List UInt8):pY t s=(bI t.1 4&&decide (t.2.2.1=s)):=by
 unfold pY;have e:(t.1==4)=decide (t.1=4):=by rw[bO];simp
 rw[eF,e]
theorem jz {α:Type}{l:List α}{a:Int}(h0:0<=a)(h:at? l a=none):(l.length:Int)<=a:=by
 unfold at? at h;split at h
 .have:=gp.1 h;simp;omega
 omega
theorem Pn:dc X0 fU 117 gSA :=
 cS (nk rfl) (jH xm n0) λargs rs hg=>by
  unfold gSA at hg;split at hg;case h_2=>cases hg
  rename_i L a s;split at hg;case h_2=>cases hg
  rename_i l hl;simp only[aq,ay,aS]at hg;obtain⟨ha,rfl⟩:=hg;have ha:0<=a:=by rw[cD]at ha;simpa using ha
  refine⟨[.bool (dI l a s)],gO,5,?_,rfl,rfl⟩;have h:aT X0 (cN M6 [] AV) gO 5 117 [L,.int .i64 a,.str s] aG.empty (λv _=>some v)=ah (bC a l.length) (Option.rec (motive:=λ_=>Option AV) none (λy=>ah (bI y.1 4) (Option.rec (motive:=λ_=>Option AV) none (λy=>some (.bool (decide (y.2.2.1=s)))) (dQ l a)) (some (.bool false))) (dQ l a)) (some (.bool false)):=by
   rw[iE hl]
   kernel_rfl
  rw[h,cA,getI_at?];unfold dI;cases jG:at? l a with
  |none=>rw[aa (by have:=jz ha jG;omega)];rfl
  |some t =>
   rw[ag (jo jG).2];simp only;rw[JI];cases bI t.1 4<;>rfl
def Kn (l:List Tok)(a:Int):Int×Bool:=match at? l a with
 |some t=>if t.1=1 then nm.lC t.2.2.1 else (0,false)
 |none=>(0,false)
def gMn (args:List AV):Option (Bool×List fA) :=
 match args with
 |[L,.int .i64 a]=>match G9 dL L with
  |some l=>some (!bC a 0,[.val (.int .i64 (Kn l a).1),.val (.bool (Kn l a).2)])
  |none=>none
 |_=>none
theorem agp:dc X0 fU 113 gMn :=
 cS (nk rfl) (jH xm n0) λargs rs hg=>by
  unfold gMn at hg;split at hg;case h_2=>cases hg
  rename_i L a;split at hg;case h_2=>cases hg
  rename_i l hl;simp only[aq,ay,aS]at hg;obtain⟨ha,rfl⟩:=hg;have ha:0<=a:=by rw[cD]at ha;simpa using ha
  refine⟨[.int .i64 (Kn l a).1,.bool (Kn l a).2],gO,5,?_,rfl,rfl⟩;have h:aT X0 (cN M6 [] AV) gO 5 113 [L,.int .i64 a] aG.empty (λv _=>some v)=ah (!bC a l.length) (some (.fH [.int .i64 0,.bool false])) (Option.rec (motive:=λ_=>Option AV) none (λy=>ah (!bI y.1 1) (some (.fH [.int .i64 0,.bool false])) (Option.rec (motive:=λ_=>Option AV) none (λy=>some (.fH [.int .i64 (nm.lC y.2.2.1).1,.bool (nm.lC y.2.2.1).2])) (dQ l a))) (dQ l a)):=by
   rw[iE hl]
   kernel_rfl
  rw[h,iU,getI_at?];unfold Kn;cases jG:at? l a with
  |none=>rw[ag (jz ha jG)];rfl
  |some t =>
   rw[aa (by have:=(jo jG).2;omega)];simp only[cn];by_cases h1:t.1=1
   .rw[ag h1,ag h1];rfl
   rw[aa h1,aa h1];rfl
def gNB (f:Int->Bool)(args:List AV):Option (Bool×List fA) :=
 match args with
 |[.int .i64 n]=>some (true,[.val (.bool (f n))])
 |_=>none
theorem Po {f:FuncId}{p:Int->Bool}(hk:lt.inl f=true)(h:∀n,aT X0 (cN M6 [] AV) gO 5 f [.int .i64 n] aG.empty (λv _=>some v)=some (.bool (p n))):dc X0 fU f (gNB p) :=
 cS (nk hk) (jH xm n0) λargs rs hg=>by
  unfold gNB at hg;split at hg
  .rename_i n;simp only[aq,ay]at hg;obtain⟨_,rfl⟩:=hg;exact⟨[.bool (p n)],gO,5,h n,rfl,rfl⟩
  cases hg
theorem agq:dc X0 fU 116 (gNB tI):=Po rfl λn=>by
 have h:aT X0 (cN M6 [] AV) gO 5 116 [.int .i64 n] aG.empty (λv _=>some v)=ah (bI n 53) (some (.bool true)) (ah (bI n 54) (some (.bool true)) (ah (!bC n 68) (some (.bool (!bC 83 n))) (some (.bool false)))):=by kernel_rfl
 rw[h];unfold tI;simp only[cq,iU];by_cases h1:n=53
 .rw[ag h1,aX h1];rfl
 rw[aa h1,aU h1];by_cases h2:n=54
 .rw[ag h2,aX h2];rfl
 rw[aa h2,aU h2,Bool.false_or,Bool.false_or];by_cases h3:68<=n
 .rw[ag h3,cD];refine cr (λx=>some (AV.bool x)) ?_;rw[bO];simp;omega
 rw[aa h3,aU (by omega)]
theorem Tu:dc X0 fU 183 (gNB sizedB):=Po rfl λn=>by
 have h:aT X0 (cN M6 [] AV) gO 5 183 [.int .i64 n] aG.empty (λv _=>some v)=[0,1,2,4,8,16].foldr (λq r=>ah (bI n q) (ah (bI n q) (some (.bool true)) (some (.bool false))) r) (ah (bI n 32) (some (.bool true)) (some (.bool false))):=by kernel_rfl
 rw[h];unfold sizedB;simp only[fC,kj,cq];by_cases hs:n=0\/n=1\/n=2\/n=4\/n=8\/n=16\/n=32
 .rw[aX hs];rcases hs with rfl|rfl|rfl|rfl|rfl|rfl|rfl<;>rfl
 rw[aU hs];simp only[kQ]at hs;obtain⟨h1,h2,h3,h4,h5,h6,h7⟩:=hs;rw[aa h1,aa h2,aa h3,aa h4,aa h5,aa h6,aa h7]
theorem Pq:dc X0 fU 185 (gNB qC):=Po rfl λn=>by
 have h:aT X0 (cN M6 [] AV) gO 5 185 [.int .i64 n] aG.empty (λv _=>some v)=[1,2,4,8].foldr (λq r=>ah (bI n q) (some (.bool true)) r) (some (.bool false)):=by kernel_rfl
 rw[h];unfold qC;simp only[fC,kj,cq];by_cases hs:n=1\/n=2\/n=4\/n=8
 .rw[aX hs];rcases hs with rfl|rfl|rfl|rfl<;>rfl
 rw[aU hs];simp only[kQ]at hs;obtain⟨h1,h2,h3,h4⟩:=hs;rw[aa h1,aa h2,aa h3,aa h4]
def gRB (f:Int->Int->Bool)(args:List AV):Option (Bool×List fA) :=
 match args with
 |[.agg [.int .i64 c,.int .i64 n]]=>some (true,[.val (.bool (f c n))])
 |_=>none
theorem Xn {f:FuncId}{p:Int->Int->Bool}(hk:lt.inl f=true)(h:∀c n,aT X0 (cN M6 [] AV) gO 5 f [.agg [.int .i64 c,.int .i64 n]] aG.empty (λv _=>some v)=some (.bool (p c n))):dc X0 fU f (gRB p) :=
 cS (nk hk) (jH xm n0) λargs rs hg=>by
  unfold gRB at hg;split at hg
  .rename_i c n;simp only[aq,ay]at hg;obtain⟨_,rfl⟩:=hg;exact⟨[.bool (p c n)],gO,5,h c n,rfl,rfl⟩
  cases hg
def vD (c n:Int):Bool:=decide ((c=2/\4<=n/\n<8)\/(c=8/\0<=n/\n<1)\/((c=1\/c=3\/c=4\/c=5\/c=6\/c=7)/\0<=n/\n<16))
def inT (n a b:Int):Option AV:=ah (!bC n a) (some (.bool (bC n b))) (some (.bool false))
theorem agr (n a b:Int):inT n a b=some (.bool (decide (a<=n/\n<b))):=by
 unfold inT;rw[iU,cD];by_cases h:a<=n
 .rw[ag h];refine cr (λx=>some (AV.bool x)) ?_;rw[fc];omega
 rw[aa h,aU (by omega)]
def Pr (c n:Int):Option AV:=ah (bI c 2) (inT n 4 8) (ah (bI c 8) (inT n 0 1) ([1,3,4,5,6].foldr (λq r=>ah (bI c q) (ah (bI c q) (inT n 0 16) (inT n 0 0)) r) (ah (bI c 7) (inT n 0 16) (inT n 0 0))))
theorem HF (c n:Int):Pr c n=some (.bool (vD c n)):=by
 unfold Pr vD;simp only[fC,kj,cq,agr];by_cases h2:c=2
 .rw[ag h2];refine cr (λx=>some (AV.bool x)) ?_;rw[fc];omega
 rw[aa h2];by_cases h8:c=8
 .rw[ag h8];refine cr (λx=>some (AV.bool x)) ?_;rw[fc];omega
 rw[aa h8];repeat' split
 all_goals (refine cr (λx=>some (AV.bool x)) ?_;rw[fc];omega)
theorem Tw:dc X0 fU 189 (gRB vD):=Xn rfl λc n=>by
 rw[<-HF]
 kernel_rfl
theorem Xo:dc X0 fU 184 (gRB xo):=Xn rfl λc n=>by
 have h:aT X0 (cN M6 [] AV) gO 5 184 [.agg [.int .i64 c,.int .i64 n]] aG.empty (λv _=>some v)=ah (bI c 5) (Pr c n) (some (.bool false)):=by kernel_rfl
 rw[h,cq,HF];unfold xo vD;by_cases h5:c=5
 .rw[ag h5];refine cr (λx=>some (AV.bool x)) ?_;rw[fc];omega
 rw[aa h5,aU (by omega)]
def P1:List wh:=(156,[none,none],gTS ry)::(179,[none],gTB CI)::(143,[none],zx λt=>[.val (.agg [.int .i64 ((qo rp t).getD (0,0)).1,.int .i64 ((qo rp t).getD (0,0)).2]),.val (.bool (qo rp t).isSome)]) ::
 (114,[none],zx λt=>[.val (.int .i64 (pU t).1),.val (.int .i64 (pU t).2)])::(117,[some dL,none,none],gSA)::(113,[some dL,none],gMn)::(116,[none],gNB tI) ::
 (183,[none],gNB sizedB)::(185,[none],gNB qC)::(189,[none],gRB vD)::(184,[none],gRB xo)::M6
theorem Xp:iT X0 fU P1:=.cons Pm (.cons Xl (.cons aa3 (.cons Xm (.cons Pn (.cons agp (.cons agq (.cons Tu (.cons Pq (.cons Tw (.cons Xo xm))))))))))
def iV (n:Int):Option AV:=some (.int .i64 n)
def JJ (bc bn ic ix sc:Int):Option AV:=ah (xq ic ix) (iV 0) (ah (!xo ic ix) (iV 2) (ah (!qC sc) (iV 2) (ah (Mo bc bn) (iV 2) (ah (uc ic ix) (ah (!bI sc 1) (iV 2) (ah (uc bc bn) (iV 2) (iV 0))) (iV 0)))))
def Ms (bc bn ic ix sc:Int):Option AV:=ah (xq ic ix) (ah (!bI sc 0) (iV 2) (JJ bc bn ic ix sc)) (JJ bc bn ic ix sc)
def ckT (bc bn ic ix sc d sz:Int):Option AV:=ah (bC d (-2147483648)) (iV 5) (ah (bC 2147483647 d) (iV 5) (ah (!sizedB sz) (iV 2) (ah (!xq bc bn) (ah (!Mo bc bn) (ah (!xo bc bn) (iV 2) (Ms bc bn ic ix sc)) (Ms bc bn ic ix sc)) (Ms bc bn ic ix sc))))
theorem ags (bc bn ic ix sc d sz:Int):ckT bc bn ic ix sc d sz=iV (Mp bc bn ic ix sc d sz):=by
 have tail:xq ic ix=true/\sc=0\/xq ic ix=false->JJ bc bn ic ix sc=iV (if xq ic ix=true then (if sc=0 then 0 else 2)
  else if xo ic ix=false\/qC sc=false\/Mo bc bn=true then 2
  else if uc ic ix=true/\(sc≠1\/uc bc bn=true) then 2 else 0):=λh=>by
  unfold JJ;rw[cn];rcases h with⟨h,h0⟩|h
  .rw[h,ag rfl,ag h0]
  rw[h];cases xo ic ix
  .rfl
  cases qC sc
  .rfl
  cases Mo bc bn
  .cases uc ic ix
   .rfl
   by_cases h1:sc=1
   .cases uc bc bn
    .simp[h1,ah]
    simp[h1,ah]
   simp[h1,ah]
  rfl
 have mid:Ms bc bn ic ix sc=iV (if xq ic ix=true then (if sc=0 then 0 else 2)
  else if xo ic ix=false\/qC sc=false\/Mo bc bn=true then 2
  else if uc ic ix=true/\(sc≠1\/uc bc bn=true) then 2 else 0):=by
  unfold Ms;rw[cn];cases hz:xq ic ix with
  |false =>
   have ht:=tail (.inr hz);rw[hz]at ht;exact ht
  |true =>
   by_cases h0:sc=0
   .have ht:=tail (.inl ⟨hz,h0⟩);rw[hz]at ht;rw[ag h0];exact ht
   rw[aa h0,ag rfl,aa h0]
 unfold ckT Mp;rw[mid,cA,cA];by_cases h1:d < -2147483648
 .rw[ag h1,ag (.inl h1)]
 rw[aa h1];by_cases h2:2147483647<d
 .rw[ag h2,ag (.inr h2)]
 rw[aa h2,aa (show ¬(d < -2147483648\/2147483647<d) by omega)];cases sizedB sz
 .rfl
 cases xq bc bn
 .cases Mo bc bn
  .cases xo bc bn<;>rfl
  rfl
 rfl
def gCk (args:List AV):Option (Bool×List fA) :=
 match args with
 |[.agg [.int .i64 bc,.int .i64 bn,.int .i64 ic,.int .i64 ix,.int .i64 sc,.int .i64 d,.int .i64 sz]]=>some (true,[.val (.int .i64 (Mp bc bn ic ix sc d sz))])
 |_=>none
theorem Pt:dc X0 fU 172 gCk :=
 cS (nk rfl) (jH Xp n0) λargs rs hg=>by
  unfold gCk at hg;split at hg
  .rename_i bc bn ic ix sc d sz;simp only[aq,ay]at hg;obtain⟨_,rfl⟩:=hg;refine⟨[.int .i64 (Mp bc bn ic ix sc d sz)],gO,5,?_,rfl,rfl⟩;have h:aT X0 (cN P1 [] AV) gO 5 172 [.agg [.int .i64 bc,.int .i64 bn,.int .i64 ic,.int .i64 ix,.int .i64 sc,.int .i64 d,.int .i64 sz]] aG.empty (λv _=>some v)=ckT bc bn ic ix sc d sz:=by kernel_rfl
   rw[h,ags];rfl
  cases hg
def pCs:List Bool:=[true,true,false,true,false]
def agu:ei:=⟨gD [0,6,7] pCs,.none,[]⟩
def jCs (l:List Tok)(r m:Nat)(a d:Int):Option AV:=iF X0 (cN P1 [] AV) agu r 157 pCs (λv _=>some v) m (kr 37 [(0,.dH dL l),(6,.int .i64 d),(7,.int .i64 a)]) aG.empty
def csR:Option Int->Option AV
 |some a=>some (.fH [.int .i64 a,.bool true])
 |none=>some (.fH [.int .i64 0,.bool false])
def mx (d:Int):Int:=ah (bC 0 (IntKind.wrap .i64 (d-1))) (IntKind.wrap .i64 (d-1)) 0
def Pu (l:List Tok)(J:Int->Int->Option AV)(a d:Int):Option AV :=
 ah (bC a l.length) (ah (!bC a 0) (ah (dI l a [40]) (J (IntKind.wrap .i64 (a+1)) (IntKind.wrap .i64 (d+1))) (ah (!bC a 0) (ah (dI l a [41]) (J (IntKind.wrap .i64 (a+1)) (mx d))
  (ah (bI d 0) (ah (!bC a 0) (ah (dI l a [93]) (csR (some a)) (J (IntKind.wrap .i64 (a+1)) d)) none) (J (IntKind.wrap .i64 (a+1)) d))) none)) none) (csR none)
theorem Xq (l:List Tok)(r m:Nat)(a d:Int):jCs l r (m+1) a d=Pu l (jCs l r m) a d:=by kernel_rfl
theorem aa4 (l:List Tok)(r:Nat)(a:Int):aT X0 (cN P1 [] AV) agu r 157 [.dH dL l,.int .i64 a] aG.empty (λv _=>some v)=jCs l r r a 0:=by kernel_rfl
theorem Rj (p r:List Tok)(c:Tok)(s:List UInt8):dI (p++c::r) (p.length:Nat) s=pY c s:=by
 unfold dI;rw[JB]
theorem adT {d:Int}(h0:0<=d)(h1:d<9000000000000000000):mx d=if 0<d-1 then d-1 else 0:=by
 unfold mx;rw[i64_in (n:=d-1) (by omega) (by omega),cA]
theorem Xr (l:List Tok)(hl:l.length<=2000000)(r:Nat):∀(rest pre:List Tok) (m:Nat) (d:Int),l=pre++rest->rest.length<m->0<=d->d<=pre.length->jCs l r m (pre.length:Nat) d=csR (qn rest (pre.length:Nat) d)
 |[],pre,m,d,he,hm,h0,h1=>by
  obtain⟨m,rfl⟩:∃m',m=m'+1:=⟨m-1,by simp at hm;omega⟩;have hle:l.length=pre.length:=by rw[he];simp
  rw[Xq];unfold Pu;rw[fL (by omega)];rfl
 |c::rest,pre,m,d,he,hm,h0,h1=>by
  obtain⟨m,rfl⟩:∃m',m=m'+1:=⟨m-1,by simp at hm;omega⟩;have hle:l.length=pre.length+(rest.length+1):=by rw[he];simp
  have ih:∀d',0<=d'->d'<=(pre.length:Int)+1->jCs l r m ((pre.length:Int)+1) d'=csR (qn rest ((pre.length:Int)+1) d'):=λd' q0 q1=>by
   have:=Xr l hl r rest (pre++[c]) m d' (by rw[he];simp) (by simp at hm;omega) q0 (by simp;omega);rw[show ((pre++[c]).length:Nat)=pre.length+1 by simp]at this;exact this
  have hs:∀s,dI l (pre.length:Nat) s=pY c s:=λs=>by rw[he];exact Rj pre rest c s
  rw[Xq];unfold Pu;rw[pZ (by omega),fL (a:=((pre.length:Nat):Int)) (b:=0) (by omega),i64_in (n:=((pre.length:Nat):Int)+1) (by omega) (by omega),i64_in (n:=d+1) (by omega) (by omega),adT h0 (by omega),hs,hs,hs];rw[ih (d+1) (by omega) (by omega),ih d h0 (by omega),ih (if 0<d-1 then d-1 else 0) (by split<;>omega) (by split<;>omega)];rw[show qn (c::rest) ((pre.length:Nat):Int) d=if pY c [40]=true then qn rest ((pre.length:Int)+1) (d+1) else if pY c [41]=true then qn rest ((pre.length:Int)+1) (if 0<d-1 then d-1 else 0) else if d=0/\pY c [93]=true then some ((pre.length:Nat):Int) else qn rest ((pre.length:Int)+1) d from rfl]
  rw[cq];cases pY c [40] with
  |true=>rfl
  |false =>
   cases pY c [41] with
   |true=>rfl
   |false =>
    by_cases hd:d=0
    .cases pY c [93] with
     |true=>rw[ag hd];simp only[hd,cu,ee,and_self,fF];rfl
     |false=>rw[ag hd];simp only[hd,cu,ee,and_false];rfl
    rw[aa hd];simp only[hd,cu,ee,false_and];rfl
def gCs (args:List AV):Option (Bool×List fA) :=
 match args with
 |[L,.int .i64 a]=>match G9 dL L with
  |some l=>some (Nat.ble l.length 2000000 && !bC a 0 && !bC l.length a,[.val (.int .i64 ((mK l a).getD 0)),.val (.bool (mK l a).isSome)])
  |none=>none
 |_=>none
theorem JG {p q:Int}(h:bC p q=false):q<=p:=by rw[cD]at h;simpa using h
theorem agv:dc X0 fU 157 gCs :=
 cS (nk rfl) (jH Xp n0) λargs rs hg=>by
  unfold gCs at hg;split at hg;case h_2=>cases hg
  rename_i L a;split at hg;case h_2=>cases hg
  rename_i l hl;simp only[aq,ay,ak,aS]at hg;obtain⟨⟨⟨g0,g1⟩,g2⟩,rfl⟩:=hg;have g0:=az g0;have g1:=JG g1;have g2:=JG g2;refine⟨[.int .i64 ((mK l a).getD 0),.bool (mK l a).isSome],agu,l.length+1,?_,rfl,rfl⟩;rw[iE hl,aa4];have hp:(l.take a.toNat).length=a.toNat:=by rw[bR];omega
  have:=Xr l g0 (l.length+1) (l.drop a.toNat) (l.take a.toNat) (l.length+1) 0 (eY _ _).symm (by rw[bQ];omega) (bB 0) (by omega);rw[hp,show ((a.toNat:Nat):Int)=a by omega]at this;rw[this];show csR (mK l a)=_;cases mK l a<;>rfl
def P2:List wh:=(157,[some dL,none],gCs)::(172,[none],gCk)::P1
theorem CJ:iT X0 fU P2:=.cons agv (.cons Pt Xp)
def B8 (l:List Tok)(op en sz:Int)(s:TS)(e f:Int):List fN:=[.val (.dH dL l),.val (.int .i64 op),.val (.int .i64 en),.val (.int .i64 s.bc),.val (.int .i64 s.bn),.val (.int .i64 s.ic),.val (.int .i64 s.ix),.val (.int .i64 s.sc),.val (.int .i64 0),.val (.int .i64 sz),.list 81 dL s.put,.list 76 eC [],.val (.int .i64 e),.val (.int .i64 f)]
def aa5:List (Option (TypeId×Tv.Ty)):=[none,none,none,none,none,none,none,none,none,none,some (81,dL),some (76,eC),none,none]
abbrev FTm:=List Tok->Int->Int->TS->List fN->Option (Bool×(Int×Int×TS)×List fN)
def gTm (F:FTm)(ins:List fN):Option (Bool×List fN×List fN) :=
 match ins with
 |.val (.dH e0 l0) :: .val (.int .i64 op) :: .val (.int .i64 en) :: .val (.int .i64 bc) :: .val (.int .i64 bn) :: .val (.int .i64 ic) :: .val (.int .i64 ix) :: .val (.int .i64 sc) :: .val (.int .i64 d) :: .val (.int .i64 sz) :: .list t1 e1 p :: .list t2 e2 x :: .val (.int .i64 e) :: .val (.int .i64 f)::args =>
  match iC e0 dL l0,iC e1 dL p,iC e2 eC x with
  |some l,some put,some x=>match F l op en ⟨bc,bn,ic,ix,sc,put⟩ args with
   |some (c,q,rs)=>some (c&&(Nat.beq t1 81&&Nat.beq t2 76&&x.isEmpty&&bI d 0&&bI e 0&&bI f 0),B8 l op en sz q.2.2 q.1 q.2.1,rs)
   |none=>none
  |_,_,_=>none
 |_=>none
def cTm (F:FTm)(Gm:List (Option (TypeId×Tv.Ty))):Gi:=⟨some (212,aa5),Gm,gTm F⟩
theorem eq0 {a b:Int}(h:bI a b=true):a=b:=by rw[eF]at h;simpa using h
theorem aa6 {F:FTm}{ins outs rs:List fN}(h:gTm F ins=some (true,outs,rs)):∃l op en sz s args q,ins=B8 l op en sz s 0 0++args/\F l op en s args=some (true,q,rs)/\outs=B8 l op en sz q.2.2 q.1 q.2.1:=by
 unfold gTm at h;split at h;case h_2=>cases h
 rename_i e0 l0 op en bc bn ic ix sc d sz t1 e1 p t2 e2 x e f args;split at h;case h_2=>cases h
 rename_i l put x' h0 h1 h2;split at h;case h_2=>cases h
 rename_i c q rs' hF;simp only[aq,ay,ak]at h;obtain⟨⟨hc,⟨⟨⟨⟨g1,g2⟩,g3⟩,g4⟩,g5⟩,g6⟩,rfl,rfl⟩:=h;subst hc;obtain rfl:=bf g1;obtain rfl:=bf g2;obtain rfl:=eq0 g4;obtain rfl:=eq0 g5;obtain rfl:=eq0 g6;obtain⟨rfl,h0⟩:=bT h0;obtain⟨rfl,h1⟩:=bT h1;obtain⟨rfl,h2⟩:=bT h2;have h0:l0=l:=h0;have h1:p=put:=h1;have h2:x=x':=h2;subst h0;subst h1;subst h2;have hx:x=[]:=ia.1 g3;subst hx;exact⟨l0,op,en,sz,⟨bc,bn,ic,ix,sc,p⟩,args,q,rfl,hF,rfl⟩
abbrev dZ:=Option (List fN×List Nat)
abbrev Tx (ud:List (Option (TypeId×Tv.Ty))):AV->aG->dZ:=ago 212 aa5 ud
theorem HG:∀(l:List AV),xw (l.map fN.val)=[]
 |[]=>rfl
 |_::l=>HG l
theorem aa7 (l:List Tok)(op en sz:Int)(s:TS)(e f:Int)(vs:List AV):xw (B8 l op en sz s e f++vs.map fN.val)=[s.put.length,0]:=by
 show s.put.length::0::xw (vs.map fN.val)=_;rw[HG]
theorem sS (n:Nat):∀(l:List AV),Tv.cellsIn n (l.map fN.val)=l
 |[]=>rfl
 |v::l=>by show v::Tv.cellsIn n (l.map fN.val)=_;rw[sS n l]
theorem aa8 (l:List Tok)(op en sz:Int)(s:TS)(e f:Int)(vs:List AV):(Tv.cellsIn 1 (B8 l op en sz s e f++vs.map fN.val)).drop aa5.length=vs:=by
 show Tv.cellsIn 3 (vs.map fN.val)=vs;exact sS 3 vs
theorem Pv {id:FuncId}(hk:lt.inl id=true){M:List wh}{N:List pQ}(hM:iT X0 fU M)(hN:gY X0 fU N){F:FTm}{Gm ud:List (Option (TypeId×Tv.Ty))}
 (h:∀l op en sz s args q rs,F l op en s args=some (true,q,rs)->args.length=Gm.length->∃(vs ws:List AV) (an:ei) (rounds:Nat),args=vs.map .val/\rs=ws.map .val/\aT X0 (cN M N _) an rounds id (.ptr 0 0::vs) (jn 212 14 (B8 l op en sz s 0 0++vs.map .val)) (Tx ud)=some (B8 l op en sz q.2.2 q.1 q.2.1++ws.map .val,[q.2.2.put.length,0])) :
 gy X0 fU id (cTm F Gm) :=
 aa2 (ud:=ud) (nk hk) (jH hM hN) λins outs rs hg hl=>by
  obtain⟨l,op,en,sz,s,args,q,rfl,hF,rfl⟩:=aa6 hg;obtain⟨vs,ws,an,rounds,rfl,rfl,hrun⟩:=h l op en sz s args q rs hF (by
   rw[aA,aA]at hl;have:(B8 l op en sz s 0 0).length=aa5.length:=rfl;omega)
  refine⟨an,rounds,_,?_,(aa7 _ _ _ _ _ _ _ ws).symm⟩;rw[aa8];exact hrun
def lf (b:AV)(l:List Tok)(op en sz:Int)(s:TS)(e f:Int)(n:Nat):dZ:=some (B8 l op en sz s e f++[.val b],[n,0])
def mTm (l:List Tok)(op en sz:Int)(n:Nat)(s:TS):aG:=aaV [.cells 212 [.dH dL l,.int .i64 op,.int .i64 en,.int .i64 s.bc,.int .i64 s.bn,.int .i64 s.ic,.int .i64 s.ix,.int .i64 s.sc,.int .i64 0,.int .i64 sz,.own 1 n,.own 2 0,.int .i64 0,.int .i64 0],.list 81 dL s.put 0 false false,.list 76 eC [] 0 false false]
def pSt:List Bool:=[true,true,false,true,false]
def agy:ei:=⟨gD [0,5,6] pSt,.none,[]⟩
def jSt (l:List Tok)(op en sz:Int)(s:TS)(n r m:Nat)(a d:Int):dZ:=iF X0 (cN P2 [] _) agy r 169 pSt (Tx [none]) m (kr 70 [(0,.ptr 0 0),(5,.int .i64 d),(6,.int .i64 a)]) (mTm l op en sz n s)
def Pw (l:List Tok)(en:Int)(J:Int->Int->dZ)(L:Int->dZ)(a d:Int):dZ :=
 let nx:=J (IntKind.wrap .i64 (a+1)) d
 let yes:=Option.rec (motive:=λ_=>dZ) none (λy=>ah (CI y) (L a) nx) (dQ l (IntKind.wrap .i64 (a-1)))
 ah (bC a en) (ah (!bC a 0) (ah (dI l a [40]) (J (IntKind.wrap .i64 (a+1)) (IntKind.wrap .i64 (d+1))) (ah (!bC a 0) (ah (dI l a [41]) (J (IntKind.wrap .i64 (a+1)) (mx d))
  (ah (bI d 0) (ah (!bC a 0) (ah (dI l a [43]) yes (ah (!bC a 0) (ah (dI l a [45]) yes nx) none)) none) nx)) none)) none) (L en)
theorem Xs (l:List Tok)(op en sz:Int)(s:TS)(n r m:Nat)(a d:Int):jSt l op en sz s n r (m+1) a d=Pw l en (jSt l op en sz s n r m) (λv=>lf (.int .i64 v) l op en sz s 0 0 n) a d:=by kernel_rfl
theorem aa9 (l:List Tok)(op en sz:Int)(s:TS)(r:Nat)(a:Int):aT X0 (cN P2 [] _) agy r 169 [.ptr 0 0,.int .i64 a] (jn 212 14 (B8 l op en sz s 0 0++[.val (.int .i64 a)])) (Tx [none])=jSt l op en sz s s.put.length r r a 0:=by kernel_rfl
theorem agz {l:List Tok}{op en sz:Int}{s:TS}{n r:Nat}(hl:l.length<=2000000)(he0:0<=en)(UL:en<=l.length):∀(rest q:List Tok) (p:Tok) (m:Nat) (d:Int),l.take en.toNat=q++p::rest->rest.length<m->0<=d->d<=q.length ->
 jSt l op en sz s n r m ((q.length:Nat)+1:Int) d=lf (.int .i64 (tJ en p rest ((q.length:Nat)+1:Int) d)) l op en sz s 0 0 n:=by
 intro rest;induction rest with
 |nil =>
  intro q p m d he hm h0 h1;obtain⟨m,rfl⟩:∃m',m=m'+1:=⟨m-1,by simp at hm;omega⟩;have hle:=cr List.length he;simp only[bR,aA,aJ,bA]at hle;have hen:en=(q.length:Int)+1:=by omega
  rw[Xs];unfold Pw;simp only;rw[fL (by omega)];rfl
 |cons c rest ih =>
  intro q p m d he hm h0 h1;obtain⟨m,rfl⟩:∃m',m=m'+1:=⟨m-1,by simp at hm;omega⟩;have hle:=cr List.length he;simp only[bR,aA,aJ]at hle;have hlt:(q.length:Int)+1<en:=by omega
  have hx:l=q++p::c::(rest++l.drop en.toNat):=by
   have:=(eY en.toNat l).symm;rw[he]at this;simpa using this
  have ih':∀d',0<=d'->d'<=(q.length:Int)+1->jSt l op en sz s n r m ((q.length:Int)+1+1) d'=lf (.int .i64 (tJ en c rest ((q.length:Int)+1+1) d')) l op en sz s 0 0 n:=λd' q0 q1=>by
   have:=ih (q++[p]) c m d' (by rw[he];simp) (by simp at hm;omega) q0 (by simp;omega);rw[show ((q++[p]).length:Nat)=q.length+1 by simp]at this;exact this
  have hs:∀t,dI l ((q.length:Nat)+1:Int) t=pY c t:=λt=>by
   have:=Rj (q++[p]) (rest++l.drop en.toNat) c t;rw[show q++[p]++c::(rest++l.drop en.toNat)=l by rw[bM];exact hx.symm]at this;rw[<-this];simp
  have hp:dQ l (((q.length:Nat)+1:Int)-1)=some p:=by
   rw[show ((q.length:Nat)+1:Int)-1=(q.length:Nat) by omega];have:=kK q (c::(rest++l.drop en.toNat)) p;rw[<-hx]at this;exact this
  rw[Xs];unfold Pw;simp only;rw[pZ hlt,fL (a:=((q.length:Nat)+1:Int)) (b:=0) (by omega),i64_in (n:=((q.length:Nat)+1:Int)+1) (by omega) (by omega),i64_in (n:=((q.length:Nat)+1:Int)-1) (by omega) (by omega),i64_in (n:=d+1) (by omega) (by omega),adT h0 (by omega),hs,hs,hs,hs,hp];rw[ih' (d+1) (by omega) (by omega),ih' d h0 (by omega),ih' (if 0<d-1 then d-1 else 0) (by split<;>omega) (by split<;>omega)];rw[show tJ en p (c::rest) ((q.length:Nat)+1:Int) d=if pY c [40]=true then tJ en c rest ((q.length:Int)+1+1) (d+1) else if pY c [41]=true then tJ en c rest ((q.length:Int)+1+1) (if 0<d-1 then d-1 else 0) else if d=0/\(pY c [43]=true\/pY c [45]=true)/\CI p=true then ((q.length:Nat)+1:Int) else tJ en c rest ((q.length:Int)+1+1) d from rfl]
  rw[cq];cases pY c [40] with
  |true=>rfl
  |false =>
   cases pY c [41] with
   |true=>rfl
   |false =>
    by_cases hd:d=0
    .rw[ag hd];simp only[cu,ee,hd,jF];cases pY c [43]<;>cases pY c [45]<;>cases CI p<;>rfl
    rw[aa hd];simp only[hd,cu,ee,false_and];rfl
def fSt:FTm:=λl _ en s args=>match args with
 |[.val (.int .i64 a)]=>some (Nat.ble l.length 2000000 && !bC a 1 && !bC en a && !bC l.length en,(0,0,s),[.val (.int .i64 (fQ l a en))])
 |_=>none
theorem agA:gy X0 fU 169 (cTm fSt [none]) :=
 Pv rfl CJ n0 (ud:=[none]) λl op en sz s args q rs hF hal=>by
  unfold fSt at hF;split at hF;case h_2=>cases hF
  rename_i a;simp only[aq,ay,ak,aS]at hF;obtain⟨⟨⟨⟨g0,g1⟩,g2⟩,g3⟩,rfl,rfl⟩:=hF;have g0:=az g0;have g1:=JG g1;have g2:=JG g2;have g3:=JG g3;refine⟨[.int .i64 a],[.int .i64 (fQ l a en)],agy,l.length+1,rfl,rfl,?_⟩;have h1:=aa9 l op en sz s (l.length+1) a;rw[show ([AV.int .i64 a].map fN.val)=[fN.val (.int .i64 a)] from rfl];rw[h1];obtain⟨p,hp⟩:∃p,at? l (a-1)=some p:=by
   cases jG:at? l (a-1) with
   |some p=>exact⟨p,rfl⟩
   |none=>have:=jz (by omega) jG;omega
  have hk:(a-1).toNat+1=a.toNat:=by omega
  have hpl:l[(a-1).toNat]? = some p:=by
   have:at? l (((a-1).toNat:Nat):Int)=some p:=by rw[show (((a-1).toNat:Nat):Int)=a-1 by omega];exact hp
   exact this
  have hlt:(a-1).toNat<l.length:=by omega
  have e1:l.take a.toNat=l.take (a-1).toNat++[p]:=by
   rw[<-hk,List.take_add_one,hpl];rfl
  have e2:l.take en.toNat=l.take (a-1).toNat++p::(l.take en.toNat).drop a.toNat:=by
   have h3:=eY a.toNat (l.take en.toNat);have h4:(l.take en.toNat).take a.toNat=l.take (a-1).toNat++[p]:=by rw[pG,gx (by omega),e1]
   rw[h4,bM]at h3;exact h3.symm
  have hq:((l.take (a-1).toNat).length:Int)=a-1:=by rw[bR];omega
  have:=agz (l:=l) (op:=op) (en:=en) (sz:=sz) (s:=s) (n:=s.put.length) (r:=l.length+1) g0 (by omega) g3 ((l.take en.toNat).drop a.toNat) (l.take (a-1).toNat) p (l.length+1) 0 e2 (by rw[bQ,bR];omega) (bB 0) (by omega);rw[hq,show a-1+1=a by omega]at this;rw[this];unfold fQ;rw[hp];rfl
def NS:List pQ:=[(169,cTm fSt [none])]
theorem adU:gY X0 fU NS:=.cons agA .nil
section
variable (l:List Tok) (op en sz:Int) (sg:List UInt8)
def lfO (o:qU):dZ:=lf (.bool o.1) l op en sz o.2.2.2 o.2.1 o.2.2.1 o.2.2.2.put.length
def flC (s:TS)(e f:Int):dZ:=lf (.bool false) l op en sz s e f s.put.length
def Pf (s:TS)(n:Nat):dZ:=lf (.bool true) l op en sz s 0 0 n
def atR (i:Int)(k:Tok->dZ):dZ:=Option.rec (motive:=λ_=>dZ) none k (dQ l i)
def JK (r:Rg)(a:Int)(s:TS):dZ :=
 ah (decide (sg=[45])) (flC l op en sz s 2 a) (ah (decide (s.bc=0)&&decide (s.bn=0)) (Pf l op en sz { s with bc:=r.1,bn:=r.2 } s.put.length)
  (ah (decide (s.ic=0)&&decide (s.ix=0)) (Pf l op en sz { s with ic:=r.1,ix:=r.2,sc:=1 } s.put.length) (flC l op en sz s 2 a)))
def Dz (r:Rg)(a num:Int)(s:TS):dZ :=
 ah (decide (sg=[45])) (flC l op en sz s 2 a) (ah (!(decide (s.ic=0)&&decide (s.ix=0))) (flC l op en sz s 2 a)
  (atR l num λy=>[1,2,4].foldr (λq rest=>ah (bI y.2.1 q) (ah (bI y.2.1 q) (Pf l op en sz { s with ic:=r.1,ix:=r.2,sc:=y.2.1 } s.put.length) (flC l op en sz s 2 num)) rest)
   (ah (bI y.2.1 8) (Pf l op en sz { s with ic:=r.1,ix:=r.2,sc:=y.2.1 } s.put.length) (flC l op en sz s 2 num))))
def Py (a b:Int)(s:TS):dZ :=
 (λfin:List Tok->Nat->dZ=>(λone:dZ=>ah (decide (sg=[45])) one (ah (bC 0 s.put.length) one (fin s.put s.put.length)))
  (ah (Nat.ble (s.put.length+1) 2000000) (fin (s.put++[Gj sg]) (s.put.length+1)) none))
  (λp _=>ah (Nat.ble (p.length+1) 2000000) (ah (!bC a 0 && !bC b a && !bC (Int.ofNat l.length) b) (ah (bI a 0||bC a (Int.ofNat l.length))
   (ah (Nat.ble ((p++[Gj [40]]).length+(dX l a b).length) 2000000) (ah (Nat.ble ((p++[Gj [40]]++dX l a b).length+1) 2000000)
    (Pf l op en sz { s with put:=p++[Gj [40]]++dX l a b++[Gj [41]] } ((p++[Gj [40]]++dX l a b).length+1)) none) none) none) none) none)
def agC (a b:Int)(s:TS):dZ :=
 (λZx:dZ=>(λsecond:dZ =>
  ah (bI (IntKind.wrap .i64 (b-a)) 0) (flC l op en sz s 4 a)
   (ah (bI (IntKind.wrap .i64 (b-a)) 1) (atR l a λy=>ah (ry y [114,105,112]) (JK l op en sz sg (8,0) a s) (atR l a λy=>ah (qo rp y).isSome (JK l op en sz sg ((qo rp y).getD (0,0)) a s) Zx))
   (ah (bI (IntKind.wrap .i64 (b-a)) 3) (ah (!bC (IntKind.wrap .i64 (a+1)) 0) (ah (!dI l (IntKind.wrap .i64 (a+1)) [42]) Zx
    (atR l a λy=>ah (qo rp y).isSome (atR l (IntKind.wrap .i64 (a+2)) λz=>ah (bI z.1 2) (Dz l op en sz sg ((qo rp y).getD (0,0)) a (IntKind.wrap .i64 (a+2)) s) second) second)) none) Zx)))
  (atR l (IntKind.wrap .i64 (a+2)) λy=>ah (qo rp y).isSome (atR l a λz=>ah (bI z.1 2) (Dz l op en sz sg ((qo rp y).getD (0,0)) a a s) Zx) Zx))
  (Py l op en sz sg a b s)
end
theorem aba (l:List Tok)(op en sz:Int)(sg:List UInt8)(a b bc bn ic ix sc:Int)(put:List Tok):aT X0 (cN P2 NS _) gO 5 170 [.ptr 0 0,.str sg,.int .i64 a,.int .i64 b] (jn 212 14 (B8 l op en sz ⟨bc,bn,ic,ix,sc,put⟩ 0 0++[.val (.str sg),.val (.int .i64 a),.val (.int .i64 b)])) (Tx [none])=agC l op en sz sg a b ⟨bc,bn,ic,ix,sc,put⟩:=by kernel_rfl
theorem uC {α:Type}{p:Prop}[Decidable p](x y:α):ah (decide p) x y=if p then x else y:=by rw[ax];simp
theorem HH {α:Type}{p q:Prop}[Decidable p][Decidable q](x y:α):ah (decide p&&decide q) x y=if p/\q then x else y:=by rw[ax];simp
theorem Pz {α:Type}{p q:Prop}[Decidable p][Decidable q](x y:α):ah (!(decide p&&decide q)) x y=if p/\q then y else x:=by
 rw[ax];by_cases h:p/\q
 .rw[ag h,aa];simp[h.1,h.2]
 rw[aa h,ag];by_cases hp:p
 .have hq:¬q:=λhq=>h ⟨hp,hq⟩
  simp[hq]
 simp[hp]
structure BT (l:List Tok)(en a b:Int)(s:TS):Prop where
 len:l.length<=200000
 a0:0<=a
 ab:a<=b
 be:b<=en
 el:en<l.length
 put:s.put.length<=4*a
section
variable {l:List Tok} {op en sz:Int} {sg:List UInt8} {a b:Int} {s:TS}
theorem HI (r:Rg):JK l op en sz sg r a s=lfO l op en sz (mL sg r a s):=by
 unfold JK mL;rw[uC,HH,HH];split
 .rfl
 split
 .rfl
 split<;>rfl
theorem sU {i:Int}{t:Tok}(h:at? l i=some t)(k:Tok->dZ):atR l i k=k t:=by
 unfold atR;rw[getI_at?,h]
theorem Fj (r:Rg){num:Int}{t:Tok}(h:at? l num=some t):Dz l op en sz sg r a num s=lfO l op en sz (jf sg r a num t.2.1 s):=by
 unfold Dz jf;rw[uC,Pz,sU h];by_cases h1:sg=[45]
 .rw[ag h1,ag (.inl h1)];rfl
 rw[aa h1];by_cases h2:s.ic=0/\s.ix=0
 .rw[ag h2,aa (show ¬(sg=[45]\/¬(s.ic=0/\s.ix=0)) from λh=>h.elim h1 λh=>h h2)];simp only[fC,kj,cq];unfold qC;by_cases hs:t.2.1=1\/t.2.1=2\/t.2.1=4\/t.2.1=8
  .rw[aX hs,ag rfl];rcases hs with h|h|h|h<;>(rw[h];rfl)
  rw[aU hs,aa mI];simp only[kQ]at hs;obtain⟨q1,q2,q3,q4⟩:=hs;rw[aa q1,aa q2,aa q3,aa q4];rfl
 rw[aa h2,ag (.inr h2)];rfl
theorem Tz (h:BT l en a b s):Py l op en sz sg a b s=lfO l op en sz (rz l sg a b s):=by
 have g1:=h.len;have g2:=h.a0;have g3:=h.ab;have g4:=h.be;have g5:=h.el;have g6:=h.put;have Tc:(dX l a b).length<=(b-a).toNat:=by unfold dX;rw[bR];omega
 have fin:∀p:List Tok,p.length<=s.put.length+1->(ah (Nat.ble (p.length+1) 2000000) (ah (!bC a 0 && !bC b a && !bC (Int.ofNat l.length) b) (ah (bI a 0||bC a (Int.ofNat l.length))
  (ah (Nat.ble ((p++[Gj [40]]).length+(dX l a b).length) 2000000) (ah (Nat.ble ((p++[Gj [40]]++dX l a b).length+1) 2000000)
   (Pf l op en sz { s with put:=p++[Gj [40]]++dX l a b++[Gj [41]] } ((p++[Gj [40]]++dX l a b).length+1)) none) none) none) none) none) =
  lfO l op en sz (okO { s with put:=p++[Gj [40]]++Pj l a b++[Gj [41]] }):=λp hp=>by
  have i1:Int.ofNat l.length=(l.length:Int):=rfl;rw[i1,dS (by omega),fL g2,fL g3,fL (show b<=(l.length:Int) by omega),pZ (show a<(l.length:Int) by omega),Bool.or_true,dS (by simp;omega),dS (by simp;omega)];show Pf _ _ _ _ _ _=lf _ _ _ _ _ _ _ _ _;unfold Pf okO;simp only;have:(p++[Gj [40]]++dX l a b).length+1=(p++[Gj [40]]++Pj l a b++[Gj [41]]).length:=by simp[Pj,dX];omega
  rw[this];rfl
 unfold Py;simp only;rw[fin s.put (by omega),fin (s.put++[Gj sg]) (by simp),dS (by omega),uC,cA];unfold rz;by_cases h1:sg=[45]
 .rw[ag h1,ag (.inl h1)]
 rw[aa h1];by_cases h2:s.put=[]
 .rw[aa (by rw[h2];simp),aa (show ¬(sg=[45]\/s.put≠[]) from λh=>h.elim h1 λh=>h h2)]
 rw[ag (by have:0<s.put.length:=dJ.2 h2;omega),ag (.inr h2)]
theorem abb (h:BT l en a b s):agC l op en sz sg a b s=lfO l op en sz (mX rp l sg a b s):=by
 have g1:=h.len;have g2:=h.a0;have g3:=h.ab;have g4:=h.be;have g5:=h.el;have tK:∀i:Int,0<=i->i<l.length->∃t,at? l i=some t:=λi h0 h1=>by
  cases jG:at? l i with
  |some t=>exact⟨t,rfl⟩
  |none=>have:=jz h0 jG;omega
 unfold agC mX;simp only;rw[Tz h,i64_in (n:=b-a) (by omega) (by omega),i64_in (n:=a+1) (by omega) (by omega),i64_in (n:=a+2) (by omega) (by omega),cq,cq,cq];by_cases h0:b-a=0
 .rw[ag h0,ag h0];rfl
 rw[aa h0,aa h0];obtain⟨t,ht⟩:=tK a g2 (by omega);by_cases h1:b-a=1
 .rw[ag h1,ag h1,ht];rw[sU ht,sU ht];simp only;rw[ax];by_cases hn:ry t [114,105,112]=true
  .rw[ag hn,ag hn,HI]
  rw[aa hn,aa hn];cases hr:qo rp t with
  |none=>rfl
  |some r=>exact HI r
 rw[aa h1,aa h1];by_cases h3:b-a=3
 .rw[ag h3,fL (show (0:Int)<=a+1 by omega)];obtain⟨u,hu⟩:=tK (a+2) (by omega) (by omega);cases hs:dI l (a+1) [42] with
  |false=>rw[aa (show ¬(b-a=3/\false=true) from λh=>by cases h.2)];rfl
  |true =>
   rw[ag (⟨h3,rfl⟩:b-a=3/\true=true),ht,hu];show atR l a _=_;rw[sU ht,sU hu,sU hu];simp only;rw[sU ht,cq,cq,Fj _ hu,Fj _ ht];by_cases hu2:u.1=2<;>by_cases ht2:t.1=2<;>simp only[ag,aa,hu2,ht2]<;>cases hr:qo rp t<;>cases hq:qo rp u<;>rfl
 rw[aa h3,aa (show ¬(b-a=3/\dI l (a+1) [42]=true) from λh=>h3 h.1)]
end
def fOn:FTm:=λl _ en s args=>match args with
 |[.val (.str sg),.val (.int .i64 a),.val (.int .i64 b)]=>some (Nat.ble l.length 200000 && !bC a 0 && !bC b a && !bC en b&&bC en l.length && !bC (4*a) s.put.length,((mX rp l sg a b s).2.1,(mX rp l sg a b s).2.2.1,(mX rp l sg a b s).2.2.2),[.val (.bool (mX rp l sg a b s).1)])
 |_=>none
theorem agD:gy X0 fU 170 (cTm fOn [none,none,none]) :=
 Pv rfl CJ adU (ud:=[none]) λl op en sz s args q rs hF hal=>by
  unfold fOn at hF;split at hF;case h_2=>cases hF
  rename_i sg a b;simp only[aq,ay,ak,aS]at hF;obtain⟨⟨⟨⟨⟨⟨g0,g1⟩,g2⟩,g3⟩,g4⟩,g5⟩,rfl,rfl⟩:=hF;have g0:=az g0;have g1:=JG g1;have g2:=JG g2;have g3:=JG g3;have g4:en<l.length:=by rw[cD]at g4;simpa using g4
  have g5:=JG g5;refine⟨[.str sg,.int .i64 a,.int .i64 b],[.bool (mX rp l sg a b s).1],gO,5,rfl,rfl,?_⟩;have h1:=aba l op en sz sg a b s.bc s.bn s.ic s.ix s.sc s.put;rw[abb ⟨g0,g1,g2,g3,g4,g5⟩]at h1;exact h1
end
end Go.Proofs.YtbeckacfibledaaGreatDoor.ps

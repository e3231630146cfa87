/- Operands: contracts of small functions. Places: which may be; where the bracket closes. Places: what stands in them, as its functions have it; where a term ends. Places: a term. -/
import Derived.Test.YtfggompceldfgaaGreatDoorGrc
import Derived.Test.YtfggompceldfgaaGreatDoorGxa
import Derived.Test.YtfggompceldfgaaGreatDoorLyh
set_option linter.unusedVariables false
set_option linter.unusedSimpArgs false

namespace Go.Proofs.YtfggompceldfgaaGreatDoor.ps
open Go.Tv Go.Ev Go.Px Go.Pp Go.Proofs.YtfggompceldfgaaGreatDoor.ex
set_option maxRecDepth 100000
noncomputable section
abbrev rp:List UInt8->Int×Int×Bool:=rg.pR
theorem nk {f:FuncId}(h:lt.inl f=true):∀args,lt.kn f args=none:=λargs=>lt.bS h args
def gTS (f:Tok->List UInt8->Bool)(args:List AV):Option (Bool×List fN) :=
 match args with
 |[.agg [.int .i64 k,.int .i64 n,.str s,.int .i64 a],.str t]=>some (true,[.val (.bool (f (k,n,s,a) t))])
 |_=>none
theorem Ou:dh X0 gW 170 (gTS qU) :=
 dA (nk rfl) (kA wS n0) λargs rs hg=>by
  unfold gTS at hg;split at hg
  .rename_i k n s a t;simp only[aq,ax]at hg;obtain⟨_,rfl⟩:=hg;refine⟨[.bool (qU (k,n,s,a) t)],ia,5,?_,rfl,rfl⟩;have h:aT X0 (cN M6 [] AV) ia 5 170 [.agg [.int .i64 k,.int .i64 n,.str s,.int .i64 a],.str t] aH.empty (λv _=>some v)=ah (bI k 1) (some (.bool (decide (s=t)))) (some (.bool false)):=by kernel_rfl
   rw[h,ck];unfold qU;by_cases hk:k=1
   .rw[ag hk,bf hk];rfl
   rw[aa hk,aU hk];rfl
  cases hg
def gTB (f:Tok->Bool)(args:List AV):Option (Bool×List fN) :=
 match args with
 |[.agg [.int .i64 k,.int .i64 n,.str s,.int .i64 a]]=>some (true,[.val (.bool (f (k,n,s,a)))])
 |_=>none
theorem Wr:dh X0 gW 188 (gTB Cn) :=
 dA (nk rfl) (kA wS n0) λargs rs hg=>by
  unfold gTB at hg;split at hg
  .rename_i k n s a;simp only[aq,ax]at hg;obtain⟨_,rfl⟩:=hg;refine⟨[.bool (Cn (k,n,s,a))],ia,5,?_,rfl,rfl⟩;have h:aT X0 (cN M6 [] AV) ia 5 188 [.agg [.int .i64 k,.int .i64 n,.str s,.int .i64 a]] aH.empty (λv _=>some v)=ah (!bI k 4) (some (.bool true)) (ah (decide (s=[36])) (some (.bool true)) (ah (decide (s=[36,36])) (some (.bool true)) (some (.bool (decide (s=[41])))))):=by kernel_rfl
   rw[h,cX];unfold Cn;by_cases hk:k=4
   .rw[ag hk,bf hk];show _=some (AV.bool (false||(decide (s=[36])||(decide (s=[36,36])||decide (s=[41])))));cases decide (s=[36])<;>cases decide (s=[36,36])<;>rfl
   rw[aa hk,aU hk];rfl
  cases hg
theorem Z5:dh X0 gW 160 (y8 λt=>[.val (.agg [.int .i64 ((qe rp t).getD (0,0)).1,.int .i64 ((qe rp t).getD (0,0)).2]),.val (.bool (qe rp t).isSome)]) :=
 dA (nk rfl) (kA wS n0) λargs rs hg=>by
  unfold y8 at hg;split at hg
  .rename_i k n s a;simp only[aq,ax]at hg;obtain⟨_,rfl⟩:=hg;refine⟨[.agg [.int .i64 ((qe rp (k,n,s,a)).getD (0,0)).1,.int .i64 ((qe rp (k,n,s,a)).getD (0,0)).2],.bool (qe rp (k,n,s,a)).isSome],ia,5,?_,rfl,rfl⟩;have h:aT X0 (cN M6 [] AV) ia 5 160 [.agg [.int .i64 k,.int .i64 n,.str s,.int .i64 a]] aH.empty (λv _=>some v)=(λno=>ah (!bI k 1) no (ah (!(rp s).2.2) no (ah (bI (rp s).1 8) no (some (.fH [.agg [.int .i64 (rp s).1,.int .i64 (rp s).2.1],.bool true])))))
    (some (.fH [.agg [.int .i64 0,.int .i64 0],.bool false])):=by kernel_rfl
   rw[h];simp only[cX,ck];have e:qe rp (k,n,s,a)=if k=1/\(rp s).2.2=true/\(rp s).1≠8 then some ((rp s).1,(rp s).2.1) else none:=rfl;rw[e];by_cases h1:k=1
   .rw[ag h1];cases h2:(rp s).2.2 with
    |false=>rw[aa (show ¬(k=1/\false=true/\(rp s).1≠8) from λh=>by cases h.2.1)];rfl
    |true =>
     by_cases h3:(rp s).1=8
     .rw[ag h3,aa (show ¬(k=1/\true=true/\(rp s).1≠8) from λh=>h.2.2 h3)];rfl
     rw[aa h3,ag ⟨h1,rfl,h3⟩];rfl
   rw[aa h1,aa (show ¬(k=1/\(rp s).2.2=true/\(rp s).1≠8) from λh=>h1 h.1)];rfl
  cases hg
theorem Ws:dh X0 gW 132 (y8 λt=>[.val (.int .i64 (pF t).1),.val (.int .i64 (pF t).2)]) :=
 dA (nk rfl) (kA wS n0) λargs rs hg=>by
  unfold y8 at hg;split at hg
  .rename_i k n s a;simp only[aq,ax]at hg;obtain⟨_,rfl⟩:=hg;refine⟨[.int .i64 (pF (k,n,s,a)).1,.int .i64 (pF (k,n,s,a)).2],ia,5,?_,rfl,rfl⟩;have h:aT X0 (cN M6 [] AV) ia 5 132 [.agg [.int .i64 k,.int .i64 n,.str s,.int .i64 a]] aH.empty (λv _=>some v)=ah (!bI k 1) (some (.fH [.int .i64 0,.int .i64 0])) (Qt.foldr (λq r=>ah (decide (s=q.1)) (some (.fH [.int .i64 q.2.1,.int .i64 q.2.2])) r) (some (.fH [.int .i64 0,.int .i64 0]))):=by kernel_rfl
   rw[h,cX];have e:pF (k,n,s,a)=if k=1 then kG s Qt else (0,0):=rfl;rw[e];by_cases h1:k=1
   .rw[ag h1,ag h1];have:∀l:List (List UInt8×Int×Int),l.foldr (λq r=>ah (decide (s=q.1)) (some (AV.fH [.int .i64 q.2.1,.int .i64 q.2.2])) r) (some (.fH [.int .i64 0,.int .i64 0]))=some (AV.fH [.int .i64 (kG s l).1,.int .i64 (kG s l).2]):=λl=>by
     induction l with
     |nil=>rfl
     |cons q l ih =>
      rw[fB,ih,av,show kG s (q::l)=if s=q.1 then q.2 else kG s l from rfl];by_cases hq:s=q.1
      .rw[ag (by simpa using hq),ag hq]
      rw[aa (by simpa using hq),aa hq]
    exact this Qt
   rw[aa h1,aa h1];rfl
  cases hg
def gSA (args:List AV):Option (Bool×List fN) :=
 match args with
 |[L,.int .i64 a,.str s]=>match asL dJ L with
  |some l=>some (!bB a 0,[.val (.bool (dF l a s))])
  |none=>none
 |_=>none
theorem Jb (t:Tok)(s:List UInt8):pJ t s=(bI t.1 4&&decide (t.2.2.1=s)):=by
 unfold pJ;have e:(t.1==4)=decide (t.1=4):=by rw[bO];simp
 rw[eT,e]
theorem jt {α:Type}{l:List α}{a:Int}(h0:0<=a)(h:at? l a=none):(l.length:Int)<=a:=by
 unfold at? at h;split at h
 .have:=gi.1 h;simp;omega
 omega
theorem Ov:dh X0 gW 135 gSA :=
 dA (nk rfl) (kA wS n0) λargs rs hg=>by
  unfold gSA at hg;split at hg;case h_2=>cases hg
  rename_i L a s;split at hg;case h_2=>cases hg
  rename_i l hl;simp only[aq,ax,aS]at hg;obtain⟨ha,rfl⟩:=hg;have ha:0<=a:=by rw[cB]at ha;simpa using ha
  refine⟨[.bool (dF l a s)],ia,5,?_,rfl,rfl⟩;have h:aT X0 (cN M6 [] AV) ia 5 135 [L,.int .i64 a,.str s] aH.empty (λv _=>some v)=ah (bB a l.length) (Option.rec (motive:=λ_=>Option AV) none (λy=>ah (bI y.1 4) (Option.rec (motive:=λ_=>Option AV) none (λy=>some (.bool (decide (y.2.2.1=s)))) (dX l a)) (some (.bool false))) (dX l a)) (some (.bool false)):=by
   rw[uf hl]
   kernel_rfl
  rw[h,cG,getI_at?];unfold dF;cases jw:at? l a with
  |none=>rw[aa (by have:=jt ha jw;omega)];rfl
  |some t =>
   rw[ag (jh jw).2];simp only;rw[Jb];cases bI t.1 4<;>rfl
def JN (l:List Tok)(a:Int):Int×Bool:=match at? l a with
 |some t=>if t.1=1 then nm.lp t.2.2.1 else (0,false)
 |none=>(0,false)
def gMn (args:List AV):Option (Bool×List fN) :=
 match args with
 |[L,.int .i64 a]=>match asL dJ L with
  |some l=>some (!bB a 0,[.val (.int .i64 (JN l a).1),.val (.bool (JN l a).2)])
  |none=>none
 |_=>none
theorem ae5:dh X0 gW 131 gMn :=
 dA (nk rfl) (kA wS n0) λargs rs hg=>by
  unfold gMn at hg;split at hg;case h_2=>cases hg
  rename_i L a;split at hg;case h_2=>cases hg
  rename_i l hl;simp only[aq,ax,aS]at hg;obtain⟨ha,rfl⟩:=hg;have ha:0<=a:=by rw[cB]at ha;simpa using ha
  refine⟨[.int .i64 (JN l a).1,.bool (JN l a).2],ia,5,?_,rfl,rfl⟩;have h:aT X0 (cN M6 [] AV) ia 5 131 [L,.int .i64 a] aH.empty (λv _=>some v)=ah (!bB a l.length) (some (.fH [.int .i64 0,.bool false])) (Option.rec (motive:=λ_=>Option AV) none (λy=>ah (!bI y.1 1) (some (.fH [.int .i64 0,.bool false])) (Option.rec (motive:=λ_=>Option AV) none (λy=>some (.fH [.int .i64 (nm.lp y.2.2.1).1,.bool (nm.lp y.2.2.1).2])) (dX l a))) (dX l a)):=by
   rw[uf hl]
   kernel_rfl
  rw[h,jM,getI_at?];unfold JN;cases jw:at? l a with
  |none=>rw[ag (jt ha jw)];rfl
  |some t =>
   rw[aa (by have:=(jh jw).2;omega)];simp only[cX];by_cases h1:t.1=1
   .rw[ag h1,ag h1];rfl
   rw[aa h1,aa h1];rfl
def gNB (f:Int->Bool)(args:List AV):Option (Bool×List fN) :=
 match args with
 |[.int .i64 n]=>some (true,[.val (.bool (f n))])
 |_=>none
theorem Ow {f:FuncId}{p:Int->Bool}(hk:lt.inl f=true)(h:∀n,aT X0 (cN M6 [] AV) ia 5 f [.int .i64 n] aH.empty (λv _=>some v)=some (.bool (p n))):dh X0 gW f (gNB p) :=
 dA (nk hk) (kA wS n0) λargs rs hg=>by
  unfold gNB at hg;split at hg
  .rename_i n;simp only[aq,ax]at hg;obtain⟨_,rfl⟩:=hg;exact⟨[.bool (p n)],ia,5,h n,rfl,rfl⟩
  cases hg
theorem ae6:dh X0 gW 134 (gNB tj):=Ow rfl λn=>by
 have h:aT X0 (cN M6 [] AV) ia 5 134 [.int .i64 n] aH.empty (λv _=>some v)=ah (bI n 53) (some (.bool true)) (ah (bI n 54) (some (.bool true)) (ah (!bB n 68) (some (.bool (!bB 83 n))) (some (.bool false)))):=by kernel_rfl
 rw[h];unfold tj;simp only[ck,jM];by_cases h1:n=53
 .rw[ag h1,bf h1];rfl
 rw[aa h1,aU h1];by_cases h2:n=54
 .rw[ag h2,bf h2];rfl
 rw[aa h2,aU h2,Bool.false_or,Bool.false_or];by_cases h3:68<=n
 .rw[ag h3,cB];refine cn (λx=>some (AV.bool x)) ?_;rw[bO];simp;omega
 rw[aa h3,aU (by omega)]
theorem SB:dh X0 gW 192 (gNB sizedB):=Ow rfl λn=>by
 have h:aT X0 (cN M6 [] AV) ia 5 192 [.int .i64 n] aH.empty (λv _=>some v)=[0,1,2,4,8,16].foldr (λq r=>ah (bI n q) (ah (bI n q) (some (.bool true)) (some (.bool false))) r) (ah (bI n 32) (some (.bool true)) (some (.bool false))):=by kernel_rfl
 rw[h];unfold sizedB;simp only[fB,j8,ck];by_cases hs:n=0\/n=1\/n=2\/n=4\/n=8\/n=16\/n=32
 .rw[bf hs];rcases hs with rfl|rfl|rfl|rfl|rfl|rfl|rfl<;>rfl
 rw[aU hs];simp only[kK]at hs;obtain⟨h1,h2,h3,h4,h5,h6,h7⟩:=hs;rw[aa h1,aa h2,aa h3,aa h4,aa h5,aa h6,aa h7]
theorem Ox:dh X0 gW 194 (gNB qu):=Ow rfl λn=>by
 have h:aT X0 (cN M6 [] AV) ia 5 194 [.int .i64 n] aH.empty (λv _=>some v)=[1,2,4,8].foldr (λq r=>ah (bI n q) (some (.bool true)) r) (some (.bool false)):=by kernel_rfl
 rw[h];unfold qu;simp only[fB,j8,ck];by_cases hs:n=1\/n=2\/n=4\/n=8
 .rw[bf hs];rcases hs with rfl|rfl|rfl|rfl<;>rfl
 rw[aU hs];simp only[kK]at hs;obtain⟨h1,h2,h3,h4⟩:=hs;rw[aa h1,aa h2,aa h3,aa h4]
def gRB (f:Int->Int->Bool)(args:List AV):Option (Bool×List fN) :=
 match args with
 |[.agg [.int .i64 c,.int .i64 n]]=>some (true,[.val (.bool (f c n))])
 |_=>none
theorem Wt {f:FuncId}{p:Int->Int->Bool}(hk:lt.inl f=true)(h:∀c n,aT X0 (cN M6 [] AV) ia 5 f [.agg [.int .i64 c,.int .i64 n]] aH.empty (λv _=>some v)=some (.bool (p c n))):dh X0 gW f (gRB p) :=
 dA (nk hk) (kA wS n0) λargs rs hg=>by
  unfold gRB at hg;split at hg
  .rename_i c n;simp only[aq,ax]at hg;obtain⟨_,rfl⟩:=hg;exact⟨[.bool (p c n)],ia,5,h c n,rfl,rfl⟩
  cases hg
def tM (c n:Int):Bool:=decide ((c=2/\4<=n/\n<8)\/(c=8/\0<=n/\n<1)\/((c=1\/c=3\/c=4\/c=5\/c=6\/c=7)/\0<=n/\n<16))
def inT (n a b:Int):Option AV:=ah (!bB n a) (some (.bool (bB n b))) (some (.bool false))
theorem ae7 (n a b:Int):inT n a b=some (.bool (decide (a<=n/\n<b))):=by
 unfold inT;rw[jM,cB];by_cases h:a<=n
 .rw[ag h];refine cn (λx=>some (AV.bool x)) ?_;rw[eZ];omega
 rw[aa h,aU (by omega)]
def Oy (c n:Int):Option AV:=ah (bI c 2) (inT n 4 8) (ah (bI c 8) (inT n 0 1) ([1,3,4,5,6].foldr (λq r=>ah (bI c q) (ah (bI c q) (inT n 0 16) (inT n 0 0)) r) (ah (bI c 7) (inT n 0 16) (inT n 0 0))))
theorem GV (c n:Int):Oy c n=some (.bool (tM c n)):=by
 unfold Oy tM;simp only[fB,j8,ck,ae7];by_cases h2:c=2
 .rw[ag h2];refine cn (λx=>some (AV.bool x)) ?_;rw[eZ];omega
 rw[aa h2];by_cases h8:c=8
 .rw[ag h8];refine cn (λx=>some (AV.bool x)) ?_;rw[eZ];omega
 rw[aa h8];repeat' split
 all_goals (refine cn (λx=>some (AV.bool x)) ?_;rw[eZ];omega)
theorem SC:dh X0 gW 198 (gRB tM):=Wt rfl λc n=>by
 rw[<-GV]
 kernel_rfl
theorem Wu:dh X0 gW 193 (gRB wT):=Wt rfl λc n=>by
 have h:aT X0 (cN M6 [] AV) ia 5 193 [.agg [.int .i64 c,.int .i64 n]] aH.empty (λv _=>some v)=ah (bI c 5) (Oy c n) (some (.bool false)):=by kernel_rfl
 rw[h,ck,GV];unfold wT tM;by_cases h5:c=5
 .rw[ag h5];refine cn (λx=>some (AV.bool x)) ?_;rw[eZ];omega
 rw[aa h5,aU (by omega)]
def P1:List xX:=(170,[none,none],gTS qU)::(188,[none],gTB Cn)::(160,[none],y8 λt=>[.val (.agg [.int .i64 ((qe rp t).getD (0,0)).1,.int .i64 ((qe rp t).getD (0,0)).2]),.val (.bool (qe rp t).isSome)]) ::
 (132,[none],y8 λt=>[.val (.int .i64 (pF t).1),.val (.int .i64 (pF t).2)])::(135,[some dJ,none,none],gSA)::(131,[some dJ,none],gMn)::(134,[none],gNB tj) ::
 (192,[none],gNB sizedB)::(194,[none],gNB qu)::(198,[none],gRB tM)::(193,[none],gRB wT)::M6
theorem Wv:jx X0 gW P1:=.cons Ou (.cons Wr (.cons Z5 (.cons Ws (.cons Ov (.cons ae5 (.cons ae6 (.cons SB (.cons Ox (.cons SC (.cons Wu wS))))))))))
def iV (n:Int):Option AV:=some (.int .i64 n)
def Jc (bc bn ic ix sc:Int):Option AV:=ah (wU ic ix) (iV 0) (ah (!wT ic ix) (iV 2) (ah (!qu sc) (iV 2) (ah (LN bc bn) (iV 2) (ah (tN ic ix) (ah (!bI sc 1) (iV 2) (ah (tN bc bn) (iV 2) (iV 0))) (iV 0)))))
def LU (bc bn ic ix sc:Int):Option AV:=ah (wU ic ix) (ah (!bI sc 0) (iV 2) (Jc bc bn ic ix sc)) (Jc bc bn ic ix sc)
def ckT (bc bn ic ix sc d sz:Int):Option AV:=ah (bB d (-2147483648)) (iV 5) (ah (bB 2147483647 d) (iV 5) (ah (!sizedB sz) (iV 2) (ah (!wU bc bn) (ah (!LN bc bn) (ah (!wT bc bn) (iV 2) (LU bc bn ic ix sc)) (LU bc bn ic ix sc)) (LU bc bn ic ix sc))))
theorem ae8 (bc bn ic ix sc d sz:Int):ckT bc bn ic ix sc d sz=iV (LO bc bn ic ix sc d sz):=by
 have tail:wU ic ix=true/\sc=0\/wU ic ix=false->Jc bc bn ic ix sc=iV (if wU ic ix=true then (if sc=0 then 0 else 2)
  else if wT ic ix=false\/qu sc=false\/LN bc bn=true then 2
  else if tN ic ix=true/\(sc≠1\/tN bc bn=true) then 2 else 0):=λh=>by
  unfold Jc;rw[cX];rcases h with⟨h,h0⟩|h
  .rw[h,ag rfl,ag h0]
  rw[h];cases wT ic ix
  .rfl
  cases qu sc
  .rfl
  cases LN bc bn
  .cases tN ic ix
   .rfl
   by_cases h1:sc=1
   .cases tN bc bn
    .simp[h1,ah]
    simp[h1,ah]
   simp[h1,ah]
  rfl
 have mid:LU bc bn ic ix sc=iV (if wU ic ix=true then (if sc=0 then 0 else 2)
  else if wT ic ix=false\/qu sc=false\/LN bc bn=true then 2
  else if tN ic ix=true/\(sc≠1\/tN bc bn=true) then 2 else 0):=by
  unfold LU;rw[cX];cases hz:wU ic ix with
  |false =>
   have ht:=tail (.inr hz);rw[hz]at ht;exact ht
  |true =>
   by_cases h0:sc=0
   .have ht:=tail (.inl ⟨hz,h0⟩);rw[hz]at ht;rw[ag h0];exact ht
   rw[aa h0,ag rfl,aa h0]
 unfold ckT LO;rw[mid,cG,cG];by_cases h1:d < -2147483648
 .rw[ag h1,ag (.inl h1)]
 rw[aa h1];by_cases h2:2147483647<d
 .rw[ag h2,ag (.inr h2)]
 rw[aa h2,aa (show ¬(d < -2147483648\/2147483647<d) by omega)];cases sizedB sz
 .rfl
 cases wU bc bn
 .cases LN bc bn
  .cases wT bc bn<;>rfl
  rfl
 rfl
def gCk (args:List AV):Option (Bool×List fN) :=
 match args with
 |[.agg [.int .i64 bc,.int .i64 bn,.int .i64 ic,.int .i64 ix,.int .i64 sc,.int .i64 d,.int .i64 sz]]=>some (true,[.val (.int .i64 (LO bc bn ic ix sc d sz))])
 |_=>none
theorem Oz:dh X0 gW 184 gCk :=
 dA (nk rfl) (kA Wv n0) λargs rs hg=>by
  unfold gCk at hg;split at hg
  .rename_i bc bn ic ix sc d sz;simp only[aq,ax]at hg;obtain⟨_,rfl⟩:=hg;refine⟨[.int .i64 (LO bc bn ic ix sc d sz)],ia,5,?_,rfl,rfl⟩;have h:aT X0 (cN P1 [] AV) ia 5 184 [.agg [.int .i64 bc,.int .i64 bn,.int .i64 ic,.int .i64 ix,.int .i64 sc,.int .i64 d,.int .i64 sz]] aH.empty (λv _=>some v)=ckT bc bn ic ix sc d sz:=by kernel_rfl
   rw[h,ae8];rfl
  cases hg
def pCs:List Bool:=[true,true,false,true,false]
def afa:eD:=⟨gZ [0,6,7] pCs,.none,[]⟩
def jCs (l:List Tok)(r m:Nat)(a d:Int):Option AV:=jf X0 (cN P1 [] AV) afa r 171 pCs (λv _=>some v) m (lz 37 [(0,.dW dJ l),(6,.int .i64 d),(7,.int .i64 a)]) aH.empty
def csR:Option Int->Option AV
 |some a=>some (.fH [.int .i64 a,.bool true])
 |none=>some (.fH [.int .i64 0,.bool false])
def mx (d:Int):Int:=ah (bB 0 (IntKind.wrap .i64 (d-1))) (IntKind.wrap .i64 (d-1)) 0
def OA (l:List Tok)(J:Int->Int->Option AV)(a d:Int):Option AV :=
 ah (bB a l.length) (ah (!bB a 0) (ah (dF l a [40]) (J (IntKind.wrap .i64 (a+1)) (IntKind.wrap .i64 (d+1))) (ah (!bB a 0) (ah (dF l a [41]) (J (IntKind.wrap .i64 (a+1)) (mx d))
  (ah (bI d 0) (ah (!bB a 0) (ah (dF l a [93]) (csR (some a)) (J (IntKind.wrap .i64 (a+1)) d)) none) (J (IntKind.wrap .i64 (a+1)) d))) none)) none) (csR none)
theorem Ww (l:List Tok)(r m:Nat)(a d:Int):jCs l r (m+1) a d=OA l (jCs l r m) a d:=by kernel_rfl
theorem Z6 (l:List Tok)(r:Nat)(a:Int):aT X0 (cN P1 [] AV) afa r 171 [.dW dJ l,.int .i64 a] aH.empty (λv _=>some v)=jCs l r r a 0:=by kernel_rfl
theorem Qu (p r:List Tok)(c:Tok)(s:List UInt8):dF (p++c::r) (p.length:Nat) s=pJ c s:=by
 unfold dF;rw[I6]
theorem acE {d:Int}(h0:0<=d)(h1:d<9000000000000000000):mx d=if 0<d-1 then d-1 else 0:=by
 unfold mx;rw[i64_in (n:=d-1) (by omega) (by omega),cG]
theorem Wx (l:List Tok)(hl:l.length<=2000000)(r:Nat):∀(rest pre:List Tok) (m:Nat) (d:Int),l=pre++rest->rest.length<m->0<=d->d<=pre.length->jCs l r m (pre.length:Nat) d=csR (qd rest (pre.length:Nat) d)
 |[],pre,m,d,he,hm,h0,h1=>by
  obtain⟨m,rfl⟩:∃m',m=m'+1:=⟨m-1,by simp at hm;omega⟩;have hle:l.length=pre.length:=by rw[he];simp
  rw[Ww];unfold OA;rw[fG (by omega)];rfl
 |c::rest,pre,m,d,he,hm,h0,h1=>by
  obtain⟨m,rfl⟩:∃m',m=m'+1:=⟨m-1,by simp at hm;omega⟩;have hle:l.length=pre.length+(rest.length+1):=by rw[he];simp
  have ih:∀d',0<=d'->d'<=(pre.length:Int)+1->jCs l r m ((pre.length:Int)+1) d'=csR (qd rest ((pre.length:Int)+1) d'):=λd' q0 q1=>by
   have:=Wx l hl r rest (pre++[c]) m d' (by rw[he];simp) (by simp at hm;omega) q0 (by simp;omega);rw[show ((pre++[c]).length:Nat)=pre.length+1 by simp]at this;exact this
  have hs:∀s,dF l (pre.length:Nat) s=pJ c s:=λs=>by rw[he];exact Qu pre rest c s
  rw[Ww];unfold OA;rw[pL (by omega),fG (a:=((pre.length:Nat):Int)) (b:=0) (by omega),i64_in (n:=((pre.length:Nat):Int)+1) (by omega) (by omega),i64_in (n:=d+1) (by omega) (by omega),acE h0 (by omega),hs,hs,hs];rw[ih (d+1) (by omega) (by omega),ih d h0 (by omega),ih (if 0<d-1 then d-1 else 0) (by split<;>omega) (by split<;>omega)];rw[show qd (c::rest) ((pre.length:Nat):Int) d=if pJ c [40]=true then qd rest ((pre.length:Int)+1) (d+1) else if pJ c [41]=true then qd rest ((pre.length:Int)+1) (if 0<d-1 then d-1 else 0) else if d=0/\pJ c [93]=true then some ((pre.length:Nat):Int) else qd rest ((pre.length:Int)+1) d from rfl]
  rw[ck];cases pJ c [40] with
  |true=>rfl
  |false =>
   cases pJ c [41] with
   |true=>rfl
   |false =>
    by_cases hd:d=0
    .cases pJ c [93] with
     |true=>rw[ag hd];simp only[hd,ct,dY,and_self,fD];rfl
     |false=>rw[ag hd];simp only[hd,ct,dY,and_false];rfl
    rw[aa hd];simp only[hd,ct,dY,false_and];rfl
def gCs (args:List AV):Option (Bool×List fN) :=
 match args with
 |[L,.int .i64 a]=>match asL dJ L with
  |some l=>some (Nat.ble l.length 2000000 && !bB a 0 && !bB l.length a,[.val (.int .i64 ((mF l a).getD 0)),.val (.bool (mF l a).isSome)])
  |none=>none
 |_=>none
theorem I9 {p q:Int}(h:bB p q=false):q<=p:=by rw[cB]at h;simpa using h
theorem afb:dh X0 gW 171 gCs :=
 dA (nk rfl) (kA Wv n0) λargs rs hg=>by
  unfold gCs at hg;split at hg;case h_2=>cases hg
  rename_i L a;split at hg;case h_2=>cases hg
  rename_i l hl;simp only[aq,ax,ak,aS]at hg;obtain⟨⟨⟨g0,g1⟩,g2⟩,rfl⟩:=hg;have g0:=az g0;have g1:=I9 g1;have g2:=I9 g2;refine⟨[.int .i64 ((mF l a).getD 0),.bool (mF l a).isSome],afa,l.length+1,?_,rfl,rfl⟩;rw[uf hl,Z6];have hp:(l.take a.toNat).length=a.toNat:=by rw[bZ];omega
  have:=Wx l g0 (l.length+1) (l.drop a.toNat) (l.take a.toNat) (l.length+1) 0 (eX _ _).symm (by rw[bR];omega) (bx 0) (by omega);rw[hp,show ((a.toNat:Nat):Int)=a by omega]at this;rw[this];show csR (mF l a)=_;cases mF l a<;>rfl
def P2:List xX:=(171,[some dJ,none],gCs)::(184,[none],gCk)::P1
theorem Cp:jx X0 gW P2:=.cons afb (.cons Oz Wv)
def BL (l:List Tok)(op en sz:Int)(s:TS)(e f:Int):List fK:=[.val (.dW dJ l),.val (.int .i64 op),.val (.int .i64 en),.val (.int .i64 s.bc),.val (.int .i64 s.bn),.val (.int .i64 s.ic),.val (.int .i64 s.ix),.val (.int .i64 s.sc),.val (.int .i64 0),.val (.int .i64 sz),.list 96 dJ s.put,.list 89 fL [],.val (.int .i64 e),.val (.int .i64 f)]
def Z7:List (Option (TypeId×Tv.Ty)):=[none,none,none,none,none,none,none,none,none,none,some (96,dJ),some (89,fL),none,none]
abbrev FTm:=List Tok->Int->Int->TS->List fK->Option (Bool×(Int×Int×TS)×List fK)
def gTm (F:FTm)(ins:List fK):Option (Bool×List fK×List fK) :=
 match ins with
 |.val (.dW e0 l0) :: .val (.int .i64 op) :: .val (.int .i64 en) :: .val (.int .i64 bc) :: .val (.int .i64 bn) :: .val (.int .i64 ic) :: .val (.int .i64 ix) :: .val (.int .i64 sc) :: .val (.int .i64 d) :: .val (.int .i64 sz) :: .list t1 e1 p :: .list t2 e2 x :: .val (.int .i64 e) :: .val (.int .i64 f)::args =>
  match iq e0 dJ l0,iq e1 dJ p,iq e2 fL x with
  |some l,some put,some x=>match F l op en ⟨bc,bn,ic,ix,sc,put⟩ args with
   |some (c,q,rs)=>some (c&&(Nat.beq t1 96&&Nat.beq t2 89&&x.isEmpty&&bI d 0&&bI e 0&&bI f 0),BL l op en sz q.2.2 q.1 q.2.1,rs)
   |none=>none
  |_,_,_=>none
 |_=>none
def cTm (F:FTm)(FQ:List (Option (TypeId×Tv.Ty))):FO:=⟨some (217,Z7),FQ,gTm F⟩
theorem eq0 {a b:Int}(h:bI a b=true):a=b:=by rw[eT]at h;simpa using h
theorem Z8 {F:FTm}{ins outs rs:List fK}(h:gTm F ins=some (true,outs,rs)):∃l op en sz s args q,ins=BL l op en sz s 0 0++args/\F l op en s args=some (true,q,rs)/\outs=BL l op en sz q.2.2 q.1 q.2.1:=by
 unfold gTm at h;split at h;case h_2=>cases h
 rename_i e0 l0 op en bc bn ic ix sc d sz t1 e1 p t2 e2 x e f args;split at h;case h_2=>cases h
 rename_i l put x' h0 h1 h2;split at h;case h_2=>cases h
 rename_i c q rs' hF;simp only[aq,ax,ak]at h;obtain⟨⟨hc,⟨⟨⟨⟨g1,g2⟩,g3⟩,g4⟩,g5⟩,g6⟩,rfl,rfl⟩:=h;subst hc;obtain rfl:=aZ g1;obtain rfl:=aZ g2;obtain rfl:=eq0 g4;obtain rfl:=eq0 g5;obtain rfl:=eq0 g6;obtain⟨rfl,h0⟩:=bT h0;obtain⟨rfl,h1⟩:=bT h1;obtain⟨rfl,h2⟩:=bT h2;have h0:l0=l:=h0;have h1:p=put:=h1;have h2:x=x':=h2;subst h0;subst h1;subst h2;have hx:x=[]:=gQ.1 g3;subst hx;exact⟨l0,op,en,sz,⟨bc,bn,ic,ix,sc,p⟩,args,q,rfl,hF,rfl⟩
abbrev dV:=Option (List fK×List Nat)
abbrev SD (tO:List (Option (TypeId×Tv.Ty))):AV->aH->dV:=ae4 217 Z7 tO
theorem GW:∀(l:List AV),wV (l.map fK.val)=[]
 |[]=>rfl
 |_::l=>GW l
theorem Z9 (l:List Tok)(op en sz:Int)(s:TS)(e f:Int)(vs:List AV):wV (BL l op en sz s e f++vs.map fK.val)=[s.put.length,0]:=by
 show s.put.length::0::wV (vs.map fK.val)=_;rw[GW]
theorem vm (n:Nat):∀(l:List AV),Tv.cellsIn n (l.map fK.val)=l
 |[]=>rfl
 |v::l=>by show v::Tv.cellsIn n (l.map fK.val)=_;rw[vm n l]
theorem aaa (l:List Tok)(op en sz:Int)(s:TS)(e f:Int)(vs:List AV):(Tv.cellsIn 1 (BL l op en sz s e f++vs.map fK.val)).drop Z7.length=vs:=by
 show Tv.cellsIn 3 (vs.map fK.val)=vs;exact vm 3 vs
theorem OB {id:FuncId}(hk:lt.inl id=true){M:List xX}{N:List rL}(hM:jx X0 gW M)(hN:js X0 gW N){F:FTm}{FQ tO:List (Option (TypeId×Tv.Ty))}
 (h:∀l op en sz s args q rs,F l op en s args=some (true,q,rs)->args.length=FQ.length->∃(vs ws:List AV) (an:eD) (rounds:Nat),args=vs.map .val/\rs=ws.map .val/\aT X0 (cN M N _) an rounds id (.ptr 0 0::vs) (jg 217 14 (BL l op en sz s 0 0++vs.map .val)) (SD tO)=some (BL l op en sz q.2.2 q.1 q.2.1++ws.map .val,[q.2.2.put.length,0])) :
 iB X0 gW id (cTm F FQ) :=
 Z4 (tO:=tO) (nk hk) (kA hM hN) λins outs rs hg hl=>by
  obtain⟨l,op,en,sz,s,args,q,rfl,hF,rfl⟩:=Z8 hg;obtain⟨vs,ws,an,rounds,rfl,rfl,hrun⟩:=h l op en sz s args q rs hF (by
   rw[aA,aA]at hl;have:(BL l op en sz s 0 0).length=Z7.length:=rfl;omega)
  refine⟨an,rounds,_,?_,(Z9 _ _ _ _ _ _ _ ws).symm⟩;rw[aaa];exact hrun
def lf (b:AV)(l:List Tok)(op en sz:Int)(s:TS)(e f:Int)(n:Nat):dV:=some (BL l op en sz s e f++[.val b],[n,0])
def mTm (l:List Tok)(op en sz:Int)(n:Nat)(s:TS):aH:=ZX [.cells 217 [.dW dJ l,.int .i64 op,.int .i64 en,.int .i64 s.bc,.int .i64 s.bn,.int .i64 s.ic,.int .i64 s.ix,.int .i64 s.sc,.int .i64 0,.int .i64 sz,.own 1 n,.own 2 0,.int .i64 0,.int .i64 0],.list 96 dJ s.put 0 false false,.list 89 fL [] 0 false false]
def pSt:List Bool:=[true,true,false,true,false]
def afe:eD:=⟨gZ [0,5,6] pSt,.none,[]⟩
def jSt (l:List Tok)(op en sz:Int)(s:TS)(n r m:Nat)(a d:Int):dV:=jf X0 (cN P2 [] _) afe r 181 pSt (SD [none]) m (lz 70 [(0,.ptr 0 0),(5,.int .i64 d),(6,.int .i64 a)]) (mTm l op en sz n s)
def OC (l:List Tok)(en:Int)(J:Int->Int->dV)(L:Int->dV)(a d:Int):dV :=
 let nx:=J (IntKind.wrap .i64 (a+1)) d
 let yes:=Option.rec (motive:=λ_=>dV) none (λy=>ah (Cn y) (L a) nx) (dX l (IntKind.wrap .i64 (a-1)))
 ah (bB a en) (ah (!bB a 0) (ah (dF l a [40]) (J (IntKind.wrap .i64 (a+1)) (IntKind.wrap .i64 (d+1))) (ah (!bB a 0) (ah (dF l a [41]) (J (IntKind.wrap .i64 (a+1)) (mx d))
  (ah (bI d 0) (ah (!bB a 0) (ah (dF l a [43]) yes (ah (!bB a 0) (ah (dF l a [45]) yes nx) none)) none) nx)) none)) none) (L en)
theorem Wy (l:List Tok)(op en sz:Int)(s:TS)(n r m:Nat)(a d:Int):jSt l op en sz s n r (m+1) a d=OC l en (jSt l op en sz s n r m) (λv=>lf (.int .i64 v) l op en sz s 0 0 n) a d:=by kernel_rfl
theorem aab (l:List Tok)(op en sz:Int)(s:TS)(r:Nat)(a:Int):aT X0 (cN P2 [] _) afe r 181 [.ptr 0 0,.int .i64 a] (jg 217 14 (BL l op en sz s 0 0++[.val (.int .i64 a)])) (SD [none])=jSt l op en sz s s.put.length r r a 0:=by kernel_rfl
theorem aff {l:List Tok}{op en sz:Int}{s:TS}{n r:Nat}(hl:l.length<=2000000)(he0:0<=en)(TV:en<=l.length):∀(rest q:List Tok) (p:Tok) (m:Nat) (d:Int),l.take en.toNat=q++p::rest->rest.length<m->0<=d->d<=q.length ->
 jSt l op en sz s n r m ((q.length:Nat)+1:Int) d=lf (.int .i64 (tn en p rest ((q.length:Nat)+1:Int) d)) l op en sz s 0 0 n:=by
 intro rest;induction rest with
 |nil =>
  intro q p m d he hm h0 h1;obtain⟨m,rfl⟩:∃m',m=m'+1:=⟨m-1,by simp at hm;omega⟩;have hle:=cn List.length he;simp only[bZ,aA,aJ,bD]at hle;have hen:en=(q.length:Int)+1:=by omega
  rw[Wy];unfold OC;simp only;rw[fG (by omega)];rfl
 |cons c rest ih =>
  intro q p m d he hm h0 h1;obtain⟨m,rfl⟩:∃m',m=m'+1:=⟨m-1,by simp at hm;omega⟩;have hle:=cn List.length he;simp only[bZ,aA,aJ]at hle;have hlt:(q.length:Int)+1<en:=by omega
  have hx:l=q++p::c::(rest++l.drop en.toNat):=by
   have:=(eX en.toNat l).symm;rw[he]at this;simpa using this
  have ih':∀d',0<=d'->d'<=(q.length:Int)+1->jSt l op en sz s n r m ((q.length:Int)+1+1) d'=lf (.int .i64 (tn en c rest ((q.length:Int)+1+1) d')) l op en sz s 0 0 n:=λd' q0 q1=>by
   have:=ih (q++[p]) c m d' (by rw[he];simp) (by simp at hm;omega) q0 (by simp;omega);rw[show ((q++[p]).length:Nat)=q.length+1 by simp]at this;exact this
  have hs:∀t,dF l ((q.length:Nat)+1:Int) t=pJ c t:=λt=>by
   have:=Qu (q++[p]) (rest++l.drop en.toNat) c t;rw[show q++[p]++c::(rest++l.drop en.toNat)=l by rw[bQ];exact hx.symm]at this;rw[<-this];simp
  have hp:dX l (((q.length:Nat)+1:Int)-1)=some p:=by
   rw[show ((q.length:Nat)+1:Int)-1=(q.length:Nat) by omega];have:=lX q (c::(rest++l.drop en.toNat)) p;rw[<-hx]at this;exact this
  rw[Wy];unfold OC;simp only;rw[pL hlt,fG (a:=((q.length:Nat)+1:Int)) (b:=0) (by omega),i64_in (n:=((q.length:Nat)+1:Int)+1) (by omega) (by omega),i64_in (n:=((q.length:Nat)+1:Int)-1) (by omega) (by omega),i64_in (n:=d+1) (by omega) (by omega),acE h0 (by omega),hs,hs,hs,hs,hp];rw[ih' (d+1) (by omega) (by omega),ih' d h0 (by omega),ih' (if 0<d-1 then d-1 else 0) (by split<;>omega) (by split<;>omega)];rw[show tn en p (c::rest) ((q.length:Nat)+1:Int) d=if pJ c [40]=true then tn en c rest ((q.length:Int)+1+1) (d+1) else if pJ c [41]=true then tn en c rest ((q.length:Int)+1+1) (if 0<d-1 then d-1 else 0) else if d=0/\(pJ c [43]=true\/pJ c [45]=true)/\Cn p=true then ((q.length:Nat)+1:Int) else tn en c rest ((q.length:Int)+1+1) d from rfl]
  rw[ck];cases pJ c [40] with
  |true=>rfl
  |false =>
   cases pJ c [41] with
   |true=>rfl
   |false =>
    by_cases hd:d=0
    .rw[ag hd];simp only[ct,dY,hd,jv];cases pJ c [43]<;>cases pJ c [45]<;>cases Cn p<;>rfl
    rw[aa hd];simp only[hd,ct,dY,false_and];rfl
def fSt:FTm:=λl _ en s args=>match args with
 |[.val (.int .i64 a)]=>some (Nat.ble l.length 2000000 && !bB a 1 && !bB en a && !bB l.length en,(0,0,s),[.val (.int .i64 (fP l a en))])
 |_=>none
theorem afg:iB X0 gW 181 (cTm fSt [none]) :=
 OB rfl Cp n0 (tO:=[none]) λl op en sz s args q rs hF hal=>by
  unfold fSt at hF;split at hF;case h_2=>cases hF
  rename_i a;simp only[aq,ax,ak,aS]at hF;obtain⟨⟨⟨⟨g0,g1⟩,g2⟩,g3⟩,rfl,rfl⟩:=hF;have g0:=az g0;have g1:=I9 g1;have g2:=I9 g2;have g3:=I9 g3;refine⟨[.int .i64 a],[.int .i64 (fP l a en)],afe,l.length+1,rfl,rfl,?_⟩;have h1:=aab l op en sz s (l.length+1) a;rw[show ([AV.int .i64 a].map fK.val)=[fK.val (.int .i64 a)] from rfl];rw[h1];obtain⟨p,hp⟩:∃p,at? l (a-1)=some p:=by
   cases jw:at? l (a-1) with
   |some p=>exact⟨p,rfl⟩
   |none=>have:=jt (by omega) jw;omega
  have hk:(a-1).toNat+1=a.toNat:=by omega
  have hpl:l[(a-1).toNat]? = some p:=by
   have:at? l (((a-1).toNat:Nat):Int)=some p:=by rw[show (((a-1).toNat:Nat):Int)=a-1 by omega];exact hp
   exact this
  have hlt:(a-1).toNat<l.length:=by omega
  have e1:l.take a.toNat=l.take (a-1).toNat++[p]:=by
   rw[<-hk,List.take_add_one,hpl];rfl
  have e2:l.take en.toNat=l.take (a-1).toNat++p::(l.take en.toNat).drop a.toNat:=by
   have h3:=eX a.toNat (l.take en.toNat);have h4:(l.take en.toNat).take a.toNat=l.take (a-1).toNat++[p]:=by rw[o5,gm (by omega),e1]
   rw[h4,bQ]at h3;exact h3.symm
  have hq:((l.take (a-1).toNat).length:Int)=a-1:=by rw[bZ];omega
  have:=aff (l:=l) (op:=op) (en:=en) (sz:=sz) (s:=s) (n:=s.put.length) (r:=l.length+1) g0 (by omega) g3 ((l.take en.toNat).drop a.toNat) (l.take (a-1).toNat) p (l.length+1) 0 e2 (by rw[bR,bZ];omega) (bx 0) (by omega);rw[hq,show a-1+1=a by omega]at this;rw[this];unfold fP;rw[hp];rfl
def NS:List rL:=[(181,cTm fSt [none])]
theorem acF:js X0 gW NS:=.cons afg .nil
section
variable (l:List Tok) (op en sz:Int) (sg:List UInt8)
def lfO (o:qL):dV:=lf (.bool o.1) l op en sz o.2.2.2 o.2.1 o.2.2.1 o.2.2.2.put.length
def flC (s:TS)(e f:Int):dV:=lf (.bool false) l op en sz s e f s.put.length
def Om (s:TS)(n:Nat):dV:=lf (.bool true) l op en sz s 0 0 n
def atR (i:Int)(k:Tok->dV):dV:=Option.rec (motive:=λ_=>dV) none k (dX l i)
def Jd (r:Rg)(a:Int)(s:TS):dV :=
 ah (decide (sg=[45])) (flC l op en sz s 2 a) (ah (decide (s.bc=0)&&decide (s.bn=0)) (Om l op en sz { s with bc:=r.1,bn:=r.2 } s.put.length)
  (ah (decide (s.ic=0)&&decide (s.ix=0)) (Om l op en sz { s with ic:=r.1,ix:=r.2,sc:=1 } s.put.length) (flC l op en sz s 2 a)))
def De (r:Rg)(a num:Int)(s:TS):dV :=
 ah (decide (sg=[45])) (flC l op en sz s 2 a) (ah (!(decide (s.ic=0)&&decide (s.ix=0))) (flC l op en sz s 2 a)
  (atR l num λy=>[1,2,4].foldr (λq rest=>ah (bI y.2.1 q) (ah (bI y.2.1 q) (Om l op en sz { s with ic:=r.1,ix:=r.2,sc:=y.2.1 } s.put.length) (flC l op en sz s 2 num)) rest)
   (ah (bI y.2.1 8) (Om l op en sz { s with ic:=r.1,ix:=r.2,sc:=y.2.1 } s.put.length) (flC l op en sz s 2 num))))
def OD (a b:Int)(s:TS):dV :=
 (λfin:List Tok->Nat->dV=>(λone:dV=>ah (decide (sg=[45])) one (ah (bB 0 s.put.length) one (fin s.put s.put.length)))
  (ah (Nat.ble (s.put.length+1) 2000000) (fin (s.put++[FP sg]) (s.put.length+1)) none))
  (λp _=>ah (Nat.ble (p.length+1) 2000000) (ah (!bB a 0 && !bB b a && !bB (Int.ofNat l.length) b) (ah (bI a 0||bB a (Int.ofNat l.length))
   (ah (Nat.ble ((p++[FP [40]]).length+(eA l a b).length) 2000000) (ah (Nat.ble ((p++[FP [40]]++eA l a b).length+1) 2000000)
    (Om l op en sz { s with put:=p++[FP [40]]++eA l a b++[FP [41]] } ((p++[FP [40]]++eA l a b).length+1)) none) none) none) none) none)
def afi (a b:Int)(s:TS):dV :=
 (λYD:dV=>(λsecond:dV =>
  ah (bI (IntKind.wrap .i64 (b-a)) 0) (flC l op en sz s 4 a)
   (ah (bI (IntKind.wrap .i64 (b-a)) 1) (atR l a λy=>ah (qU y [114,105,112]) (Jd l op en sz sg (8,0) a s) (atR l a λy=>ah (qe rp y).isSome (Jd l op en sz sg ((qe rp y).getD (0,0)) a s) YD))
   (ah (bI (IntKind.wrap .i64 (b-a)) 3) (ah (!bB (IntKind.wrap .i64 (a+1)) 0) (ah (!dF l (IntKind.wrap .i64 (a+1)) [42]) YD
    (atR l a λy=>ah (qe rp y).isSome (atR l (IntKind.wrap .i64 (a+2)) λz=>ah (bI z.1 2) (De l op en sz sg ((qe rp y).getD (0,0)) a (IntKind.wrap .i64 (a+2)) s) second) second)) none) YD)))
  (atR l (IntKind.wrap .i64 (a+2)) λy=>ah (qe rp y).isSome (atR l a λz=>ah (bI z.1 2) (De l op en sz sg ((qe rp y).getD (0,0)) a a s) YD) YD))
  (OD l op en sz sg a b s)
end
theorem aac (l:List Tok)(op en sz:Int)(sg:List UInt8)(a b bc bn ic ix sc:Int)(put:List Tok):aT X0 (cN P2 NS _) ia 5 182 [.ptr 0 0,.str sg,.int .i64 a,.int .i64 b] (jg 217 14 (BL l op en sz ⟨bc,bn,ic,ix,sc,put⟩ 0 0++[.val (.str sg),.val (.int .i64 a),.val (.int .i64 b)])) (SD [none])=afi l op en sz sg a b ⟨bc,bn,ic,ix,sc,put⟩:=by kernel_rfl
theorem um {α:Type}{p:Prop}[Decidable p](x y:α):ah (decide p) x y=if p then x else y:=by rw[av];simp
theorem GX {α:Type}{p q:Prop}[Decidable p][Decidable q](x y:α):ah (decide p&&decide q) x y=if p/\q then x else y:=by rw[av];simp
theorem OE {α:Type}{p q:Prop}[Decidable p][Decidable q](x y:α):ah (!(decide p&&decide q)) x y=if p/\q then y else x:=by
 rw[av];by_cases h:p/\q
 .rw[ag h,aa];simp[h.1,h.2]
 rw[aa h,ag];by_cases hp:p
 .have hq:¬q:=λhq=>h ⟨hp,hq⟩
  simp[hq]
 simp[hp]
structure BT (l:List Tok)(en a b:Int)(s:TS):Prop where
 len:l.length<=200000
 a0:0<=a
 ab:a<=b
 be:b<=en
 el:en<l.length
 put:s.put.length<=4*a
section
variable {l:List Tok} {op en sz:Int} {sg:List UInt8} {a b:Int} {s:TS}
theorem GY (r:Rg):Jd l op en sz sg r a s=lfO l op en sz (mG sg r a s):=by
 unfold Jd mG;rw[um,GX,GX];split
 .rfl
 split
 .rfl
 split<;>rfl
theorem sJ {i:Int}{t:Tok}(h:at? l i=some t)(k:Tok->dV):atR l i k=k t:=by
 unfold atR;rw[getI_at?,h]
theorem ES (r:Rg){num:Int}{t:Tok}(h:at? l num=some t):De l op en sz sg r a num s=lfO l op en sz (iW sg r a num t.2.1 s):=by
 unfold De iW;rw[um,OE,sJ h];by_cases h1:sg=[45]
 .rw[ag h1,ag (.inl h1)];rfl
 rw[aa h1];by_cases h2:s.ic=0/\s.ix=0
 .rw[ag h2,aa (show ¬(sg=[45]\/¬(s.ic=0/\s.ix=0)) from λh=>h.elim h1 λh=>h h2)];simp only[fB,j8,ck];unfold qu;by_cases hs:t.2.1=1\/t.2.1=2\/t.2.1=4\/t.2.1=8
  .rw[bf hs,ag rfl];rcases hs with h|h|h|h<;>(rw[h];rfl)
  rw[aU hs,aa mD];simp only[kK]at hs;obtain⟨q1,q2,q3,q4⟩:=hs;rw[aa q1,aa q2,aa q3,aa q4];rfl
 rw[aa h2,ag (.inr h2)];rfl
theorem SE (h:BT l en a b s):OD l op en sz sg a b s=lfO l op en sz (qV l sg a b s):=by
 have g1:=h.len;have g2:=h.a0;have g3:=h.ab;have g4:=h.be;have g5:=h.el;have g6:=h.put;have Sh:(eA l a b).length<=(b-a).toNat:=by unfold eA;rw[bZ];omega
 have fin:∀p:List Tok,p.length<=s.put.length+1->(ah (Nat.ble (p.length+1) 2000000) (ah (!bB a 0 && !bB b a && !bB (Int.ofNat l.length) b) (ah (bI a 0||bB a (Int.ofNat l.length))
  (ah (Nat.ble ((p++[FP [40]]).length+(eA l a b).length) 2000000) (ah (Nat.ble ((p++[FP [40]]++eA l a b).length+1) 2000000)
   (Om l op en sz { s with put:=p++[FP [40]]++eA l a b++[FP [41]] } ((p++[FP [40]]++eA l a b).length+1)) none) none) none) none) none) =
  lfO l op en sz (okO { s with put:=p++[FP [40]]++Oq l a b++[FP [41]] }):=λp hp=>by
  have i1:Int.ofNat l.length=(l.length:Int):=rfl;rw[i1,ee (by omega),fG g2,fG g3,fG (show b<=(l.length:Int) by omega),pL (show a<(l.length:Int) by omega),Bool.or_true,ee (by simp;omega),ee (by simp;omega)];show Om _ _ _ _ _ _=lf _ _ _ _ _ _ _ _ _;unfold Om okO;simp only;have:(p++[FP [40]]++eA l a b).length+1=(p++[FP [40]]++Oq l a b++[FP [41]]).length:=by simp[Oq,eA];omega
  rw[this];rfl
 unfold OD;simp only;rw[fin s.put (by omega),fin (s.put++[FP sg]) (by simp),ee (by omega),um,cG];unfold qV;by_cases h1:sg=[45]
 .rw[ag h1,ag (.inl h1)]
 rw[aa h1];by_cases h2:s.put=[]
 .rw[aa (by rw[h2];simp),aa (show ¬(sg=[45]\/s.put≠[]) from λh=>h.elim h1 λh=>h h2)]
 rw[ag (by have:0<s.put.length:=dG.2 h2;omega),ag (.inr h2)]
theorem aad (h:BT l en a b s):afi l op en sz sg a b s=lfO l op en sz (mP rp l sg a b s):=by
 have g1:=h.len;have g2:=h.a0;have g3:=h.ab;have g4:=h.be;have g5:=h.el;have tq:∀i:Int,0<=i->i<l.length->∃t,at? l i=some t:=λi h0 h1=>by
  cases jw:at? l i with
  |some t=>exact⟨t,rfl⟩
  |none=>have:=jt h0 jw;omega
 unfold afi mP;simp only;rw[SE h,i64_in (n:=b-a) (by omega) (by omega),i64_in (n:=a+1) (by omega) (by omega),i64_in (n:=a+2) (by omega) (by omega),ck,ck,ck];by_cases h0:b-a=0
 .rw[ag h0,ag h0];rfl
 rw[aa h0,aa h0];obtain⟨t,ht⟩:=tq a g2 (by omega);by_cases h1:b-a=1
 .rw[ag h1,ag h1,ht];rw[sJ ht,sJ ht];simp only;rw[av];by_cases hn:qU t [114,105,112]=true
  .rw[ag hn,ag hn,GY]
  rw[aa hn,aa hn];cases hr:qe rp t with
  |none=>rfl
  |some r=>exact GY r
 rw[aa h1,aa h1];by_cases h3:b-a=3
 .rw[ag h3,fG (show (0:Int)<=a+1 by omega)];obtain⟨u,hu⟩:=tq (a+2) (by omega) (by omega);cases hs:dF l (a+1) [42] with
  |false=>rw[aa (show ¬(b-a=3/\false=true) from λh=>by cases h.2)];rfl
  |true =>
   rw[ag (⟨h3,rfl⟩:b-a=3/\true=true),ht,hu];show atR l a _=_;rw[sJ ht,sJ hu,sJ hu];simp only;rw[sJ ht,ck,ck,ES _ hu,ES _ ht];by_cases hu2:u.1=2<;>by_cases ht2:t.1=2<;>simp only[ag,aa,hu2,ht2]<;>cases hr:qe rp t<;>cases hq:qe rp u<;>rfl
 rw[aa h3,aa (show ¬(b-a=3/\dF l (a+1) [42]=true) from λh=>h3 h.1)]
end
def fOn:FTm:=λl _ en s args=>match args with
 |[.val (.str sg),.val (.int .i64 a),.val (.int .i64 b)]=>some (Nat.ble l.length 200000 && !bB a 0 && !bB b a && !bB en b&&bB en l.length && !bB (4*a) s.put.length,((mP rp l sg a b s).2.1,(mP rp l sg a b s).2.2.1,(mP rp l sg a b s).2.2.2),[.val (.bool (mP rp l sg a b s).1)])
 |_=>none
theorem afj:iB X0 gW 182 (cTm fOn [none,none,none]) :=
 OB rfl Cp acF (tO:=[none]) λl op en sz s args q rs hF hal=>by
  unfold fOn at hF;split at hF;case h_2=>cases hF
  rename_i sg a b;simp only[aq,ax,ak,aS]at hF;obtain⟨⟨⟨⟨⟨⟨g0,g1⟩,g2⟩,g3⟩,g4⟩,g5⟩,rfl,rfl⟩:=hF;have g0:=az g0;have g1:=I9 g1;have g2:=I9 g2;have g3:=I9 g3;have g4:en<l.length:=by rw[cB]at g4;simpa using g4
  have g5:=I9 g5;refine⟨[.str sg,.int .i64 a,.int .i64 b],[.bool (mP rp l sg a b s).1],ia,5,rfl,rfl,?_⟩;have h1:=aac l op en sz sg a b s.bc s.bn s.ic s.ix s.sc s.put;rw[aad ⟨g0,g1,g2,g3,g4,g5⟩]at h1;exact h1
end
end Go.Proofs.YtfggompceldfgaaGreatDoor.ps

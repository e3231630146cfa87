/- Operands: contracts of small functions. -/
import Derived.Test.YtbeckacfibledaaGreatDoorGrc
import Derived.Test.YtbeckacfibledaaGreatDoorGxa
import Derived.Test.YtbeckacfibledaaGreatDoorLyh
set_option linter.unusedVariables false
set_option linter.unusedSimpArgs false

namespace Go.Proofs.YtbeckacfibledaaGreatDoor.ps
open Go.Tv Go.Ev Go.Px Go.Pp Go.Proofs.YtbeckacfibledaaGreatDoor.ex
set_option maxRecDepth 100000
noncomputable section
abbrev rp:au->Int×Int×Bool:=rg.pR
theorem nk {f:FuncId}(h:lt.inl f=true):∀args,lt.kn f args=none:=λargs=>lt.cn h args
def gTS (f:Tok->au->Bool)(args:aI):Option (Bool×List gj) :=
 match args with
 |[.agg [.int .i64 k,.int .i64 n,.str s,.int .i64 a],.str t]=>some (true,[.val (.bool (f (k,n,s,a) t))])
 |_=>none
theorem Rb:dQ X0 gR 156 (gTS oO) :=
 dG (nk rfl) (kP yo n0) λargs rs b=>by
  unfold gTS at b;split at b
  .rename_i k n s a t;simp only[aq,az]at b;obtain⟨_,rfl⟩:=b;refine⟨[.bool (oO (k,n,s,a) t)],gC,5,?_,rfl,rfl⟩;have h:aT X0 (cN M6 [] AV) gC 5 156 [.agg [.int .i64 k,.int .i64 n,.str s,.int .i64 a],.str t] aH.empty (λv _=>some v)=ah (bS k 1) (some (.bool (decide (s=t)))) (some (.bool false)):=by kernel_rfl
   rw[h,cH];unfold oO;by_cases c:k=1
   .rw[ag c,bg c];rfl
   rw[aa c,aY c];rfl
  cases b
def gTB (f:Tok->Bool)(args:aI):Option (Bool×List gj) :=
 match args with
 |[.agg [.int .i64 k,.int .i64 n,.str s,.int .i64 a]]=>some (true,[.val (.bool (f (k,n,s,a)))])
 |_=>none
theorem Zp:dQ X0 gR 179 (gTB DM) :=
 dG (nk rfl) (kP yo n0) λargs rs b=>by
  unfold gTB at b;split at b
  .rename_i k n s a;simp only[aq,az]at b;obtain⟨_,rfl⟩:=b;refine⟨[.bool (DM (k,n,s,a))],gC,5,?_,rfl,rfl⟩;have h:aT X0 (cN M6 [] AV) gC 5 179 [.agg [.int .i64 k,.int .i64 n,.str s,.int .i64 a]] aH.empty (λv _=>some v)=ah (!bS k 4) (some (.bool true)) (ah (decide (s=[36])) (some (.bool true)) (ah (decide (s=[36,36])) (some (.bool true)) (some (.bool (decide (s=[41])))))):=by kernel_rfl
   rw[h,cF];unfold DM;by_cases c:k=4
   .rw[ag c,bg c];show _=some (AV.bool (false||(decide (s=[36])||(decide (s=[36,36])||decide (s=[41])))));cases decide (s=[36])<;>cases decide (s=[36,36])<;>rfl
   rw[aa c,aY c];rfl
  cases b
theorem adG:dQ X0 gR 143 (AK λt=>[.val (.agg [.int .i64 ((qb rp t).getD (0,0)).1,.int .i64 ((qb rp t).getD (0,0)).2]),.val (.bool (qb rp t).isSome)]) :=
 dG (nk rfl) (kP yo n0) λargs rs b=>by
  unfold AK at b;split at b
  .rename_i k n s a;simp only[aq,az]at b;obtain⟨_,rfl⟩:=b;refine⟨[.agg [.int .i64 ((qb rp (k,n,s,a)).getD (0,0)).1,.int .i64 ((qb rp (k,n,s,a)).getD (0,0)).2],.bool (qb rp (k,n,s,a)).isSome],gC,5,?_,rfl,rfl⟩;have h:aT X0 (cN M6 [] AV) gC 5 143 [.agg [.int .i64 k,.int .i64 n,.str s,.int .i64 a]] aH.empty (λv _=>some v)=(λno=>ah (!bS k 1) no (ah (!(rp s).2.2) no (ah (bS (rp s).1 8) no (some (.gI [.agg [.int .i64 (rp s).1,.int .i64 (rp s).2.1],.bool true])))))
    (some (.gI [.agg [.int .i64 0,.int .i64 0],.bool false])):=by kernel_rfl
   rw[h];simp only[cF,cH];have e:qb rp (k,n,s,a)=if k=1/\(rp s).2.2=true/\(rp s).1≠8 then some ((rp s).1,(rp s).2.1) else none:=rfl;rw[e];by_cases c:k=1
   .rw[ag c];cases f:(rp s).2.2 with
    |false=>rw[aa (show ¬(k=1/\false=true/\(rp s).1≠8) from λh=>by cases h.2.1)];rfl
    |true =>
     by_cases d:(rp s).1=8
     .rw[ag d,aa (show ¬(k=1/\true=true/\(rp s).1≠8) from λh=>h.2.2 d)];rfl
     rw[aa d,ag ⟨c,rfl,d⟩];rfl
   rw[aa c,aa (show ¬(k=1/\(rp s).2.2=true/\(rp s).1≠8) from λh=>c h.1)];rfl
  cases b
theorem Zq:dQ X0 gR 114 (AK λt=>[.val (.int .i64 (rq t).1),.val (.int .i64 (rq t).2)]) :=
 dG (nk rfl) (kP yo n0) λargs rs b=>by
  unfold AK at b;split at b
  .rename_i k n s a;simp only[aq,az]at b;obtain⟨_,rfl⟩:=b;refine⟨[.int .i64 (rq (k,n,s,a)).1,.int .i64 (rq (k,n,s,a)).2],gC,5,?_,rfl,rfl⟩;have h:aT X0 (cN M6 [] AV) gC 5 114 [.agg [.int .i64 k,.int .i64 n,.str s,.int .i64 a]] aH.empty (λv _=>some v)=ah (!bS k 1) (some (.gI [.int .i64 0,.int .i64 0])) (Tn.foldr (λq r=>ah (decide (s=q.1)) (some (.gI [.int .i64 q.2.1,.int .i64 q.2.2])) r) (some (.gI [.int .i64 0,.int .i64 0]))):=by kernel_rfl
   rw[h,cF];have e:rq (k,n,s,a)=if k=1 then me s Tn else (0,0):=rfl;rw[e];by_cases c:k=1
   .rw[ag c,ag c];have:∀l:List (au×Int×Int),l.foldr (λq r=>ah (decide (s=q.1)) (some (AV.gI [.int .i64 q.2.1,.int .i64 q.2.2])) r) (some (.gI [.int .i64 0,.int .i64 0]))=some (AV.gI [.int .i64 (me s l).1,.int .i64 (me s l).2]):=λl=>by
     induction l with
     |nil=>rfl
     |cons q l f =>
      rw[gw,f,ay,show me s (q::l)=if s=q.1 then q.2 else me s l from rfl];by_cases d:s=q.1
      .rw[ag (by simpa using d),ag d]
      rw[aa (by simpa using d),aa d]
    exact this Tn
   rw[aa c,aa c];rfl
  cases b
def gSA (args:aI):Option (Bool×List gj) :=
 match args with
 |[L,.int .i64 a,.str s]=>match IX eE L with
  |some l=>some (!bN a 0,[.val (.bool (dK l a s))])
  |none=>none
 |_=>none
theorem Lm (t:Tok)(s:au):qP t s=(bS t.1 4&&decide (t.2.2.1=s)):=by
 unfold qP;have e:(t.1==4)=decide (t.1=4):=by rw[bX];simp
 rw[fD,e]
theorem kM {α:Type}{l:List α}{a:Int}(b:0<=a)(h:at? l a=none):(l.length:Int)<=a:=by
 unfold at? at h;split at h
 .have:=iC.1 h;simp;omega
 omega
theorem Rc:dQ X0 gR 117 gSA :=
 dG (nk rfl) (kP yo n0) λargs rs b=>by
  unfold gSA at b;split at b;case h_2=>cases b
  rename_i L a s;split at b;case h_2=>cases b
  rename_i l e;simp only[aq,az,aU]at b;obtain⟨c,rfl⟩:=b;have c:0<=a:=by rw[dc]at c;simpa using c
  refine⟨[.bool (dK l a s)],gC,5,?_,rfl,rfl⟩;have h:aT X0 (cN M6 [] AV) gC 5 117 [L,.int .i64 a,.str s] aH.empty (λv _=>some v)=ah (bN a l.length) (Option.rec (motive:=λ_=>bx) none (λy=>ah (bS y.1 4) (Option.rec (motive:=λ_=>bx) none (λy=>some (.bool (decide (y.2.2.1=s)))) (eL l a)) (some (.bool false))) (eL l a)) (some (.bool false)):=by
   rw[jn e]
   kernel_rfl
  rw[h,de,getI_at?];unfold dK;cases d:at? l a with
  |none=>rw[aa (by have:=kM c d;omega)];rfl
  |some t =>
   rw[ag (jR d).2];simp only;rw[Lm];cases bS t.1 4<;>rfl
def Eb (l:aX)(a:Int):Int×Bool:=match at? l a with
 |some t=>if t.1=1 then nm.lW t.2.2.1 else (0,false)
 |none=>(0,false)
def gMn (args:aI):Option (Bool×List gj) :=
 match args with
 |[L,.int .i64 a]=>match IX eE L with
  |some l=>some (!bN a 0,[.val (.int .i64 (Eb l a).1),.val (.bool (Eb l a).2)])
  |none=>none
 |_=>none
theorem aja:dQ X0 gR 113 gMn :=
 dG (nk rfl) (kP yo n0) λargs rs b=>by
  unfold gMn at b;split at b;case h_2=>cases b
  rename_i L a;split at b;case h_2=>cases b
  rename_i l f;simp only[aq,az,aU]at b;obtain⟨c,rfl⟩:=b;have c:0<=a:=by rw[dc]at c;simpa using c
  refine⟨[.int .i64 (Eb l a).1,.bool (Eb l a).2],gC,5,?_,rfl,rfl⟩;have h:aT X0 (cN M6 [] AV) gC 5 113 [L,.int .i64 a] aH.empty (λv _=>some v)=ah (!bN a l.length) (some (.gI [.int .i64 0,.bool false])) (Option.rec (motive:=λ_=>bx) none (λy=>ah (!bS y.1 1) (some (.gI [.int .i64 0,.bool false])) (Option.rec (motive:=λ_=>bx) none (λy=>some (.gI [.int .i64 (nm.lW y.2.2.1).1,.bool (nm.lW y.2.2.1).2])) (eL l a))) (eL l a)):=by
   rw[jn f]
   kernel_rfl
  rw[h,jM,getI_at?];unfold Eb;cases e:at? l a with
  |none=>rw[ag (kM c e)];rfl
  |some t =>
   rw[aa (by have:=(jR e).2;omega)];simp only[cF];by_cases d:t.1=1
   .rw[ag d,ag d];rfl
   rw[aa d,aa d];rfl
def gNB (f:Int->Bool)(args:aI):Option (Bool×List gj) :=
 match args with
 |[.int .i64 n]=>some (true,[.val (.bool (f n))])
 |_=>none
theorem Rd {f:FuncId}{p:Int->Bool}(b:lt.inl f=true)(h:∀n,aT X0 (cN M6 [] AV) gC 5 f [.int .i64 n] aH.empty (λv _=>some v)=some (.bool (p n))):dQ X0 gR f (gNB p) :=
 dG (nk b) (kP yo n0) λargs rs a=>by
  unfold gNB at a;split at a
  .rename_i n;simp only[aq,az]at a;obtain⟨_,rfl⟩:=a;exact⟨[.bool (p n)],gC,5,h n,rfl,rfl⟩
  cases a
theorem ajb:dQ X0 gR 116 (gNB uU):=Rd rfl λn=>by
 have h:aT X0 (cN M6 [] AV) gC 5 116 [.int .i64 n] aH.empty (λv _=>some v)=ah (bS n 53) (some (.bool true)) (ah (bS n 54) (some (.bool true)) (ah (!bN n 68) (some (.bool (!bN 83 n))) (some (.bool false)))):=by kernel_rfl
 rw[h];unfold uU;simp only[cH,jM];by_cases a:n=53
 .rw[ag a,bg a];rfl
 rw[aa a,aY a];by_cases b:n=54
 .rw[ag b,bg b];rfl
 rw[aa b,aY b,Bool.false_or,Bool.false_or];by_cases c:68<=n
 .rw[ag c,dc];refine bO (λx=>some (AV.bool x)) ?_;rw[bX];simp;omega
 rw[aa c,aY (by omega)]
theorem Vz:dQ X0 gR 183 (gNB sizedB):=Rd rfl λn=>by
 have h:aT X0 (cN M6 [] AV) gC 5 183 [.int .i64 n] aH.empty (λv _=>some v)=[0,1,2,4,8,16].foldr (λq r=>ah (bS n q) (ah (bS n q) (some (.bool true)) (some (.bool false))) r) (ah (bS n 32) (some (.bool true)) (some (.bool false))):=by kernel_rfl
 rw[h];unfold sizedB;simp only[gw,lP,cH];by_cases a:n=0\/n=1\/n=2\/n=4\/n=8\/n=16\/n=32
 .rw[bg a];rcases a with rfl|rfl|rfl|rfl|rfl|rfl|rfl<;>rfl
 rw[aY a];simp only[mq]at a;obtain⟨b,c,d,e,f,g,i⟩:=a;rw[aa b,aa c,aa d,aa e,aa f,aa g,aa i]
theorem Re:dQ X0 gR 185 (gNB ru):=Rd rfl λn=>by
 have h:aT X0 (cN M6 [] AV) gC 5 185 [.int .i64 n] aH.empty (λv _=>some v)=[1,2,4,8].foldr (λq r=>ah (bS n q) (some (.bool true)) r) (some (.bool false)):=by kernel_rfl
 rw[h];unfold ru;simp only[gw,lP,cH];by_cases a:n=1\/n=2\/n=4\/n=8
 .rw[bg a];rcases a with rfl|rfl|rfl|rfl<;>rfl
 rw[aY a];simp only[mq]at a;obtain⟨b,c,d,e⟩:=a;rw[aa b,aa c,aa d,aa e]
def gRB (f:Int->Int->Bool)(args:aI):Option (Bool×List gj) :=
 match args with
 |[.agg [.int .i64 c,.int .i64 n]]=>some (true,[.val (.bool (f c n))])
 |_=>none
theorem Zr {f:FuncId}{p:Int->Int->Bool}(b:lt.inl f=true)(h:∀c n,aT X0 (cN M6 [] AV) gC 5 f [.agg [.int .i64 c,.int .i64 n]] aH.empty (λv _=>some v)=some (.bool (p c n))):dQ X0 gR f (gRB p) :=
 dG (nk b) (kP yo n0) λargs rs a=>by
  unfold gRB at a;split at a
  .rename_i c n;simp only[aq,az]at a;obtain⟨_,rfl⟩:=a;exact⟨[.bool (p c n)],gC,5,h c n,rfl,rfl⟩
  cases a
def vl (c n:Int):Bool:=decide ((c=2/\4<=n/\n<8)\/(c=8/\0<=n/\n<1)\/((c=1\/c=3\/c=4\/c=5\/c=6\/c=7)/\0<=n/\n<16))
def inT (n a b:Int):bx:=ah (!bN n a) (some (.bool (bN n b))) (some (.bool false))
theorem ajc (n a b:Int):inT n a b=some (.bool (decide (a<=n/\n<b))):=by
 unfold inT;rw[jM,dc];by_cases h:a<=n
 .rw[ag h];refine bO (λx=>some (AV.bool x)) ?_;rw[fY];omega
 rw[aa h,aY (by omega)]
def Rh (c n:Int):bx:=ah (bS c 2) (inT n 4 8) (ah (bS c 8) (inT n 0 1) ([1,3,4,5,6].foldr (λq r=>ah (bS c q) (ah (bS c q) (inT n 0 16) (inT n 0 0)) r) (ah (bS c 7) (inT n 0 16) (inT n 0 0))))
theorem Jj (c n:Int):Rh c n=some (.bool (vl c n)):=by
 unfold Rh vl;simp only[gw,lP,cH,ajc];by_cases a:c=2
 .rw[ag a];refine bO (λx=>some (AV.bool x)) ?_;rw[fY];omega
 rw[aa a];by_cases b:c=8
 .rw[ag b];refine bO (λx=>some (AV.bool x)) ?_;rw[fY];omega
 rw[aa b];repeat' split
 all_goals (refine bO (λx=>some (AV.bool x)) ?_;rw[fY];omega)
theorem VA:dQ X0 gR 189 (gRB vl):=Zr rfl λc n=>by
 rw[<-Jj]
 kernel_rfl
theorem Zs:dQ X0 gR 184 (gRB yp):=Zr rfl λc n=>by
 have h:aT X0 (cN M6 [] AV) gC 5 184 [.agg [.int .i64 c,.int .i64 n]] aH.empty (λv _=>some v)=ah (bS c 5) (Rh c n) (some (.bool false)):=by kernel_rfl
 rw[h,cH,Jj];unfold yp vl;by_cases a:c=5
 .rw[ag a];refine bO (λx=>some (AV.bool x)) ?_;rw[fY];omega
 rw[aa a,aY (by omega)]
def P1:List xw:=(156,[none,none],gTS oO)::(179,[none],gTB DM)::(143,[none],AK λt=>[.val (.agg [.int .i64 ((qb rp t).getD (0,0)).1,.int .i64 ((qb rp t).getD (0,0)).2]),.val (.bool (qb rp t).isSome)]) ::
 (114,[none],AK λt=>[.val (.int .i64 (rq t).1),.val (.int .i64 (rq t).2)])::(117,[some eE,none,none],gSA)::(113,[some eE,none],gMn)::(116,[none],gNB uU) ::
 (183,[none],gNB sizedB)::(185,[none],gNB ru)::(189,[none],gRB vl)::(184,[none],gRB yp)::M6
theorem Zt:jy X0 gR P1:=.cons Rb (.cons Zp (.cons adG (.cons Zq (.cons Rc (.cons aja (.cons ajb (.cons Vz (.cons Re (.cons VA (.cons Zs yo))))))))))
def iV (n:Int):bx:=some (.int .i64 n)
def Ln (bc bn ic ix sc:Int):bx:=ah (yq ic ix) (iV 0) (ah (!yp ic ix) (iV 2) (ah (!ru sc) (iV 2) (ah (Oo bc bn) (iV 2) (ah (vm ic ix) (ah (!bS sc 1) (iV 2) (ah (vm bc bn) (iV 2) (iV 0))) (iV 0)))))
def Ov (bc bn ic ix sc:Int):bx:=ah (yq ic ix) (ah (!bS sc 0) (iV 2) (Ln bc bn ic ix sc)) (Ln bc bn ic ix sc)
def ckT (bc bn ic ix sc d sz:Int):bx:=ah (bN d (-2147483648)) (iV 5) (ah (bN 2147483647 d) (iV 5) (ah (!sizedB sz) (iV 2) (ah (!yq bc bn) (ah (!Oo bc bn) (ah (!yp bc bn) (iV 2) (Ov bc bn ic ix sc)) (Ov bc bn ic ix sc)) (Ov bc bn ic ix sc))))
theorem ajd (bc bn ic ix sc d sz:Int):ckT bc bn ic ix sc d sz=iV (Oq bc bn ic ix sc d sz):=by
 have tail:yq ic ix=true/\sc=0\/yq ic ix=false->Ln bc bn ic ix sc=iV (if yq ic ix=true then (if sc=0 then 0 else 2)
  else if yp ic ix=false\/ru sc=false\/Oo bc bn=true then 2
  else if vm ic ix=true/\(sc≠1\/vm bc bn=true) then 2 else 0):=λh=>by
  unfold Ln;rw[cF];rcases h with⟨h,b⟩|h
  .rw[h,ag rfl,ag b]
  rw[h];cases yp ic ix
  .rfl
  cases ru sc
  .rfl
  cases Oo bc bn
  .cases vm ic ix
   .rfl
   by_cases a:sc=1
   .cases vm bc bn
    .simp[a,ah]
    simp[a,ah]
   simp[a,ah]
  rfl
 have mid:Ov bc bn ic ix sc=iV (if yq ic ix=true then (if sc=0 then 0 else 2)
  else if yp ic ix=false\/ru sc=false\/Oo bc bn=true then 2
  else if vm ic ix=true/\(sc≠1\/vm bc bn=true) then 2 else 0):=by
  unfold Ov;rw[cF];cases e:yq ic ix with
  |false =>
   have c:=tail (.inr e);rw[e]at c;exact c
  |true =>
   by_cases b:sc=0
   .have c:=tail (.inl ⟨e,b⟩);rw[e]at c;rw[ag b];exact c
   rw[aa b,ag rfl,aa b]
 unfold ckT Oq;rw[mid,de,de];by_cases a:d < -2147483648
 .rw[ag a,ag (.inl a)]
 rw[aa a];by_cases f:2147483647<d
 .rw[ag f,ag (.inr f)]
 rw[aa f,aa (show ¬(d < -2147483648\/2147483647<d) by omega)];cases sizedB sz
 .rfl
 cases yq bc bn
 .cases Oo bc bn
  .cases yp bc bn<;>rfl
  rfl
 rfl
def gCk (args:aI):Option (Bool×List gj) :=
 match args with
 |[.agg [.int .i64 bc,.int .i64 bn,.int .i64 ic,.int .i64 ix,.int .i64 sc,.int .i64 d,.int .i64 sz]]=>some (true,[.val (.int .i64 (Oq bc bn ic ix sc d sz))])
 |_=>none
theorem Ri:dQ X0 gR 172 gCk :=
 dG (nk rfl) (kP Zt n0) λargs rs a=>by
  unfold gCk at a;split at a
  .rename_i bc bn ic ix sc d sz;simp only[aq,az]at a;obtain⟨_,rfl⟩:=a;refine⟨[.int .i64 (Oq bc bn ic ix sc d sz)],gC,5,?_,rfl,rfl⟩;have h:aT X0 (cN P1 [] AV) gC 5 172 [.agg [.int .i64 bc,.int .i64 bn,.int .i64 ic,.int .i64 ix,.int .i64 sc,.int .i64 d,.int .i64 sz]] aH.empty (λv _=>some v)=ckT bc bn ic ix sc d sz:=by kernel_rfl
   rw[h,ajd];rfl
  cases a
def pCs:eJ:=[true,true,false,true,false]
def ajf:fe:=⟨iM [0,6,7] pCs,.none,[]⟩
def jCs (l:aX)(r m:Nat)(a d:Int):bx:=jo X0 (cN P1 [] AV) ajf r 157 pCs (λv _=>some v) m (lS 37 [(0,.eC eE l),(6,.int .i64 d),(7,.int .i64 a)]) aH.empty
def csR:Option Int->bx
 |some a=>some (.gI [.int .i64 a,.bool true])
 |none=>some (.gI [.int .i64 0,.bool false])
def mx (d:Int):Int:=ah (bN 0 (IntKind.wrap .i64 (d-1))) (IntKind.wrap .i64 (d-1)) 0
def Rj (l:aX)(J:Int->Int->bx)(a d:Int):bx :=
 ah (bN a l.length) (ah (!bN a 0) (ah (dK l a [40]) (J (IntKind.wrap .i64 (a+1)) (IntKind.wrap .i64 (d+1))) (ah (!bN a 0) (ah (dK l a [41]) (J (IntKind.wrap .i64 (a+1)) (mx d))
  (ah (bS d 0) (ah (!bN a 0) (ah (dK l a [93]) (csR (some a)) (J (IntKind.wrap .i64 (a+1)) d)) none) (J (IntKind.wrap .i64 (a+1)) d))) none)) none) (csR none)
theorem Zu (l:aX)(r m:Nat)(a d:Int):jCs l r (m+1) a d=Rj l (jCs l r m) a d:=by kernel_rfl
theorem adH (l:aX)(r:Nat)(a:Int):aT X0 (cN P1 [] AV) ajf r 157 [.eC eE l,.int .i64 a] aH.empty (λv _=>some v)=jCs l r r a 0:=by kernel_rfl
theorem Tp (p r:aX)(c:Tok)(s:au):dK (p++c::r) (p.length:Nat) s=qP c s:=by
 unfold dK;rw[Lg]
theorem agw {d:Int}(a:0<=d)(b:d<9000000000000000000):mx d=if 0<d-1 then d-1 else 0:=by
 unfold mx;rw[i64_in (n:=d-1) (by omega) (by omega),de]
theorem Zv (l:aX)(q:l.length<=2000000)(r:Nat):∀(rest pre:aX) (m:Nat) (d:Int),l=pre++rest->rest.length<m->0<=d->d<=pre.length->jCs l r m (pre.length:Nat) d=csR (lZ rest (pre.length:Nat) d)
 |[],pre,m,d,g,h,i,t=>by
  obtain⟨m,rfl⟩:∃j,m=j+1:=⟨m-1,by simp at h;omega⟩;have k:l.length=pre.length:=by rw[g];simp
  rw[Zu];unfold Rj;rw[gB (by omega)];rfl
 |c::rest,pre,m,d,g,h,i,t=>by
  obtain⟨m,rfl⟩:∃j,m=j+1:=⟨m-1,by simp at h;omega⟩;have k:l.length=pre.length+(rest.length+1):=by rw[g];simp
  have o:∀e,0<=e->e<=(pre.length:Int)+1->jCs l r m ((pre.length:Int)+1) e=csR (lZ rest ((pre.length:Int)+1) e):=λe u q1=>by
   have:=Zv l q r rest (pre++[c]) m e (by rw[g];simp) (by simp at h;omega) u (by simp;omega);rw[show ((pre++[c]).length:Nat)=pre.length+1 by simp]at this;exact this
  have p:∀s,dK l (pre.length:Nat) s=qP c s:=λs=>by rw[g];exact Tp pre rest c s
  rw[Zu];unfold Rj;rw[rC (by omega),gB (a:=((pre.length:Nat):Int)) (b:=0) (by omega),i64_in (n:=((pre.length:Nat):Int)+1) (by omega) (by omega),i64_in (n:=d+1) (by omega) (by omega),agw i (by omega),p,p,p];rw[o (d+1) (by omega) (by omega),o d i (by omega),o (if 0<d-1 then d-1 else 0) (by split<;>omega) (by split<;>omega)];rw[show lZ (c::rest) ((pre.length:Nat):Int) d=if qP c [40]=true then lZ rest ((pre.length:Int)+1) (d+1) else if qP c [41]=true then lZ rest ((pre.length:Int)+1) (if 0<d-1 then d-1 else 0) else if d=0/\qP c [93]=true then some ((pre.length:Nat):Int) else lZ rest ((pre.length:Int)+1) d from rfl]
  rw[cH];cases qP c [40] with
  |true=>rfl
  |false =>
   cases qP c [41] with
   |true=>rfl
   |false =>
    by_cases f:d=0
    .cases qP c [93] with
     |true=>rw[ag f];simp only[f,cT,eY,and_self,gy];rfl
     |false=>rw[ag f];simp only[f,cT,eY,and_false];rfl
    rw[aa f];simp only[f,cT,eY,false_and];rfl
def gCs (args:aI):Option (Bool×List gj) :=
 match args with
 |[L,.int .i64 a]=>match IX eE L with
  |some l=>some (Nat.ble l.length 2000000 && !bN a 0 && !bN l.length a,[.val (.int .i64 ((jU l a).getD 0)),.val (.bool (jU l a).isSome)])
  |none=>none
 |_=>none
theorem Lj {p q:Int}(h:bN p q=false):q<=p:=by rw[dc]at h;simpa using h
theorem ajg:dQ X0 gR 157 gCs :=
 dG (nk rfl) (kP Zt n0) λargs rs b=>by
  unfold gCs at b;split at b;case h_2=>cases b
  rename_i L a;split at b;case h_2=>cases b
  rename_i l d;simp only[aq,az,ak,aU]at b;obtain⟨⟨⟨g0,g1⟩,c⟩,rfl⟩:=b;have g0:=aB g0;have g1:=Lj g1;have c:=Lj c;refine⟨[.int .i64 ((jU l a).getD 0),.bool (jU l a).isSome],ajf,l.length+1,?_,rfl,rfl⟩;rw[jn d,adH];have e:(l.take a.toNat).length=a.toNat:=by rw[bV];omega
  have:=Zv l g0 (l.length+1) (l.drop a.toNat) (l.take a.toNat) (l.length+1) 0 (fk _ _).symm (by rw[bB];omega) (bL 0) (by omega);rw[e,show ((a.toNat:Nat):Int)=a by omega]at this;rw[this];show csR (jU l a)=_;cases jU l a<;>rfl
def P2:List xw:=(157,[some eE,none],gCs)::(172,[none],gCk)::P1
theorem DN:jy X0 gR P2:=.cons ajg (.cons Ri Zt)
def Dg (l:aX)(op en sz:Int)(s:TS)(e f:Int):eZ:=[.val (.eC eE l),.val (.int .i64 op),.val (.int .i64 en),.val (.int .i64 s.bc),.val (.int .i64 s.bn),.val (.int .i64 s.ic),.val (.int .i64 s.ix),.val (.int .i64 s.sc),.val (.int .i64 0),.val (.int .i64 sz),.list 81 eE s.put,.list 76 fA [],.val (.int .i64 e),.val (.int .i64 f)]
def adI:List (Option (TypeId×Tv.Ty)):=[none,none,none,none,none,none,none,none,none,none,some (81,eE),some (76,fA),none,none]
abbrev FTm:=aX->Int->Int->TS->eZ->Option (Bool×(Int×Int×TS)×eZ)
def gTm (F:FTm)(ins:eZ):Option (Bool×eZ×eZ) :=
 match ins with
 |.val (.eC e0 a) :: .val (.int .i64 op) :: .val (.int .i64 en) :: .val (.int .i64 bc) :: .val (.int .i64 bn) :: .val (.int .i64 ic) :: .val (.int .i64 ix) :: .val (.int .i64 sc) :: .val (.int .i64 d) :: .val (.int .i64 sz) :: .list b g p :: .list h e2 x :: .val (.int .i64 e) :: .val (.int .i64 f)::args =>
  match jl e0 eE a,jl g eE p,jl e2 fA x with
  |some l,some put,some x=>match F l op en ⟨bc,bn,ic,ix,sc,put⟩ args with
   |some (c,q,rs)=>some (c&&(Nat.beq b 81&&Nat.beq h 76&&x.isEmpty&&bS d 0&&bS e 0&&bS f 0),Dg l op en sz q.2.2 q.1 q.2.1,rs)
   |none=>none
  |_,_,_=>none
 |_=>none
def cTm (F:FTm)(a:List (Option (TypeId×Tv.Ty))):HZ:=⟨some (212,adI),a,gTm F⟩
theorem eq0 {a b:Int}(h:bS a b=true):a=b:=by rw[fD]at h;simpa using h
theorem adJ {F:FTm}{ins outs rs:eZ}(h:gTm F ins=some (true,outs,rs)):∃l op en sz s args q,ins=Dg l op en sz s 0 0++args/\F l op en s args=some (true,q,rs)/\outs=Dg l op en sz q.2.2 q.1 q.2.1:=by
 unfold gTm at h;split at h;case h_2=>cases h
 rename_i e0 i op en bc bn ic ix sc d sz y z p A e2 x e f args;split at h;case h_2=>cases h
 rename_i l put j a b g;split at h;case h_2=>cases h
 rename_i c q k m;simp only[aq,az,ak]at h;obtain⟨⟨n,⟨⟨⟨⟨g1,o⟩,r⟩,t⟩,u⟩,v⟩,rfl,rfl⟩:=h;subst n;obtain rfl:=bt g1;obtain rfl:=bt o;obtain rfl:=eq0 t;obtain rfl:=eq0 u;obtain rfl:=eq0 v;obtain⟨rfl,a⟩:=cr a;obtain⟨rfl,b⟩:=cr b;obtain⟨rfl,g⟩:=cr g;have a:i=l:=a;have b:p=put:=b;have g:x=j:=g;subst a;subst b;subst g;have w:x=[]:=jg.1 r;subst w;exact⟨i,op,en,sz,⟨bc,bn,ic,ix,sc,p⟩,args,q,rfl,m,rfl⟩
abbrev eW:=Option (eZ×cY)
abbrev VB (vn:List (Option (TypeId×Tv.Ty))):AV->aH->eW:=ai9 212 adI vn
theorem Jk:∀(l:aI),yw (l.map Gm.val)=[]
 |[]=>rfl
 |_::l=>Jk l
theorem adK (l:aX)(op en sz:Int)(s:TS)(e f:Int)(vs:aI):yw (Dg l op en sz s e f++vs.map Gm.val)=[s.put.length,0]:=by
 show s.put.length::0::yw (vs.map Gm.val)=_;rw[Jk]
theorem uj (n:Nat):∀(l:aI),Tv.cellsIn n (l.map Gm.val)=l
 |[]=>rfl
 |v::l=>by show v::Tv.cellsIn n (l.map Gm.val)=_;rw[uj n l]
theorem adL (l:aX)(op en sz:Int)(s:TS)(e f:Int)(vs:aI):(Tv.cellsIn 1 (Dg l op en sz s e f++vs.map Gm.val)).drop adI.length=vs:=by
 show Tv.cellsIn 3 (vs.map Gm.val)=vs;exact uj 3 vs
theorem Rk {id:FuncId}(d:lt.inl id=true){M:List xw}{N:List rf}(e:jy X0 gR M)(f:jc X0 gR N){F:FTm}{c vn:List (Option (TypeId×Tv.Ty))}
 (h:∀l op en sz s args q rs,F l op en s args=some (true,q,rs)->args.length=c.length->∃(vs b:aI) (an:fe) (rounds:Nat),args=vs.map .val/\rs=b.map .val/\aT X0 (cN M N _) an rounds id (.ptr 0 0::vs) (kA 212 14 (Dg l op en sz s 0 0++vs.map .val)) (VB vn)=some (Dg l op en sz q.2.2 q.1 q.2.1++b.map .val,[q.2.2.put.length,0])) :
 iI X0 gR id (cTm F c) :=
 adF (vn:=vn) (nk d) (kP e f) λins outs rs g i=>by
  obtain⟨l,op,en,sz,s,args,q,rfl,j,rfl⟩:=adJ g;obtain⟨vs,b,an,rounds,rfl,rfl,a⟩:=h l op en sz s args q rs j (by
   rw[aA,aA]at i;have:(Dg l op en sz s 0 0).length=adI.length:=rfl;omega)
  refine⟨an,rounds,_,?_,(adK _ _ _ _ _ _ _ b).symm⟩;rw[adL];exact a
def lf (b:AV)(l:aX)(op en sz:Int)(s:TS)(e f:Int)(n:Nat):eW:=some (Dg l op en sz s e f++[.val b],[n,0])
def mTm (l:aX)(op en sz:Int)(n:Nat)(s:TS):aH:=ady [.cells 212 [.eC eE l,.int .i64 op,.int .i64 en,.int .i64 s.bc,.int .i64 s.bn,.int .i64 s.ic,.int .i64 s.ix,.int .i64 s.sc,.int .i64 0,.int .i64 sz,.own 1 n,.own 2 0,.int .i64 0,.int .i64 0],.list 81 eE s.put 0 false false,.list 76 fA [] 0 false false]
def pSt:eJ:=[true,true,false,true,false]
def ajj:fe:=⟨iM [0,5,6] pSt,.none,[]⟩
def jSt (l:aX)(op en sz:Int)(s:TS)(n r m:Nat)(a d:Int):eW:=jo X0 (cN P2 [] _) ajj r 169 pSt (VB [none]) m (lS 70 [(0,.ptr 0 0),(5,.int .i64 d),(6,.int .i64 a)]) (mTm l op en sz n s)
def Rl (l:aX)(en:Int)(J:Int->Int->eW)(L:Int->eW)(a d:Int):eW :=
 let nx:=J (IntKind.wrap .i64 (a+1)) d
 let yes:=Option.rec (motive:=λ_=>eW) none (λy=>ah (DM y) (L a) nx) (eL l (IntKind.wrap .i64 (a-1)))
 ah (bN a en) (ah (!bN a 0) (ah (dK l a [40]) (J (IntKind.wrap .i64 (a+1)) (IntKind.wrap .i64 (d+1))) (ah (!bN a 0) (ah (dK l a [41]) (J (IntKind.wrap .i64 (a+1)) (mx d))
  (ah (bS d 0) (ah (!bN a 0) (ah (dK l a [43]) yes (ah (!bN a 0) (ah (dK l a [45]) yes nx) none)) none) nx)) none)) none) (L en)
theorem Zw (l:aX)(op en sz:Int)(s:TS)(n r m:Nat)(a d:Int):jSt l op en sz s n r (m+1) a d=Rl l en (jSt l op en sz s n r m) (λv=>lf (.int .i64 v) l op en sz s 0 0 n) a d:=by kernel_rfl
theorem adM (l:aX)(op en sz:Int)(s:TS)(r:Nat)(a:Int):aT X0 (cN P2 [] _) ajj r 169 [.ptr 0 0,.int .i64 a] (kA 212 14 (Dg l op en sz s 0 0++[.val (.int .i64 a)])) (VB [none])=jSt l op en sz s s.put.length r r a 0:=by kernel_rfl
theorem ajk {l:aX}{op en sz:Int}{s:TS}{n r:Nat}(D:l.length<=2000000)(x:0<=en)(E:en<=l.length):∀(rest q:aX) (p:Tok) (m:Nat) (d:Int),l.take en.toNat=q++p::rest->rest.length<m->0<=d->d<=q.length ->
 jSt l op en sz s n r m ((q.length:Nat)+1:Int) d=lf (.int .i64 (pq en p rest ((q.length:Nat)+1:Int) d)) l op en sz s 0 0 n:=by
 intro rest;induction rest with
 |nil =>
  intro q p m d h i o y;obtain⟨m,rfl⟩:∃u,m=u+1:=⟨m-1,by simp at i;omega⟩;have e:=bO List.length h;simp only[bV,aA,aJ,bK]at e;have z:en=(q.length:Int)+1:=by omega
  rw[Zw];unfold Rl;simp only;rw[gB (by omega)];rfl
 |cons c rest A =>
  intro q p m d h i o y;obtain⟨m,rfl⟩:∃u,m=u+1:=⟨m-1,by simp at i;omega⟩;have e:=bO List.length h;simp only[bV,aA,aJ]at e;have v:(q.length:Int)+1<en:=by omega
  have w:l=q++p::c::(rest++l.drop en.toNat):=by
   have:=(fk en.toNat l).symm;rw[h]at this;simpa using this
  have f:∀g,0<=g->g<=(q.length:Int)+1->jSt l op en sz s n r m ((q.length:Int)+1+1) g=lf (.int .i64 (pq en c rest ((q.length:Int)+1+1) g)) l op en sz s 0 0 n:=λg B q1=>by
   have:=A (q++[p]) c m g (by rw[h];simp) (by simp at i;omega) B (by simp;omega);rw[show ((q++[p]).length:Nat)=q.length+1 by simp]at this;exact this
  have j:∀t,dK l ((q.length:Nat)+1:Int) t=qP c t:=λt=>by
   have:=Tp (q++[p]) (rest++l.drop en.toNat) c t;rw[show q++[p]++c::(rest++l.drop en.toNat)=l by rw[bC];exact w.symm]at this;rw[<-this];simp
  have C:eL l (((q.length:Nat)+1:Int)-1)=some p:=by
   rw[show ((q.length:Nat)+1:Int)-1=(q.length:Nat) by omega];have:=mc q (c::(rest++l.drop en.toNat)) p;rw[<-w]at this;exact this
  rw[Zw];unfold Rl;simp only;rw[rC v,gB (a:=((q.length:Nat)+1:Int)) (b:=0) (by omega),i64_in (n:=((q.length:Nat)+1:Int)+1) (by omega) (by omega),i64_in (n:=((q.length:Nat)+1:Int)-1) (by omega) (by omega),i64_in (n:=d+1) (by omega) (by omega),agw o (by omega),j,j,j,j,C];rw[f (d+1) (by omega) (by omega),f d o (by omega),f (if 0<d-1 then d-1 else 0) (by split<;>omega) (by split<;>omega)];rw[show pq en p (c::rest) ((q.length:Nat)+1:Int) d=if qP c [40]=true then pq en c rest ((q.length:Int)+1+1) (d+1) else if qP c [41]=true then pq en c rest ((q.length:Int)+1+1) (if 0<d-1 then d-1 else 0) else if d=0/\(qP c [43]=true\/qP c [45]=true)/\DM p=true then ((q.length:Nat)+1:Int) else pq en c rest ((q.length:Int)+1+1) d from rfl]
  rw[cH];cases qP c [40] with
  |true=>rfl
  |false =>
   cases qP c [41] with
   |true=>rfl
   |false =>
    by_cases k:d=0
    .rw[ag k];simp only[cT,eY,k,kO];cases qP c [43]<;>cases qP c [45]<;>cases DM p<;>rfl
    rw[aa k];simp only[k,cT,eY,false_and];rfl
def fSt:FTm:=λl _ en s args=>match args with
 |[.val (.int .i64 a)]=>some (Nat.ble l.length 2000000 && !bN a 1 && !bN en a && !bN l.length en,(0,0,s),[.val (.int .i64 (eP l a en))])
 |_=>none
theorem ajl:iI X0 gR 169 (cTm fSt [none]) :=
 Rk rfl DN n0 (vn:=[none]) λl op en sz s args q rs b h=>by
  unfold fSt at b;split at b;case h_2=>cases b
  rename_i a;simp only[aq,az,ak,aU]at b;obtain⟨⟨⟨⟨g0,g1⟩,e⟩,c⟩,rfl,rfl⟩:=b;have g0:=aB g0;have g1:=Lj g1;have e:=Lj e;have c:=Lj c;refine⟨[.int .i64 a],[.int .i64 (eP l a en)],ajj,l.length+1,rfl,rfl,?_⟩;have i:=adM l op en sz s (l.length+1) a;rw[show ([AV.int .i64 a].map Gm.val)=[Gm.val (.int .i64 a)] from rfl];rw[i];obtain⟨p,f⟩:∃p,at? l (a-1)=some p:=by
   cases j:at? l (a-1) with
   |some p=>exact⟨p,rfl⟩
   |none=>have:=kM (by omega) j;omega
  have k:(a-1).toNat+1=a.toNat:=by omega
  have d:l[(a-1).toNat]? = some p:=by
   have:at? l (((a-1).toNat:Nat):Int)=some p:=by rw[show (((a-1).toNat:Nat):Int)=a-1 by omega];exact f
   exact this
  have m:(a-1).toNat<l.length:=by omega
  have o:l.take a.toNat=l.take (a-1).toNat++[p]:=by
   rw[<-k,List.take_add_one,d];rfl
  have e2:l.take en.toNat=l.take (a-1).toNat++p::(l.take en.toNat).drop a.toNat:=by
   have g:=fk a.toNat (l.take en.toNat);have t:(l.take en.toNat).take a.toNat=l.take (a-1).toNat++[p]:=by rw[oq,iG (by omega),o]
   rw[t,bC]at g;exact g.symm
  have u:((l.take (a-1).toNat).length:Int)=a-1:=by rw[bV];omega
  have:=ajk (l:=l) (op:=op) (en:=en) (sz:=sz) (s:=s) (n:=s.put.length) (r:=l.length+1) g0 (by omega) c ((l.take en.toNat).drop a.toNat) (l.take (a-1).toNat) p (l.length+1) 0 e2 (by rw[bB,bV];omega) (bL 0) (by omega);rw[u,show a-1+1=a by omega]at this;rw[this];unfold eP;rw[f];rfl
def NS:List rf:=[(169,cTm fSt [none])]
theorem agx:jc X0 gR NS:=.cons ajl .nil
section
variable (l:aX) (op en sz:Int) (sg:au)
def lfO (o:qa):eW:=lf (.bool o.1) l op en sz o.2.2.2 o.2.1 o.2.2.1 o.2.2.2.put.length
def flC (s:TS)(e f:Int):eW:=lf (.bool false) l op en sz s e f s.put.length
def Q7 (s:TS)(n:Nat):eW:=lf (.bool true) l op en sz s 0 0 n
def atR (i:Int)(k:Tok->eW):eW:=Option.rec (motive:=λ_=>eW) none k (eL l i)
def Lp (r:Rg)(a:Int)(s:TS):eW :=
 ah (decide (sg=[45])) (flC l op en sz s 2 a) (ah (decide (s.bc=0)&&decide (s.bn=0)) (Q7 l op en sz { s with bc:=r.1,bn:=r.2 } s.put.length)
  (ah (decide (s.ic=0)&&decide (s.ix=0)) (Q7 l op en sz { s with ic:=r.1,ix:=r.2,sc:=1 } s.put.length) (flC l op en sz s 2 a)))
def EF (r:Rg)(a num:Int)(s:TS):eW :=
 ah (decide (sg=[45])) (flC l op en sz s 2 a) (ah (!(decide (s.ic=0)&&decide (s.ix=0))) (flC l op en sz s 2 a)
  (atR l num λy=>[1,2,4].foldr (λq rest=>ah (bS y.2.1 q) (ah (bS y.2.1 q) (Q7 l op en sz { s with ic:=r.1,ix:=r.2,sc:=y.2.1 } s.put.length) (flC l op en sz s 2 num)) rest)
   (ah (bS y.2.1 8) (Q7 l op en sz { s with ic:=r.1,ix:=r.2,sc:=y.2.1 } s.put.length) (flC l op en sz s 2 num))))
def Rm (a b:Int)(s:TS):eW :=
 (λfin:aX->Nat->eW=>(λone:eW=>ah (decide (sg=[45])) one (ah (bN 0 s.put.length) one (fin s.put s.put.length)))
  (ah (Nat.ble (s.put.length+1) 2000000) (fin (s.put++[Gq sg]) (s.put.length+1)) none))
  (λp _=>ah (Nat.ble (p.length+1) 2000000) (ah (!bN a 0 && !bN b a && !bN (Int.ofNat l.length) b) (ah (bS a 0||bN a (Int.ofNat l.length))
   (ah (Nat.ble ((p++[Gq [40]]).length+(dZ l a b).length) 2000000) (ah (Nat.ble ((p++[Gq [40]]++dZ l a b).length+1) 2000000)
    (Q7 l op en sz { s with put:=p++[Gq [40]]++dZ l a b++[Gq [41]] } ((p++[Gq [40]]++dZ l a b).length+1)) none) none) none) none) none)
def ajn (a b:Int)(s:TS):eW :=
 (λc:eW=>(λsecond:eW =>
  ah (bS (IntKind.wrap .i64 (b-a)) 0) (flC l op en sz s 4 a)
   (ah (bS (IntKind.wrap .i64 (b-a)) 1) (atR l a λy=>ah (oO y [114,105,112]) (Lp l op en sz sg (8,0) a s) (atR l a λy=>ah (qb rp y).isSome (Lp l op en sz sg ((qb rp y).getD (0,0)) a s) c))
   (ah (bS (IntKind.wrap .i64 (b-a)) 3) (ah (!bN (IntKind.wrap .i64 (a+1)) 0) (ah (!dK l (IntKind.wrap .i64 (a+1)) [42]) c
    (atR l a λy=>ah (qb rp y).isSome (atR l (IntKind.wrap .i64 (a+2)) λz=>ah (bS z.1 2) (EF l op en sz sg ((qb rp y).getD (0,0)) a (IntKind.wrap .i64 (a+2)) s) second) second)) none) c)))
  (atR l (IntKind.wrap .i64 (a+2)) λy=>ah (qb rp y).isSome (atR l a λz=>ah (bS z.1 2) (EF l op en sz sg ((qb rp y).getD (0,0)) a a s) c) c))
  (Rm l op en sz sg a b s)
end
theorem adN (l:aX)(op en sz:Int)(sg:au)(a b bc bn ic ix sc:Int)(put:aX):aT X0 (cN P2 NS _) gC 5 170 [.ptr 0 0,.str sg,.int .i64 a,.int .i64 b] (kA 212 14 (Dg l op en sz ⟨bc,bn,ic,ix,sc,put⟩ 0 0++[.val (.str sg),.val (.int .i64 a),.val (.int .i64 b)])) (VB [none])=ajn l op en sz sg a b ⟨bc,bn,ic,ix,sc,put⟩:=by kernel_rfl
theorem vN {α:Type}{p:Prop}[Decidable p](x y:α):ah (decide p) x y=if p then x else y:=by rw[ay];simp
theorem Jl {α:Type}{p q:Prop}[Decidable p][Decidable q](x y:α):ah (decide p&&decide q) x y=if p/\q then x else y:=by rw[ay];simp
theorem Rn {α:Type}{p q:Prop}[Decidable p][Decidable q](x y:α):ah (!(decide p&&decide q)) x y=if p/\q then y else x:=by
 rw[ay];by_cases h:p/\q
 .rw[ag h,aa];simp[h.1,h.2]
 rw[aa h,ag];by_cases d:p
 .have c:¬q:=λc=>h ⟨d,c⟩
  simp[c]
 simp[d]
structure BT (l:aX)(en a b:Int)(s:TS):Prop where
 len:l.length<=200000
 a0:0<=a
 ab:a<=b
 be:b<=en
 el:en<l.length
 put:s.put.length<=4*a
section
variable {l:aX} {op en sz:Int} {sg:au} {a b:Int} {s:TS}
theorem Jm (r:Rg):Lp l op en sz sg r a s=lfO l op en sz (kL sg r a s):=by
 unfold Lp kL;rw[vN,Jl,Jl];split
 .rfl
 split
 .rfl
 split<;>rfl
theorem uk {i:Int}{t:Tok}(h:at? l i=some t)(k:Tok->eW):atR l i k=k t:=by
 unfold atR;rw[getI_at?,h]
theorem GC (r:Rg){num:Int}{t:Tok}(h:at? l num=some t):EF l op en sz sg r a num s=lfO l op en sz (gY sg r a num t.2.1 s):=by
 unfold EF gY;rw[vN,Rn,uk h];by_cases d:sg=[45]
 .rw[ag d,ag (.inl d)];rfl
 rw[aa d];by_cases e:s.ic=0/\s.ix=0
 .rw[ag e,aa (show ¬(sg=[45]\/¬(s.ic=0/\s.ix=0)) from λh=>h.elim d λh=>h e)];simp only[gw,lP,cH];unfold ru;by_cases c:t.2.1=1\/t.2.1=2\/t.2.1=4\/t.2.1=8
  .rw[bg c,ag rfl];rcases c with h|h|h|h<;>(rw[h];rfl)
  rw[aY c,aa lz];simp only[mq]at c;obtain⟨q1,q2,q3,f⟩:=c;rw[aa q1,aa q2,aa q3,aa f];rfl
 rw[aa e,ag (.inr e)];rfl
theorem VC (h:BT l en a b s):Rm l op en sz sg a b s=lfO l op en sz (od l sg a b s):=by
 have g1:=h.len;have e:=h.a0;have f:=h.ab;have i:=h.be;have j:=h.el;have k:=h.put;have m:(dZ l a b).length<=(b-a).toNat:=by unfold dZ;rw[bV];omega
 have fin:∀p:aX,p.length<=s.put.length+1->(ah (Nat.ble (p.length+1) 2000000) (ah (!bN a 0 && !bN b a && !bN (Int.ofNat l.length) b) (ah (bS a 0||bN a (Int.ofNat l.length))
  (ah (Nat.ble ((p++[Gq [40]]).length+(dZ l a b).length) 2000000) (ah (Nat.ble ((p++[Gq [40]]++dZ l a b).length+1) 2000000)
   (Q7 l op en sz { s with put:=p++[Gq [40]]++dZ l a b++[Gq [41]] } ((p++[Gq [40]]++dZ l a b).length+1)) none) none) none) none) none) =
  lfO l op en sz (okO { s with put:=p++[Gq [40]]++Df l a b++[Gq [41]] }):=λp n=>by
  have g:Int.ofNat l.length=(l.length:Int):=rfl;rw[g,eN (by omega),gB e,gB f,gB (show b<=(l.length:Int) by omega),rC (show a<(l.length:Int) by omega),Bool.or_true,eN (by simp;omega),eN (by simp;omega)];show Q7 _ _ _ _ _ _=lf _ _ _ _ _ _ _ _ _;unfold Q7 okO;simp only;have:(p++[Gq [40]]++dZ l a b).length+1=(p++[Gq [40]]++Df l a b++[Gq [41]]).length:=by simp[Df,dZ];omega
  rw[this];rfl
 unfold Rm;simp only;rw[fin s.put (by omega),fin (s.put++[Gq sg]) (by simp),eN (by omega),vN,de];unfold od;by_cases c:sg=[45]
 .rw[ag c,ag (.inl c)]
 rw[aa c];by_cases d:s.put=[]
 .rw[aa (by rw[d];simp),aa (show ¬(sg=[45]\/s.put≠[]) from λh=>h.elim c λh=>h d)]
 rw[ag (by have:0<s.put.length:=dD.2 d;omega),ag (.inr d)]
theorem adO (h:BT l en a b s):ajn l op en sz sg a b s=lfO l op en sz (lH rp l sg a b s):=by
 have g1:=h.len;have o:=h.a0;have v:=h.ab;have w:=h.be;have x:=h.el;have tq:∀i:Int,0<=i->i<l.length->∃t,at? l i=some t:=λi d e=>by
  cases p:at? l i with
  |some t=>exact⟨t,rfl⟩
  |none=>have:=kM d p;omega
 unfold ajn lH;simp only;rw[VC h,i64_in (n:=b-a) (by omega) (by omega),i64_in (n:=a+1) (by omega) (by omega),i64_in (n:=a+2) (by omega) (by omega),cH,cH,cH];by_cases d:b-a=0
 .rw[ag d,ag d];rfl
 rw[aa d,aa d];obtain⟨t,c⟩:=tq a o (by omega);by_cases e:b-a=1
 .rw[ag e,ag e,c];rw[uk c,uk c];simp only;rw[ay];by_cases f:oO t [114,105,112]=true
  .rw[ag f,ag f,Jm]
  rw[aa f,aa f];cases q:qb rp t with
  |none=>rfl
  |some r=>exact Jm r
 rw[aa e,aa e];by_cases g:b-a=3
 .rw[ag g,gB (show (0:Int)<=a+1 by omega)];obtain⟨u,j⟩:=tq (a+2) (by omega) (by omega);cases y:dK l (a+1) [42] with
  |false=>rw[aa (show ¬(b-a=3/\false=true) from λh=>by cases h.2)];rfl
  |true =>
   rw[ag (⟨g,rfl⟩:b-a=3/\true=true),c,j];show atR l a _=_;rw[uk c,uk j,uk j];simp only;rw[uk c,cH,cH,GC _ j,GC _ c];by_cases k:u.1=2<;>by_cases m:t.1=2<;>simp only[ag,aa,k,m]<;>cases q:qb rp t<;>cases z:qb rp u<;>rfl
 rw[aa g,aa (show ¬(b-a=3/\dK l (a+1) [42]=true) from λh=>g h.1)]
end
def fOn:FTm:=λl _ en s args=>match args with
 |[.val (.str sg),.val (.int .i64 a),.val (.int .i64 b)]=>some (Nat.ble l.length 200000 && !bN a 0 && !bN b a && !bN en b&&bN en l.length && !bN (4*a) s.put.length,((lH rp l sg a b s).2.1,(lH rp l sg a b s).2.2.1,(lH rp l sg a b s).2.2.2),[.val (.bool (lH rp l sg a b s).1)])
 |_=>none
theorem ajo:iI X0 gR 170 (cTm fOn [none,none,none]) :=
 Rk rfl DN agx (vn:=[none]) λl op en sz s args q rs c i=>by
  unfold fOn at c;split at c;case h_2=>cases c
  rename_i sg a b;simp only[aq,az,ak,aU]at c;obtain⟨⟨⟨⟨⟨⟨g0,g1⟩,e⟩,f⟩,d⟩,g⟩,rfl,rfl⟩:=c;have g0:=aB g0;have g1:=Lj g1;have e:=Lj e;have f:=Lj f;have d:en<l.length:=by rw[dc]at d;simpa using d
  have g:=Lj g;refine⟨[.str sg,.int .i64 a,.int .i64 b],[.bool (lH rp l sg a b s).1],gC,5,rfl,rfl,?_⟩;have h:=adN l op en sz sg a b s.bc s.bn s.ic s.ix s.sc s.put;rw[adO ⟨g0,g1,e,f,d,g⟩]at h;exact h
end
end Go.Proofs.YtbeckacfibledaaGreatDoor.ps

/- Expressions: the setting of the laws on lines. Expressions: what a token alone is. Expressions: the contract of climb, as it calls itself. Expressions: the contract of climb. Expressions: the contract of Parse. -/
import Derived.Test.YtbeckacfibledaaGreatDoorGrb
import Derived.Test.YtbeckacfibledaaGreatDoorLyh
import Derived.Test.YtbeckacfibledaaGreatDoorLyg
import Derived.Test.YtbeckacfibledaaGreatDoorGxa
set_option linter.unusedVariables false
set_option linter.unusedSimpArgs false

namespace Go.Proofs.YtbeckacfibledaaGreatDoor.ex
open Go.Tv Go.Ev
noncomputable section
abbrev X0:ij:=lt.Xg lt.BX
abbrev fU:=dR X0 lt.kn
abbrev gO:ei:=lt.gO
def cN (M:List wh)(N:List pQ)(β:Type):cI β:=WV X0 (Uq M) (aaQ N) lt.inl 400 β 40
theorem jH {M:List wh}{N:List pQ}(hM:iT X0 fU M)(hN:gY X0 fU N)(β:Type):cX X0 fU (cN M N β):=WW hM hN (λf h args=>lt.bS h args) 400 40 β
theorem n0:gY X0 fU []:=.nil
abbrev bZ:List UInt8->Bool:=lt.bZ
def M3:List wh:=(66,[none],lt.Pa)::(18,[none],lt.agb)::(155,[none],lt.gNm)::lt.R1
theorem Q7:iT X0 fU M3:=.cons (lt.agc lt.BX) (.cons lt.alq (.cons (lt.alx lt.BX) (lt.adH lt.BX)))
end
end Go.Proofs.YtbeckacfibledaaGreatDoor.ex
namespace Go.Proofs.YtbeckacfibledaaGreatDoor.ex
open Go.Tv Go.Ev Go.Px
set_option maxRecDepth 100000
noncomputable section
def WY (n:Nd):AV:=.agg [.int .i64 n.1,.int .i64 n.2.1,.str n.2.2.1,.int .i64 n.2.2.2.1,.int .i64 n.2.2.2.2]
def zNd:Nd:=(0,0,[],0,0)
abbrev dL:Ty:=.pair (.int .i64) (.pair (.int .i64) (.pair .str (.int .i64)))
abbrev eC:Ty:=.pair (.int .i64) (.pair (.int .i64) (.pair .str (.pair (.int .i64) (.int .i64))))
def zx (f:Tok->List fA)(args:List AV):Option (Bool×List fA) :=
 match args with
 |[.agg [.int .i64 k,.int .i64 n,.str s,.int .i64 a]]=>some (true,f (k,n,s,a))
 |_=>none
def agk (args:List AV):Option (Bool×List fA) :=
 match args with
 |[.agg [.int .i64 k,.int .i64 n,.str s,.int .i64 a],.str t]=>some (true,[.val (.bool (bI k 4&&decide (s=t)))])
 |_=>none
theorem aaT:dc X0 fU 141 agk :=
 cS (λargs=>lt.bS rfl args) (jH Q7 n0) λargs rs hg=>by
  unfold agk at hg;split at hg
  .rename_i k n s a t;simp only[aq,ay]at hg;obtain⟨h1,rfl⟩:=hg;refine⟨[.bool (bI k 4&&decide (s=t))],gO,5,?_,rfl,rfl⟩;have h:aT X0 (cN M3 [] AV) gO 5 141 [.agg [.int .i64 k,.int .i64 n,.str s,.int .i64 a],.str t] aG.empty (λv _=>some v)=ah (bI k 4) (some (.bool (decide (s=t)))) (some (.bool false)):=by kernel_rfl
   rw[h];cases bI k 4<;>rfl
  cases hg
def M4:List wh:=(141,[none,none],agk)::M3
theorem Rh:iT X0 fU M4:=.cons aaT Q7
theorem B5 (k n a:Int)(s t:List UInt8):(bI k 4&&decide (s=t))=pY (k,n,s,a) t:=by
 unfold pY;have e:(k==4)=decide (k=4):=by rw[bO];simp
 rw[eF,e]
def adL (t:Tok):List fA:=[.val (WY ((B3 bZ t).getD zNd)),.val (.bool (B3 bZ t).isSome)]
theorem WZ:dc X0 fU 137 (zx adL) :=
 cS (λargs=>lt.bS rfl args) (jH Rh n0) λargs rs hg=>by
  unfold zx at hg;split at hg
  .rename_i k n s a;simp only[aq,ay]at hg;obtain⟨h1,rfl⟩:=hg;refine⟨[WY ((B3 bZ (k,n,s,a)).getD zNd),.bool (B3 bZ (k,n,s,a)).isSome],gO,5,?_,rfl,rfl⟩;have h:aT X0 (cN M4 [] AV) gO 5 137 [.agg [.int .i64 k,.int .i64 n,.str s,.int .i64 a]] aG.empty (λv _=>some v) =
    ah (bI k 2) (some (.fH [WY (1,n,[],0,0),.bool true])) ((λrest=>ah (bI k 1) (ah (bZ s) (some (.fH [WY (2,0,s,0,0),.bool true])) rest) rest)
     (ah (bI k 4&&decide (s=[36])) (some (.fH [WY (3,0,[],0,0),.bool true])) (ah (bI k 4&&decide (s=[36,36])) (some (.fH [WY (4,0,[],0,0),.bool true])) (some (.fH [WY zNd,.bool false]))))):=by kernel_rfl
   rw[h,B5 k n a,B5 k n a];unfold B3;simp only[cq];simp only[ax];have rest:(if pY (k,n,s,a) [36]=true then some (AV.fH [WY (3,0,[],0,0),AV.bool true]) else if pY (k,n,s,a) [36,36]=true then some (AV.fH [WY (4,0,[],0,0),AV.bool true]) else some (AV.fH [WY zNd,AV.bool false])) =
    some (rQ [WY ((if pY (k,n,s,a) [36]=true then some (3,0,[],0,0) else if pY (k,n,s,a) [36,36]=true then some (4,0,[],0,0) else none).getD zNd),AV.bool (if pY (k,n,s,a) [36]=true then some ((3,0,[],0,0):Nd) else if pY (k,n,s,a) [36,36]=true then some (4,0,[],0,0) else none).isSome]):=by
    by_cases c4:pY (k,n,s,a) [36]=true
    .simp only[ag c4];rfl
    simp only[aa c4];by_cases c5:pY (k,n,s,a) [36,36]=true
    .simp only[ag c5];rfl
    simp only[aa c5];rfl
   by_cases c1:k=2
   .simp only[ag c1];rfl
   simp only[aa c1];by_cases c2:k=1
   .by_cases c3:bZ s=true
    .simp only[ag c2,ag c3,ag (And.intro c2 c3)];rfl
    simp only[ag c2,aa c3,aa (λh:k=1/\bZ s=true=>c3 h.2)];exact rest
   simp only[aa c2,aa (λh:k=1/\bZ s=true=>c2 h.1)];exact rest
  cases hg
def adM (t:Tok):List fA:=[.val (.int .i64 ((pref t).getD 0)),.val (.bool (pref t).isSome)]
theorem W0:dc X0 fU 138 (zx adM) :=
 cS (λargs=>lt.bS rfl args) (jH Rh n0) λargs rs hg=>by
  unfold zx at hg;split at hg
  .rename_i k n s a;simp only[aq,ay]at hg;obtain⟨h1,rfl⟩:=hg;refine⟨[.int .i64 ((pref (k,n,s,a)).getD 0),.bool (pref (k,n,s,a)).isSome],gO,5,?_,rfl,rfl⟩;have h:aT X0 (cN M4 [] AV) gO 5 138 [.agg [.int .i64 k,.int .i64 n,.str s,.int .i64 a]] aG.empty (λv _=>some v) =
    ah (bI k 4&&decide (s=[45])) (some (.fH [.int .i64 5,.bool true])) (ah (bI k 4&&decide (s=[126])) (some (.fH [.int .i64 6,.bool true])) (ah (bI k 4&&decide (s=[43])) (some (.fH [.int .i64 0,.bool true])) (some (.fH [.int .i64 0,.bool false])))):=by kernel_rfl
   rw[h,B5 k n a,B5 k n a,B5 k n a];unfold pref;simp only[ax];by_cases c1:pY (k,n,s,a) [45]=true
   .simp only[ag c1];rfl
   simp only[aa c1];by_cases c2:pY (k,n,s,a) [126]=true
   .simp only[ag c2];rfl
   simp only[aa c2];by_cases c3:pY (k,n,s,a) [43]=true
   .simp only[ag c3];rfl
   simp only[aa c3];rfl
  cases hg
def alD (t:Tok):List fA:=[.val (.int .i64 (Px.bin t).1),.val (.int .i64 (Px.bin t).2)]
theorem aaU:dc X0 fU 142 (zx alD) :=
 cS (λargs=>lt.bS rfl args) (jH Rh n0) λargs rs hg=>by
  unfold zx at hg;split at hg
  .rename_i k n s a;simp only[aq,ay]at hg;obtain⟨h1,rfl⟩:=hg;refine⟨[.int .i64 (Px.bin (k,n,s,a)).1,.int .i64 (Px.bin (k,n,s,a)).2],gO,5,?_,rfl,rfl⟩;have h:aT X0 (cN M4 [] AV) gO 5 142 [.agg [.int .i64 k,.int .i64 n,.str s,.int .i64 a]] aG.empty (λv _=>some v) =
    ah (!bI k 4) (some (.fH [.int .i64 0,.int .i64 0])) (List.rec (motive:=λ_=>Option AV) (some (.fH [.int .i64 0,.int .i64 0])) (λq _ r=>ah (decide (s=q.1)) (some (.fH [.int .i64 q.2.1,.int .i64 q.2.2])) r) alC):=by kernel_rfl
   rw[h,cn];have key:∀m:List (List UInt8×Int×Int),(List.rec (motive:=λ_=>Option AV) (some (.fH [.int .i64 0,.int .i64 0])) (λq _ r=>ah (decide (s=q.1)) (some (.fH [.int .i64 q.2.1,.int .i64 q.2.2])) r) m:Option AV)=some (.fH [.int .i64 (kL s m).1,.int .i64 (kL s m).2]):=by
    intro m;induction m with
    |nil=>rfl
    |cons q m ih =>
     show ah (decide (s=q.1)) _ (List.rec (motive:=λ_=>Option AV) _ _ m)=_;rw[ih,kL];by_cases hq:s=q.1
     .rw[aX hq,ag hq]
     rw[aU hq,aa hq]
   rw[key];unfold Px.bin;by_cases c1:k=4
   .simp only[ag c1];rfl
   simp only[aa c1];rfl
  cases hg
def M5:List wh:=(137,[none],zx adL)::(138,[none],zx adM)::(142,[none],zx alD)::M4
theorem Ht:iT X0 fU M5:=.cons WZ (.cons W0 (.cons aaU Rh))
def JC (e:Ty):AV->Option (List e.den)
 |.dH e' l=>iC e' e l
 |.dG=>some []
 |_=>none
def gCl (rec:List Tok->Int->St->mW)(ins:List fN):Option (Bool×List fN×List fN) :=
 match ins with
 |[.val L,.val (.int .i64 a),.val (.int .i64 d),.list t0 t x,.val (.int .i64 e),.val (.int .i64 f),.val (.int .i64 s)] =>
  match JC dL L,iC t eC x with
  |some l,some x=>some (Nat.beq t0 76&&Nat.ble l.length 2000000 && !bC a 0 && !bC l.length a && !bC d 0 && !bC 50 d&&Nat.ble x.length 200 && !bC s 1 && !bC 7 s&&(rec l s ⟨a,d,x,e,f⟩).isSome,
   [.val L,.val (.int .i64 ((rec l s ⟨a,d,x,e,f⟩).getD (false,⟨a,d,x,e,f⟩)).2.a),.val (.int .i64 ((rec l s ⟨a,d,x,e,f⟩).getD (false,⟨a,d,x,e,f⟩)).2.d),.list 76 eC ((rec l s ⟨a,d,x,e,f⟩).getD (false,⟨a,d,x,e,f⟩)).2.x,
    .val (.int .i64 ((rec l s ⟨a,d,x,e,f⟩).getD (false,⟨a,d,x,e,f⟩)).2.e),.val (.int .i64 ((rec l s ⟨a,d,x,e,f⟩).getD (false,⟨a,d,x,e,f⟩)).2.f)],
   [.val (.bool ((rec l s ⟨a,d,x,e,f⟩).getD (false,⟨a,d,x,e,f⟩)).1)])
  |_,_=>none
 |_=>none
def cCl (rec:List Tok->Int->St->mW):Gi:=⟨some (162,[none,none,none,some (76,eC),none,none]),[none],gCl rec⟩
def N1 (rec:List Tok->Int->St->mW):List pQ:=[(107,cCl rec)]
abbrev Hy:=AV×List AV×Nat×Option Row
abbrev sR:=Option Hy
def kR (v:AV)(H:aG):sR :=
 match H.get 0 with
 |some (.cells t [c0,c1,c2,c3,c4,c5])=>match c3 with
  |.own id n=>ah (Nat.beq t 162) (some (v,[c0,c1,c2,c4,c5],n,H.get id)) none
  |_=>none
 |_=>none
def pCl:List Bool:=[true,true,true,true,true,true,true,false,false]
def W5:ei:=⟨gD [0,1,4] pCl,.none,[]⟩
def aaV (l:List Row):aG:=l.foldl (λM r=>M.push r) ⟨0,0,1,.e⟩
def mCl (L:AV)(n:Nat)(st:St):aG:=aaV [.cells 162 [L,.int .i64 st.a,.int .i64 st.d,.own 1 n,.int .i64 st.e,.int .i64 st.f],.list 76 eC st.x 0 false false]
abbrev cC (rec:List Tok->Int->St->mW)(β:Type):cI β:=cN M5 (N1 rec) β
def jCl (rec:List Tok->Int->St->mW)(L:AV)(s:Int)(r m:Nat)(n:Nat)(st:St):sR:=iF X0 (cC rec _) W5 r 107 pCl kR m (kr 218 [(0,.ptr 0 0),(1,.int .i64 s),(4,.bool false)]) (mCl L n st)
def Pf (rec:List Tok->Int->St->mW)(l:List Tok)(s:Int)(st:St):Bool:=true&&Nat.ble l.length 2000000 && !bC st.a 0 && !bC l.length st.a && !bC st.d 0 && !bC 50 st.d&&Nat.ble st.x.length 200 && !bC s 1 && !bC 7 s&&(rec l s st).isSome
def eH (rec:List Tok->Int->St->mW)(l:List Tok)(s:Int)(st:St):Bool×St:=(rec l s st).getD (false,st)
def B6 (b:Bool)(L:AV)(st:St)(n:Nat):sR:=some (.bool b,[L,.int .i64 st.a,.int .i64 st.d,.int .i64 st.e,.int .i64 st.f],n,some (.list 76 eC st.x 0 false false))
def Hz (rec:List Tok->Int->St->mW)(L:AV)(l:List Tok)(s:Int)(st:St)(k:St->sR):sR :=
 ah (Pf rec l s st&&true) (ah (!(eH rec l s st).1) (B6 false L (eH rec l s st).2 (eH rec l s st).2.x.length) (k (eH rec l s st).2)) none
def HA (L:AV)(st:St)(nd:Nd)(f:Int)(k:St->Nat->sR)(n:Nat):sR :=
 ah (bI n 200) (B6 false L { st with e:=3,f:=f } n) (ah (Nat.ble (st.x.length+1) 2000000) (k { st with x:=st.x++[nd] } (st.x.length+1)) none)
set_option maxRecDepth 100000 in
theorem agl (rec:List Tok->Int->St->mW)(l:List Tok)(s:Int)(r m n:Nat)(a d e f:Int)(x:List Nd):jCl rec (.dH dL l) s r (m+1) n ⟨a,d,x,e,f⟩ =
 ah (bC a l.length) (Option.rec (motive:=λ_=>sR) none (λt=>ah (bC (Px.bin t).2 s) (B6 true (.dH dL l) ⟨a,d,x,e,f⟩ n)
  (Hz rec (.dH dL l) l (IntKind.wrap .i64 ((Px.bin t).2+1)) ⟨IntKind.wrap .i64 (a+1),d,x,e,f⟩ λo =>
   HA (.dH dL l) o ((Px.bin t).1,0,[],IntKind.wrap .i64 (n-1),IntKind.wrap .i64 (o.x.length-1)) a (λo' n'=>jCl rec (.dH dL l) s r m n' o') o.x.length)) (dQ l a)) (B6 true (.dH dL l) ⟨a,d,x,e,f⟩ n):=by kernel_rfl
def sgT (t:Tok)(s:List UInt8):Bool:=bI t.1 4&&decide (t.2.2.1=s)
def HB (L:AV)(st:St)(k:St->sR)(n:Nat):sR :=
 ah (bI st.d 50) (B6 false L { st with e:=3,f:=st.a } n) (k { st with d:=IntKind.wrap .i64 (st.d+1),a:=IntKind.wrap .i64 (st.a+1) })
def W6 (L:AV)(a d e f:Int)(x:List Nd)(s:Int):List fN:=[.val L,.val (.int .i64 a),.val (.int .i64 d),.list 76 eC x,.val (.int .i64 e),.val (.int .i64 f),.val (.int .i64 s)]
def W7 (rec:List Tok->Int->St->mW)(l:List Tok)(st:St)(K:St->Nat->sR)(t:Tok):sR :=
 ah (B3 bZ t).isSome (HA (.dH dL l) { st with a:=IntKind.wrap .i64 (st.a+1) } ((B3 bZ t).getD zNd) st.a K st.x.length)
  (ah (pref t).isSome (HB (.dH dL l) st (λs1=>Hz rec (.dH dL l) l 7 s1 λo =>
   ah (!bI ((pref t).getD 0) 0) (HA (.dH dL l) { o with d:=IntKind.wrap .i64 (o.d-1) } ((pref t).getD 0,0,[],IntKind.wrap .i64 (o.x.length-1),0) st.a K o.x.length) (K { o with d:=IntKind.wrap .i64 (o.d-1) } o.x.length)) st.x.length)
   (ah (sgT t [40]) (HB (.dH dL l) st (λs1=>Hz rec (.dH dL l) l 1 s1 λo =>
    ah (!bC o.a l.length) (B6 false (.dH dL l) { o with e:=4,f:=o.a } o.x.length) (Option.rec (motive:=λ_=>sR) none (λc=>ah (!sgT c [41]) (B6 false (.dH dL l) { o with e:=4,f:=o.a } o.x.length)
     (K { o with d:=IntKind.wrap .i64 (o.d-1),a:=IntKind.wrap .i64 (o.a+1) } o.x.length)) (dQ l o.a))) st.x.length)
    (B6 false (.dH dL l) { st with e:=4,f:=st.a } st.x.length)))
set_option maxRecDepth 100000 in
theorem aaW (rec:List Tok->Int->St->mW)(l:List Tok)(s:Int)(r:Nat)(a d e f:Int)(x:List Nd) :
 aT X0 (cC rec Hy) W5 r 107 [.ptr 0 0,.int .i64 s] (jn 162 6 (W6 (.dH dL l) a d e f x s)) kR =
 ah (!bC a l.length) (B6 false (.dH dL l) ⟨a,d,x,4,a⟩ x.length) (Option.rec (motive:=λ_=>sR) none (W7 rec l ⟨a,d,x,e,f⟩ (λo n=>jCl rec (.dH dL l) s r r n o)) (dQ l a)):=by kernel_rfl
theorem getI_at? {α:Type}(l:List α)(i:Int):dQ l i=at? l i:=by cases i<;>rfl
structure BD (l:List Tok)(st:St):Prop where
 len:l.length<=2000000
 a0:0<=st.a
 a1:st.a<=(l.length:Int)
 d0:0<=st.d
 d1:st.d<=50
 x:st.x.length<=200
def Ur (L:AV):mW->sR
 |some (b,st)=>B6 b L st st.x.length
 |none=>none
def E9 (L:AV)(r:mW)(k:St->sR):sR :=
 match r with
 |some (true,o)=>k o
 |some (false,o)=>B6 false L o o.x.length
 |none=>none
theorem W8 (L:AV)(r:mW)(k:St->mW):Ur L (Pe r k)=E9 L r λo=>Ur L (k o):=by
 unfold Pe E9;split<;>rfl
theorem bind_congr {L:AV}{r:mW}{k k':St->sR}(h:∀o,r=some (true,o)->k o=k' o):E9 L r k=E9 L r k':=by
 unfold E9;split
 .exact h _ rfl
 .rfl
 rfl
section
variable {rec:List Tok->Int->St->mW} {l:List Tok}
theorem Ml {L:AV}{s:Int}{st:St}{k:St->sR}(h:BD l st)(h1:1<=s)(h7:s<=7):Hz rec L l s st k=E9 L (rec l s st) k:=by
 unfold Hz Pf eH E9;rw[dS h.len,fL (h.a0),fL h.a1,fL h.d0,fL h.d1,dS h.x,fL h1,fL h7];cases hr:rec l s st with
 |none=>rfl
 |some q =>
  obtain⟨b,o⟩:=q;cases b<;>rfl
theorem Fa {L:AV}{st:St}{nd:Nd}{f:Int}{k:St->Nat->sR}{k':St->mW}(h:BD l st) (hk:st.x.length≠200->k { st with x:=st.x++[nd] } (st.x.length+1)=Ur L (k' { st with x:=st.x++[nd] })):HA L st nd f k st.x.length=Ur L (sO st nd f k'):=by
 unfold HA sO;by_cases h2:st.x.length=200
 .rw[ag h2,Gg (by omega)];rfl
 rw[aa h2,x9 (by omega),dS (by have:=h.x;omega)];exact hk h2
theorem W9 {L:AV}{st:St}{k:St->sR}{k':St->mW}(h:BD l st)(ha:st.a<(l.length:Int)) (hk:st.d≠50->k { st with d:=st.d+1,a:=st.a+1 }=Ur L (k' { st with d:=st.d+1,a:=st.a+1 })):HB L st k st.x.length=Ur L (sP st k'):=by
 unfold HB sP;have:=h.len;have:=h.a0;have:=h.d0;have:=h.d1;by_cases h2:st.d=50
 .rw[ag h2,Gg h2];rfl
 rw[aa h2,x9 h2,i64_in (n:=st.d+1) (by omega) (by omega),i64_in (n:=st.a+1) (by omega) (by omega)];exact hk h2
theorem Xa (t:Tok)(s:List UInt8):sgT t s=pY t s:=B5 t.1 t.2.1 t.2.2.2 t.2.2.1 s
def aaX (rec:List Tok->Int->St->mW)(l:List Tok):Prop:=∀s st o,1<=s->BD l st->rec l s st=some (true,o)->Grown bZ l st o
theorem BD.grown {st o:St}(h:BD l st)(g:Grown bZ l st o):BD l o:=by
 obtain⟨t,_,_,h3,h4,h5,_,_,h8⟩:=g;exact⟨h.len,by have:=h.a0;omega,h4,by rw[h5];exact h.d0,by rw[h5];exact h.d1,h8⟩
theorem adN (hf:aaX rec l)(s:Int)(hs:1<=s)(r:Nat):∀(m:Nat) (st:St),BD l st->jCl rec (.dH dL l) s r m st.x.length st=Ur (.dH dL l) (mz l (rec l) s m st)
 |0,st,_=>rfl
 |m+1,⟨a,d,x,e,f⟩,h=>by
  have hlen:=h.len;have ha0:=h.a0;simp only at ha0;rw[show (⟨a,d,x,e,f⟩:St).x.length=x.length from rfl,agl,getI_at?];unfold mz;cases jG:at? l a with
  |none =>
   have hge:(l.length:Int)<=a:=by
    unfold at? at jG;split at jG
    .rename_i n;have:=gp.1 jG;simp;omega
    omega
   rw[fL hge];rfl
  |some t =>
   have hlt:=jo jG;rw[pZ hlt.2];show ah (bC (Px.bin t).2 s) _ _=_;simp only;rw[cA];by_cases hb:(Px.bin t).2<s
   .rw[ag hb,ag hb];rfl
   rw[aa hb,aa hb];have hbo:=WX (t:=t) (by omega);have hbd:BD l ⟨a+1,d,x,e,f⟩:=⟨hlen,by show 0<=a+1;omega,by show a+1<=_;omega,h.d0,h.d1,h.x⟩;rw[i64_in (n:=(Px.bin t).2+1) (by omega) (by omega),i64_in (n:=a+1) (by omega) (by omega),Ml hbd (by omega) (by omega),W8];refine bind_congr λo ho=>?_
   have hg:=hbd.grown (hf _ _ _ (by omega) hbd ho);have hx:=h.x;simp only at hx;have hox:=hg.x;rw[i64_in (n:=(x.length:Int)-1) (by omega) (by omega),i64_in (n:=(o.x.length:Int)-1) (by omega) (by omega)];refine Fa (l:=l) hg λhne=>?_
   have:=adN hf s hs r m { o with x:=o.x++[((Px.bin t).1,0,[],(x.length:Int)-1,(o.x.length:Int)-1)] } ⟨hg.len,hg.a0,hg.a1,hg.d0,hg.d1,by show (o.x++[_]).length<=200;simp;omega⟩;rw[show ({ o with x:=o.x++[((Px.bin t).1,0,[],(x.length:Int)-1,(o.x.length:Int)-1)] }:St).x.length=o.x.length+1 by simp]at this;exact this
theorem Xb (hf:aaX rec l){K:St->Nat->sR}{K':St->mW}(hK:∀o,BD l o->K o o.x.length=Ur (.dH dL l) (K' o)){st:St}(h:BD l st){t:Tok}(jG:at? l st.a=some t):W7 rec l st K t=Ur (.dH dL l) (rD bZ l (rec l) st K'):=by
 have hlen:=h.len;have ha0:=h.a0;have hlt:=jo jG;have hx:=h.x;have hd0:=h.d0;have hd1:=h.d1;unfold W7 rD;rw[jG];simp only;cases ho:B3 bZ t with
 |some n =>
  show HA _ _ _ _ _ _=_;rw[i64_in (n:=st.a+1) (by omega) (by omega)];refine Fa (l:=l) (st:={ st with a:=st.a+1 }) ⟨hlen,by show 0<=st.a+1;omega,by show st.a+1<=_;omega,hd0,hd1,hx⟩ λhne=>?_
  have hne:st.x.length≠200:=hne;have:=hK { st with a:=st.a+1,x:=st.x++[n] } ⟨hlen,by show 0<=st.a+1;omega,by show st.a+1<=_;omega,hd0,hd1,by show (st.x++[n]).length<=200;simp;omega⟩;rw[show ({ st with a:=st.a+1,x:=st.x++[n] }:St).x.length=st.x.length+1 by simp]at this;exact this
 |none =>
  show ah (pref t).isSome _ _=_;simp only;have inner:∀(s:Int),1<=s->s<=7->∀(q:St->sR) (q':St->mW),(∀o,BD l o->o.d=st.d+1->q o=Ur (.dH dL l) (q' o))->HB (.dH dL l) st (λs1=>Hz rec (.dH dL l) l s s1 q) st.x.length=Ur (.dH dL l) (sP st λs1=>Pe (rec l s s1) q'):=λs h1 h7 q q' hq=>by
   refine W9 (l:=l) h hlt.2 λhne=>?_
   have hbd:BD l { st with d:=st.d+1,a:=st.a+1 }:=⟨hlen,by show 0<=st.a+1;omega,by show st.a+1<=_;omega,by show 0<=st.d+1;omega,by show st.d+1<=50;omega,hx⟩;rw[Ml hbd h1 h7,W8];refine bind_congr λo hr=>?_
   have hg:=hf _ _ _ h1 hbd hr;refine hq o (hbd.grown hg) ?_;obtain⟨_,_,_,_,_,h5,_⟩:=hg;exact h5
  cases hp:pref t with
  |some op =>
   show HB _ _ _ _=_;simp only;refine inner 7 (by decide) (by decide) _ _ λo hbo hod=>?_
   have hox:=hbo.x;have Tp:BD l { o with d:=o.d-1 }:=⟨hlen,hbo.a0,hbo.a1,by show 0<=o.d-1;omega,by show o.d-1<=50;omega,hox⟩;show ah (!bI op 0) _ _=_;rw[cn,i64_in (n:=o.d-1) (by omega) (by omega),i64_in (n:=(o.x.length:Int)-1) (by omega) (by omega)];by_cases h0:op=0
   .rw[ag h0,ag h0];exact hK _ Tp
   rw[aa h0,aa h0];refine Fa (l:=l) (st:={ o with d:=o.d-1 }) Tp λhne=>?_
   have hne:o.x.length≠200:=hne;have:=hK { o with d:=o.d-1,x:=o.x++[(op,0,[],(o.x.length:Int)-1,0)] } ⟨hlen,Tp.a0,Tp.a1,Tp.d0,Tp.d1,by show (o.x++[_]).length<=200;simp;omega⟩;rw[show ({ o with d:=o.d-1,x:=o.x++[(op,0,[],(o.x.length:Int)-1,0)] }:St).x.length=o.x.length+1 by simp]at this;exact this
  |none =>
   show ah (sgT t [40]) _ _=_;rw[Xa,ax];by_cases h40:pY t [40]=true
   .rw[ag h40];simp only[h40,fF];refine inner 1 (by decide) (by decide) _ _ λo hbo hod=>?_
    have hoa:=hbo.a0;have hol:=hbo.a1;rw[getI_at?];cases aaY:at? l o.a with
    |none =>
     have hge:(l.length:Int)<=o.a:=by
      unfold at? at aaY;split at aaY
      .rename_i n hn;have:=gp.1 aaY;rw[hn];simp;omega
      rename_i hn;rw[hn]at hoa;omega
     rw[fL hge];rfl
    |some c =>
     have agj:=jo aaY;rw[pZ agj.2];show ah (!sgT c [41]) _ _=_;simp only;rw[Xa,i64_in (n:=o.d-1) (by omega) (by omega),i64_in (n:=o.a+1) (by omega) (by omega)];cases pY c [41] with
     |true=>exact hK { o with d:=o.d-1,a:=o.a+1 } ⟨hlen,by show 0<=o.a+1;omega,by show o.a+1<=_;omega,by show 0<=o.d-1;omega,by show o.d-1<=50;omega,hbo.x⟩
     |false=>rfl
   rw[aa h40];simp only[h40];rfl
end
theorem alG {rec:List Tok->Int->St->mW}{l:List Tok}(hf:aaX rec l){st:St}(h:BD l st){s:Int}(hs:1<=s) :
 aT X0 (cC rec Hy) W5 (l.length+1) 107 [.ptr 0 0,.int .i64 s] (jn 162 6 (W6 (.dH dL l) st.a st.d st.e st.f st.x s)) kR=Ur (.dH dL l) (rD bZ l (rec l) st (mz l (rec l) s (l.length+1))):=by
 obtain⟨a,d,x,e,f⟩:=st;rw[aaW,getI_at?];cases jG:at? l a with
 |none =>
  have ha0:=h.a0;simp only at ha0;have hge:(l.length:Int)<=a:=by
   unfold at? at jG;split at jG
   .rename_i n;have:=gp.1 jG;simp;omega
   omega
  rw[fL hge];unfold rD;simp only[jG];rfl
 |some t =>
  have hlt:=jo jG;rw[pZ hlt.2];exact Xb hf (λo ho=>adN hf s hs _ _ o ho) h jG
set_option maxRecDepth 100000 in
theorem Xc (rec:List Tok->Int->St->mW)(s:Int)(r:Nat)(a d e f:Int)(x:List Nd) :
 aT X0 (cC rec Hy) W5 r 107 [.ptr 0 0,.int .i64 s] (jn 162 6 (W6 .dG a d e f x s)) kR=ah (!bC a 0) (B6 false .dG ⟨a,d,x,4,a⟩ x.length) none:=by kernel_rfl
theorem adP {rec:List Tok->Int->St->mW}{L:AV}(hL:EZ L=true){a d e f s:Int}{x:List Nd}(hN:gy X0 fU 107 (cCl rec)){r:Nat}{b:Bool}{st:St}
 (h:aT X0 (cC rec Hy) W5 r 107 [.ptr 0 0,.int .i64 s] (jn 162 6 (W6 L a d e f x s)) kR=B6 b L st st.x.length) :
 ∃vs M1 cs1,C6 X0 fU 107 [.ptr 0 0,.int .i64 s] (jn 162 6 (W6 L a d e f x s)) vs M1/\M1.get 0=some (.cells 162 cs1)/\cs1.length=6 /\
  rq M1 [0] (cs1++vs) [.val L,.val (.int .i64 st.a),.val (.int .i64 st.d),.list 76 eC st.x,.val (.int .i64 st.e),.val (.int .i64 st.f),.val (.bool b)]:=by
 obtain⟨v,M1,h1,h2⟩:=oy (λargs=>lt.bS rfl args) (jH Ht (.cons hN .nil) Hy) h;unfold kR at h1;split at h1
 .rename_i t c0 c1 c2 c3 c4 c5 hg;split at h1
  .rename_i id n;rw[ax]at h1;split at h1
   .rename_i ht;obtain rfl:=bf ht;simp only[aq,ay,List.cons.injEq,and_true]at h1;obtain⟨rfl,⟨rfl,rfl,rfl,rfl,rfl⟩,rfl,hrow⟩:=h1;refine⟨[.bool b],M1,_,h2 [.bool b] rfl,hg,rfl,rfl,hL,rfl,rfl,rfl,rfl,.inl ⟨id,0,false,rfl,hrow,?_,rfl,rfl,rfl,rfl,rfl,rfl,trivial⟩⟩;intro hm;have:id=0:=by simpa using hm
    subst this;rw[hg]at hrow;cases hrow
   cases h1
  cases h1
 cases h1
theorem Pg (k:Nat)(l:List Tok):aaX (λl=>eM bZ l k) l:=λs st o h1 hb hr=>lI l k s st o h1 hb.x hb.a1 hr
theorem JD:∀k:Nat,gy X0 fU 107 (cCl λl=>eM bZ l k)
 |0=>by
  intro ins outs rs hg;exfalso;have hg:gCl (λl=>eM bZ l 0) ins=some (true,outs,rs):=hg;unfold gCl at hg;split at hg
  .split at hg
   .simp[eM]at hg
   cases hg
  cases hg
 |k+1=>by
  intro ins outs rs hg;have hg:gCl (λl=>eM bZ l (k+1)) ins=some (true,outs,rs):=hg;unfold gCl at hg;split at hg;case h_2=>cases hg
  rename_i L a d t0 t x e f s _;split at hg;case h_2=>cases hg
  rename_i l x' hl hx;obtain⟨rfl,hx2⟩:=bT hx;have hx2:x=x':=hx2;subst hx2;simp only[aq,ay,ak,aS]at hg;obtain⟨⟨⟨⟨⟨⟨⟨⟨⟨⟨g0,g1⟩,g2⟩,g3⟩,g4⟩,g5⟩,g6⟩,g7⟩,g8⟩,g9⟩,rfl,rfl⟩:=hg;obtain rfl:=bf g0;have JG:∀{p q:Int},bC p q=false->q<=p:=λ{p q} h=>by rw[cD]at h;simpa using h
  have hbd:BD l ⟨a,d,x,e,f⟩:=⟨az g1,JG g2,JG g3,JG g4,JG g5,az g6⟩;obtain⟨⟨b,st⟩,hr⟩:=bV.1 g9;rw[hr];have hc:eM bZ l (k+1) s ⟨a,d,x,e,f⟩=rD bZ l (eM bZ l k) ⟨a,d,x,e,f⟩ (mz l (eM bZ l k) s (l.length+1)):=rfl;cases L with
  |dH e' l0 =>
   obtain⟨rfl,A6⟩:=bT hl;have A6:l0=l:=A6;subst A6;have hrun:=alG (rec:=λl=>eM bZ l k) (Pg k l0) hbd (JG g7);rw[<-hc,hr]at hrun;exact λ_ _=>adP rfl (JD k) hrun
  |dG =>
   have hl:some []=some l:=hl;cases hl;have ha:a=0:=by have:=hbd.a0;have:=hbd.a1;simp only[bA]at *;omega
   subst ha;have hrun:=Xc (λl=>eM bZ l k) s 5 0 d e f x;have Zs:(false,(⟨0,d,x,4,0⟩:St))=(b,st):=bL (hc.symm.trans hr);cases Zs;exact λ_ _=>adP rfl (JD k) hrun
  |_=>cases hl
def vC (v:AV)(H:aG):Option (AV×Option Row) :=
 match v with
 |.fH (.own i _::_)=>some (v,H.get i)
 |.own i _=>some (v,H.get i)
 |_=>some (v,none)
theorem Fc {v:AV}{H:aG}{r:AV×Option Row}(h:vC v H=some r):v=r.1:=by
 unfold vC at h;split at h<;>(cases h;rfl)
def bq (l:List Tok)(a:Int):List Nd×Int×Int×Int:=(qm bZ l a).getD ([],0,0,0)
def Fe (e f:Int):Option (AV×Option Row):=some (.fH [.dG,.int .i64 0,.agg [.int .i64 e,.int .i64 f]],none)
def Ff (x:List Nd)(n:Nat)(a:Int):Option (AV×Option Row):=some (.fH [.own 2 n,.int .i64 a,.agg [.int .i64 0,.int .i64 0]],some (.list 76 eC x 0 false false))
abbrev cM (M:List wh)(rec:List Tok->Int->St->mW)(β:Type):cI β:=cN M (N1 rec) β
set_option maxRecDepth 100000 in
theorem aaZ (rec:List Tok->Int->St->mW)(l:List Tok)(a:Int)(r:Nat):aT X0 (cM M5 rec _) gO r 67 [.dH dL l,.int .i64 a] aG.empty vC =
 ah (bC a 0) (Fe 2 0) (ah (bC l.length a) (Fe 2 0) (ah (Pf rec l 1 ⟨a,0,[],0,0⟩&&true) (ah (!(eH rec l 1 ⟨a,0,[],0,0⟩).1) (Fe (eH rec l 1 ⟨a,0,[],0,0⟩).2.e (eH rec l 1 ⟨a,0,[],0,0⟩).2.f)
  (Ff (eH rec l 1 ⟨a,0,[],0,0⟩).2.x (eH rec l 1 ⟨a,0,[],0,0⟩).2.x.length (eH rec l 1 ⟨a,0,[],0,0⟩).2.a)) none)):=by kernel_rfl
def gPs (args:List AV):Option (Bool×List fA) :=
 match args with
 |[L,.int .i64 a]=>match JC dL L with
  |some l=>some (Nat.ble l.length 2000000,[.list 76 eC (bq l a).1,.val (.int .i64 (bq l a).2.1),.val (.agg [.int .i64 (bq l a).2.2.1,.int .i64 (bq l a).2.2.2])])
  |none=>none
 |_=>none
theorem sj {e:Ty}{a:AV}{l:List e.den}(h:JC e a=some l):a = .dH e l\/(a = .dG/\l=[]):=by
 unfold JC at h;split at h
 .obtain ⟨he,h2⟩:=bT h;subst he;have h2:_=l:=h2;subst h2;exact .inl rfl
 .cases h;exact .inr ⟨rfl,rfl⟩
 cases h
theorem Xh (rec:List Tok->Int->St->mW)(a:Int)(r:Nat):aT X0 (cM M5 rec _) gO r 67 [.dG,.int .i64 a] aG.empty vC =
 ah (bC a 0) (Fe 2 0) (ah (bC 0 a) (Fe 2 0) (ah (Pf rec [] 1 ⟨a,0,[],0,0⟩&&true) (ah (!(eH rec [] 1 ⟨a,0,[],0,0⟩).1) (Fe (eH rec [] 1 ⟨a,0,[],0,0⟩).2.e (eH rec [] 1 ⟨a,0,[],0,0⟩).2.f)
  (Ff (eH rec [] 1 ⟨a,0,[],0,0⟩).2.x (eH rec [] 1 ⟨a,0,[],0,0⟩).2.x.length (eH rec [] 1 ⟨a,0,[],0,0⟩).2.a)) none)):=by kernel_rfl
theorem agm:dc X0 fU 67 gPs:=by
 intro args rs hg;unfold gPs at hg;split at hg;case h_2=>cases hg
 rename_i L a;split at hg;case h_2=>cases hg
 rename_i l hl;simp only[aq,ay]at hg;obtain⟨hb,rfl⟩:=hg;have hb:=az hb;have hrun:aT X0 (cM M5 (λl0=>eM bZ l0 (l.length+1)) _) gO 5 67 [L,.int .i64 a] aG.empty vC =
  if (bq l a).2.2.1=0 then Ff (bq l a).1 (bq l a).1.length (bq l a).2.1 else Fe (bq l a).2.2.1 (bq l a).2.2.2:=by
  have e:aT X0 (cM M5 (λl0=>eM bZ l0 (l.length+1)) _) gO 5 67 [L,.int .i64 a] aG.empty vC =
   ah (bC a 0) (Fe 2 0) (ah (bC l.length a) (Fe 2 0) (ah (Pf (λl0=>eM bZ l0 (l.length+1)) l 1 ⟨a,0,[],0,0⟩&&true) (ah (!(eH (λl0=>eM bZ l0 (l.length+1)) l 1 ⟨a,0,[],0,0⟩).1) (Fe (eH (λl0=>eM bZ l0 (l.length+1)) l 1 ⟨a,0,[],0,0⟩).2.e (eH (λl0=>eM bZ l0 (l.length+1)) l 1 ⟨a,0,[],0,0⟩).2.f)
    (Ff (eH (λl0=>eM bZ l0 (l.length+1)) l 1 ⟨a,0,[],0,0⟩).2.x (eH (λl0=>eM bZ l0 (l.length+1)) l 1 ⟨a,0,[],0,0⟩).2.x.length (eH (λl0=>eM bZ l0 (l.length+1)) l 1 ⟨a,0,[],0,0⟩).2.a)) none)):=by
   rcases sj hl with rfl|⟨rfl,rfl⟩
   .exact aaZ _ l a 5
   exact Xh _ a 5
  rw[e,cA,cA];have key:∀r,qm bZ l a=some r->bq l a=r:=λr h=>by unfold bq;rw[h];rfl
  by_cases h1:a<0
  .rw[ag h1,key ([],0,2,0) (by unfold qm;rw[ag (Or.inl h1)])];rfl
  rw[aa h1];by_cases h2:(l.length:Int)<a
  .rw[ag h2,key ([],0,2,0) (by unfold qm;rw[ag (Or.inr h2)])];rfl
  rw[aa h2];have hno:¬(a<0\/(l.length:Int)<a):=by omega
  have hbd:BD l ⟨a,0,[],0,0⟩:=⟨hb,by show 0<=a;omega,by show a<=_;omega,bB 0,by show (0:Int)<=50;decide,by simp⟩;obtain⟨⟨b,st⟩,hr⟩:=sQ (nm:=bZ) l (l.length+1) 1 ⟨a,0,[],0,0⟩ (by decide) (by simp) hbd.a0 hbd.a1 (by show _-a<_;omega);unfold Pf eH;rw[dS hb,fL hbd.a0,fL hbd.a1,fL hbd.d0,fL hbd.d1,dS hbd.x];simp only[hr];cases b with
  |true=>rw[key (st.x,st.a,0,0) (by unfold qm;rw[aa hno,hr])];rfl
  |false =>
   have hne:=Dy l _ _ _ st hr;rw[key ([],0,st.e,st.f) (by unfold qm;rw[aa hno,hr])];simp only;rw[aa hne];rfl
 obtain⟨r,hr⟩:=vF (nm:=bZ) l a;by_cases h0:(bq l a).2.2.1=0
 .rw[ag h0]at hrun;unfold Ff at hrun;obtain⟨v,M1,h1,h2⟩:=oy (λargs=>lt.bS rfl args) (jH Ht (.cons (JD (l.length+1)) .nil) (AV×Option Row)) hrun;have hv:=Fc h1;subst hv;refine⟨_,M1,h2 [.own 2 (bq l a).1.length,.int .i64 (bq l a).2.1,.agg [.int .i64 0,.int .i64 0]] rfl,rfl,.inl ⟨2,0,false,rfl,?_,by simp,rfl,rfl,?_,rfl,trivial⟩⟩
  .exact (jN (bL h1)).2
  have hz:(bq l a).2.2.2=0:=by
   unfold bq at h0 ⊢;rw[hr]at h0 ⊢;unfold qm at hr;split at hr
   .cases hr;exact absurd h0 (by decide)
   split at hr
   .cases hr;rfl
   .rename_i st hc;cases hr;exact absurd h0 (Dy l _ _ _ st hc)
   cases hr
  rw[h0,hz]
 rw[aa h0]at hrun;unfold Fe at hrun;obtain⟨v,M1,h1,h2⟩:=oy (λargs=>lt.bS rfl args) (jH Ht (.cons (JD (l.length+1)) .nil) (AV×Option Row)) hrun;have hv:=Fc h1;subst hv;have hz:(bq l a).1=[]/\(bq l a).2.1=0:=by
  unfold bq at h0 ⊢;rw[hr]at h0 ⊢;exact(Mn (nm:=bZ) (l:=l) (a:=a) hr).1 h0
 refine⟨_,M1,h2 [.dG,.int .i64 0,.agg [.int .i64 (bq l a).2.2.1,.int .i64 (bq l a).2.2.2]] rfl,rfl,.inr ⟨rfl,hz.1,?_,rfl,rfl,rfl,trivial⟩⟩;rw[hz.2]
def M6:List wh:=(67,[some dL,none],gPs)::M5
theorem xm:iT X0 fU M6:=.cons agm Ht
end
end Go.Proofs.YtbeckacfibledaaGreatDoor.ex

/- Expressions: the setting of the laws on lines. Expressions: what a token alone is. Expressions: the contract of climb, as it calls itself. Expressions: the contract of climb. Expressions: the contract of Parse. -/
import Derived.Test.YtbeckacfibledaaGreatDoorGrb
import Derived.Test.YtbeckacfibledaaGreatDoorLyh
import Derived.Test.YtbeckacfibledaaGreatDoorLyg
import Derived.Test.YtbeckacfibledaaGreatDoorGxa
set_option linter.unusedVariables false
set_option linter.unusedSimpArgs false

namespace Go.Proofs.YtbeckacfibledaaGreatDoor.ex
open Go.Tv Go.Ev
noncomputable section
abbrev X0:gY:=lt.Xg lt.BJ
abbrev fR:=dR X0 lt.kn
abbrev gG:ez:=lt.gG
def cN (M:List vW)(N:List pI)(β:Type):cH β:=Wx X0 (T4 M) (aam N) lt.inl 400 β 40
theorem jy {M:List vW}{N:List pI}(hM:iO X0 fR M)(hN:gR X0 fR N)(β:Type):cX X0 fR (cN M N β):=Wy hM hN (λf h args=>lt.bR h args) 400 40 β
theorem n0:gR X0 fR []:=.nil
abbrev bX:List UInt8->Bool:=lt.bX
def M3:List vW:=(66,[none],lt.OO)::(18,[none],lt.afF)::(155,[none],lt.gNm)::lt.R1
theorem QL:iO X0 fR M3:=.cons (lt.afG lt.BJ) (.cons lt.akR (.cons (lt.akW lt.BJ) (lt.ada lt.BJ)))
end
end Go.Proofs.YtbeckacfibledaaGreatDoor.ex
namespace Go.Proofs.YtbeckacfibledaaGreatDoor.ex
open Go.Tv Go.Ev Go.Px
set_option maxRecDepth 100000
noncomputable section
def WA (n:Nd):AV:=.agg [.int .i64 n.1,.int .i64 n.2.1,.str n.2.2.1,.int .i64 n.2.2.2.1,.int .i64 n.2.2.2.2]
def zNd:Nd:=(0,0,[],0,0)
abbrev dL:Ty:=.pair (.int .i64) (.pair (.int .i64) (.pair .str (.int .i64)))
abbrev eC:Ty:=.pair (.int .i64) (.pair (.int .i64) (.pair .str (.pair (.int .i64) (.int .i64))))
def zi (f:Tok->List fy)(args:List AV):Option (Bool×List fy) :=
 match args with
 |[.agg [.int .i64 k,.int .i64 n,.str s,.int .i64 a]]=>some (true,f (k,n,s,a))
 |_=>none
def afN (args:List AV):Option (Bool×List fy) :=
 match args with
 |[.agg [.int .i64 k,.int .i64 n,.str s,.int .i64 a],.str t]=>some (true,[.val (.bool (bI k 4&&decide (s=t)))])
 |_=>none
theorem aap:cZ X0 fR 141 afN :=
 cR (λargs=>lt.bR rfl args) (jy QL n0) λargs rs hg=>by
  unfold afN at hg;split at hg
  .rename_i k n s a t;simp only[aq,ax]at hg;obtain⟨h1,rfl⟩:=hg;refine⟨[.bool (bI k 4&&decide (s=t))],gG,5,?_,rfl,rfl⟩;have h:aT X0 (cN M3 [] AV) gG 5 141 [.agg [.int .i64 k,.int .i64 n,.str s,.int .i64 a],.str t] aG.empty (λv _=>some v)=ah (bI k 4) (some (.bool (decide (s=t)))) (some (.bool false)):=by kernel_rfl
   rw[h];cases bI k 4<;>rfl
  cases hg
def M4:List vW:=(141,[none,none],afN)::M3
theorem QZ:iO X0 fR M4:=.cons aap QL
theorem BO (k n a:Int)(s t:List UInt8):(bI k 4&&decide (s=t))=pO (k,n,s,a) t:=by
 unfold pO;have e:(k==4)=decide (k=4):=by rw[bO];simp
 rw[eF,e]
def adg (t:Tok):List fy:=[.val (WA ((BM bX t).getD zNd)),.val (.bool (BM bX t).isSome)]
theorem WB:cZ X0 fR 137 (zi adg) :=
 cR (λargs=>lt.bR rfl args) (jy QZ n0) λargs rs hg=>by
  unfold zi at hg;split at hg
  .rename_i k n s a;simp only[aq,ax]at hg;obtain⟨h1,rfl⟩:=hg;refine⟨[WA ((BM bX (k,n,s,a)).getD zNd),.bool (BM bX (k,n,s,a)).isSome],gG,5,?_,rfl,rfl⟩;have h:aT X0 (cN M4 [] AV) gG 5 137 [.agg [.int .i64 k,.int .i64 n,.str s,.int .i64 a]] aG.empty (λv _=>some v) =
    ah (bI k 2) (some (.fG [WA (1,n,[],0,0),.bool true])) ((λrest=>ah (bI k 1) (ah (bX s) (some (.fG [WA (2,0,s,0,0),.bool true])) rest) rest)
     (ah (bI k 4&&decide (s=[36])) (some (.fG [WA (3,0,[],0,0),.bool true])) (ah (bI k 4&&decide (s=[36,36])) (some (.fG [WA (4,0,[],0,0),.bool true])) (some (.fG [WA zNd,.bool false]))))):=by kernel_rfl
   rw[h,BO k n a,BO k n a];unfold BM;simp only[cq];simp only[au];have rest:(if pO (k,n,s,a) [36]=true then some (AV.fG [WA (3,0,[],0,0),AV.bool true]) else if pO (k,n,s,a) [36,36]=true then some (AV.fG [WA (4,0,[],0,0),AV.bool true]) else some (AV.fG [WA zNd,AV.bool false])) =
    some (rH [WA ((if pO (k,n,s,a) [36]=true then some (3,0,[],0,0) else if pO (k,n,s,a) [36,36]=true then some (4,0,[],0,0) else none).getD zNd),AV.bool (if pO (k,n,s,a) [36]=true then some ((3,0,[],0,0):Nd) else if pO (k,n,s,a) [36,36]=true then some (4,0,[],0,0) else none).isSome]):=by
    by_cases c4:pO (k,n,s,a) [36]=true
    .simp only[ag c4];rfl
    simp only[aa c4];by_cases c5:pO (k,n,s,a) [36,36]=true
    .simp only[ag c5];rfl
    simp only[aa c5];rfl
   by_cases c1:k=2
   .simp only[ag c1];rfl
   simp only[aa c1];by_cases c2:k=1
   .by_cases c3:bX s=true
    .simp only[ag c2,ag c3,ag (And.intro c2 c3)];rfl
    simp only[ag c2,aa c3,aa (λh:k=1/\bX s=true=>c3 h.2)];exact rest
   simp only[aa c2,aa (λh:k=1/\bX s=true=>c2 h.1)];exact rest
  cases hg
def adh (t:Tok):List fy:=[.val (.int .i64 ((pref t).getD 0)),.val (.bool (pref t).isSome)]
theorem WC:cZ X0 fR 138 (zi adh) :=
 cR (λargs=>lt.bR rfl args) (jy QZ n0) λargs rs hg=>by
  unfold zi at hg;split at hg
  .rename_i k n s a;simp only[aq,ax]at hg;obtain⟨h1,rfl⟩:=hg;refine⟨[.int .i64 ((pref (k,n,s,a)).getD 0),.bool (pref (k,n,s,a)).isSome],gG,5,?_,rfl,rfl⟩;have h:aT X0 (cN M4 [] AV) gG 5 138 [.agg [.int .i64 k,.int .i64 n,.str s,.int .i64 a]] aG.empty (λv _=>some v) =
    ah (bI k 4&&decide (s=[45])) (some (.fG [.int .i64 5,.bool true])) (ah (bI k 4&&decide (s=[126])) (some (.fG [.int .i64 6,.bool true])) (ah (bI k 4&&decide (s=[43])) (some (.fG [.int .i64 0,.bool true])) (some (.fG [.int .i64 0,.bool false])))):=by kernel_rfl
   rw[h,BO k n a,BO k n a,BO k n a];unfold pref;simp only[au];by_cases c1:pO (k,n,s,a) [45]=true
   .simp only[ag c1];rfl
   simp only[aa c1];by_cases c2:pO (k,n,s,a) [126]=true
   .simp only[ag c2];rfl
   simp only[aa c2];by_cases c3:pO (k,n,s,a) [43]=true
   .simp only[ag c3];rfl
   simp only[aa c3];rfl
  cases hg
def ak1 (t:Tok):List fy:=[.val (.int .i64 (Px.bin t).1),.val (.int .i64 (Px.bin t).2)]
theorem aaq:cZ X0 fR 142 (zi ak1) :=
 cR (λargs=>lt.bR rfl args) (jy QZ n0) λargs rs hg=>by
  unfold zi at hg;split at hg
  .rename_i k n s a;simp only[aq,ax]at hg;obtain⟨h1,rfl⟩:=hg;refine⟨[.int .i64 (Px.bin (k,n,s,a)).1,.int .i64 (Px.bin (k,n,s,a)).2],gG,5,?_,rfl,rfl⟩;have h:aT X0 (cN M4 [] AV) gG 5 142 [.agg [.int .i64 k,.int .i64 n,.str s,.int .i64 a]] aG.empty (λv _=>some v) =
    ah (!bI k 4) (some (.fG [.int .i64 0,.int .i64 0])) (List.rec (motive:=λ_=>Option AV) (some (.fG [.int .i64 0,.int .i64 0])) (λq _ r=>ah (decide (s=q.1)) (some (.fG [.int .i64 q.2.1,.int .i64 q.2.2])) r) ak0):=by kernel_rfl
   rw[h,cw];have key:∀m:List (List UInt8×Int×Int),(List.rec (motive:=λ_=>Option AV) (some (.fG [.int .i64 0,.int .i64 0])) (λq _ r=>ah (decide (s=q.1)) (some (.fG [.int .i64 q.2.1,.int .i64 q.2.2])) r) m:Option AV)=some (.fG [.int .i64 (kG s m).1,.int .i64 (kG s m).2]):=by
    intro m;induction m with
    |nil=>rfl
    |cons q m ih =>
     show ah (decide (s=q.1)) _ (List.rec (motive:=λ_=>Option AV) _ _ m)=_;rw[ih,kG];by_cases hq:s=q.1
     .rw[aX hq,ag hq]
     rw[aU hq,aa hq]
   rw[key];unfold Px.bin;by_cases c1:k=4
   .simp only[ag c1];rfl
   simp only[aa c1];rfl
  cases hg
def M5:List vW:=(137,[none],zi adg)::(138,[none],zi adh)::(142,[none],zi ak1)::M4
theorem G8:iO X0 fR M5:=.cons WB (.cons WC (.cons aaq QZ))
def Jp (e:Ty):AV->Option (List e.den)
 |.dH e' l=>iu e' e l
 |.dG=>some []
 |_=>none
def gCl (rec:List Tok->Int->St->mP)(ins:List fK):Option (Bool×List fK×List fK) :=
 match ins with
 |[.val L,.val (.int .i64 a),.val (.int .i64 d),.list t0 t x,.val (.int .i64 e),.val (.int .i64 f),.val (.int .i64 s)] =>
  match Jp dL L,iu t eC x with
  |some l,some x=>some (Nat.beq t0 76&&Nat.ble l.length 2000000 && !bB a 0 && !bB l.length a && !bB d 0 && !bB 50 d&&Nat.ble x.length 200 && !bB s 1 && !bB 7 s&&(rec l s ⟨a,d,x,e,f⟩).isSome,
   [.val L,.val (.int .i64 ((rec l s ⟨a,d,x,e,f⟩).getD (false,⟨a,d,x,e,f⟩)).2.a),.val (.int .i64 ((rec l s ⟨a,d,x,e,f⟩).getD (false,⟨a,d,x,e,f⟩)).2.d),.list 76 eC ((rec l s ⟨a,d,x,e,f⟩).getD (false,⟨a,d,x,e,f⟩)).2.x,
    .val (.int .i64 ((rec l s ⟨a,d,x,e,f⟩).getD (false,⟨a,d,x,e,f⟩)).2.e),.val (.int .i64 ((rec l s ⟨a,d,x,e,f⟩).getD (false,⟨a,d,x,e,f⟩)).2.f)],
   [.val (.bool ((rec l s ⟨a,d,x,e,f⟩).getD (false,⟨a,d,x,e,f⟩)).1)])
  |_,_=>none
 |_=>none
def cCl (rec:List Tok->Int->St->mP):F6:=⟨some (162,[none,none,none,some (76,eC),none,none]),[none],gCl rec⟩
def N1 (rec:List Tok->Int->St->mP):List pI:=[(107,cCl rec)]
abbrev Hi:=AV×List AV×Nat×Option Row
abbrev sI:=Option Hi
def kR (v:AV)(H:aG):sI :=
 match H.get 0 with
 |some (.cells t [c0,c1,c2,c3,c4,c5])=>match c3 with
  |.own id n=>ah (Nat.beq t 162) (some (v,[c0,c1,c2,c4,c5],n,H.get id)) none
  |_=>none
 |_=>none
def pCl:List Bool:=[true,true,true,true,true,true,true,false,false]
def WD:ez:=⟨gZ [0,1,4] pCl,.none,[]⟩
def aar (l:List Row):aG:=l.foldl (λM r=>M.push r) ⟨0,0,1,.e⟩
def mCl (L:AV)(n:Nat)(st:St):aG:=aar [.cells 162 [L,.int .i64 st.a,.int .i64 st.d,.own 1 n,.int .i64 st.e,.int .i64 st.f],.list 76 eC st.x 0 false false]
abbrev cC (rec:List Tok->Int->St->mP)(β:Type):cH β:=cN M5 (N1 rec) β
def jCl (rec:List Tok->Int->St->mP)(L:AV)(s:Int)(r m:Nat)(n:Nat)(st:St):sI:=iH X0 (cC rec _) WD r 107 pCl kR m (lq 218 [(0,.ptr 0 0),(1,.int .i64 s),(4,.bool false)]) (mCl L n st)
def OV (rec:List Tok->Int->St->mP)(l:List Tok)(s:Int)(st:St):Bool:=true&&Nat.ble l.length 2000000 && !bB st.a 0 && !bB l.length st.a && !bB st.d 0 && !bB 50 st.d&&Nat.ble st.x.length 200 && !bB s 1 && !bB 7 s&&(rec l s st).isSome
def eH (rec:List Tok->Int->St->mP)(l:List Tok)(s:Int)(st:St):Bool×St:=(rec l s st).getD (false,st)
def BP (b:Bool)(L:AV)(st:St)(n:Nat):sI:=some (.bool b,[L,.int .i64 st.a,.int .i64 st.d,.int .i64 st.e,.int .i64 st.f],n,some (.list 76 eC st.x 0 false false))
def Hl (rec:List Tok->Int->St->mP)(L:AV)(l:List Tok)(s:Int)(st:St)(k:St->sI):sI :=
 ah (OV rec l s st&&true) (ah (!(eH rec l s st).1) (BP false L (eH rec l s st).2 (eH rec l s st).2.x.length) (k (eH rec l s st).2)) none
def Ho (L:AV)(st:St)(nd:Nd)(f:Int)(k:St->Nat->sI)(n:Nat):sI :=
 ah (bI n 200) (BP false L { st with e:=3,f:=f } n) (ah (Nat.ble (st.x.length+1) 2000000) (k { st with x:=st.x++[nd] } (st.x.length+1)) none)
set_option maxRecDepth 100000 in
theorem afO (rec:List Tok->Int->St->mP)(l:List Tok)(s:Int)(r m n:Nat)(a d e f:Int)(x:List Nd):jCl rec (.dH dL l) s r (m+1) n ⟨a,d,x,e,f⟩ =
 ah (bB a l.length) (Option.rec (motive:=λ_=>sI) none (λt=>ah (bB (Px.bin t).2 s) (BP true (.dH dL l) ⟨a,d,x,e,f⟩ n)
  (Hl rec (.dH dL l) l (IntKind.wrap .i64 ((Px.bin t).2+1)) ⟨IntKind.wrap .i64 (a+1),d,x,e,f⟩ λo =>
   Ho (.dH dL l) o ((Px.bin t).1,0,[],IntKind.wrap .i64 (n-1),IntKind.wrap .i64 (o.x.length-1)) a (λo' n'=>jCl rec (.dH dL l) s r m n' o') o.x.length)) (dQ l a)) (BP true (.dH dL l) ⟨a,d,x,e,f⟩ n):=by kernel_rfl
def sgT (t:Tok)(s:List UInt8):Bool:=bI t.1 4&&decide (t.2.2.1=s)
def Hp (L:AV)(st:St)(k:St->sI)(n:Nat):sI :=
 ah (bI st.d 50) (BP false L { st with e:=3,f:=st.a } n) (k { st with d:=IntKind.wrap .i64 (st.d+1),a:=IntKind.wrap .i64 (st.a+1) })
def WE (L:AV)(a d e f:Int)(x:List Nd)(s:Int):List fK:=[.val L,.val (.int .i64 a),.val (.int .i64 d),.list 76 eC x,.val (.int .i64 e),.val (.int .i64 f),.val (.int .i64 s)]
def WG (rec:List Tok->Int->St->mP)(l:List Tok)(st:St)(K:St->Nat->sI)(t:Tok):sI :=
 ah (BM bX t).isSome (Ho (.dH dL l) { st with a:=IntKind.wrap .i64 (st.a+1) } ((BM bX t).getD zNd) st.a K st.x.length)
  (ah (pref t).isSome (Hp (.dH dL l) st (λs1=>Hl rec (.dH dL l) l 7 s1 λo =>
   ah (!bI ((pref t).getD 0) 0) (Ho (.dH dL l) { o with d:=IntKind.wrap .i64 (o.d-1) } ((pref t).getD 0,0,[],IntKind.wrap .i64 (o.x.length-1),0) st.a K o.x.length) (K { o with d:=IntKind.wrap .i64 (o.d-1) } o.x.length)) st.x.length)
   (ah (sgT t [40]) (Hp (.dH dL l) st (λs1=>Hl rec (.dH dL l) l 1 s1 λo =>
    ah (!bB o.a l.length) (BP false (.dH dL l) { o with e:=4,f:=o.a } o.x.length) (Option.rec (motive:=λ_=>sI) none (λc=>ah (!sgT c [41]) (BP false (.dH dL l) { o with e:=4,f:=o.a } o.x.length)
     (K { o with d:=IntKind.wrap .i64 (o.d-1),a:=IntKind.wrap .i64 (o.a+1) } o.x.length)) (dQ l o.a))) st.x.length)
    (BP false (.dH dL l) { st with e:=4,f:=st.a } st.x.length)))
set_option maxRecDepth 100000 in
theorem aas (rec:List Tok->Int->St->mP)(l:List Tok)(s:Int)(r:Nat)(a d e f:Int)(x:List Nd) :
 aT X0 (cC rec Hi) WD r 107 [.ptr 0 0,.int .i64 s] (ji 162 6 (WE (.dH dL l) a d e f x s)) kR =
 ah (!bB a l.length) (BP false (.dH dL l) ⟨a,d,x,4,a⟩ x.length) (Option.rec (motive:=λ_=>sI) none (WG rec l ⟨a,d,x,e,f⟩ (λo n=>jCl rec (.dH dL l) s r r n o)) (dQ l a)):=by kernel_rfl
theorem getI_at? {α:Type}(l:List α)(i:Int):dQ l i=at? l i:=by cases i<;>rfl
structure BD (l:List Tok)(st:St):Prop where
 len:l.length<=2000000
 a0:0<=st.a
 a1:st.a<=(l.length:Int)
 d0:0<=st.d
 d1:st.d<=50
 x:st.x.length<=200
def T5 (L:AV):mP->sI
 |some (b,st)=>BP b L st st.x.length
 |none=>none
def ET (L:AV)(r:mP)(k:St->sI):sI :=
 match r with
 |some (true,o)=>k o
 |some (false,o)=>BP false L o o.x.length
 |none=>none
theorem WH (L:AV)(r:mP)(k:St->mP):T5 L (OU r k)=ET L r λo=>T5 L (k o):=by
 unfold OU ET;split<;>rfl
theorem bind_congr {L:AV}{r:mP}{k k':St->sI}(h:∀o,r=some (true,o)->k o=k' o):ET L r k=ET L r k':=by
 unfold ET;split
 .exact h _ rfl
 .rfl
 rfl
section
variable {rec:List Tok->Int->St->mP} {l:List Tok}
theorem L8 {L:AV}{s:Int}{st:St}{k:St->sI}(h:BD l st)(h1:1<=s)(h7:s<=7):Hl rec L l s st k=ET L (rec l s st) k:=by
 unfold Hl OV eH ET;rw[dS h.len,fH (h.a0),fH h.a1,fH h.d0,fH h.d1,dS h.x,fH h1,fH h7];cases hr:rec l s st with
 |none=>rfl
 |some q =>
  obtain⟨b,o⟩:=q;cases b<;>rfl
theorem EU {L:AV}{st:St}{nd:Nd}{f:Int}{k:St->Nat->sI}{k':St->mP}(h:BD l st) (hk:st.x.length≠200->k { st with x:=st.x++[nd] } (st.x.length+1)=T5 L (k' { st with x:=st.x++[nd] })):Ho L st nd f k st.x.length=T5 L (sF st nd f k'):=by
 unfold Ho sF;by_cases h2:st.x.length=200
 .rw[ag h2,F3 (by omega)];rfl
 rw[aa h2,xT (by omega),dS (by have:=h.x;omega)];exact hk h2
theorem WI {L:AV}{st:St}{k:St->sI}{k':St->mP}(h:BD l st)(ha:st.a<(l.length:Int)) (hk:st.d≠50->k { st with d:=st.d+1,a:=st.a+1 }=T5 L (k' { st with d:=st.d+1,a:=st.a+1 })):Hp L st k st.x.length=T5 L (sG st k'):=by
 unfold Hp sG;have:=h.len;have:=h.a0;have:=h.d0;have:=h.d1;by_cases h2:st.d=50
 .rw[ag h2,F3 h2];rfl
 rw[aa h2,xT h2,i64_in (n:=st.d+1) (by omega) (by omega),i64_in (n:=st.a+1) (by omega) (by omega)];exact hk h2
theorem WJ (t:Tok)(s:List UInt8):sgT t s=pO t s:=BO t.1 t.2.1 t.2.2.2 t.2.2.1 s
def aat (rec:List Tok->Int->St->mP)(l:List Tok):Prop:=∀s st o,1<=s->BD l st->rec l s st=some (true,o)->Grown bX l st o
theorem BD.grown {st o:St}(h:BD l st)(g:Grown bX l st o):BD l o:=by
 obtain⟨t,_,_,h3,h4,h5,_,_,h8⟩:=g;exact⟨h.len,by have:=h.a0;omega,h4,by rw[h5];exact h.d0,by rw[h5];exact h.d1,h8⟩
theorem adi (hf:aat rec l)(s:Int)(hs:1<=s)(r:Nat):∀(m:Nat) (st:St),BD l st->jCl rec (.dH dL l) s r m st.x.length st=T5 (.dH dL l) (mo l (rec l) s m st)
 |0,st,_=>rfl
 |m+1,⟨a,d,x,e,f⟩,h=>by
  have hlen:=h.len;have ha0:=h.a0;simp only at ha0;rw[show (⟨a,d,x,e,f⟩:St).x.length=x.length from rfl,afO,getI_at?];unfold mo;cases jx:at? l a with
  |none =>
   have hge:(l.length:Int)<=a:=by
    unfold at? at jx;split at jx
    .rename_i n;have:=gj.1 jx;simp;omega
    omega
   rw[fH hge];rfl
  |some t =>
   have hlt:=jj jx;rw[qG hlt.2];show ah (bB (Px.bin t).2 s) _ _=_;simp only;rw[cF];by_cases hb:(Px.bin t).2<s
   .rw[ag hb,ag hb];rfl
   rw[aa hb,aa hb];have hbo:=Wz (t:=t) (by omega);have hbd:BD l ⟨a+1,d,x,e,f⟩:=⟨hlen,by show 0<=a+1;omega,by show a+1<=_;omega,h.d0,h.d1,h.x⟩;rw[i64_in (n:=(Px.bin t).2+1) (by omega) (by omega),i64_in (n:=a+1) (by omega) (by omega),L8 hbd (by omega) (by omega),WH];refine bind_congr λo ho=>?_
   have hg:=hbd.grown (hf _ _ _ (by omega) hbd ho);have hx:=h.x;simp only at hx;have hox:=hg.x;rw[i64_in (n:=(x.length:Int)-1) (by omega) (by omega),i64_in (n:=(o.x.length:Int)-1) (by omega) (by omega)];refine EU (l:=l) hg λhne=>?_
   have:=adi hf s hs r m { o with x:=o.x++[((Px.bin t).1,0,[],(x.length:Int)-1,(o.x.length:Int)-1)] } ⟨hg.len,hg.a0,hg.a1,hg.d0,hg.d1,by show (o.x++[_]).length<=200;simp;omega⟩;rw[show ({ o with x:=o.x++[((Px.bin t).1,0,[],(x.length:Int)-1,(o.x.length:Int)-1)] }:St).x.length=o.x.length+1 by simp]at this;exact this
theorem WK (hf:aat rec l){K:St->Nat->sI}{K':St->mP}(hK:∀o,BD l o->K o o.x.length=T5 (.dH dL l) (K' o)){st:St}(h:BD l st){t:Tok}(jx:at? l st.a=some t):WG rec l st K t=T5 (.dH dL l) (ri bX l (rec l) st K'):=by
 have hlen:=h.len;have ha0:=h.a0;have hlt:=jj jx;have hx:=h.x;have hd0:=h.d0;have hd1:=h.d1;unfold WG ri;rw[jx];simp only;cases ho:BM bX t with
 |some n =>
  show Ho _ _ _ _ _ _=_;rw[i64_in (n:=st.a+1) (by omega) (by omega)];refine EU (l:=l) (st:={ st with a:=st.a+1 }) ⟨hlen,by show 0<=st.a+1;omega,by show st.a+1<=_;omega,hd0,hd1,hx⟩ λhne=>?_
  have hne:st.x.length≠200:=hne;have:=hK { st with a:=st.a+1,x:=st.x++[n] } ⟨hlen,by show 0<=st.a+1;omega,by show st.a+1<=_;omega,hd0,hd1,by show (st.x++[n]).length<=200;simp;omega⟩;rw[show ({ st with a:=st.a+1,x:=st.x++[n] }:St).x.length=st.x.length+1 by simp]at this;exact this
 |none =>
  show ah (pref t).isSome _ _=_;simp only;have inner:∀(s:Int),1<=s->s<=7->∀(q:St->sI) (q':St->mP),(∀o,BD l o->o.d=st.d+1->q o=T5 (.dH dL l) (q' o))->Hp (.dH dL l) st (λs1=>Hl rec (.dH dL l) l s s1 q) st.x.length=T5 (.dH dL l) (sG st λs1=>OU (rec l s s1) q'):=λs h1 h7 q q' hq=>by
   refine WI (l:=l) h hlt.2 λhne=>?_
   have hbd:BD l { st with d:=st.d+1,a:=st.a+1 }:=⟨hlen,by show 0<=st.a+1;omega,by show st.a+1<=_;omega,by show 0<=st.d+1;omega,by show st.d+1<=50;omega,hx⟩;rw[L8 hbd h1 h7,WH];refine bind_congr λo hr=>?_
   have hg:=hf _ _ _ h1 hbd hr;refine hq o (hbd.grown hg) ?_;obtain⟨_,_,_,_,_,h5,_⟩:=hg;exact h5
  cases hp:pref t with
  |some op =>
   show Hp _ _ _ _=_;simp only;refine inner 7 (by decide) (by decide) _ _ λo hbo hod=>?_
   have hox:=hbo.x;have S6:BD l { o with d:=o.d-1 }:=⟨hlen,hbo.a0,hbo.a1,by show 0<=o.d-1;omega,by show o.d-1<=50;omega,hox⟩;show ah (!bI op 0) _ _=_;rw[cw,i64_in (n:=o.d-1) (by omega) (by omega),i64_in (n:=(o.x.length:Int)-1) (by omega) (by omega)];by_cases h0:op=0
   .rw[ag h0,ag h0];exact hK _ S6
   rw[aa h0,aa h0];refine EU (l:=l) (st:={ o with d:=o.d-1 }) S6 λhne=>?_
   have hne:o.x.length≠200:=hne;have:=hK { o with d:=o.d-1,x:=o.x++[(op,0,[],(o.x.length:Int)-1,0)] } ⟨hlen,S6.a0,S6.a1,S6.d0,S6.d1,by show (o.x++[_]).length<=200;simp;omega⟩;rw[show ({ o with d:=o.d-1,x:=o.x++[(op,0,[],(o.x.length:Int)-1,0)] }:St).x.length=o.x.length+1 by simp]at this;exact this
  |none =>
   show ah (sgT t [40]) _ _=_;rw[WJ,au];by_cases h40:pO t [40]=true
   .rw[ag h40];simp only[h40,fF];refine inner 1 (by decide) (by decide) _ _ λo hbo hod=>?_
    have hoa:=hbo.a0;have hol:=hbo.a1;rw[getI_at?];cases aau:at? l o.a with
    |none =>
     have hge:(l.length:Int)<=o.a:=by
      unfold at? at aau;split at aau
      .rename_i n hn;have:=gj.1 aau;rw[hn];simp;omega
      rename_i hn;rw[hn]at hoa;omega
     rw[fH hge];rfl
    |some c =>
     have afM:=jj aau;rw[qG afM.2];show ah (!sgT c [41]) _ _=_;simp only;rw[WJ,i64_in (n:=o.d-1) (by omega) (by omega),i64_in (n:=o.a+1) (by omega) (by omega)];cases pO c [41] with
     |true=>exact hK { o with d:=o.d-1,a:=o.a+1 } ⟨hlen,by show 0<=o.a+1;omega,by show o.a+1<=_;omega,by show 0<=o.d-1;omega,by show o.d-1<=50;omega,hbo.x⟩
     |false=>rfl
   rw[aa h40];simp only[h40];rfl
end
theorem ak4 {rec:List Tok->Int->St->mP}{l:List Tok}(hf:aat rec l){st:St}(h:BD l st){s:Int}(hs:1<=s) :
 aT X0 (cC rec Hi) WD (l.length+1) 107 [.ptr 0 0,.int .i64 s] (ji 162 6 (WE (.dH dL l) st.a st.d st.e st.f st.x s)) kR=T5 (.dH dL l) (ri bX l (rec l) st (mo l (rec l) s (l.length+1))):=by
 obtain⟨a,d,x,e,f⟩:=st;rw[aas,getI_at?];cases jx:at? l a with
 |none =>
  have ha0:=h.a0;simp only at ha0;have hge:(l.length:Int)<=a:=by
   unfold at? at jx;split at jx
   .rename_i n;have:=gj.1 jx;simp;omega
   omega
  rw[fH hge];unfold ri;simp only[jx];rfl
 |some t =>
  have hlt:=jj jx;rw[qG hlt.2];exact WK hf (λo ho=>adi hf s hs _ _ o ho) h jx
set_option maxRecDepth 100000 in
theorem WL (rec:List Tok->Int->St->mP)(s:Int)(r:Nat)(a d e f:Int)(x:List Nd) :
 aT X0 (cC rec Hi) WD r 107 [.ptr 0 0,.int .i64 s] (ji 162 6 (WE .dG a d e f x s)) kR=ah (!bB a 0) (BP false .dG ⟨a,d,x,4,a⟩ x.length) none:=by kernel_rfl
theorem adk {rec:List Tok->Int->St->mP}{L:AV}(hL:EN L=true){a d e f s:Int}{x:List Nd}(hN:gq X0 fR 107 (cCl rec)){r:Nat}{b:Bool}{st:St}
 (h:aT X0 (cC rec Hi) WD r 107 [.ptr 0 0,.int .i64 s] (ji 162 6 (WE L a d e f x s)) kR=BP b L st st.x.length) :
 ∃vs M1 cs1,CS X0 fR 107 [.ptr 0 0,.int .i64 s] (ji 162 6 (WE L a d e f x s)) vs M1/\M1.get 0=some (.cells 162 cs1)/\cs1.length=6 /\
  qR M1 [0] (cs1++vs) [.val L,.val (.int .i64 st.a),.val (.int .i64 st.d),.list 76 eC st.x,.val (.int .i64 st.e),.val (.int .i64 st.f),.val (.bool b)]:=by
 obtain⟨v,M1,h1,h2⟩:=oo (λargs=>lt.bR rfl args) (jy G8 (.cons hN .nil) Hi) h;unfold kR at h1;split at h1
 .rename_i t c0 c1 c2 c3 c4 c5 hg;split at h1
  .rename_i id n;rw[au]at h1;split at h1
   .rename_i ht;obtain rfl:=bf ht;simp only[aq,ax,List.cons.injEq,and_true]at h1;obtain⟨rfl,⟨rfl,rfl,rfl,rfl,rfl⟩,rfl,hrow⟩:=h1;refine⟨[.bool b],M1,_,h2 [.bool b] rfl,hg,rfl,rfl,hL,rfl,rfl,rfl,rfl,.inl ⟨id,0,false,rfl,hrow,?_,rfl,rfl,rfl,rfl,rfl,rfl,trivial⟩⟩;intro hm;have:id=0:=by simpa using hm
    subst this;rw[hg]at hrow;cases hrow
   cases h1
  cases h1
 cases h1
theorem OW (k:Nat)(l:List Tok):aat (λl=>eM bX l k) l:=λs st o h1 hb hr=>lD l k s st o h1 hb.x hb.a1 hr
theorem Jq:∀k:Nat,gq X0 fR 107 (cCl λl=>eM bX l k)
 |0=>by
  intro ins outs rs hg;exfalso;have hg:gCl (λl=>eM bX l 0) ins=some (true,outs,rs):=hg;unfold gCl at hg;split at hg
  .split at hg
   .simp[eM]at hg
   cases hg
  cases hg
 |k+1=>by
  intro ins outs rs hg;have hg:gCl (λl=>eM bX l (k+1)) ins=some (true,outs,rs):=hg;unfold gCl at hg;split at hg;case h_2=>cases hg
  rename_i L a d t0 t x e f s _;split at hg;case h_2=>cases hg
  rename_i l x' hl hx;obtain⟨rfl,hx2⟩:=bS hx;have hx2:x=x':=hx2;subst hx2;simp only[aq,ax,ak,aS]at hg;obtain⟨⟨⟨⟨⟨⟨⟨⟨⟨⟨g0,g1⟩,g2⟩,g3⟩,g4⟩,g5⟩,g6⟩,g7⟩,g8⟩,g9⟩,rfl,rfl⟩:=hg;obtain rfl:=bf g0;have Jr:∀{p q:Int},bB p q=false->q<=p:=λ{p q} h=>by rw[cA]at h;simpa using h
  have hbd:BD l ⟨a,d,x,e,f⟩:=⟨ay g1,Jr g2,Jr g3,Jr g4,Jr g5,ay g6⟩;obtain⟨⟨b,st⟩,hr⟩:=bU.1 g9;rw[hr];have hc:eM bX l (k+1) s ⟨a,d,x,e,f⟩=ri bX l (eM bX l k) ⟨a,d,x,e,f⟩ (mo l (eM bX l k) s (l.length+1)):=rfl;cases L with
  |dH e' l0 =>
   obtain⟨rfl,CI⟩:=bS hl;have CI:l0=l:=CI;subst CI;have hrun:=ak4 (rec:=λl=>eM bX l k) (OW k l0) hbd (Jr g7);rw[<-hc,hr]at hrun;exact λ_ _=>adk rfl (Jq k) hrun
  |dG =>
   have hl:some []=some l:=hl;cases hl;have ha:a=0:=by have:=hbd.a0;have:=hbd.a1;simp only[bz]at *;omega
   subst ha;have hrun:=WL (λl=>eM bX l k) s 5 0 d e f x;have YY:(false,(⟨0,d,x,4,0⟩:St))=(b,st):=bM (hc.symm.trans hr);cases YY;exact λ_ _=>adk rfl (Jq k) hrun
  |_=>cases hl
def vo (v:AV)(H:aG):Option (AV×Option Row) :=
 match v with
 |.fG (.own i _::_)=>some (v,H.get i)
 |.own i _=>some (v,H.get i)
 |_=>some (v,none)
theorem EW {v:AV}{H:aG}{r:AV×Option Row}(h:vo v H=some r):v=r.1:=by
 unfold vo at h;split at h<;>(cases h;rfl)
def bq (l:List Tok)(a:Int):List Nd×Int×Int×Int:=(qd bX l a).getD ([],0,0,0)
def EX (e f:Int):Option (AV×Option Row):=some (.fG [.dG,.int .i64 0,.agg [.int .i64 e,.int .i64 f]],none)
def EY (x:List Nd)(n:Nat)(a:Int):Option (AV×Option Row):=some (.fG [.own 2 n,.int .i64 a,.agg [.int .i64 0,.int .i64 0]],some (.list 76 eC x 0 false false))
abbrev cM (M:List vW)(rec:List Tok->Int->St->mP)(β:Type):cH β:=cN M (N1 rec) β
set_option maxRecDepth 100000 in
theorem aav (rec:List Tok->Int->St->mP)(l:List Tok)(a:Int)(r:Nat):aT X0 (cM M5 rec _) gG r 67 [.dH dL l,.int .i64 a] aG.empty vo =
 ah (bB a 0) (EX 2 0) (ah (bB l.length a) (EX 2 0) (ah (OV rec l 1 ⟨a,0,[],0,0⟩&&true) (ah (!(eH rec l 1 ⟨a,0,[],0,0⟩).1) (EX (eH rec l 1 ⟨a,0,[],0,0⟩).2.e (eH rec l 1 ⟨a,0,[],0,0⟩).2.f)
  (EY (eH rec l 1 ⟨a,0,[],0,0⟩).2.x (eH rec l 1 ⟨a,0,[],0,0⟩).2.x.length (eH rec l 1 ⟨a,0,[],0,0⟩).2.a)) none)):=by kernel_rfl
def gPs (args:List AV):Option (Bool×List fy) :=
 match args with
 |[L,.int .i64 a]=>match Jp dL L with
  |some l=>some (Nat.ble l.length 2000000,[.list 76 eC (bq l a).1,.val (.int .i64 (bq l a).2.1),.val (.agg [.int .i64 (bq l a).2.2.1,.int .i64 (bq l a).2.2.2])])
  |none=>none
 |_=>none
theorem rX {e:Ty}{a:AV}{l:List e.den}(h:Jp e a=some l):a = .dH e l\/(a = .dG/\l=[]):=by
 unfold Jp at h;split at h
 .obtain ⟨he,h2⟩:=bS h;subst he;have h2:_=l:=h2;subst h2;exact .inl rfl
 .cases h;exact .inr ⟨rfl,rfl⟩
 cases h
theorem WQ (rec:List Tok->Int->St->mP)(a:Int)(r:Nat):aT X0 (cM M5 rec _) gG r 67 [.dG,.int .i64 a] aG.empty vo =
 ah (bB a 0) (EX 2 0) (ah (bB 0 a) (EX 2 0) (ah (OV rec [] 1 ⟨a,0,[],0,0⟩&&true) (ah (!(eH rec [] 1 ⟨a,0,[],0,0⟩).1) (EX (eH rec [] 1 ⟨a,0,[],0,0⟩).2.e (eH rec [] 1 ⟨a,0,[],0,0⟩).2.f)
  (EY (eH rec [] 1 ⟨a,0,[],0,0⟩).2.x (eH rec [] 1 ⟨a,0,[],0,0⟩).2.x.length (eH rec [] 1 ⟨a,0,[],0,0⟩).2.a)) none)):=by kernel_rfl
theorem afP:cZ X0 fR 67 gPs:=by
 intro args rs hg;unfold gPs at hg;split at hg;case h_2=>cases hg
 rename_i L a;split at hg;case h_2=>cases hg
 rename_i l hl;simp only[aq,ax]at hg;obtain⟨hb,rfl⟩:=hg;have hb:=ay hb;have hrun:aT X0 (cM M5 (λl0=>eM bX l0 (l.length+1)) _) gG 5 67 [L,.int .i64 a] aG.empty vo =
  if (bq l a).2.2.1=0 then EY (bq l a).1 (bq l a).1.length (bq l a).2.1 else EX (bq l a).2.2.1 (bq l a).2.2.2:=by
  have e:aT X0 (cM M5 (λl0=>eM bX l0 (l.length+1)) _) gG 5 67 [L,.int .i64 a] aG.empty vo =
   ah (bB a 0) (EX 2 0) (ah (bB l.length a) (EX 2 0) (ah (OV (λl0=>eM bX l0 (l.length+1)) l 1 ⟨a,0,[],0,0⟩&&true) (ah (!(eH (λl0=>eM bX l0 (l.length+1)) l 1 ⟨a,0,[],0,0⟩).1) (EX (eH (λl0=>eM bX l0 (l.length+1)) l 1 ⟨a,0,[],0,0⟩).2.e (eH (λl0=>eM bX l0 (l.length+1)) l 1 ⟨a,0,[],0,0⟩).2.f)
    (EY (eH (λl0=>eM bX l0 (l.length+1)) l 1 ⟨a,0,[],0,0⟩).2.x (eH (λl0=>eM bX l0 (l.length+1)) l 1 ⟨a,0,[],0,0⟩).2.x.length (eH (λl0=>eM bX l0 (l.length+1)) l 1 ⟨a,0,[],0,0⟩).2.a)) none)):=by
   rcases rX hl with rfl|⟨rfl,rfl⟩
   .exact aav _ l a 5
   exact WQ _ a 5
  rw[e,cF,cF];have key:∀r,qd bX l a=some r->bq l a=r:=λr h=>by unfold bq;rw[h];rfl
  by_cases h1:a<0
  .rw[ag h1,key ([],0,2,0) (by unfold qd;rw[ag (Or.inl h1)])];rfl
  rw[aa h1];by_cases h2:(l.length:Int)<a
  .rw[ag h2,key ([],0,2,0) (by unfold qd;rw[ag (Or.inr h2)])];rfl
  rw[aa h2];have hno:¬(a<0\/(l.length:Int)<a):=by omega
  have hbd:BD l ⟨a,0,[],0,0⟩:=⟨hb,by show 0<=a;omega,by show a<=_;omega,bE 0,by show (0:Int)<=50;decide,by simp⟩;obtain⟨⟨b,st⟩,hr⟩:=sH (nm:=bX) l (l.length+1) 1 ⟨a,0,[],0,0⟩ (by decide) (by simp) hbd.a0 hbd.a1 (by show _-a<_;omega);unfold OV eH;rw[dS hb,fH hbd.a0,fH hbd.a1,fH hbd.d0,fH hbd.d1,dS hbd.x];simp only[hr];cases b with
  |true=>rw[key (st.x,st.a,0,0) (by unfold qd;rw[aa hno,hr])];rfl
  |false =>
   have hne:=Dl l _ _ _ st hr;rw[key ([],0,st.e,st.f) (by unfold qd;rw[aa hno,hr])];simp only;rw[aa hne];rfl
 obtain⟨r,hr⟩:=vr (nm:=bX) l a;by_cases h0:(bq l a).2.2.1=0
 .rw[ag h0]at hrun;unfold EY at hrun;obtain⟨v,M1,h1,h2⟩:=oo (λargs=>lt.bR rfl args) (jy G8 (.cons (Jq (l.length+1)) .nil) (AV×Option Row)) hrun;have hv:=EW h1;subst hv;refine⟨_,M1,h2 [.own 2 (bq l a).1.length,.int .i64 (bq l a).2.1,.agg [.int .i64 0,.int .i64 0]] rfl,rfl,.inl ⟨2,0,false,rfl,?_,by simp,rfl,rfl,?_,rfl,trivial⟩⟩
  .exact (jI (bM h1)).2
  have hz:(bq l a).2.2.2=0:=by
   unfold bq at h0 ⊢;rw[hr]at h0 ⊢;unfold qd at hr;split at hr
   .cases hr;exact absurd h0 (by decide)
   split at hr
   .cases hr;rfl
   .rename_i st hc;cases hr;exact absurd h0 (Dl l _ _ _ st hc)
   cases hr
  rw[h0,hz]
 rw[aa h0]at hrun;unfold EX at hrun;obtain⟨v,M1,h1,h2⟩:=oo (λargs=>lt.bR rfl args) (jy G8 (.cons (Jq (l.length+1)) .nil) (AV×Option Row)) hrun;have hv:=EW h1;subst hv;have hz:(bq l a).1=[]/\(bq l a).2.1=0:=by
  unfold bq at h0 ⊢;rw[hr]at h0 ⊢;exact(Ma (nm:=bX) (l:=l) (a:=a) hr).1 h0
 refine⟨_,M1,h2 [.dG,.int .i64 0,.agg [.int .i64 (bq l a).2.2.1,.int .i64 (bq l a).2.2.2]] rfl,rfl,.inr ⟨rfl,hz.1,?_,rfl,rfl,rfl,trivial⟩⟩;rw[hz.2]
def M6:List vW:=(67,[some dL,none],gPs)::M5
theorem w9:iO X0 fR M6:=.cons afP G8
end
end Go.Proofs.YtbeckacfibledaaGreatDoor.ex

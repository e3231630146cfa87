/- Expressions: the setting of the laws on lines. -/
import Derived.Test.YtbeckacfibledaaGreatDoorGrb
import Derived.Test.YtbeckacfibledaaGreatDoorLyh
import Derived.Test.YtbeckacfibledaaGreatDoorLyg
import Derived.Test.YtbeckacfibledaaGreatDoorGxa
set_option linter.unusedVariables false
set_option linter.unusedSimpArgs false

namespace Go.Proofs.YtbeckacfibledaaGreatDoor.ex
open Go.Tv Go.Ev
noncomputable section
abbrev X0:ji:=lt.Xg lt.C6
abbrev gR:=eM X0 lt.kn
abbrev gC:fe:=lt.gC
def cN (M:List xw)(N:List rf)(β:Type):dz β:=Y5 X0 (Wv M) (adt N) lt.inl 400 β 40
theorem kP {M:List xw}{N:List rf}(a:jy X0 gR M)(b:jc X0 gR N)(β:Type):dO X0 gR (cN M N β):=Y6 a b (λf h args=>lt.cn h args) 400 40 β
theorem n0:jc X0 gR []:=.nil
abbrev bZ:au->Bool:=lt.bZ
def M3:List xw:=(66,[none],lt.Q3)::(18,[none],lt.aiX)::(155,[none],lt.gNm)::lt.R1
theorem Td:jy X0 gR M3:=.cons (lt.aiY lt.C6) (.cons lt.aoL (.cons (lt.aoQ lt.C6) (lt.agk lt.C6)))
end
end Go.Proofs.YtbeckacfibledaaGreatDoor.ex
namespace Go.Proofs.YtbeckacfibledaaGreatDoor.ex
open Go.Tv Go.Ev Go.Px
set_option maxRecDepth 100000
noncomputable section
def Y8 (n:Nd):AV:=.agg [.int .i64 n.1,.int .i64 n.2.1,.str n.2.2.1,.int .i64 n.2.2.2.1,.int .i64 n.2.2.2.2]
def zNd:Nd:=(0,0,[],0,0)
abbrev eE:Ty:=.pair (.int .i64) (.pair (.int .i64) (.pair .str (.int .i64)))
abbrev fA:Ty:=.pair (.int .i64) (.pair (.int .i64) (.pair .str (.pair (.int .i64) (.int .i64))))
def AK (f:Tok->List gj)(args:aI):Option (Bool×List gj) :=
 match args with
 |[.agg [.int .i64 k,.int .i64 n,.str s,.int .i64 a]]=>some (true,f (k,n,s,a))
 |_=>none
def ai5 (args:aI):Option (Bool×List gj) :=
 match args with
 |[.agg [.int .i64 k,.int .i64 n,.str s,.int .i64 a],.str t]=>some (true,[.val (.bool (bS k 4&&decide (s=t)))])
 |_=>none
theorem adw:dQ X0 gR 141 ai5 :=
 dG (λargs=>lt.cn rfl args) (kP Td n0) λargs rs b=>by
  unfold ai5 at b;split at b
  .rename_i k n s a t;simp only[aq,az]at b;obtain⟨c,rfl⟩:=b;refine⟨[.bool (bS k 4&&decide (s=t))],gC,5,?_,rfl,rfl⟩;have h:aT X0 (cN M3 [] AV) gC 5 141 [.agg [.int .i64 k,.int .i64 n,.str s,.int .i64 a],.str t] aH.empty (λv _=>some v)=ah (bS k 4) (some (.bool (decide (s=t)))) (some (.bool false)):=by kernel_rfl
   rw[h];cases bS k 4<;>rfl
  cases b
def M4:List xw:=(141,[none,none],ai5)::M3
theorem Tm:jy X0 gR M4:=.cons adw Td
theorem Dc (k n a:Int)(s t:au):(bS k 4&&decide (s=t))=qP (k,n,s,a) t:=by
 unfold qP;have e:(k==4)=decide (k=4):=by rw[bX];simp
 rw[fD,e]
def ago (t:Tok):List gj:=[.val (Y8 ((zy bZ t).getD zNd)),.val (.bool (zy bZ t).isSome)]
theorem Y9:dQ X0 gR 137 (AK ago) :=
 dG (λargs=>lt.cn rfl args) (kP Tm n0) λargs rs b=>by
  unfold AK at b;split at b
  .rename_i k n s a;simp only[aq,az]at b;obtain⟨e,rfl⟩:=b;refine⟨[Y8 ((zy bZ (k,n,s,a)).getD zNd),.bool (zy bZ (k,n,s,a)).isSome],gC,5,?_,rfl,rfl⟩;have h:aT X0 (cN M4 [] AV) gC 5 137 [.agg [.int .i64 k,.int .i64 n,.str s,.int .i64 a]] aH.empty (λv _=>some v) =
    ah (bS k 2) (some (.gI [Y8 (1,n,[],0,0),.bool true])) ((λrest=>ah (bS k 1) (ah (bZ s) (some (.gI [Y8 (2,0,s,0,0),.bool true])) rest) rest)
     (ah (bS k 4&&decide (s=[36])) (some (.gI [Y8 (3,0,[],0,0),.bool true])) (ah (bS k 4&&decide (s=[36,36])) (some (.gI [Y8 (4,0,[],0,0),.bool true])) (some (.gI [Y8 zNd,.bool false]))))):=by kernel_rfl
   rw[h,Dc k n a,Dc k n a];unfold zy;simp only[cH];simp only[ay];have rest:(if qP (k,n,s,a) [36]=true then some (AV.gI [Y8 (3,0,[],0,0),AV.bool true]) else if qP (k,n,s,a) [36,36]=true then some (AV.gI [Y8 (4,0,[],0,0),AV.bool true]) else some (AV.gI [Y8 zNd,AV.bool false])) =
    some (tf [Y8 ((if qP (k,n,s,a) [36]=true then some (3,0,[],0,0) else if qP (k,n,s,a) [36,36]=true then some (4,0,[],0,0) else none).getD zNd),AV.bool (if qP (k,n,s,a) [36]=true then some ((3,0,[],0,0):Nd) else if qP (k,n,s,a) [36,36]=true then some (4,0,[],0,0) else none).isSome]):=by
    by_cases d:qP (k,n,s,a) [36]=true
    .simp only[ag d];rfl
    simp only[aa d];by_cases c5:qP (k,n,s,a) [36,36]=true
    .simp only[ag c5];rfl
    simp only[aa c5];rfl
   by_cases c1:k=2
   .simp only[ag c1];rfl
   simp only[aa c1];by_cases c2:k=1
   .by_cases c:bZ s=true
    .simp only[ag c2,ag c,ag (And.intro c2 c)];rfl
    simp only[ag c2,aa c,aa (λh:k=1/\bZ s=true=>c h.2)];exact rest
   simp only[aa c2,aa (λh:k=1/\bZ s=true=>c2 h.1)];exact rest
  cases b
def agp (t:Tok):List gj:=[.val (.int .i64 ((pref t).getD 0)),.val (.bool (pref t).isSome)]
theorem Za:dQ X0 gR 138 (AK agp) :=
 dG (λargs=>lt.cn rfl args) (kP Tm n0) λargs rs b=>by
  unfold AK at b;split at b
  .rename_i k n s a;simp only[aq,az]at b;obtain⟨d,rfl⟩:=b;refine⟨[.int .i64 ((pref (k,n,s,a)).getD 0),.bool (pref (k,n,s,a)).isSome],gC,5,?_,rfl,rfl⟩;have h:aT X0 (cN M4 [] AV) gC 5 138 [.agg [.int .i64 k,.int .i64 n,.str s,.int .i64 a]] aH.empty (λv _=>some v) =
    ah (bS k 4&&decide (s=[45])) (some (.gI [.int .i64 5,.bool true])) (ah (bS k 4&&decide (s=[126])) (some (.gI [.int .i64 6,.bool true])) (ah (bS k 4&&decide (s=[43])) (some (.gI [.int .i64 0,.bool true])) (some (.gI [.int .i64 0,.bool false])))):=by kernel_rfl
   rw[h,Dc k n a,Dc k n a,Dc k n a];unfold pref;simp only[ay];by_cases c1:qP (k,n,s,a) [45]=true
   .simp only[ag c1];rfl
   simp only[aa c1];by_cases c2:qP (k,n,s,a) [126]=true
   .simp only[ag c2];rfl
   simp only[aa c2];by_cases c:qP (k,n,s,a) [43]=true
   .simp only[ag c];rfl
   simp only[aa c];rfl
  cases b
def aoV (t:Tok):List gj:=[.val (.int .i64 (Px.bin t).1),.val (.int .i64 (Px.bin t).2)]
theorem adx:dQ X0 gR 142 (AK aoV) :=
 dG (λargs=>lt.cn rfl args) (kP Tm n0) λargs rs b=>by
  unfold AK at b;split at b
  .rename_i k n s a;simp only[aq,az]at b;obtain⟨e,rfl⟩:=b;refine⟨[.int .i64 (Px.bin (k,n,s,a)).1,.int .i64 (Px.bin (k,n,s,a)).2],gC,5,?_,rfl,rfl⟩;have h:aT X0 (cN M4 [] AV) gC 5 142 [.agg [.int .i64 k,.int .i64 n,.str s,.int .i64 a]] aH.empty (λv _=>some v) =
    ah (!bS k 4) (some (.gI [.int .i64 0,.int .i64 0])) (List.rec (motive:=λ_=>bx) (some (.gI [.int .i64 0,.int .i64 0])) (λq _ r=>ah (decide (s=q.1)) (some (.gI [.int .i64 q.2.1,.int .i64 q.2.2])) r) aoU):=by kernel_rfl
   rw[h,cF];have key:∀m:List (au×Int×Int),(List.rec (motive:=λ_=>bx) (some (.gI [.int .i64 0,.int .i64 0])) (λq _ r=>ah (decide (s=q.1)) (some (.gI [.int .i64 q.2.1,.int .i64 q.2.2])) r) m:bx)=some (.gI [.int .i64 (me s m).1,.int .i64 (me s m).2]):=by
    intro m;induction m with
    |nil=>rfl
    |cons q m d =>
     show ah (decide (s=q.1)) _ (List.rec (motive:=λ_=>bx) _ _ m)=_;rw[d,me];by_cases c:s=q.1
     .rw[bg c,ag c]
     rw[aY c,aa c]
   rw[key];unfold Px.bin;by_cases c1:k=4
   .simp only[ag c1];rfl
   simp only[aa c1];rfl
  cases b
def M5:List xw:=(137,[none],AK ago)::(138,[none],AK agp)::(142,[none],AK aoV)::M4
theorem I8:jy X0 gR M5:=.cons Y9 (.cons Za (.cons adx Tm))
def Lh (e:Ty):AV->Option (List e.den)
 |.eC a l=>jl a e l
 |.eB=>some []
 |_=>none
def gCl (rec:aX->Int->St->l7)(ins:eZ):Option (Bool×eZ×eZ) :=
 match ins with
 |[.val L,.val (.int .i64 a),.val (.int .i64 d),.list t0 t x,.val (.int .i64 e),.val (.int .i64 f),.val (.int .i64 s)] =>
  match Lh eE L,jl t fA x with
  |some l,some x=>some (Nat.beq t0 76&&Nat.ble l.length 2000000 && !bN a 0 && !bN l.length a && !bN d 0 && !bN 50 d&&Nat.ble x.length 200 && !bN s 1 && !bN 7 s&&(rec l s ⟨a,d,x,e,f⟩).isSome,
   [.val L,.val (.int .i64 ((rec l s ⟨a,d,x,e,f⟩).getD (false,⟨a,d,x,e,f⟩)).2.a),.val (.int .i64 ((rec l s ⟨a,d,x,e,f⟩).getD (false,⟨a,d,x,e,f⟩)).2.d),.list 76 fA ((rec l s ⟨a,d,x,e,f⟩).getD (false,⟨a,d,x,e,f⟩)).2.x,
    .val (.int .i64 ((rec l s ⟨a,d,x,e,f⟩).getD (false,⟨a,d,x,e,f⟩)).2.e),.val (.int .i64 ((rec l s ⟨a,d,x,e,f⟩).getD (false,⟨a,d,x,e,f⟩)).2.f)],
   [.val (.bool ((rec l s ⟨a,d,x,e,f⟩).getD (false,⟨a,d,x,e,f⟩)).1)])
  |_,_=>none
 |_=>none
def cCl (rec:aX->Int->St->l7):HZ:=⟨some (162,[none,none,none,some (76,fA),none,none]),[none],gCl rec⟩
def N1 (rec:aX->Int->St->l7):List rf:=[(107,cCl rec)]
abbrev Je:=AV×aI×Nat×Option Row
abbrev uh:=Option Je
def kR (v:AV)(H:aH):uh :=
 match H.get 0 with
 |some (.cells t [c0,c1,c2,a,b,c5])=>match a with
  |.own id n=>ah (Nat.beq t 162) (some (v,[c0,c1,c2,b,c5],n,H.get id)) none
  |_=>none
 |_=>none
def pCl:eJ:=[true,true,true,true,true,true,true,false,false]
def Zb:fe:=⟨iM [0,1,4] pCl,.none,[]⟩
def ady (l:cQ):aH:=l.foldl (λM r=>M.push r) ⟨0,0,1,.e⟩
def mCl (L:AV)(n:Nat)(st:St):aH:=ady [.cells 162 [L,.int .i64 st.a,.int .i64 st.d,.own 1 n,.int .i64 st.e,.int .i64 st.f],.list 76 fA st.x 0 false false]
abbrev cC (rec:aX->Int->St->l7)(β:Type):dz β:=cN M5 (N1 rec) β
def jCl (rec:aX->Int->St->l7)(L:AV)(s:Int)(r m:Nat)(n:Nat)(st:St):uh:=jo X0 (cC rec _) Zb r 107 pCl kR m (lS 218 [(0,.ptr 0 0),(1,.int .i64 s),(4,.bool false)]) (mCl L n st)
def Q7 (rec:aX->Int->St->l7)(l:aX)(s:Int)(st:St):Bool:=true&&Nat.ble l.length 2000000 && !bN st.a 0 && !bN l.length st.a && !bN st.d 0 && !bN 50 st.d&&Nat.ble st.x.length 200 && !bN s 1 && !bN 7 s&&(rec l s st).isSome
def fG (rec:aX->Int->St->l7)(l:aX)(s:Int)(st:St):Bool×St:=(rec l s st).getD (false,st)
def Dd (b:Bool)(L:AV)(st:St)(n:Nat):uh:=some (.bool b,[L,.int .i64 st.a,.int .i64 st.d,.int .i64 st.e,.int .i64 st.f],n,some (.list 76 fA st.x 0 false false))
def Jf (rec:aX->Int->St->l7)(L:AV)(l:aX)(s:Int)(st:St)(k:St->uh):uh :=
 ah (Q7 rec l s st&&true) (ah (!(fG rec l s st).1) (Dd false L (fG rec l s st).2 (fG rec l s st).2.x.length) (k (fG rec l s st).2)) none
def Jg (L:AV)(st:St)(nd:Nd)(f:Int)(k:St->Nat->uh)(n:Nat):uh :=
 ah (bS n 200) (Dd false L { st with e:=3,f:=f } n) (ah (Nat.ble (st.x.length+1) 2000000) (k { st with x:=st.x++[nd] } (st.x.length+1)) none)
set_option maxRecDepth 100000 in
theorem ai6 (rec:aX->Int->St->l7)(l:aX)(s:Int)(r m n:Nat)(a d e f:Int)(x:bz):jCl rec (.eC eE l) s r (m+1) n ⟨a,d,x,e,f⟩ =
 ah (bN a l.length) (Option.rec (motive:=λ_=>uh) none (λt=>ah (bN (Px.bin t).2 s) (Dd true (.eC eE l) ⟨a,d,x,e,f⟩ n)
  (Jf rec (.eC eE l) l (IntKind.wrap .i64 ((Px.bin t).2+1)) ⟨IntKind.wrap .i64 (a+1),d,x,e,f⟩ λo =>
   Jg (.eC eE l) o ((Px.bin t).1,0,[],IntKind.wrap .i64 (n-1),IntKind.wrap .i64 (o.x.length-1)) a (λb n'=>jCl rec (.eC eE l) s r m n' b) o.x.length)) (eL l a)) (Dd true (.eC eE l) ⟨a,d,x,e,f⟩ n):=by kernel_rfl
def sgT (t:Tok)(s:au):Bool:=bS t.1 4&&decide (t.2.2.1=s)
def Jh (L:AV)(st:St)(k:St->uh)(n:Nat):uh :=
 ah (bS st.d 50) (Dd false L { st with e:=3,f:=st.a } n) (k { st with d:=IntKind.wrap .i64 (st.d+1),a:=IntKind.wrap .i64 (st.a+1) })
def Zc (L:AV)(a d e f:Int)(x:bz)(s:Int):eZ:=[.val L,.val (.int .i64 a),.val (.int .i64 d),.list 76 fA x,.val (.int .i64 e),.val (.int .i64 f),.val (.int .i64 s)]
def Zd (rec:aX->Int->St->l7)(l:aX)(st:St)(K:St->Nat->uh)(t:Tok):uh :=
 ah (zy bZ t).isSome (Jg (.eC eE l) { st with a:=IntKind.wrap .i64 (st.a+1) } ((zy bZ t).getD zNd) st.a K st.x.length)
  (ah (pref t).isSome (Jh (.eC eE l) st (λb=>Jf rec (.eC eE l) l 7 b λo =>
   ah (!bS ((pref t).getD 0) 0) (Jg (.eC eE l) { o with d:=IntKind.wrap .i64 (o.d-1) } ((pref t).getD 0,0,[],IntKind.wrap .i64 (o.x.length-1),0) st.a K o.x.length) (K { o with d:=IntKind.wrap .i64 (o.d-1) } o.x.length)) st.x.length)
   (ah (sgT t [40]) (Jh (.eC eE l) st (λb=>Jf rec (.eC eE l) l 1 b λo =>
    ah (!bN o.a l.length) (Dd false (.eC eE l) { o with e:=4,f:=o.a } o.x.length) (Option.rec (motive:=λ_=>uh) none (λc=>ah (!sgT c [41]) (Dd false (.eC eE l) { o with e:=4,f:=o.a } o.x.length)
     (K { o with d:=IntKind.wrap .i64 (o.d-1),a:=IntKind.wrap .i64 (o.a+1) } o.x.length)) (eL l o.a))) st.x.length)
    (Dd false (.eC eE l) { st with e:=4,f:=st.a } st.x.length)))
set_option maxRecDepth 100000 in
theorem adz (rec:aX->Int->St->l7)(l:aX)(s:Int)(r:Nat)(a d e f:Int)(x:bz) :
 aT X0 (cC rec Je) Zb r 107 [.ptr 0 0,.int .i64 s] (kA 162 6 (Zc (.eC eE l) a d e f x s)) kR =
 ah (!bN a l.length) (Dd false (.eC eE l) ⟨a,d,x,4,a⟩ x.length) (Option.rec (motive:=λ_=>uh) none (Zd rec l ⟨a,d,x,e,f⟩ (λo n=>jCl rec (.eC eE l) s r r n o)) (eL l a)):=by kernel_rfl
theorem getI_at? {α:Type}(l:List α)(i:Int):eL l i=at? l i:=by cases i<;>rfl
structure BD (l:aX)(st:St):Prop where
 len:l.length<=2000000
 a0:0<=st.a
 a1:st.a<=(l.length:Int)
 d0:0<=st.d
 d1:st.d<=50
 x:st.x.length<=200
def Ww (L:AV):l7->uh
 |some (b,st)=>Dd b L st st.x.length
 |none=>none
def Gt (L:AV)(r:l7)(k:St->uh):uh :=
 match r with
 |some (true,o)=>k o
 |some (false,o)=>Dd false L o o.x.length
 |none=>none
theorem Ze (L:AV)(r:l7)(k:St->l7):Ww L (Le r k)=Gt L r λo=>Ww L (k o):=by
 unfold Le Gt;split<;>rfl
theorem bind_congr {L:AV}{r:l7}{k a:St->uh}(h:∀o,r=some (true,o)->k o=a o):Gt L r k=Gt L r a:=by
 unfold Gt;split
 .exact h _ rfl
 .rfl
 rfl
section
variable {rec:aX->Int->St->l7} {l:aX}
theorem Ol {L:AV}{s:Int}{st:St}{k:St->uh}(h:BD l st)(a:1<=s)(c:s<=7):Jf rec L l s st k=Gt L (rec l s st) k:=by
 unfold Jf Q7 fG Gt;rw[eN h.len,gB (h.a0),gB h.a1,gB h.d0,gB h.d1,eN h.x,gB a,gB c];cases d:rec l s st with
 |none=>rfl
 |some q =>
  obtain⟨b,o⟩:=q;cases b<;>rfl
theorem Gu {L:AV}{st:St}{nd:Nd}{f:Int}{k:St->Nat->uh}{b:St->l7}(h:BD l st) (c:st.x.length≠200->k { st with x:=st.x++[nd] } (st.x.length+1)=Ww L (b { st with x:=st.x++[nd] })):Jg L st nd f k st.x.length=Ww L (rE st nd f b):=by
 unfold Jg rE;by_cases a:st.x.length=200
 .rw[ag a,HX (by omega)];rfl
 rw[aa a,y9 (by omega),eN (by have:=h.x;omega)];exact c a
theorem Zf {L:AV}{st:St}{k:St->uh}{c:St->l7}(h:BD l st)(f:st.a<(l.length:Int)) (e:st.d≠50->k { st with d:=st.d+1,a:=st.a+1 }=Ww L (c { st with d:=st.d+1,a:=st.a+1 })):Jh L st k st.x.length=Ww L (ri st c):=by
 unfold Jh ri;have:=h.len;have:=h.a0;have:=h.d0;have:=h.d1;by_cases b:st.d=50
 .rw[ag b,HX b];rfl
 rw[aa b,y9 b,i64_in (n:=st.d+1) (by omega) (by omega),i64_in (n:=st.a+1) (by omega) (by omega)];exact e b
theorem Zg (t:Tok)(s:au):sgT t s=qP t s:=Dc t.1 t.2.1 t.2.2.2 t.2.2.1 s
def adA (rec:aX->Int->St->l7)(l:aX):Prop:=∀s st o,1<=s->BD l st->rec l s st=some (true,o)->Grown bZ l st o
theorem BD.grown {st o:St}(h:BD l st)(g:Grown bZ l st o):BD l o:=by
 obtain⟨t,_,_,d,b,a,_,_,c⟩:=g;exact⟨h.len,by have:=h.a0;omega,b,by rw[a];exact h.d0,by rw[a];exact h.d1,c⟩
theorem agq (q:adA rec l)(s:Int)(u:1<=s)(r:Nat):∀(m:Nat) (st:St),BD l st->jCl rec (.eC eE l) s r m st.x.length st=Ww (.eC eE l) (jQ l (rec l) s m st)
 |0,st,_=>rfl
 |m+1,⟨a,d,x,e,f⟩,h=>by
  have hlen:=h.len;have j:=h.a0;simp only at j;rw[show (⟨a,d,x,e,f⟩:St).x.length=x.length from rfl,ai6,getI_at?];unfold jQ;cases g:at? l a with
  |none =>
   have k:(l.length:Int)<=a:=by
    unfold at? at g;split at g
    .rename_i n;have:=iC.1 g;simp;omega
    omega
   rw[gB k];rfl
  |some t =>
   have p:=jR g;rw[rC p.2];show ah (bN (Px.bin t).2 s) _ _=_;simp only;rw[de];by_cases i:(Px.bin t).2<s
   .rw[ag i,ag i];rfl
   rw[aa i,aa i];have v:=Y7 (t:=t) (by omega);have b:BD l ⟨a+1,d,x,e,f⟩:=⟨hlen,by show 0<=a+1;omega,by show a+1<=_;omega,h.d0,h.d1,h.x⟩;rw[i64_in (n:=(Px.bin t).2+1) (by omega) (by omega),i64_in (n:=a+1) (by omega) (by omega),Ol b (by omega) (by omega),Ze];refine bind_congr λo w=>?_
   have c:=b.grown (q _ _ _ (by omega) b w);have y:=h.x;simp only at y;have z:=c.x;rw[i64_in (n:=(x.length:Int)-1) (by omega) (by omega),i64_in (n:=(o.x.length:Int)-1) (by omega) (by omega)];refine Gu (l:=l) c λA=>?_
   have:=agq q s u r m { o with x:=o.x++[((Px.bin t).1,0,[],(x.length:Int)-1,(o.x.length:Int)-1)] } ⟨c.len,c.a0,c.a1,c.d0,c.d1,by show (o.x++[_]).length<=200;simp;omega⟩;rw[show ({ o with x:=o.x++[((Px.bin t).1,0,[],(x.length:Int)-1,(o.x.length:Int)-1)] }:St).x.length=o.x.length+1 by simp]at this;exact this
theorem Zh (J:adA rec l){K:St->Nat->uh}{E:St->l7}(p:∀o,BD l o->K o o.x.length=Ww (.eC eE l) (E o)){st:St}(h:BD l st){t:Tok}(F:at? l st.a=some t):Zd rec l st K t=Ww (.eC eE l) (ou bZ l (rec l) st E):=by
 have hlen:=h.len;have L:=h.a0;have u:=jR F;have G:=h.x;have k:=h.d0;have m:=h.d1;unfold Zd ou;rw[F];simp only;cases R:zy bZ t with
 |some n =>
  show Jg _ _ _ _ _ _=_;rw[i64_in (n:=st.a+1) (by omega) (by omega)];refine Gu (l:=l) (st:={ st with a:=st.a+1 }) ⟨hlen,by show 0<=st.a+1;omega,by show st.a+1<=_;omega,k,m,G⟩ λe=>?_
  have e:st.x.length≠200:=e;have:=p { st with a:=st.a+1,x:=st.x++[n] } ⟨hlen,by show 0<=st.a+1;omega,by show st.a+1<=_;omega,k,m,by show (st.x++[n]).length<=200;simp;omega⟩;rw[show ({ st with a:=st.a+1,x:=st.x++[n] }:St).x.length=st.x.length+1 by simp]at this;exact this
 |none =>
  show ah (pref t).isSome _ _=_;simp only;have inner:∀(s:Int),1<=s->s<=7->∀(q:St->uh) (v:St->l7),(∀o,BD l o->o.d=st.d+1->q o=Ww (.eC eE l) (v o))->Jh (.eC eE l) st (λw=>Jf rec (.eC eE l) l s w q) st.x.length=Ww (.eC eE l) (ri st λw=>Le (rec l s w) v):=λs H M q v N=>by
   refine Zf (l:=l) h u.2 λe=>?_
   have i:BD l { st with d:=st.d+1,a:=st.a+1 }:=⟨hlen,by show 0<=st.a+1;omega,by show st.a+1<=_;omega,by show 0<=st.d+1;omega,by show st.d+1<=50;omega,G⟩;rw[Ol i H M,Ze];refine bind_congr λo O=>?_
   have I:=J _ _ _ H i O;refine N o (i.grown I) ?_;obtain⟨_,_,_,_,_,P,_⟩:=I;exact P
  cases S:pref t with
  |some op =>
   show Jh _ _ _ _=_;simp only;refine inner 7 (by decide) (by decide) _ _ λo b y=>?_
   have z:=b.x;have j:BD l { o with d:=o.d-1 }:=⟨hlen,b.a0,b.a1,by show 0<=o.d-1;omega,by show o.d-1<=50;omega,z⟩;show ah (!bS op 0) _ _=_;rw[cF,i64_in (n:=o.d-1) (by omega) (by omega),i64_in (n:=(o.x.length:Int)-1) (by omega) (by omega)];by_cases r:op=0
   .rw[ag r,ag r];exact p _ j
   rw[aa r,aa r];refine Gu (l:=l) (st:={ o with d:=o.d-1 }) j λe=>?_
   have e:o.x.length≠200:=e;have:=p { o with d:=o.d-1,x:=o.x++[(op,0,[],(o.x.length:Int)-1,0)] } ⟨hlen,j.a0,j.a1,j.d0,j.d1,by show (o.x++[_]).length<=200;simp;omega⟩;rw[show ({ o with d:=o.d-1,x:=o.x++[(op,0,[],(o.x.length:Int)-1,0)] }:St).x.length=o.x.length+1 by simp]at this;exact this
  |none =>
   show ah (sgT t [40]) _ _=_;rw[Zg,ay];by_cases f:qP t [40]=true
   .rw[ag f];simp only[f,gy];refine inner 1 (by decide) (by decide) _ _ λo b y=>?_
    have A:=b.a0;have Q:=b.a1;rw[getI_at?];cases g:at? l o.a with
    |none =>
     have B:(l.length:Int)<=o.a:=by
      unfold at? at g;split at g
      .rename_i n C;have:=iC.1 g;rw[C];simp;omega
      rename_i C;rw[C]at A;omega
     rw[gB B];rfl
    |some c =>
     have D:=jR g;rw[rC D.2];show ah (!sgT c [41]) _ _=_;simp only;rw[Zg,i64_in (n:=o.d-1) (by omega) (by omega),i64_in (n:=o.a+1) (by omega) (by omega)];cases qP c [41] with
     |true=>exact p { o with d:=o.d-1,a:=o.a+1 } ⟨hlen,by show 0<=o.a+1;omega,by show o.a+1<=_;omega,by show 0<=o.d-1;omega,by show o.d-1<=50;omega,b.x⟩
     |false=>rfl
   rw[aa f];simp only[f];rfl
end
theorem aoY {rec:aX->Int->St->l7}{l:aX}(j:adA rec l){st:St}(h:BD l st){s:Int}(k:1<=s) :
 aT X0 (cC rec Je) Zb (l.length+1) 107 [.ptr 0 0,.int .i64 s] (kA 162 6 (Zc (.eC eE l) st.a st.d st.e st.f st.x s)) kR=Ww (.eC eE l) (ou bZ l (rec l) st (jQ l (rec l) s (l.length+1))):=by
 obtain⟨a,d,x,e,f⟩:=st;rw[adz,getI_at?];cases b:at? l a with
 |none =>
  have c:=h.a0;simp only at c;have g:(l.length:Int)<=a:=by
   unfold at? at b;split at b
   .rename_i n;have:=iC.1 b;simp;omega
   omega
  rw[gB g];unfold ou;simp only[b];rfl
 |some t =>
  have i:=jR b;rw[rC i.2];exact Zh j (λo m=>agq j s k _ _ o m) h b
set_option maxRecDepth 100000 in
theorem Zi (rec:aX->Int->St->l7)(s:Int)(r:Nat)(a d e f:Int)(x:bz) :
 aT X0 (cC rec Je) Zb r 107 [.ptr 0 0,.int .i64 s] (kA 162 6 (Zc .eB a d e f x s)) kR=ah (!bN a 0) (Dd false .eB ⟨a,d,x,4,a⟩ x.length) none:=by kernel_rfl
theorem ags {rec:aX->Int->St->l7}{L:AV}(j:Gj L=true){a d e f s:Int}{x:bz}(k:iI X0 gR 107 (cCl rec)){r:Nat}{b:Bool}{st:St}
 (h:aT X0 (cC rec Je) Zb r 107 [.ptr 0 0,.int .i64 s] (kA 162 6 (Zc L a d e f x s)) kR=Dd b L st st.x.length) :
 ∃vs M1 cs1,D9 X0 gR 107 [.ptr 0 0,.int .i64 s] (kA 162 6 (Zc L a d e f x s)) vs M1/\M1.get 0=some (.cells 162 cs1)/\cs1.length=6 /\
  sO M1 [0] (cs1++vs) [.val L,.val (.int .i64 st.a),.val (.int .i64 st.d),.list 76 fA st.x,.val (.int .i64 st.e),.val (.int .i64 st.f),.val (.bool b)]:=by
 obtain⟨v,M1,g,m⟩:=p7 (λargs=>lt.cn rfl args) (kP I8 (.cons k .nil) Je) h;unfold kR at g;split at g
 .rename_i t c0 c1 c2 q u c5 i;split at g
  .rename_i id n;rw[ay]at g;split at g
   .rename_i o;obtain rfl:=bt o;simp only[aq,az,List.cons.injEq,and_true]at g;obtain⟨rfl,⟨rfl,rfl,rfl,rfl,rfl⟩,rfl,c⟩:=g;refine⟨[.bool b],M1,_,m [.bool b] rfl,i,rfl,rfl,j,rfl,rfl,rfl,rfl,.inl ⟨id,0,false,rfl,c,?_,rfl,rfl,rfl,rfl,rfl,rfl,trivial⟩⟩;intro p;have:id=0:=by simpa using p
    subst this;rw[i]at c;cases c
   cases g
  cases g
 cases g
theorem Q8 (k:Nat)(l:aX):adA (λl=>ef bZ l k) l:=λs st o b a c=>mS l k s st o b a.x a.a1 c
theorem Li:∀k:Nat,iI X0 gR 107 (cCl λl=>ef bZ l k)
 |0=>by
  intro ins outs rs c;exfalso;have c:gCl (λl=>ef bZ l 0) ins=some (true,outs,rs):=c;unfold gCl at c;split at c
  .split at c
   .simp[ef]at c
   cases c
  cases c
 |k+1=>by
  intro ins outs rs c;have c:gCl (λl=>ef bZ l (k+1)) ins=some (true,outs,rs):=c;unfold gCl at c;split at c;case h_2=>cases c
  rename_i L a d t0 t x e f s _;split at c;case h_2=>cases c
  rename_i l w m y;obtain⟨rfl,i⟩:=cr y;have i:x=w:=i;subst i;simp only[aq,az,ak,aU]at c;obtain⟨⟨⟨⟨⟨⟨⟨⟨⟨⟨g0,g1⟩,z⟩,A⟩,B⟩,C⟩,D⟩,E⟩,H⟩,F⟩,rfl,rfl⟩:=c;obtain rfl:=bt g0;have Lj:∀{p q:Int},bN p q=false->q<=p:=λ{p q} h=>by rw[dc]at h;simpa using h
  have j:BD l ⟨a,d,x,e,f⟩:=⟨aB g1,Lj z,Lj A,Lj B,Lj C,aB D⟩;obtain⟨⟨b,st⟩,n⟩:=cw.1 F;rw[n];have u:ef bZ l (k+1) s ⟨a,d,x,e,f⟩=ou bZ l (ef bZ l k) ⟨a,d,x,e,f⟩ (jQ l (ef bZ l k) s (l.length+1)):=rfl;cases L with
  |eC I v =>
   obtain⟨rfl,o⟩:=cr m;have o:v=l:=o;subst o;have g:=aoY (rec:=λl=>ef bZ l k) (Q8 k v) j (Lj E);rw[<-u,n]at g;exact λ_ _=>ags rfl (Li k) g
  |eB =>
   have m:some []=some l:=m;cases m;have G:a=0:=by have:=j.a0;have:=j.a1;simp only[bK]at *;omega
   subst G;have g:=Zi (λl=>ef bZ l k) s 5 0 d e f x;have r:(false,(⟨0,d,x,4,0⟩:St))=(b,st):=bT (u.symm.trans n);cases r;exact λ_ _=>ags rfl (Li k) g
  |_=>cases m
def wS (v:AV)(H:aH):Option (AV×Option Row) :=
 match v with
 |.gI (.own i _::_)=>some (v,H.get i)
 |.own i _=>some (v,H.get i)
 |_=>some (v,none)
theorem Gw {v:AV}{H:aH}{r:AV×Option Row}(h:wS v H=some r):v=r.1:=by
 unfold wS at h;split at h<;>(cases h;rfl)
def bp (l:aX)(a:Int):bz×Int×Int×Int:=(oa bZ l a).getD ([],0,0,0)
def Gx (e f:Int):Option (AV×Option Row):=some (.gI [.eB,.int .i64 0,.agg [.int .i64 e,.int .i64 f]],none)
def Gy (x:bz)(n:Nat)(a:Int):Option (AV×Option Row):=some (.gI [.own 2 n,.int .i64 a,.agg [.int .i64 0,.int .i64 0]],some (.list 76 fA x 0 false false))
abbrev cM (M:List xw)(rec:aX->Int->St->l7)(β:Type):dz β:=cN M (N1 rec) β
set_option maxRecDepth 100000 in
theorem adC (rec:aX->Int->St->l7)(l:aX)(a:Int)(r:Nat):aT X0 (cM M5 rec _) gC r 67 [.eC eE l,.int .i64 a] aH.empty wS =
 ah (bN a 0) (Gx 2 0) (ah (bN l.length a) (Gx 2 0) (ah (Q7 rec l 1 ⟨a,0,[],0,0⟩&&true) (ah (!(fG rec l 1 ⟨a,0,[],0,0⟩).1) (Gx (fG rec l 1 ⟨a,0,[],0,0⟩).2.e (fG rec l 1 ⟨a,0,[],0,0⟩).2.f)
  (Gy (fG rec l 1 ⟨a,0,[],0,0⟩).2.x (fG rec l 1 ⟨a,0,[],0,0⟩).2.x.length (fG rec l 1 ⟨a,0,[],0,0⟩).2.a)) none)):=by kernel_rfl
def gPs (args:aI):Option (Bool×List gj) :=
 match args with
 |[L,.int .i64 a]=>match Lh eE L with
  |some l=>some (Nat.ble l.length 2000000,[.list 76 fA (bp l a).1,.val (.int .i64 (bp l a).2.1),.val (.agg [.int .i64 (bp l a).2.2.1,.int .i64 (bp l a).2.2.2])])
  |none=>none
 |_=>none
theorem tJ {e:Ty}{a:AV}{l:List e.den}(h:Lh e a=some l):a = .eC e l\/(a = .eB/\l=[]):=by
 unfold Lh at h;split at h
 .obtain ⟨c,b⟩:=cr h;subst c;have b:_=l:=b;subst b;exact .inl rfl
 .cases h;exact .inr ⟨rfl,rfl⟩
 cases h
theorem Zm (rec:aX->Int->St->l7)(a:Int)(r:Nat):aT X0 (cM M5 rec _) gC r 67 [.eB,.int .i64 a] aH.empty wS =
 ah (bN a 0) (Gx 2 0) (ah (bN 0 a) (Gx 2 0) (ah (Q7 rec [] 1 ⟨a,0,[],0,0⟩&&true) (ah (!(fG rec [] 1 ⟨a,0,[],0,0⟩).1) (Gx (fG rec [] 1 ⟨a,0,[],0,0⟩).2.e (fG rec [] 1 ⟨a,0,[],0,0⟩).2.f)
  (Gy (fG rec [] 1 ⟨a,0,[],0,0⟩).2.x (fG rec [] 1 ⟨a,0,[],0,0⟩).2.x.length (fG rec [] 1 ⟨a,0,[],0,0⟩).2.a)) none)):=by kernel_rfl
theorem ai7:dQ X0 gR 67 gPs:=by
 intro args rs m;unfold gPs at m;split at m;case h_2=>cases m
 rename_i L a;split at m;case h_2=>cases m
 rename_i l u;simp only[aq,az]at m;obtain⟨p,rfl⟩:=m;have p:=aB p;have c:aT X0 (cM M5 (λd=>ef bZ d (l.length+1)) _) gC 5 67 [L,.int .i64 a] aH.empty wS =
  if (bp l a).2.2.1=0 then Gy (bp l a).1 (bp l a).1.length (bp l a).2.1 else Gx (bp l a).2.2.1 (bp l a).2.2.2:=by
  have e:aT X0 (cM M5 (λd=>ef bZ d (l.length+1)) _) gC 5 67 [L,.int .i64 a] aH.empty wS =
   ah (bN a 0) (Gx 2 0) (ah (bN l.length a) (Gx 2 0) (ah (Q7 (λd=>ef bZ d (l.length+1)) l 1 ⟨a,0,[],0,0⟩&&true) (ah (!(fG (λd=>ef bZ d (l.length+1)) l 1 ⟨a,0,[],0,0⟩).1) (Gx (fG (λd=>ef bZ d (l.length+1)) l 1 ⟨a,0,[],0,0⟩).2.e (fG (λd=>ef bZ d (l.length+1)) l 1 ⟨a,0,[],0,0⟩).2.f)
    (Gy (fG (λd=>ef bZ d (l.length+1)) l 1 ⟨a,0,[],0,0⟩).2.x (fG (λd=>ef bZ d (l.length+1)) l 1 ⟨a,0,[],0,0⟩).2.x.length (fG (λd=>ef bZ d (l.length+1)) l 1 ⟨a,0,[],0,0⟩).2.a)) none)):=by
   rcases tJ u with rfl|⟨rfl,rfl⟩
   .exact adC _ l a 5
   exact Zm _ a 5
  rw[e,de,de];have key:∀r,oa bZ l a=some r->bp l a=r:=λr h=>by unfold bp;rw[h];rfl
  by_cases k:a<0
  .rw[ag k,key ([],0,2,0) (by unfold oa;rw[ag (Or.inl k)])];rfl
  rw[aa k];by_cases n:(l.length:Int)<a
  .rw[ag n,key ([],0,2,0) (by unfold oa;rw[ag (Or.inr n)])];rfl
  rw[aa n];have o:¬(a<0\/(l.length:Int)<a):=by omega
  have g:BD l ⟨a,0,[],0,0⟩:=⟨p,by show 0<=a;omega,by show a<=_;omega,bL 0,by show (0:Int)<=50;decide,by simp⟩;obtain⟨⟨b,st⟩,i⟩:=ug (nm:=bZ) l (l.length+1) 1 ⟨a,0,[],0,0⟩ (by decide) (by simp) g.a0 g.a1 (by show _-a<_;omega);unfold Q7 fG;rw[eN p,gB g.a0,gB g.a1,gB g.d0,gB g.d1,eN g.x];simp only[i];cases b with
  |true=>rw[key (st.x,st.a,0,0) (by unfold oa;rw[aa o,i])];rfl
  |false =>
   have s:=EE l _ _ _ st i;rw[key ([],0,st.e,st.f) (by unfold oa;rw[aa o,i])];simp only;rw[aa s];rfl
 obtain⟨r,i⟩:=rQ (nm:=bZ) l a;by_cases j:(bp l a).2.2.1=0
 .rw[ag j]at c;unfold Gy at c;obtain⟨v,M1,k,n⟩:=p7 (λargs=>lt.cn rfl args) (kP I8 (.cons (Li (l.length+1)) .nil) (AV×Option Row)) c;have t:=Gw k;subst t;refine⟨_,M1,n [.own 2 (bp l a).1.length,.int .i64 (bp l a).2.1,.agg [.int .i64 0,.int .i64 0]] rfl,rfl,.inl ⟨2,0,false,rfl,?_,by simp,rfl,rfl,?_,rfl,trivial⟩⟩
  .exact (lg (bT k)).2
  have q:(bp l a).2.2.2=0:=by
   unfold bp at j ⊢;rw[i]at j ⊢;unfold oa at i;split at i
   .cases i;exact absurd j (by decide)
   split at i
   .cases i;rfl
   .rename_i st w;cases i;exact absurd j (EE l _ _ _ st w)
   cases i
  rw[j,q]
 rw[aa j]at c;unfold Gx at c;obtain⟨v,M1,k,n⟩:=p7 (λargs=>lt.cn rfl args) (kP I8 (.cons (Li (l.length+1)) .nil) (AV×Option Row)) c;have t:=Gw k;subst t;have q:(bp l a).1=[]/\(bp l a).2.1=0:=by
  unfold bp at j ⊢;rw[i]at j ⊢;exact(On (nm:=bZ) (l:=l) (a:=a) i).1 j
 refine⟨_,M1,n [.eB,.int .i64 0,.agg [.int .i64 (bp l a).2.2.1,.int .i64 (bp l a).2.2.2]] rfl,rfl,.inr ⟨rfl,q.1,?_,rfl,rfl,rfl,trivial⟩⟩;rw[q.2]
def M6:List xw:=(67,[some eE,none],gPs)::M5
theorem yo:jy X0 gR M6:=.cons ai7 I8
end
end Go.Proofs.YtbeckacfibledaaGreatDoor.ex

/- SourceTimes, as it runs. -/
import Derived.Test.YtbeckacfibledaaGreatDoorGyb
set_option linter.unusedVariables false
set_option linter.unusedSimpArgs false

namespace Go.Proofs.YtbeckacfibledaaGreatDoor.ps.sr
open Go.Tv Go.Ev Go.Px Go.Pp Go.Proofs.YtbeckacfibledaaGreatDoor.ex
set_option maxRecDepth 100000
noncomputable section
def fK (n:Nat):au:=if n<10 then [UInt8.ofNat (48+n)] else [UInt8.ofNat (48+n/10),UInt8.ofNat (48+n%10)]
def gIa (args:aI):Option (Bool×List gj) :=
 match args with
 |[.int .i64 n]=>some (!bN n 0&&bN n 21,[.val (.str (fK n.toNat))])
 |_=>none
def ItR (n:Int):Prop:=aT X0 c7 gC 5 15 [.int .i64 n] aH.empty (λv _=>some v)=some (.str (fK n.toNat))
theorem auo:aT X0 c7 gC 5 15 [.int .i64 0] aH.empty (λv _=>some v)=some (.str (fK 0)):=by kernel_rfl
theorem aup:aT X0 c7 gC 5 15 [.int .i64 1] aH.empty (λv _=>some v)=some (.str (fK 1)):=by kernel_rfl
theorem auq:aT X0 c7 gC 5 15 [.int .i64 2] aH.empty (λv _=>some v)=some (.str (fK 2)):=by kernel_rfl
theorem aur:aT X0 c7 gC 5 15 [.int .i64 3] aH.empty (λv _=>some v)=some (.str (fK 3)):=by kernel_rfl
theorem aus:aT X0 c7 gC 5 15 [.int .i64 4] aH.empty (λv _=>some v)=some (.str (fK 4)):=by kernel_rfl
theorem aut:aT X0 c7 gC 5 15 [.int .i64 5] aH.empty (λv _=>some v)=some (.str (fK 5)):=by kernel_rfl
theorem auu:aT X0 c7 gC 5 15 [.int .i64 6] aH.empty (λv _=>some v)=some (.str (fK 6)):=by kernel_rfl
theorem auv:aT X0 c7 gC 5 15 [.int .i64 7] aH.empty (λv _=>some v)=some (.str (fK 7)):=by kernel_rfl
theorem auw:aT X0 c7 gC 5 15 [.int .i64 8] aH.empty (λv _=>some v)=some (.str (fK 8)):=by kernel_rfl
theorem auy:aT X0 c7 gC 5 15 [.int .i64 9] aH.empty (λv _=>some v)=some (.str (fK 9)):=by kernel_rfl
theorem aqo:aT X0 c7 gC 5 15 [.int .i64 10] aH.empty (λv _=>some v)=some (.str (fK 10)):=by kernel_rfl
theorem aqp:aT X0 c7 gC 5 15 [.int .i64 11] aH.empty (λv _=>some v)=some (.str (fK 11)):=by kernel_rfl
theorem aqq:aT X0 c7 gC 5 15 [.int .i64 12] aH.empty (λv _=>some v)=some (.str (fK 12)):=by kernel_rfl
theorem aqr:aT X0 c7 gC 5 15 [.int .i64 13] aH.empty (λv _=>some v)=some (.str (fK 13)):=by kernel_rfl
theorem aqs:aT X0 c7 gC 5 15 [.int .i64 14] aH.empty (λv _=>some v)=some (.str (fK 14)):=by kernel_rfl
theorem aqt:aT X0 c7 gC 5 15 [.int .i64 15] aH.empty (λv _=>some v)=some (.str (fK 15)):=by kernel_rfl
theorem aqu:aT X0 c7 gC 5 15 [.int .i64 16] aH.empty (λv _=>some v)=some (.str (fK 16)):=by kernel_rfl
theorem aqv:aT X0 c7 gC 5 15 [.int .i64 17] aH.empty (λv _=>some v)=some (.str (fK 17)):=by kernel_rfl
theorem aqw:aT X0 c7 gC 5 15 [.int .i64 18] aH.empty (λv _=>some v)=some (.str (fK 18)):=by kernel_rfl
theorem aqx:aT X0 c7 gC 5 15 [.int .i64 19] aH.empty (λv _=>some v)=some (.str (fK 19)):=by kernel_rfl
theorem aqy:aT X0 c7 gC 5 15 [.int .i64 20] aH.empty (λv _=>some v)=some (.str (fK 20)):=by kernel_rfl
theorem aqz {n:Int}(a:0<=n)(b:n<21):ItR n:=by
 have h:n=0\/n=1\/n=2\/n=3\/n=4\/n=5\/n=6\/n=7\/n=8\/n=9\/n=10\/n=11\/n=12\/n=13\/n=14\/n=15\/n=16\/n=17\/n=18\/n=19\/n=20:=by omega
 rcases h with rfl|rfl|rfl|rfl|rfl|rfl|rfl|rfl|rfl|rfl|rfl|rfl|rfl|rfl|rfl|rfl|rfl|rfl|rfl|rfl|rfl
 .exact auo
 .exact aup
 .exact auq
 .exact aur
 .exact aus
 .exact aut
 .exact auu
 .exact auv
 .exact auw
 .exact auy
 .exact aqo
 .exact aqp
 .exact aqq
 .exact aqr
 .exact aqs
 .exact aqt
 .exact aqu
 .exact aqv
 .exact aqw
 .exact aqx
 exact aqy
theorem al4:dQ X0 gR 15 gIa :=
 dG (nk rfl) (rF abp Ui abo) λargs rs a=>by
  unfold gIa at a;split at a;case h_2=>cases a
  rename_i n;simp only[aq,az,ak,dc,aU,bJ,aZ]at a;obtain⟨⟨c,b⟩,rfl⟩:=a;exact⟨[.str (fK n.toNat)],gC,5,aqz (by omega) b,rfl,rfl⟩
def S4:List xw:=(15,[none],gIa)::S3
theorem aqA:jy X0 gR S4:=.cons al4 aqn
abbrev c9:dz AV:=cV S4 N4 G7 _
def pT1:eJ:=[true,true,true,true,true,false,true,false]
def pT2:eJ:=[true,true,true,true,true,true,true,false,true,false]
def pT3:eJ:=[true,true,true,true,true,true,true,true,true,true,true,false,true,false]
def anT:fe:=⟨tg (iM [0,1,5,8] pT1) (tg (iM [0,1,5,9,10] pT2) (iM [5,11,13,14,15] pT3)),.none,[]⟩
def fT1 (s:au)(n i:Int):gJ:=lS 131 [(0,.str s),(1,.int .i64 n),(5,.bool true),(8,.int .i64 i)]
def fT2 (s:au)(n:Int)(g:au)(i:Int):gJ:=lS 131 [(0,.str s),(1,.int .i64 n),(5,.bool true),(9,.str g),(10,.int .i64 i)]
def fT3 (i:Int):gJ:=lS 131 [(5,.bool true),(11,.ptr 0 0),(13,.ptr 1 0),(14,.ptr 2 0),(15,.int .i64 i)]
def rW (e a:Int):Row:=.cells 47 [.int .i64 e,.int .i64 a]
def mT3 (o:Int)(a:List Sy)(b:cK)(d:Int)(c:List Sy)(f:cK)(k:Nat)(e w:Int):aH:=oL [liC o 3 4 a.length b.length,liC d 5 6 c.length k,rW e w,.list 59 je a 0 false false,.list 52 sJ b 0 false false,.list 59 je c 0 false false,.list 52 sJ f 0 false false]
abbrev lT (p:eJ)(r m:Nat)(f:gJ)(H:aH):bx:=jo X0 c9 anT r 5 p (λv _=>some v) m f H
def jT1 (s:au)(n:Int)(r m:Nat)(i:Int):bx:=lT pT1 r m (fT1 s n i) (oL [])
def jT2 (s:au)(n:Int)(r m:Nat)(g:au)(i:Int):bx:=lT pT2 r m (fT2 s n g i) (oL [])
def jT3 (x:Ls)(a:Int)(b:List Sy)(e w:Int)(r m:Nat)(c:cK)(k:Nat)(i:Int):bx:=lT pT3 r m (fT3 i) (mT3 x.1 x.2.1 x.2.2 a b c k e w)
def Wj:au:=[116,105,109,101,115,32]
def oU (n:Nat)(s:au):au:=Wj++fK n++[32]++s
theorem abF (s:au)(n:Int)(r m:Nat)(i:Int):jT1 s n r (m+1) i=ah (bN i s.length) (Wz s i λc=>ah (bS (cS c) 10) tT (jT1 s n r m (IntKind.wrap .i64 (i+1)))) (jT2 s n r r [] 0):=by kernel_rfl
def tiT (n:Int)(x y:Ls×Int×Int)(k:bx):bx:=ah (!bS x.2.1 0) (ah (bS y.2.1 x.2.1) tT (some (.bool (bS n 0)))) k
theorem abG (s:au)(n:Int)(r m:Nat)(g:au)(i:Int):jT2 s n r (m+1) g i =
 ah (bN i n) (H9 (g.length+s.length) (H9 ((g++s).length+1) (jT2 s n r m (g++s++[10]) (IntKind.wrap .i64 (i+1)))))
  (ah (!bN n 0&&bN n 21) (H9 (6+(fK n.toNat).length) (H9 ((Wj++fK n.toNat).length+1) (H9 ((Wj++fK n.toNat++[32]).length+s.length) (ah (Nat.ble (oU n.toNat s).length 200000) (ah (Nat.ble g.length 200000)
   (tiT n (oy (oU n.toNat s)) (oy g) (jT3 (oy (oU n.toNat s)).1 (oy g).1.1 (oy g).1.2.1 (oy g).2.1 (oy g).2.2 r r (oy g).1.2.2 (oy g).1.2.2.length 0)) none) none)))) none):=by kernel_rfl
theorem abH (x:Ls)(b:Int)(c:List Sy)(e w:Int)(r m:Nat)(a:cK)(k:Nat)(i:Int):jT3 x b c e w r (m+1) a k i =
 ah (bN i k) (Wz a i λz=>jT3 x b c e w r m (abE a i z 1) k (IntKind.wrap .i64 (i+1))) (ah (bS e 0) (ah (bS x.1 b) (Sd x.2.1 c (Sc x.2.2 a tT)) tF) tF):=by kernel_rfl
def tiA (s:au)(n:Int)(r:Nat):bx:=ah (!vo s) tT (ah (bN 200 s.length) tT (ah (!bS (di s).2.1 0) tT (ah (!decide ((di s).1.lab=[])) tT
 (ah (!bS (di s).1.aC 1) (ah (!bS (di s).1.aC 2) (ah (!bS (di s).1.aC 9) tT (jT1 s n r r 0)) (jT1 s n r r 0)) (jT1 s n r r 0)))))
theorem afO (s:au)(n:Int)(r:Nat):aT X0 c9 anT r 5 [.str s,.int .i64 n] aH.empty (λv _=>some v) =
 ah (bN (Int.tmod n 21) 0) (tiA s (IntKind.wrap .i64 (Int.tmod n 21+21)) r) (tiA s (Int.tmod n 21) r):=by kernel_rfl
def uC (s:au):Nat->au
 |0=>[]
 |n+1=>uC s n++s++[10]
theorem L9 (s:au):∀n,(uC s n).length=n*(s.length+1)
 |0=>by simp[uC]
 |n+1=>by
  rw[uC,aA,aA,L9 s n,qh];simp only[aJ,bK];omega
def PD (y:It):It:=(1,y.2)
def HI:Prop:=∀(s:au) (n:Nat),n<=20->vo s=true->s.length<=200->(di s).2.1=0->(di s).1.lab=[]->((di s).1.aC=1\/(di s).1.aC=2\/(di s).1.aC=9)->(∀c∈s,c≠10) ->
 ((oy (oU n s)).2.1≠0->(oy (uC s n)).2.1=(oy (oU n s)).2.1\/n=0) /\
 ((oy (oU n s)).2.1=0->(oy (uC s n)).2.1=0/\(oy (oU n s)).1.1=(oy (uC s n)).1.1/\(oy (oU n s)).1.2.1=(oy (uC s n)).1.2.1/\(oy (oU n s)).1.2.2=(oy (uC s n)).1.2.2.map PD)
theorem al6 {s:au}{n:Int}{r:Nat}(p:s.length<=200)(a:(∀c∈s,c≠10)->jT2 s n r r [] 0=tT) :
 ∀(rest pre:au) (m:Nat),s=pre++rest->rest.length<m->(∀c∈pre,c≠10)->jT1 s n r m pre.length=tT:=by
 intro rest;induction rest with
 |nil =>
  intro pre m b f g;obtain⟨m,rfl⟩:∃h,m=h+1:=⟨m-1,by simp at f;omega⟩;have e:s=pre:=by rw[b];simp
  rw[abF,gB (by rw[e];omega)];exact a (by rw[e];exact g)
 |cons c rest j =>
  intro pre m b f g;obtain⟨m,rfl⟩:∃h,m=h+1:=⟨m-1,by simp at f;omega⟩;have t:s.length=pre.length+(rest.length+1):=by rw[b];simp
  have l:∀k,Wz s (pre.length:Int) k=k c:=λk=>by rw[b];exact abq pre rest c k
  rw[abF,rC (by omega),l,cH];by_cases i:cS c=10
  .rw[ag i]
  rw[aa i,i64_in (by omega) (by omega)];have d:=j (pre++[c]) m (by rw[b];simp) (by simp at f;omega) (λx o=>by
   rcases cg.1 o with q|q
   .exact g x q
   rw[dP.1 q];rintro rfl;exact i rfl)
  rw[aA]at d;exact d
theorem al7 {s:au}{n:Nat}{r:Nat}(g:s.length<=200)(j:n<=20):∀(d i m:Nat),i+d=n->d<m->(∀m,jT2 s n r (m+1) (uC s n) n=tT)->jT2 s n r m (uC s i) i=tT:=by
 intro d;induction d with
 |zero =>
  intro i m c e h;obtain⟨m,rfl⟩:∃a,m=a+1:=⟨m-1,by omega⟩;have:i=n:=by omega
  subst this;exact h m
 |succ d f =>
  intro i m c e h;obtain⟨m,rfl⟩:∃a,m=a+1:=⟨m-1,by omega⟩;have l:=L9 s i;have o:i*(s.length+1)<=20*201:=qR (by omega) (by omega);have b:∀(q:Nat) (k:bx),q<=100000->H9 q k=k:=λq k p=>by unfold H9;rw[eN (by omega)]
  have t:(uC s i++s).length=(uC s i).length+s.length:=by simp
  rw[abG,rC (by omega),b _ _ (by omega),b _ _ (by omega),i64_in (by omega) (by omega)];exact f (i+1) m (by omega) (by omega) h
theorem al8 {x:Ls}{g:Int}{h:List Sy}{e w:Int}{r:Nat}{Y:cK}(p:Y.length<=20000)(a:∀m,jT3 x g h e w r (m+1) (Y.map PD) Y.length Y.length=tT) :
 ∀(rest pre:cK) (m:Nat),Y=pre++rest->rest.length<m->jT3 x g h e w r m (pre.map PD++rest) Y.length pre.length=tT:=by
 intro rest;induction rest with
 |nil =>
  intro pre m c d;obtain⟨m,rfl⟩:∃f,m=f+1:=⟨m-1,by simp at d;omega⟩;have e:Y=pre:=by rw[c];simp
  have:=a m;rw[e]at this ⊢;simpa using this
 |cons y rest j =>
  intro pre m c d;obtain⟨m,rfl⟩:∃f,m=f+1:=⟨m-1,by simp at d;omega⟩;have q:Y.length=pre.length+(rest.length+1):=by rw[c];simp
  have i:(pre.map PD).length=pre.length:=cO ..;have l:∀k,Wz (pre.map PD++y::rest) (pre.length:Int) k=k y:=λk=>by rw[<-i];exact abq _ rest y k
  have o:abE (pre.map PD++y::rest) (pre.length:Int) y 1=(pre++[y]).map PD++rest:=by
   unfold abE;rw[show ((pre.length:Int)).toNat=pre.length by omega,fj,bC];rw[jF _ _ (by omega),i,nG];rfl
  rw[abH,rC (by omega),l,i64_in (n:=(pre.length:Int)+1) (by omega) (by omega),o];have b:=j (pre++[y]) m (by rw[c];simp) (by simp at d;omega);rw[aA]at b;exact b
theorem afP (n:Nat):(fK n).length<=2:=by unfold fK;split<;>simp
theorem runT (p:HI)(s:au){n:Nat}(l:n<=20){r:Nat}(C:30000<r):tiA s n r=tT:=by
 unfold tiA;cases t:vo s with
 |false=>rfl
 |true =>
  show ah (bN 200 s.length) _ _=tT;rw[de];by_cases o:(200:Int)<s.length
  .rw[ag o]
  rw[aa o,cF];by_cases d:(di s).2.1=0
  .rw[ag d];by_cases a:(di s).1.lab=[]
   .rw[bg a];have main:((di s).1.aC=1\/(di s).1.aC=2\/(di s).1.aC=9)->jT1 s n r r 0=tT:=λu=>by
     refine al6 (by omega) (λe=>?_) s [] r rfl (by omega) (λc v=>by cases v);refine al7 (n:=n) (by omega) l n 0 r (by omega) (by omega) (λm=>?_);obtain⟨g1,w⟩:=p s n l t (by omega) d a u e;have D:n*(s.length+1)<=20*201:=qR (by omega) (by omega);have E:=L9 s n;have F:=afP n;have f:∀(q:Nat) (k:bx),q<=100000->H9 q k=k:=λq k G=>by unfold H9;rw[eN (by omega)]
     have z:Wj.length=6:=rfl;have A:(Wj++fK n).length=6+(fK n).length:=by rw[aA,z]
     have e2:(Wj++fK n++[32]).length=6+(fK n).length+1:=by rw[aA,A];rfl
     have H:(oU n s).length=6+(fK n).length+1+s.length:=by unfold oU;rw[aA,e2]
     rw[abG,gB (by omega),Yb,gB (by omega),rC (by omega)];show H9 (6+(fK n).length) _=tT;simp only[bf];rw[f _ _ (by omega),f _ _ (by omega),f _ _ (by omega),eN (by omega),eN (by omega)];show tiT (n:Int) _ _ _=tT;unfold tiT;rw[cF];by_cases b:(oy (oU n s)).2.1=0
     .rw[ag b];obtain⟨q1,q2,q3,B⟩:=w b;obtain⟨b1,b2⟩:=Ul (uC s n);obtain⟨b3,b4⟩:=Ul (oU n s);refine al8 (Y:=(oy (uC s n)).1.2.2) b2 (λm=>?_) (oy (uC s n)).1.2.2 [] r rfl (by omega);rw[abH,gB (by omega),Yb,<-B,q1,q2,q3];show ah (bS (oy (uC s n)).1.1 (oy (uC s n)).1.1) _ _=tT;rw[cH,ag rfl,<-q3,PC (x:=(oy (oU n s)).1.2.1) (by omega)];exact PB (x:=(oy (oU n s)).1.2.2) (bA b4 (by decide)) (λy hy=>(al1 (l6 (oU n s)) (bA (Hz _) (by omega)) y hy).1) _
     rw[aa b,cH];rcases g1 b with h|h
     .rw[ag h]
     split
     .rfl
     subst h;rfl
    rw[cF];by_cases g:(di s).1.aC=1
    .rw[ag g];exact main (.inl g)
    rw[aa g,cF];by_cases i:(di s).1.aC=2
    .rw[ag i];exact main (.inr (.inl i))
    rw[aa i,cF];by_cases j:(di s).1.aC=9
    .rw[ag j];exact main (.inr (.inr j))
    rw[aa j];rfl
   rw[aY a];rfl
  rw[aa d]
theorem aqC (a:HI)(s:au)(n:Int){r:Nat}(b:30000<r):aT X0 c9 anT r 5 [.str s,.int .i64 n] aH.empty (λv _=>some v)=tT:=by
 rw[afO,de];have h : -21<Int.tmod n 21/\Int.tmod n 21<21:=by
  rw[Int.tmod_eq_emod];split<;>omega
 by_cases c:Int.tmod n 21<0
 .rw[ag c,i64_in (by omega) (by omega)];have:=runT a s (n:=(Int.tmod n 21+21).toNat) (by omega) b;rw[show (((Int.tmod n 21+21).toNat:Nat):Int)=Int.tmod n 21+21 by omega]at this;exact this
 rw[aa c];have:=runT a s (n:=(Int.tmod n 21).toNat) (by omega) b;rw[show (((Int.tmod n 21).toNat:Nat):Int)=Int.tmod n 21 by omega]at this;exact this
end
end Go.Proofs.YtbeckacfibledaaGreatDoor.ps.sr

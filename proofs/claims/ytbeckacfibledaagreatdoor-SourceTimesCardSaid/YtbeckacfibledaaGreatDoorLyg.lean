/- What the layer answers the machine's call answers. -/
import Derived.Test.YtbeckacfibledaaGreatDoorLyf
import Derived.Test.YtbeckacfibledaaGreatDoorLyc
import Derived.Deep.Slices
import Derived.WideShapes
set_option linter.unusedVariables false
set_option linter.unusedSimpArgs false

namespace Go.Tv
open Go.Ev (Tr ah jx Mem kV alive ay eA kD Fr bR Ren)
open Go.RowKit
theorem EA {S:Wo}{vs:aI}{x:Value}(h:VR S (tf vs) x):∃xs,x=Ev.xH xs/\LV S vs xs:=by
 match vs,h with
 |[],h =>
  have h:VR S (.gI []) x:=h;cases h with
  |gI _ m c d =>
   have:m=[]:=aS.1 c.symm;subst this;exact⟨[],rfl,LV.nil⟩
 |[v],h=>exact⟨[x],rfl,LV.cons h LV.nil⟩
 |v::w::vs,h =>
  have h:VR S (.gI (v::w::vs)) x:=h;cases h with
  |gI _ m c d =>
   match m,c,d with
   |a::b::m,c,d=>exact⟨a::b::m,rfl,⟨c,d⟩⟩
def idR (n:Nat):Ren:=λi=>if i<n then some (i,0) else none
open Classical in
noncomputable def FU (w:World)(i:Nat):kV :=
 match w.heap[i]? with
 |some (.cells C t _)=>⟨C.toList.map λv=>if ∃a,v = .slice (some a) 0 0 then Ev.vd else if bR (idR w.heap.size) v v then v else .chan none,t,true,false⟩
 |_=>⟨[],0,false,false⟩
theorem BM:∀(l:List kV) (H:Mem),∃a,H.wu l=some a
 |[],H=>⟨_,rfl⟩
 |b::l,H=>by
  obtain⟨c,d⟩:=Mem.nu H b;obtain⟨e,f⟩:=BM l c;exact⟨e,by simp only[Ev.Mem.wu,d,f]⟩
noncomputable def snap (w:World):Mem:=(Mem.wu Mem.empty ((List.range w.heap.size).map (FU w))).getD Mem.empty
theorem y8 (w:World):(snap w).size=w.heap.size/\(snap w).lk=w.heap.size/\∀i,(snap w).get i=if i<w.heap.size then some (FU w i) else none:=by
 obtain⟨a,h⟩:=BM ((List.range w.heap.size).map (FU w)) Mem.empty;obtain⟨c,d,f⟩:=Ev.xV _ h;have e:snap w=a:=by unfold snap;rw[h];rfl
 rw[e];have b:a.size=w.heap.size:=by rw[c];simp[Mem.empty]
 refine⟨b,by rw[d,b],λi=>?_⟩;rw[f,aa (by simp[Mem.empty])];simp only[Mem.empty,nH];by_cases hi:i<w.heap.size
 .rw[ag hi];simp[hi]
 rw[aa hi];simp;omega
theorem X4 (P:Program)(w:World)(G:Nat)(B:G<=w.heap.size):Ev.fc ⟨P,w.heap.size,w.heap.size,G,w,λ_=>none⟩ (idR w.heap.size) (snap w) w:=by
 obtain⟨q,D,s⟩:=y8 w;have e:∀{i:Nat} {b:Ev.kV},(snap w).get i=some b->Ev.jK b=false:=by
  intro i b hi;rw[s]at hi;split at hi
  .cases hi;unfold FU;split<;>rfl
  cases hi
 refine⟨⟨Below.refl _ _,λr o h=>by cases h⟩,aG _,λi x h=>?_,by rw[D];exact aG _,by rw[q];exact aG _,λg E=>ag (cU E B),λi b hi n=>?_,λi j bi F r x y hi _ l _ m d=>?_,λi b hi f=>(by rw[e hi]at f;cases f),λi j bi F r x y hi f=>(by rw[e hi]at f;cases f)⟩
 .rw[q];unfold idR at h;split at h
  .assumption
  cases h
 .rw[s]at hi;split at hi
  .rename_i c;cases hi;unfold FU at n ⊢;split at n
   .rename_i C t fr H;refine⟨i,0,C,fr,0,ag c,.inl ⟨c,rfl⟩,H,.inl c,⟨.inl c,λ_=>rfl⟩,by simp,⟨by simp,λj v z l=>?_⟩,.inl c⟩;simp only[dg,aO]at z;obtain⟨u,A,rfl⟩:=z;split at l
    .rename_i k;rw[ag k];obtain⟨a,rfl⟩:=k;exact⟨_,by simpa using A,.void a⟩
    rename_i p;rw[aa p];split at l
    .rename_i k;rw[ag k];exact⟨u,by simpa using A,k⟩
    cases l
   cases n
  cases hi
 unfold idR at m d;split at m
 .split at d
  .cases m;cases d;rfl
  cases d
 cases m
noncomputable def wO (w:World):Wo:=⟨n9 (snap w),λ_=>none,λ_ _=>none⟩
theorem X5 (w:World):Rel (wO w) aH.empty (snap w):=CW _ _ (λi cs hi=>by
 have hi:(alive (snap w) i).map (·.cells)=some cs:=hi
 simp only[aO]at hi;obtain⟨b,a,c⟩:=hi;exact⟨b,a,c⟩) (by obtain⟨d,e,_⟩:=y8 w;omega)
def aii:AV->Bool
 |.eC _ _=>true
 |v=>vH v
theorem X6 {w:World}{a:AV}{x:Value}(c:aii a=true)(f:x≠Ev.vd)(h:VR (wO w) a x):bR (idR w.heap.size) x x:=by
 have one:∀(v:AV) (y:Value),(match v with | .int _ _=>true | .bool _=>true | .str _=>true | .rL _=>true | .eB=>true | .pU=>true|_=>false)=true->VR (wO w) v y->bR (idR w.heap.size) y y:=by
  intro v y o h;cases h<;>first|(cases o;done)|constructor
 cases h with
 |eC e l v p =>
  rcases p with⟨_,rfl|rfl⟩|⟨i,pre,mid,post,cap,rfl,d,_⟩
  .exact .nJ _ _
  .exact absurd rfl f
  have d:(alive (snap w) i).map (·.cells)=some (pre++(mid++post)):=d
  have hi:i<w.heap.size:=by
   cases c:alive (snap w) i with
   |none=>rw[c]at d;cases d
   |some b=>have:=mI c;rw[(y8 w).1]at this;exact this
  exact .slice i _ _ _ i 0 (ag hi)
 |agg l m t q =>
  refine .agg _ _ rfl λj a b g k=>?_
  rw[g]at k;cases k;have r:j<m.length:=by have:=(aF.1 g).1;simpa using this
  have s:m[j]? = some a:=by simpa using g
  have n:j<l.length:=by omega
  have:=aN.1 c l[j] (ko n);exact one l[j] a this (q j l[j] a (aR n) s)
 |int=>exact .int _ _
 |bool=>exact .bool _
 |str=>exact .string _
 |rL=>exact .float _ _
 |eB=>exact .nJ _ _
 |pU=>exact .xI
 |_=>cases c
theorem acV {X:ji}(i:Ev.j6 X.P)(q:X.P.follows .mixedOrders=true){kn:Ev.fZ}{GR:List Ev.kV}(r:Ev.lR X.P GR kn){f:FuncId}{args:aI}{v:AV}{d:Value}(s:∀S x,VR S v x->x=d)(a:Ev.br d=true)
 (h:∀(S:Wo) (E:Mem) (o:aW),Rel S aH.empty E->gi X S->LV S args o->∃S' d E',(∃N,∀n:Nat×Nat,N<=n.1/\N<=n.2->eM X kn n f o E=some (d,E'))/\VR S' v d)
 {w:World} (g:Ev.mG GR w) (t:X.G<=w.heap.size) (u:gi X (wO w)) {args':aW} (b:LV (wO w) args args') (k:∀x∈args',bR (idR w.heap.size) x x) :
 Calls X.P f args'.toArray w λe w'=>e = .returned d/\Below w.heap.size w w':=by
 obtain⟨S',l,E',⟨N,z⟩,A⟩:=h (wO w) (snap w) args' (X5 w) u b;have m:=s S' l A;subst m;have B:=z (N,N) ⟨aG _,aG _⟩;have k:Ev.LR (bR (idR w.heap.size)) args' args':=⟨rfl,λj x y p hy=>by
  rw[p]at hy;cases hy;exact k x (bu p)⟩
 refine(Ev.SB i q r B (.inr (by first|assumption|exact a)) (c:=⟨X.P,w.heap.size,w.heap.size,X.G,w,λ_=>none⟩) rfl ⟨rfl,g,g.1⟩ (X4 X.P w X.G t) k).mono ?_;rintro e w' ⟨ρ',v',rfl,D,k2,C⟩;exact⟨by rw[Ev.m9 k2 a],C.below⟩
theorem SV {X:ji}(g:Ev.j6 X.P)(p:X.P.follows .mixedOrders=true){kn:Ev.fZ}{GR:List Ev.kV}(q:Ev.lR X.P GR kn){f:FuncId}{args:aI}{v:AV}{c:Value}(r:∀S x,VR S v x->x=c)(b:Ev.br c=true)
 (h:∀(S:Wo) (E:Mem) (l:aW),Rel S aH.empty E->gi X S->LV S args l->∃S' c E',(∃N,∀n:Nat×Nat,N<=n.1/\N<=n.2->eM X kn n f l E=some (c,E'))/\VR S' v c)
 {w:World} (i:Ev.mG GR w) (s:X.G<=w.heap.size) (t:gi X (wO w)) {args':aW} (a:LV (wO w) args args') (u:args.all aii=true) (k:∀x∈args',x≠Ev.vd:=by simp[Ev.vd]) :
 Calls X.P f args'.toArray w λe w'=>e = .returned c/\Below w.heap.size w w' :=
 acV g p q r b h i s t a λx m=>by
  obtain⟨j,o⟩:=fB m;have d:j<args.length:=by rw[a.1];exact fM o
  exact X6 (aN.1 u _ (ko d)) (k x m) (a.2 j _ x (aR d) o)
theorem KX {X:ji}(d:Ev.j6 X.P)(j:X.P.follows .mixedOrders=true){kn:Ev.fZ}(k:Ev.y4 X.P kn){f:FuncId}{args:aI}{v:AV}{c:Value}(l:∀S x,VR S v x->x=c)(a:Ev.br c=true)
 (h:∀(S:Wo) (E:Mem) (i:aW),Rel S aH.empty E->gi X S->LV S args i->∃S' c E',(∃N,∀n:Nat×Nat,N<=n.1/\N<=n.2->eM X kn n f i E=some (c,E'))/\VR S' v c)
 {w:World} (m:X.G<=w.heap.size) (o:gi X (wO w)) {args':aW} (b:LV (wO w) args args') (p:args.all aii=true) (g:∀x∈args',x≠Ev.vd:=by simp[Ev.vd]) :
 Calls X.P f args'.toArray w λe w'=>e = .returned c/\Below w.heap.size w w' :=
 SV d j k l a h (Ev.mG.nil w) m o b p g
end Go.Tv
namespace Go.Tv
open Go.Ev (Tr ah jx Mem kV alive ay eA kD Fr)
noncomputable section
def X7 (H:aH):AV->bx
 |.own id _=>match H.get id with
  |some (.list _ e l _ _ _)=>some (.eC e l)
  |_=>none
 |v=>ah (SP v) (some v) none
def KY (H:aH):aI->Option aI
 |[]=>some []
 |v::l=>match X7 H v with
  |some w=>match KY H l with
   |some m=>some (w::m)
   |none=>none
  |none=>none
def X8 (H:aH):AV->bx
 |.agg l=>match KY H l with
  |some m=>some (.agg m)
  |none=>none
 |_=>none
def normArg (H:aH):Option Ty->AV->bx
 |some e,a=>match a with
  |.str _=>none
  |a=>match DB H e a with
   |some l=>some (.eC e l)
   |none=>none
 |none,a=>ah (SP a) (some a) (X8 H a)
def normArgs (H:aH):List (Option Ty)->aI->Option aI
 |[],[]=>some []
 |s::sig,a::args=>match normArg H s a with
  |some b=>match normArgs H sig args with
   |some l=>some (b::l)
   |none=>none
  |none=>none
 |_,_=>none
def uR {β:Type}(sig:List (Option Ty))(g:aI->Option (Bool×List gj))(args:aI)(H:aH)(k:AV->aH->Option β):Option β :=
 match normArgs H sig args with
 |some args'=>match g args' with
  |some (c,rs)=>ah c (k (tf (nL rs H).1) (nL rs H).2) none
  |none=>none
 |none=>none
def dQ (X:ji)(cf:Nat×Nat->Ev.dx)(f:FuncId)(g:aI->Option (Bool×List gj)):Prop :=
 ∀args' rs,g args'=some (true,rs)->∃vs a,QF X cf f args' vs a/\uQ a [] vs rs
abbrev Wu:=FuncId->Option (List (Option Ty)×(aI->Option (Bool×List gj)))
def DH {β:Type}(X:ji)(args:aI)(H:aH)(k:AV->aH->Option β):Option β :=
 match args with
 |[.eB]=>k (.gI []) H
 |[.own i _]=>match H.get i with
  |some (.list t (.int .u8) l _ _ false)=>ah (H.o7 i&&Ev.J2 X.P t&&Nat.ble 1 l.length) (k (.gI []) (H.put i .dead)) none
  |_=>none
 |_=>none
def uc (X:ji)(K:Wu)(inl:FuncId->Bool)(rounds:Nat)(β:Type):Nat->dz β :=
 λn=>Nat.rec (motive:=λ_=>dz β) (λ_ _ _ _=>none)
  (λ_ go id args H k=>ah (X.kl id) (DH X args H k) (match K id with
   |some (sig,g)=>uR sig g args H k
   |none=>ah (inl id) (aT X go ⟨.none,.none,X.trs id⟩ rounds id args H k) none)) n
def IX (e:Ty):AV->Option (List e.den)
 |.eC a l=>jl a e l
 |_=>none
end
theorem jn {e:Ty}{a:AV}{l:List e.den}(h:IX e a=some l):a = .eC e l:=by
 unfold IX at h;split at h
 .obtain ⟨c,b⟩:=cr h;subst c;have b:_=l:=b;rw[<-b]
 cases h
theorem QG {H:aH}{v w:AV}(h:X7 H v=some w):FT H v w:=by
 unfold X7 at h;split at h
 .rename_i id n;split at h
  .rename_i t e l iL ex f b;cases h;refine .inr ⟨e,l,rfl,?_,λs a=>by cases a⟩;show (match H.get id with
    |some (.list _ c d _ _ _)=>jl c e d
    |_=>none)=some l
   rw[b];unfold jl;simp
  cases h
 rw[ay]at h;split at h
 .rename_i a;cases h;exact .inl ⟨rfl,a⟩
 cases h
theorem DI {H:aH}:∀{l m:aI},KY H l=some m->l.length=m.length/\∀(j:Nat) x y,l[j]? = some x->m[j]? = some y->FT H x y
 |[],m,h=>by cases h;exact⟨rfl,λj x y a=>by simp at a⟩
 |v::l,m,h=>by
  unfold KY at h;split at h
  .rename_i w b;split at h
   .rename_i f c;cases h;obtain⟨d,e⟩:=DI c;refine⟨by simp[d],λj x y a hy=>?_⟩;cases j with
    |succ j=>exact e j x y (by simpa using a) (by simpa using hy)
    |zero=>simp at a hy;subst a;subst hy;exact QG b
   cases h
  cases h
theorem QH {H:aH}{a b:AV}(h:X8 H a=some b):SQ H a b:=by
 unfold X8 at h;split at h
 .rename_i l;split at h
  .rename_i m c;cases h;obtain⟨d,e⟩:=DI c;exact .inr ⟨l,m,rfl,rfl,d,e⟩
  cases h
 cases h
theorem zQ {H:aH}:∀{sig:List (Option Ty)} {args args':aI},normArgs H sig args=some args'->args.length=args'.length/\∀(j:Nat) a b,args[j]? = some a->args'[j]? = some b->SQ H a b
 |[],[],args',h=>by cases h;exact⟨rfl,λj a b k=>by simp at k⟩
 |[],_::_,args',h=>by cases h
 |_::_,[],args',h=>by cases h
 |s::sig,a::args,args',h=>by
  unfold normArgs at h;split at h
  .rename_i b c;split at h
   .rename_i l m;cases h;obtain⟨n,o⟩:=zQ m;refine⟨by simp[n],λj x y d hy=>?_⟩;cases j with
    |succ j=>exact o j x y (by simpa using d) (by simpa using hy)
    |zero =>
     simp at d hy;subst d;subst hy;unfold normArg at c;split at c
     .split at c
      .cases c
      rename_i e _ f;split at c
      .rename_i p g;cases c;exact .inl (.inr ⟨_,p,rfl,g,λs i=>f s i⟩)
      cases c
     rw[ay]at c;split at c
     .rename_i i;cases c;exact .inl (.inl ⟨rfl,i⟩)
     exact QH c
   cases h
  cases h
section
variable {X:ji} {cf:Nat×Nat->Ev.dx}
theorem AA {β:Type}{f:FuncId}{sig:List (Option Ty)}{g:aI->Option (Bool×List gj)}(d:dQ X cf f g){args:aI}{H:aH}{k:AV->aH->Option β}{r:β}(h:uR sig g args H k=some r):∃v b,k v b=some r/\KL X cf f args H v b:=by
 unfold uR at h;split at h
 .rename_i args' e;split at h
  .rename_i c rs i;rw[ay]at h;split at h
   .rename_i a;subst a;obtain⟨vs,o,j,l⟩:=d args' rs i;obtain⟨m,n⟩:=zQ e;exact⟨_,_,h,j.ast l m n⟩
   cases h
  cases h
 cases h
def aij (X:ji)(kn:Ev.fZ):Prop:=∀id,X.kl id=true->kn id Ev.qX=some (.tuple #[])/\kn id [.slice none 0 0]=some (.tuple #[])/\∀i n c,kn id [.slice (some ⟨i,0,none⟩) n c]=none
theorem ow.u8s {F:Nat->Option aW}:∀{l:List (Ty.den (.int .u8))} {cs:aW},ow (CR F (.int .u8)) l cs->cs.all Ev.Mj=true
 |[],cs,h=>by
  have:cs=[]:=h;subst this;rfl
 |x::l,cs,h=>by
  obtain⟨c1,c2,rfl,a,b⟩:=h;have a:c1=[.int .u8 x]:=a;subst a;simp only[cB,cE,ck,ow.u8s b,mo];rfl
theorem LV.single {S:Wo}{a:AV}{l:aW}(h:LV S [a] l):∃x,l=[x]/\VR S a x:=by
 match l,h with
 |[x],h=>exact⟨x,rfl,h.2 0 a x rfl rfl⟩
 |[],h=>exact absurd h.1 (by simp)
 |_::_::_,h=>exact absurd h.1 (by simp)
theorem FV {kn:Ev.fZ}{f:FuncId}(Z:kn f Ev.qX=some (.tuple #[])/\kn f [.slice none 0 0]=some (.tuple #[])/\∀i n c,kn f [.slice (some ⟨i,0,none⟩) n c]=none){β:Type}{args:aI}{H:aH}{k:AV->aH->Option β}{r:β}(h:DH X args H k=some r) :
 ∃v Q,k v Q=some r/\KL X (eM X kn) f args H v Q:=by
 obtain⟨k1,k2,k3⟩:=Z;unfold DH at h;split at h
 .refine ⟨_,_,h,λS E bU o hg B=>?_⟩;obtain⟨x,rfl,d⟩:=LV.single B;cases d;refine⟨S,.tuple #[],E,⟨1,λn w=>?_⟩,S.le_refl,.gI [] [] rfl (λj x y d=>by simp at d),o,St.refl _ _ _⟩;obtain⟨R,D⟩:=n;obtain⟨e,rfl⟩:∃e,D=e+1:=⟨D-1,by have:=w.2;simp only at this;omega⟩;show Ev.pg X.P X.G kn R (e+1) f _ E=_;rw[Ev.nr,k2];rfl
 .rename_i id n0;split at h
  .rename_i t l iL ex C;rw[ay]at h;split at h
   .rename_i T;simp only[ak]at T;obtain⟨⟨p,F⟩,z⟩:=T;have z:=aB z;refine⟨_,_,h,λS E bU o hg B=>?_⟩;obtain⟨x,rfl,d⟩:=LV.single B;obtain⟨q1,⟨q2,g2,q3,q4⟩,I⟩:=o.row id _ C;cases d with
    |own _ _ i c s hρ g a w =>
     rw[q3]at a;cases a;rcases I with⟨I,_,_⟩|⟨i',U,b,mid,post,V,e2,e3,e4,e5,W,e7,e8,e9,J⟩
     .rw[I]at z;simp at z
     rw[hρ]at V;cases V;have m:H.lk<=id:=by simpa[aH.o7,bF] using p
     have K:=o.lk id _ _ C m hρ;obtain⟨A,L⟩:=Mem.j5 (b:={ b with live:=false,fix:=false }) (mI e2) K;have Y:Ev.kill E i=some A:=by unfold Ev.kill;rw[(eA e2).1];exact L
     obtain⟨z1,z2,z3,z4,z5⟩:=Ev.o5 Y;obtain⟨m1,m2⟩:=o.mod (S':=S) (E':=A) (r':=.dead) C rfl S.le_refl rfl (λ_ _ _=>rfl) z1 z2 (λj hj=>z4 j (hj _ hρ)) (λj cs h=>.inl h) (λq hq=>by cases hq);refine⟨S,.tuple #[],A,⟨1,λn M=>?_⟩,S.le_refl,.gI [] [] rfl (λj x y d=>by simp at d),m1,m2⟩;obtain⟨R,D⟩:=n;obtain⟨e,rfl⟩:∃e,D=e+1:=⟨D-1,by have:=M.2;simp only at this;omega⟩;show Ev.pg X.P X.G kn R (e+1) f _ E=_;rw[Ev.nr,k3];obtain⟨l2,Ck⟩:=J.2;have u:b.cells.all Ev.Mj=true:=by rw[e4,kX,e5.u8s,Ck.u8s];rfl
     have N:(Ty.int .u8).size=1:=rfl;rw[N,Nat.mul_one]at W;have O:Ev.qm X.P kn f [.slice (some ⟨i,0,none⟩) n0 c] E=some (.tuple #[],A):=by
      unfold Ev.qm;simp only[k1,e2];rw[ay,ag]
      .simp only[Y]
      rw[u,e3,F];have a1:n0<=c:=by rw[<-w,q4];exact e7
      simp only[mo,ak];exact⟨⟨⟨rfl,fm a1⟩,by rw[aQ];exact W⟩,fm e8⟩
     show Ev.oY (Ev.qm X.P kn f _ E) _=_;rw[O];rfl
    |iw _ g a w =>
     rw[q3]at a;cases a;omega
   cases h
  cases h
 cases h
theorem mM {kn:Ev.fZ}{K:Wu}{inl:FuncId->Bool}(d:∀id sig g,K id=some (sig,g)->dQ X (eM X kn) id g)(hi:∀id,inl id=true->∀args,kn id args=none)(rounds:Nat)(n:Nat)(β:Type) (a:aij X kn:=by exact λ_ h=>Bool.noConfusion (show false=true from h)):dO X (eM X kn) (uc X K inl rounds β n):=by
 induction n with
 |zero=>exact λf args H k r h=>by cases h
 |succ n e =>
  intro f args H k r h;have h:ah (X.kl f) (DH X args H k) (match K f with
   |some (sig,g)=>uR sig g args H k
   |none=>ah (inl f) (aT X (uc X K inl rounds β n) ⟨.none,.none,X.trs f⟩ rounds f args H k) none)=some r:=h
  rw[ay]at h;split at h
  .rename_i i;exact FV (a f i) h
  split at h
  .rename_i sig g j;exact AA (d f sig g j) h
  rw[ay]at h;split at h
  .rename_i b;obtain⟨v,l,m,o⟩:=mH (nf:=true) e (λ_=>⟨rfl,rfl⟩) h;refine⟨v,l,m,λS E p q s t=>?_⟩;obtain⟨S',u,E',a1,a2,w,x,c⟩:=o S E p q s t;exact⟨S',u,E',iy (hi f b) a1,(c rfl).1,a2,w,(c rfl).2⟩
  cases h
theorem aik {kn:Ev.fZ}{f:FuncId}(d:∀args,kn f args=none){g:aI->Option (Bool×List gj)}{call:∀ β,dz β}(a:∀ β,dO X (eM X kn) (call β))
 (h:∀args' rs,g args'=some (true,rs)->∃vs b an rounds,aT X (call (AV×aH)) an rounds f args' aH.empty (λv H=>some (v,H))=some (tf vs,b)/\uQ b [] vs rs):dQ X (eM X kn) f g:=by
 intro args' rs e;obtain⟨vs,b,an,rounds,i,j⟩:=h args' rs e;refine⟨vs,b,λS E k l c m=>?_,j⟩;obtain⟨S',n,E',a1,a2,o,p⟩:=acT d a i S E k l c m;exact⟨S',n,E',a1,EA a2,o,p⟩
theorem U7 {kn:Ev.fZ}{f:FuncId}{g:aI->Option (Bool×List gj)}
 (h:∀args' rs,g args'=some (true,rs)->∃v b,rs=[.val v]/\vH v=true/\(∀S,VR S v b)/\Ev.br b=true/\∀S c,LV S args' c->kn f c=some b/\Ev.dm c=true):dQ X (eM X kn) f g:=by
 intro args' rs i;obtain⟨v,b,rfl,j,k,a,d⟩:=h args' rs i;refine⟨[v],aH.empty,λS E c l m o=>?_,⟨rfl,j,trivial⟩⟩;obtain⟨p,k2⟩:=d S c o;refine⟨S,b,E,⟨1,λn q=>?_⟩,⟨[b],rfl,LV.cons (k S) LV.nil⟩,l,CS.refl _ _ _⟩;obtain⟨R,D⟩:=n;obtain⟨e,rfl⟩:∃e,D=e+1:=⟨D-1,by have:=q.2;simp only at this;omega⟩;show Ev.pg X.P X.G kn R (e+1) f c E=_;rw[Ev.nr,p];simp[k2,a]
end
end Go.Tv
namespace Go.Tv
open Go.Ev (ah ay bS fD bN dc)
noncomputable section
def anN:IntKind->IntKind->Bool
 |.i64,.i64=>true
 |.u8,.u8=>true
 |.i32,.i32=>true
 |.u64,.u64=>true
 |.u32,.u32=>true
 |.u16,.u16=>true
 |_,_=>false
def X9:au->au->Bool
 |[],[]=>true
 |a::l,b::m=>ah (Nat.beq a.toNat b.toNat) (X9 l m) false
 |_,_=>false
def SW:AV->AV->Bool
 |.int k a,.int c b=>ah (anN k c) (bS a b) false
 |.bool a,.bool b=>ah a b (!b)
 |.str a,.str b=>X9 a b
 |.rL a,.rL b=>Nat.beq a b
 |.eB,.eB=>true
 |.pU,.pU=>true
 |_,_=>false
def SX:aI->aI->Bool
 |[],[]=>true
 |a::l,b::m=>ah (SW a b) (SX l m) false
 |_,_=>false
def acX:AV->AV->Bool
 |.agg l,.agg m=>SX l m
 |a,b=>SW a b
def IY:(e:Ty)->e.den->e.den->Bool
 |.int _,a,b=>bS a b
 |.bool,a,b=>ah a b (!b)
 |.str,a,b=>X9 a b
 |.rL,a,b=>Nat.beq a b
 |.unit,_,_=>true
 |.sl _,_,_=>false
 |.pair x y,a,b=>ah (IY x a.1 b.1) (IY y a.2 b.2) false
def acY (e:Ty):List e.den->List e.den->Bool
 |[],[]=>true
 |a::l,b::m=>ah (IY e a b) (acY e l m) false
 |_,_=>false
def SY (t:TypeId)(e:Ty)(l:List e.den)(room:Bool):Option Row->Bool
 |some (.list a b c _ ex d)=>ah (Nat.beq t a && !d&&(ah room ex true)) (match jl b e c with
  |some m=>acY e m l
  |none=>false) false
 |_=>false
def wP (H:aH):cY->aI->List gj->Bool
 |_,[],[]=>true
 |seen,v::vs,.val w::rs=>ah (acX v w) (wP H seen vs rs) false
 |seen,.own id n::vs,.list t e l::rs=>ah (e.BA&&Nat.beq n l.length&&SY t e l false (H.get id) && !(seen.any (Nat.beq id))) (wP H (id::seen) vs rs) false
 |seen,.eB::vs,.list _ e l::rs=>ah (e.BA&&l.isEmpty) (wP H seen vs rs) false
 |seen,.tc id off len cap::vs,.room t e l n::rs=>ah (e.BA&&Nat.beq off 0&&Nat.beq len n&&Nat.beq cap l.length&&SY t e l true (H.get id) && !(seen.any (Nat.beq id))) (wP H (id::seen) vs rs) false
 |_,_,_=>false
def leaves (rs:List gj):Option (AV×aH)->Bool
 |some (.gI vs,H)=>ah (Nat.beq vs.length 1) false (wP H [] vs rs)
 |some (v,H)=>wP H [] [v] rs
 |none=>false
end
theorem U8 {a b:IntKind}(h:anN a b=true):a=b:=by
 cases a<;>cases b<;>first|rfl|cases h
theorem CX:∀{a b:au},X9 a b=true->a=b
 |[],[],_=>rfl
 |[],_::_,h=>by cases h
 |_::_,[],h=>by cases h
 |a::l,b::m,h=>by
  simp only[X9,ay,aQ]at h;split at h
  .rename_i c;rw[CX h,lp.1 c]
  cases h
theorem DJ {a b:Bool}(h:ah a b (!b)=true):a=b:=by cases a<;>cases b<;>first|rfl|cases h
theorem FW {a b:AV}(h:SW a b=true):a=b/\vH b=true:=by
 unfold SW at h;split at h
 .rw[ay]at h;split at h
  .rename_i c;rw[fD]at h;exact⟨by rw[U8 c,fL.1 h],rfl⟩
  cases h
 .exact ⟨by rw[DJ h],rfl⟩
 .exact ⟨by rw[CX h],rfl⟩
 .exact ⟨by rw[bt h],rfl⟩
 .exact ⟨rfl,rfl⟩
 .exact ⟨rfl,rfl⟩
 cases h
theorem FX:∀{l m:aI},SX l m=true->l=m/\vH (.agg m)=true
 |[],[],_=>⟨rfl,rfl⟩
 |[],_::_,h=>by cases h
 |_::_,[],h=>by cases h
 |a::l,b::m,h=>by
  simp only[SX,ay]at h;split at h
  .rename_i c;obtain⟨rfl,e⟩:=FX h;have d:=c;obtain⟨rfl,_⟩:=FW c;refine⟨rfl,?_⟩;unfold vH at e ⊢;simp only[ck,ak];refine⟨?_,e⟩;cases a<;>first|rfl|cases d
  cases h
theorem U9 {a b:AV}(h:acX a b=true):a=b/\vH b=true:=by
 unfold acX at h;split at h
 .obtain ⟨rfl,c⟩:=FX h;exact⟨rfl,c⟩
 exact FW h
theorem AB:∀(e:Ty) {a b:e.den},IY e a b=true->a=b
 |.int _,a,b,h=>by
  have h:bS a b=true:=h;rw[fD]at h;exact fL.1 h
 |.bool,a,b,h=>DJ h
 |.str,a,b,h=>CX h
 |.rL,a,b,h=>bt h
 |.unit,_,_,_=>rfl
 |.sl _,_,_,h=>by cases h
 |.pair x y,a,b,h=>by
  have h:ah (IY x a.1 b.1) (IY y a.2 b.2) false=true:=h;rw[ay]at h;split at h
  .rename_i c;exact Prod.ext (AB x c) (AB y h)
  cases h
theorem IZ (e:Ty):∀{a b:List e.den},acY e a b=true->a=b
 |[],[],_=>rfl
 |[],_::_,h=>by cases h
 |_::_,[],h=>by cases h
 |a::l,b::m,h=>by
  simp only[acY,ay]at h;split at h
  .rename_i c;rw[AB e c,IZ e h]
  cases h
theorem FY {t:TypeId}{e:Ty}{l:List e.den}{room:Bool}{r:Option Row}(h:SY t e l room r=true):∃iL ex,r=some (.list t e l iL ex false)/\(room=true->ex=true):=by
 unfold SY at h;split at h
 .rename_i j k b iL ex n;rw[ay]at h;split at h
  .rename_i a;simp only[ak,aU,aQ]at a;obtain⟨⟨rfl,rfl⟩,c⟩:=a;split at h
   .rename_i m d;obtain⟨f,a⟩:=cr d;subst f;have a:b=m:=a;subst a;have g:b=l:=IZ _ h;subst g;refine⟨iL,ex,rfl,λi=>?_⟩;subst i;exact c
   cases h
  cases h
 cases h
theorem NK {id:Nat}{seen:cY}(h:(!(seen.any (Nat.beq id)))=true):id ∉ seen:=λa=>by
 have:seen.any (Nat.beq id)=true:=kj.2 ⟨id,a,by rw[aQ]⟩;rw[this]at h;cases h
theorem I0 {H:aH}:∀{vs:aI} {rs:List gj} {seen:cY},wP H seen vs rs=true->uQ H seen vs rs:=by
 intro vs;induction vs with
 |nil =>
  intro rs seen h;cases rs with
  |nil=>trivial
  |cons r rs=>cases r<;>cases h
 |cons v vs c =>
  intro rs seen h;cases rs with
  |nil=>cases v<;>cases h
  |cons r rs =>
   cases r with
   |val w =>
    have h:ah (acX v w) (wP H seen vs rs) false=true:=by cases v<;>exact h
    rw[ay]at h;split at h
    .rename_i i;obtain⟨b,j⟩:=U9 i;exact⟨b,j,c h⟩
    cases h
   |list t e l =>
    cases v<;>try (cases h;done)
    .simp only[wP,ay]at h;split at h
     .rename_i a;simp only[ak,jg]at a;exact⟨a.1,.inr ⟨rfl,a.2,c h⟩⟩
     cases h
    rename_i id n;simp only[wP,ay]at h;split at h
    .rename_i a;simp only[ak,aQ]at a;obtain⟨⟨⟨b,rfl⟩,d⟩,f⟩:=a;obtain⟨iL,ex,g,_⟩:=FY d;exact⟨b,.inl ⟨id,iL,ex,rfl,g,NK f,c h⟩⟩
    cases h
   |room t e l len =>
    cases v<;>try (cases h;done)
    rename_i id off n cap;simp only[wP,ay]at h;split at h
    .rename_i a;simp only[ak,aQ]at a;obtain⟨⟨⟨⟨⟨b,rfl⟩,rfl⟩,rfl⟩,d⟩,f⟩:=a;obtain⟨iL,ex,g,k⟩:=FY d;have:=k rfl;subst this;exact⟨b,id,iL,rfl,g,NK f,c h⟩
    cases h
theorem NM {rs:List gj}{r:Option (AV×aH)}(h:leaves rs r=true):∃vs H,r=some (tf vs,H)/\uQ H [] vs rs:=by
 unfold leaves at h;split at h
 .rename_i vs H;rw[ay]at h;split at h
  .cases h
  rename_i a;refine⟨vs,H,?_,I0 h⟩
  match vs,a with
  |[],_=>rfl
  |[v],a=>exact absurd rfl a
  |_::_::_,_=>rfl
 .rename_i v H b;exact⟨[v],H,rfl,I0 h⟩
 cases h
theorem Ya {X:ji}{kn:Ev.fZ}{f:FuncId}(b:∀args,kn f args=none){g:aI->Option (Bool×List gj)}{call:∀ β,dz β}(a:∀ β,dO X (eM X kn) (call β))(an:fe)(rounds:Nat)
 (h:∀args rs,g args=some (true,rs)->leaves rs (aT X (call (AV×aH)) an rounds f args aH.empty (λv H=>some (v,H)))=true):dQ X (eM X kn) f g :=
 aik b a λargs rs c=>by
  obtain⟨vs,H,d,e⟩:=NM (h args rs c);exact⟨vs,H,an,rounds,d,e⟩
theorem FZ {H:aH}:∀{vs:aI} {seen:cY},vs.all vH=true->uQ H seen vs (vs.map .val)
 |[],_,_=>trivial
 |v::vs,seen,h=>by
  simp only[ck,ak]at h;exact⟨rfl,h.1,FZ h.2⟩
theorem dG {X:ji}{kn:Ev.fZ}{f:FuncId}(d:∀args,kn f args=none){g:aI->Option (Bool×List gj)}{call:∀ β,dz β}(a:∀ β,dO X (eM X kn) (call β))
 (h:∀args rs,g args=some (true,rs)->∃vs an rounds,aT X (call AV) an rounds f args aH.empty (λv _=>some v)=some (tf vs)/\rs=vs.map .val/\vs.all vH=true):dQ X (eM X kn) f g:=by
 intro args rs e;obtain⟨vs,an,rounds,i,j,k⟩:=h args rs e;subst j;obtain⟨v',l,b,k2⟩:=mH (nf:=false) (a _) (λh=>by cases h) i;have b:v'=tf vs:=bT b;subst b;refine⟨vs,l,λS E m n c o=>?_,FZ k⟩;obtain⟨S',p,E',a1,a2,q,r,_⟩:=k2 S E m n c o;exact⟨S',p,E',iy d a1,EA a2,q,r⟩
theorem BN {X:ji}{kn:Ev.fZ}{id:FuncId}(d:∀args,kn id args=none){call:∀ β,dz β}(a:∀ β,dO X (eM X kn) (call β)){an:fe}{rounds:Nat}{args:aI}{v:AV}
 (h:aT X (call AV) an rounds id args aH.empty (λv _=>some v)=some v):∀(S:Wo) (E:Ev.Mem) (b:aW),Rel S aH.empty E->gi X S->LV S args b ->
 ∃S' c E',(∃N,∀n:Nat×Nat,N<=n.1/\N<=n.2->eM X kn n id b E=some (c,E'))/\VR S' v c:=by
 obtain⟨v',k,e,f⟩:=mH (nf:=false) (a _) (λh=>by cases h) h;cases e;intro S E b g i j;obtain⟨S',c,E',a1,a2,_,_,_⟩:=f S E b g i j;exact⟨S',c,E',iy d a1,a2⟩
theorem anO {α:Type}(a b:α):ah true a b=a:=rfl
theorem Yb {α:Type}(a b:α):ah false a b=b:=rfl
end Go.Tv
namespace Go.Tv
open Go.Ev (ah alive br dm bR)
theorem acZ {X:ji}{w:World}(h:∀g,g<X.G->X.gv g≠[]->∃(cv:aW) (t:TypeId) (fr:Nat×Nat),w.heap[g]? = some (.cells cv.toArray t fr)/\X.gv g=cv.map Qs/\dm cv=true):gi X (wO w):=λg l m=>by
 obtain⟨cv,t,fr,k,n,b⟩:=h g l m;have c:g<w.heap.size:=(aF.1 k).1;obtain⟨_,_,o⟩:=y8 w;have p:∀v∈cv,bR (idR w.heap.size) v v:=λv q=>by
  obtain⟨i,hi⟩:=fB q;exact Ev.eu v (Ev.qy b hi)
 have r:FU w g=⟨cv,t,true,false⟩:=by
  unfold FU;rw[k];simp only[Ev.kV.mk.injEq,and_true];refine lO λi=>?_
  rw[dg];cases hi:cv[i]? with
  |none=>simp[hi]
  |some v =>
   have:(cv.toArray.toList)[i]? = some v:=by simpa using hi
   simp only[this,bP];have d:¬ ∃a,v=Value.slice (some a) 0 0:=λ⟨a,e⟩=>by
    have:=Ev.qy b hi;rw[e]at this;cases this
   rw[aa d,ag (p v (bu hi))]
 refine⟨cv,?_,λT _=>?_⟩
 .show (alive (Go.Tv.snap w) g).map (·.cells)=some cv
  unfold Ev.alive;rw[o,ag c,r];rfl
 rw[n];refine⟨by simp,λj x y f hy=>?_⟩;rw[dg,hy]at f;simp only[bP,aq]at f;subst f;exact Ar (Ev.qy b hy)
theorem I1 {X:ji}{w:World}{rows:List Ev.kV}(a:Ev.mG rows w)(h:∀g,g<X.G->X.gv g≠[]->∃b,rows[g]? = some b/\b.live=true/\X.gv g=b.cells.map Qs/\dm b.cells=true):gi X (wO w) :=
 acZ λg c d=>by
  obtain⟨b,e,f,i,j⟩:=h g c d;obtain⟨fr,k,_⟩:=a.2 g b e f;exact⟨b.cells,b.elem,fr,k,i,j⟩
end Go.Tv
namespace Go.Tv
open Go.Ev (ah jx)
noncomputable section
variable {β:Type}
def inside:Code->Bool->Code
 |.seq a b,d=>ah d b a
 |.cond _ a b,d=>ah d b a
 |.block _ a,_=>a
 |.loop a,_=>a
 |.scope a,_=>a
 |c,_=>c
def lV (c:Code):eJ->Code
 |[]=>c
 |d::p=>lV (inside c d) p
def mQ (a:oz):eJ->oz
 |[]=>a
 |d::p=>mQ (ah d a.r a.l) p
def iM (keep:List Tmp):eJ->oz
 |[]=>.node (some keep) .none .none
 |d::p=>ah d (.node none .none (iM keep p)) (.node none (iM keep p) .none)
def F1 (X:ji)(call:dz β)(tr:List Tmp)(J:uM β)(rounds:Nat):eJ->Code->oz->KT β->KT β
 |[],_,_,k=>k
 |false::p,.seq x y,a,k=>F1 X call tr J rounds p x a.l (Aj (λf H=>jm X call tr J rounds y a.r f H k) k)
 |true::p,.seq _ y,a,k=>F1 X call tr J rounds p y a.r k
 |false::p,.cond _ x _,a,k=>F1 X call tr J rounds p x a.l k
 |true::p,.cond _ _ y,a,k=>F1 X call tr J rounds p y a.r k
 |_::p,.block id b,a,k=>F1 X call tr J rounds p b a.l (FG id k)
 |_::p,.scope b,a,k=>F1 X call tr J rounds p b a.l (CI b J k)
 |_::_,_,_,k=>k
def jo (X:ji)(call:dz β)(an:fe)(rounds:Nat)(id:FuncId)(p:eJ)(k:AV->aH->Option β)(n:Nat)(f:gJ)(H:aH):Option β :=
 match X.P.funcs[id]? with
 |some fn=>match fn.body with
  |some c=>SF (mQ an.KB p) (λf H k=>jm X call an.tr (qY X call an.tr an.ja rounds rounds) rounds (lV c (p++[false])) (mQ an.KB p).l f H k)
   (F1 X call an.tr (qY X call an.tr an.ja rounds rounds) rounds p c an.KB (r8 X fn k)) n f H
  |none=>none
 |none=>none
def anQ (X:ji)(call:dz β)(an:fe)(rounds:Nat)(id:FuncId)(p:eJ)(l:Nat)(k:AV->aH->Option β)(n:Nat)(f:gJ)(H:aH):Option β :=
 match X.P.funcs[id]? with
 |some fn=>match fn.body with
  |some c=>match findLabel (lV c (p++[false])) l with
   |some rest=>QA X call an.tr an.ja rounds n (lV c (p++[false])) rest f H (F1 X call an.tr (qY X call an.tr an.ja rounds rounds) rounds p c an.KB (r8 X fn k))
   |none=>none
  |none=>none
 |none=>none
def lS (n:Nat)(l:List (Tmp×AV)):gJ:=l.foldl (λg q=>g.put (some q.1) q.2) ⟨n,.e⟩
def oL (l:cQ):aH:=l.foldl (λM r=>M.push r) ⟨0,0,0,.e⟩
end
end Go.Tv
namespace Go.Tv
open Go.Ev (ah ay bN bS dc fD)
theorem Yc (n:Int):IntKind.wrap .i64 n=if n%18446744073709551616<9223372036854775808 then n%18446744073709551616 else n%18446744073709551616-18446744073709551616:=by
 have e:IntKind.wrap .i64 n=if n%(2 ^ 64:Int)>=(2 ^ 63:Int) then n%(2 ^ 64:Int)-(2 ^ 64:Int) else n%(2 ^ 64:Int):=by
  unfold IntKind.wrap;by_cases h:n%(2 ^ 64:Int)>=(2 ^ 63:Int)
  .rw[ag h];exact ag (by show (true&&decide (n%(2 ^ 64:Int)>=(2 ^ 63:Int)))=true;simpa using h)
  rw[aa h];exact aa (by show ¬(true&&decide (n%(2 ^ 64:Int)>=(2 ^ 63:Int)))=true;simp;omega)
 rw[e];split<;>split<;>omega
theorem i64_in {n:Int}(a : -9223372036854775808<=n)(b:n<9223372036854775808):IntKind.wrap .i64 n=n:=by
 rw[Yc];split<;>omega
theorem SZ (n:Int):IntKind.wrap .u64 n=n%18446744073709551616:=by
 unfold IntKind.wrap;simp only[IntKind.bits,IntKind.signed,jY,cT,eY];rfl
theorem u64_in {n:Int}(a:0<=n)(b:n<18446744073709551616):IntKind.wrap .u64 n=n:=by rw[SZ];omega
theorem ail (n:Int):IntKind.wrap .u8 n=n%256:=by
 unfold IntKind.wrap;simp only[IntKind.bits,IntKind.signed,jY,cT,eY];rfl
theorem u8_in {n:Int}(a:0<=n)(b:n<256):IntKind.wrap .u8 n=n:=by rw[ail];omega
theorem rC {a b:Int}(h:a<b):bN a b=true:=by rw[dc];simpa using h
theorem gB {a b:Int}(h:b<=a):bN a b=false:=by rw[dc];simpa using h
theorem HX {a b:Int}(h:a=b):bS a b=true:=by rw[fD,h];simp
theorem y9 {a b:Int}(h:a≠b):bS a b=false:=by rw[fD];simpa using h
theorem aim (c:UInt8):0<=cS c:=Int.natCast_nonneg _
theorem ain (c:UInt8):cS c<256:=by have:=c.toNat_lt;unfold cS;simp;omega
theorem S6 (c:UInt8):iU8 (cS c)=c:=by unfold iU8 cS;simp
theorem KZ {a b:UInt8}(h:cS a=cS b):a=b:=by rw[<-S6 a,h,S6]
theorem vI {α:Type}(l:List α)(n:Nat):eL l (n:Int)=l[n]? := rfl
theorem mc {α:Type}(pre r:List α)(c:α):eL (pre++c::r) (pre.length:Int)=some c:=by rw[vI];simp
theorem eN {a b:Nat}(h:a<=b):Nat.ble a b=true:=fm h
theorem Yd {s w:au}{a n:Nat}(b:(s.drop a).take n=w)(f t:Nat)(c:t<=n):dZ s ((a+f:Nat):Int) ((a+t:Nat):Int)=(w.take t).drop f:=by
 unfold dZ;simp only[bf];rw[<-b,oq,lM,dB,iG c];congr 1;omega
theorem ac0 {a:Int}(f:0<=a)(g:a<18446744073709551616)(k:Nat)(c:k<=64):((BitVec.ofInt 64 a &&& BitVec.ofInt 64 ((2 ^ k-1:Nat):Int)).toNat:Int)=a%(2 ^ k:Nat):=by
 obtain⟨n,rfl⟩:∃n:Nat,a=n:=⟨a.toNat,by omega⟩;rw[BitVec.toNat_and,jX,jX,lu,lu];have d:n%2 ^ 64=n:=jh (by omega);have h:2 ^ k<=2 ^ 64:=Nat.pow_le_pow_right (by omega) c;have b:0<2 ^ k:=Nat.two_pow_pos k;have e:(2 ^ k-1)%2 ^ 64=2 ^ k-1:=jh (by omega);rw[d,e,Nat.and_two_pow_sub_one_eq_mod];simp
abbrev xw:=FuncId×List (Option Ty)×(aI->Option (Bool×List gj))
noncomputable def Wv (l:List xw):Wu:=λf=>List.rec (motive:=λ_=>Option (List (Option Ty)×(aI->Option (Bool×List gj)))) none (λe _ r=>ah (Nat.beq f e.1) (some e.2) r) l
def jy (X:ji)(a:Nat×Nat->Ev.dx)(l:List xw):Prop:=∀id sig g,Wv l id=some (sig,g)->dQ X a id g
theorem jy.nil {X:ji}{a:Nat×Nat->Ev.dx}:jy X a []:=λ_ _ _ h=>by cases h
theorem jy.cons {X:ji}{c:Nat×Nat->Ev.dx}{f:FuncId}{sig:List (Option Ty)}{g:aI->Option (Bool×List gj)}{l:List xw}(h:dQ X c f g)(t:jy X c l):jy X c ((f,sig,g)::l):=λid a d b=>by
 have b:ah (Nat.beq id f) (some (sig,g)) (Wv l id)=some (a,d):=b;cases e:Nat.beq id f with
 |true =>
  rw[e]at b;have i:id=f:=bt e;have b:(sig,g)=(a,d):=bT b;cases b;rw[i];exact h
 |false=>rw[e]at b;exact t id a d b
noncomputable def zT {α:Type}(n a b:Int)(x y:α):α:=ah (!bN n a) (ah (!bN b n) x y) y
theorem F2 {α:Type}(n a b:Int)(x y:α):zT n a b x y=if a<=n/\n<=b then x else y:=by
 unfold zT;simp only[ay,dc,aU,bJ];by_cases c:n<a
 .rw[aa (by simpa using c),aa (by omega)]
 rw[ag c];by_cases d:b<n
 .rw[aa (by simpa using d),aa (by omega)]
 rw[ag d,ag (by omega)]
theorem de {α:Type}(a b:Int)(x y:α):ah (bN a b) x y=if a<b then x else y:=by rw[ay,dc];simp
theorem jM {α:Type}(a b:Int)(x y:α):ah (!bN a b) x y=if b<=a then x else y:=by
 rw[ay,dc];by_cases h:a<b
 .rw[aa (by simpa using h),aa (by omega)]
 rw[ag (by simpa using h),ag (by omega)]
theorem cH {α:Type}(a b:Int)(x y:α):ah (bS a b) x y=if a=b then x else y:=by rw[ay,fD];simp
theorem cF {α:Type}(a b:Int)(x y:α):ah (!bS a b) x y=if a=b then y else x:=by
 rw[ay,fD];by_cases h:a=b
 .rw[aa (by simpa using h),ag h]
 rw[ag (by simpa using h),aa h]
end Go.Tv
namespace Go.Tv
open Go.Ev (Tr ah jx Mem kV alive ay eA kD Fr bR Ren)
end Go.Tv
namespace Go.Tv
open Go.Ev (bR)
open Go.WideShapes Go.Deep
variable {H:Type} {enc:TypeId×Value->H} {P:Program} {w:World} {base:Nat} {sp:Nat->Bool} {held:Bool}
end Go.Tv
namespace Go.Tv
variable {β:Type}
noncomputable def BQ:oz->oz
 |.node _ l r=>.node none l r
 |a=>a
noncomputable def codeFrom (X:ji)(call:dz β)(an:fe)(rounds:Nat)(id:FuncId)(p:eJ)(k:AV->aH->Option β)(f:gJ)(H:aH):Option β :=
 match X.P.funcs[id]? with
 |some fn=>match fn.body with
  |some c=>jm X call an.tr (qY X call an.tr an.ja rounds rounds) rounds (lV c p) (BQ (mQ an.KB p)) f H (F1 X call an.tr (qY X call an.tr an.ja rounds rounds) rounds p c an.KB (r8 X fn k))
  |none=>none
 |none=>none
end Go.Tv
namespace Go.Tv
def tg:oz->oz->oz
 |.none,b=>b
 |.node o l r,.none=>.node o l r
 |.node o l r,.node a c r'=>.node (match o with|some x=>some x|none=>a) (tg l c) (tg r r')
end Go.Tv
namespace Go.Tv
open Go.Ev
theorem Gc {X:ji}{kn:Ev.fZ}{f:FuncId}{g:aI->Option (Bool×List gj)}
 (h:∀args' rs,g args'=some (true,rs)->∃v u a b,rs=[.val v,.val u]/\vH v=true/\vH u=true/\(∀S,VR S v a)/\(∀S,VR S u b)/\∀S c,LV S args' c->kn f c=some (.tuple #[a,b])/\Ev.dm c=true/\Ev.br (.tuple #[a,b])=true):dQ X (eM X kn) f g:=by
 intro args' rs j;obtain⟨v,u,a,b,rfl,k,d,l,m,e⟩:=h args' rs j;refine⟨[v,u],aH.empty,λS E c o p q=>?_,⟨rfl,k,rfl,d,trivial⟩⟩;obtain⟨r,k2,s⟩:=e S c q;refine⟨S,.tuple #[a,b],E,⟨1,λn t=>?_⟩,⟨[a,b],rfl,LV.cons (l S) (LV.cons (m S) LV.nil)⟩,o,CS.refl _ _ _⟩;obtain⟨R,D⟩:=n;obtain⟨i,rfl⟩:∃i,D=i+1:=⟨D-1,by have:=t.2;simp only at this;omega⟩;show Ev.pg X.P X.G kn R (i+1) f c E=_;rw[Ev.nr,r];simp only[k2,s,oV,gy]
end Go.Tv
namespace Go.Tv
open Go.Ev
noncomputable section
variable {β:Type}
def YT:Code->eJ->Code
 |.seq x y,true::p=>.seq x (YT y p)
 |_,_=>.skip
def BS:Code->eJ->Bool
 |.seq _ y,true::p=>BS y p
 |.seq _ _,[]=>true
 |_,_=>false
theorem AH (X:ji)(call:dz β)(tr:List Tmp)(J:uM β)(rounds:Nat):∀(p:eJ) (c:Code),BS c p=true->∀(a:oz) (f:gJ) (H:aH) (k:KT β),
 jm X call tr J rounds c a f H k=jm X call tr J rounds (YT c p) a f H (Aj (λf H=>jm X call tr J rounds (lV c p) (mQ a p) f H k) k)
 |[],c,h,a,f,H,k=>by
  cases c<;>first|(cases h;done)|rfl
 |false::p,c,h,a,f,H,k=>by cases c<;>cases h
 |true::p,c,h,a,f,H,k=>by
  cases c with
  |seq x y =>
   have b:=AH X call tr J rounds p y h;show D4 a f H (λf H=>jm X call tr J rounds x a.l f H (Aj (λf H=>jm X call tr J rounds y a.r f H k) k)) =
    D4 a f H (λf H=>jm X call tr J rounds x a.l f H (Aj (λf H=>jm X call tr J rounds (YT y p) a.r f H (Aj (λf H=>jm X call tr J rounds (lV y p) (mQ a.r p) f H k) k)) (Aj (λf H=>jm X call tr J rounds (lV y p) (mQ a.r p) f H k) k)))
   congr 1
   funext f H
   congr 1
   funext d f H
   cases d with
   |normal=>exact b a.r f H k
   |exit id=>rfl
   |ret=>rfl
   |goto l=>rfl
  |_=>cases h
theorem C8 (X:ji)(call:dz β)(tr:List Tmp)(J:uM β)(rounds:Nat):∀(p:eJ) (c:Code),BS c p=true->∀(a:oz) (f:gJ) (H:aH) (k:KT β),
 jm X call tr J rounds (lV c p) (mQ a p) f H k=D4 (mQ a p) f H λf H=>jm X call tr J rounds (lV c p) (BQ (mQ a p)) f H k
 |[],c,h,a,f,H,k=>by
  cases c with
  |seq x y =>
   cases a with
   |none=>rfl
   |node o l r=>rfl
  |_=>cases h
 |false::p,c,h,a,f,H,k=>by cases c<;>cases h
 |true::p,c,h,a,f,H,k=>by
  cases c with
  |seq x y=>exact C8 X call tr J rounds p y h a.r f H k
  |_=>cases h
theorem EB (X:ji)(call:dz β)(tr:List Tmp)(J:uM β)(rounds:Nat):∀(p:eJ) (c:Code),BS c p=true->∀(a:oz) (k:KT β),F1 X call tr J rounds p c a k=k
 |[],c,_,a,k=>by cases c<;>rfl
 |false::p,c,h,a,k=>by cases c<;>cases h
 |true::p,c,h,a,k=>by
  cases c with
  |seq x y=>exact EB X call tr J rounds p y h a.r k
  |_=>cases h
def adm (X:ji)(call:dz β)(an:fe)(rounds:Nat)(id:FuncId)(p:eJ)(args:aI)(H:aH)(k:AV->aH->Option β)(K:gJ->aH->Option β):Option β :=
 match X.P.funcs[id]? with
 |some fn=>match fn.body with
  |some c=>ah (Nat.ble args.length fn.ntmps)
   (jm X call an.tr (qY X call an.tr an.ja rounds rounds) rounds (YT c p) an.KB ((gJ.mk fn.ntmps .e).fill 0 args) H (Aj (λf H=>D4 (mQ an.KB p) f H K) (r8 X fn k))) none
  |none=>none
 |none=>none
def Ti (X:ji)(id:FuncId)(p:eJ):Bool :=
 match X.P.funcs[id]? with
 |some fn=>match fn.body with
  |some c=>BS c p
  |none=>false
 |none=>false
theorem Gd {X:ji}{call:dz β}{an:fe}{rounds:Nat}{id:FuncId}{p:eJ}(a:Ti X id p=true)(args:aI)(H:aH)(k:AV->aH->Option β) :
 aT X call an rounds id args H k=adm X call an rounds id p args H k (codeFrom X call an rounds id p k):=by
 unfold Ti at a;unfold aT adm;cases b:X.P.funcs[id]? with
 |none=>rfl
 |some fn =>
  rw[b]at a;simp only at a ⊢;cases d:fn.body with
  |none=>rfl
  |some c =>
   rw[d]at a;simp only at a ⊢;rw[AH X call an.tr _ rounds p c a];have e:(λf H=>jm X call an.tr (qY X call an.tr an.ja rounds rounds) rounds (lV c p) (mQ an.KB p) f H (r8 X fn k)) =
    λf H=>D4 (mQ an.KB p) f H (codeFrom X call an rounds id p k):=by
    funext f H
    rw[C8 X call an.tr _ rounds p c a];congr 1
    funext f H
    unfold codeFrom;rw[b];simp only;rw[d];simp only;rw[EB X call an.tr _ rounds p c a]
   rw[e]
end
end Go.Tv

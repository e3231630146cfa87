/- What the layer answers the machine's call answers. Calls by contracts, or by the callee's own text. Contracts that are shown by runs alone: what a run leaves, told by a reckoning. Package-level variables that read as given data, for the symbolic layer. Loops over what is known by terms alone: a loop of a function's code as a function of its rounds and of the slots that are kept at its head. Numbers, bytes and lists: lemmas for what runs of the symbolic layer come to. Slices that came in, as lists. Slices of plain data that came in, as lists. A function from a place of its code on; notes at several places; contracts of two results that are known already. -/
import Derived.Test.YtfggompceldfgaaGreatDoorLyf
import Derived.Test.YtfggompceldfgaaGreatDoorLyc
import Derived.Deep.Slices
import Derived.WideShapes
set_option linter.unusedVariables false
set_option linter.unusedSimpArgs false

namespace Go.Tv
open Go.Ev (Tr ah iD Mem jz alive av dD jl Fr bG Ren)
open Go.RowKit
theorem C9 {S:Wo}{vs:List AV}{x:Value}(h:VR S (rJ vs) x):∃xs,x=Ev.vV xs/\LV S vs xs:=by
 match vs,h with
 |[],h =>
  have h:VR S (.fH []) x:=h;cases h with
  |fH _ m hl hv =>
   have:m=[]:=aQ.1 hl.symm;subst this;exact⟨[],rfl,LV.nil⟩
 |[v],h=>exact⟨[x],rfl,LV.cons h LV.nil⟩
 |v::w::vs,h =>
  have h:VR S (.fH (v::w::vs)) x:=h;cases h with
  |fH _ m hl hv =>
   match m,hl,hv with
   |a::b::m,hl,hv=>exact⟨a::b::m,rfl,⟨hl,hv⟩⟩
def Zm (n:Nat):Ren:=λi=>if i<n then some (i,0) else none
open Classical in
noncomputable def Ej (w:World)(i:Nat):jz :=
 match w.heap[i]? with
 |some (.cells C t _)=>⟨C.toList.map λv=>if ∃a,v = .slice (some a) 0 0 then Ev.vd else if bG (Zm w.heap.size) v v then v else .chan none,t,true,false⟩
 |_=>⟨[],0,false,false⟩
theorem z0:∀(l:List jz) (H:Mem),∃H',H.uN l=some H'
 |[],H=>⟨_,rfl⟩
 |b::l,H=>by
  obtain⟨H1,h1⟩:=Mem.lU H b;obtain⟨H2,h2⟩:=z0 l H1;exact⟨H2,by simp only[Ev.Mem.uN,h1,h2]⟩
noncomputable def snap (w:World):Mem:=(Mem.uN Mem.empty ((List.range w.heap.size).map (Ej w))).getD Mem.empty
theorem xH (w:World):(snap w).size=w.heap.size/\(snap w).lk=w.heap.size/\∀i,(snap w).get i=if i<w.heap.size then some (Ej w i) else none:=by
 obtain⟨H',h⟩:=z0 ((List.range w.heap.size).map (Ej w)) Mem.empty;obtain⟨h1,h2,h3⟩:=Ev.wu _ h;have e:snap w=H':=by unfold snap;rw[h];rfl
 rw[e];have hs:H'.size=w.heap.size:=by rw[h1];simp[Mem.empty]
 refine⟨hs,by rw[h2,hs],λi=>?_⟩;rw[h3,aa (by simp[Mem.empty])];simp only[Mem.empty,Nat.sub_zero];by_cases hi:i<w.heap.size
 .rw[ag hi];simp[hi]
 rw[aa hi];simp;omega
theorem U2 (P:Program)(w:World)(G:Nat)(hG:G<=w.heap.size):Ev.dZ ⟨P,w.heap.size,w.heap.size,G,w,λ_=>none⟩ (Zm w.heap.size) (snap w) w:=by
 obtain⟨s1,s2,s3⟩:=xH w;have ace:∀{i:Nat} {b:Ev.jz},(snap w).get i=some b->Ev.iI b=false:=by
  intro i b hi;rw[s3]at hi;split at hi
  .cases hi;unfold Ej;split<;>rfl
  cases hi
 refine⟨⟨Below.refl _ _,λr o h=>by cases h⟩,aG _,λi x h=>?_,by rw[s2];exact aG _,by rw[s1];exact aG _,λg hg=>ag (cw hg hG),λi b hi hl=>?_,λi j bi bj r x y hi _ hj _ hr hr'=>?_,λi b hi hm=>(by rw[ace hi]at hm;cases hm),λi j bi bj r x y hi hm=>(by rw[ace hi]at hm;cases hm)⟩
 .rw[s1];unfold Zm at h;split at h
  .assumption
  cases h
 .rw[s3]at hi;split at hi
  .rename_i hlt;cases hi;unfold Ej at hl ⊢;split at hl
   .rename_i C t fr hC;refine⟨i,0,C,fr,0,ag hlt,.inl ⟨hlt,rfl⟩,hC,.inl hlt,⟨.inl hlt,λ_=>rfl⟩,by simp,⟨by simp,λj v hv hj=>?_⟩,.inl hlt⟩;simp only[cA,aK]at hv;obtain⟨u,hu,rfl⟩:=hv;split at hj
    .rename_i wK;rw[ag wK];obtain⟨a,rfl⟩:=wK;exact⟨_,by simpa using hu,.void a⟩
    rename_i hno;rw[aa hno];split at hj
    .rename_i wK;rw[ag wK];exact⟨u,by simpa using hu,wK⟩
    cases hj
   cases hl
  cases hi
 unfold Zm at hr hr';split at hr
 .split at hr'
  .cases hr;cases hr';rfl
  cases hr'
 cases hr
noncomputable def ve (w:World):Wo:=⟨oJ (snap w),λ_=>none,λ_ _=>none⟩
theorem U3 (w:World):Rel (ve w) aH.empty (snap w):=Br _ _ (λi cs hi=>by
 have hi:(alive (snap w) i).map (·.cells)=some cs:=hi
 simp only[aK]at hi;obtain⟨b,h1,h2⟩:=hi;exact⟨b,h1,h2⟩) (by obtain⟨s1,s2,_⟩:=xH w;omega)
def aed:AV->Bool
 |.dW _ _=>true
 |v=>ue v
theorem U4 {w:World}{a:AV}{x:Value}(ha:aed a=true)(hvd:x≠Ev.vd)(h:VR (ve w) a x):bG (Zm w.heap.size) x x:=by
 have one:∀(v:AV) (y:Value),(match v with | .int _ _=>true | .bool _=>true | .str _=>true | .pZ _=>true | .dg=>true | .nX=>true|_=>false)=true->VR (ve w) v y->bG (Zm w.heap.size) y y:=by
  intro v y hv h;cases h<;>first|(cases hv;done)|constructor
 cases h with
 |dW e l v hS =>
  rcases hS with⟨_,rfl|rfl⟩|⟨i,pre,mid,post,cap,rfl,hF,_⟩
  .exact .l8 _ _
  .exact absurd rfl hvd
  have hF:(alive (snap w) i).map (·.cells)=some (pre++(mid++post)):=hF
  have hi:i<w.heap.size:=by
   cases ha:alive (snap w) i with
   |none=>rw[ha]at hF;cases hF
   |some b=>have:=kW ha;rw[(xH w).1]at this;exact this
  exact .slice i _ _ _ i 0 (ag hi)
 |agg l m hl hm =>
  refine .agg _ _ rfl λj a b h1 h2=>?_
  rw[h1]at h2;cases h2;have hlt:j<m.length:=by have:=(aD.1 h1).1;simpa using this
  have hj:m[j]? = some a:=by simpa using h1
  have tY:j<l.length:=by omega
  have:=aP.1 ha l[j] (gO tY);exact one l[j] a this (hm j l[j] a (aO tY) hj)
 |int=>exact .int _ _
 |bool=>exact .bool _
 |str=>exact .string _
 |pZ=>exact .float _ _
 |dg=>exact .l8 _ _
 |nX=>exact .vW
 |_=>cases ha
theorem Zn {X:gU}(hno:Ev.iT X.P)(hm:X.P.follows .mixedOrders=true){kn:Ev.fc}{GR:List Ev.jz}(hK:Ev.kf X.P GR kn){f:FuncId}{args:List AV}{v:AV}{vE:Value}(hv:∀S x,VR S v x->x=vE)(hfree:Ev.aY vE=true)
 (h:∀(S:Wo) (E:Mem) (bM:List Value),Rel S aH.empty E->fm X S->LV S args bM->∃S' vE E',(∃N,∀n:Nat×Nat,N<=n.1/\N<=n.2->dO X kn n f bM E=some (vE,E'))/\VR S' v vE)
 {w:World} (Zo:Ev.kU GR w) (hG:X.G<=w.heap.size) (hg:fm X (ve w)) {args':List Value} (hargs:LV (ve w) args args') (wK:∀x∈args',bG (Zm w.heap.size) x x) :
 Calls X.P f args'.toArray w λe w'=>e = .returned vE/\Below w.heap.size w w':=by
 obtain⟨S',vE',E',⟨N,h1⟩,h2⟩:=h (ve w) (snap w) args' (U3 w) hg hargs;have hvE:=hv S' vE' h2;subst hvE;have hc:=h1 (N,N) ⟨aG _,aG _⟩;have wK:Ev.LR (bG (Zm w.heap.size)) args' args':=⟨rfl,λj x y hx hy=>by
  rw[hx]at hy;cases hy;exact wK x (bg hx)⟩
 refine(Ev.PK hno hm hK hc (.inr (by first|assumption|exact hfree)) (c:=⟨X.P,w.heap.size,w.heap.size,X.G,w,λ_=>none⟩) rfl ⟨rfl,Zo,Zo.1⟩ (U2 X.P w X.G hG) wK).mono ?_;rintro e w' ⟨ρ',v',rfl,k1,k2,k3⟩;exact⟨by rw[Ev.lM k2 hfree],k3.below⟩
theorem P7 {X:gU}(hno:Ev.iT X.P)(hm:X.P.follows .mixedOrders=true){kn:Ev.fc}{GR:List Ev.jz}(hK:Ev.kf X.P GR kn){f:FuncId}{args:List AV}{v:AV}{vE:Value}(hv:∀S x,VR S v x->x=vE)(hfree:Ev.aY vE=true)
 (h:∀(S:Wo) (E:Mem) (bM:List Value),Rel S aH.empty E->fm X S->LV S args bM->∃S' vE E',(∃N,∀n:Nat×Nat,N<=n.1/\N<=n.2->dO X kn n f bM E=some (vE,E'))/\VR S' v vE)
 {w:World} (Zo:Ev.kU GR w) (hG:X.G<=w.heap.size) (hg:fm X (ve w)) {args':List Value} (hargs:LV (ve w) args args') (hb:args.all aed=true) (hvd:∀x∈args',x≠Ev.vd:=by simp[Ev.vd]) :
 Calls X.P f args'.toArray w λe w'=>e = .returned vE/\Below w.heap.size w w' :=
 Zn hno hm hK hv hfree h Zo hG hg hargs λx hx=>by
  obtain⟨j,hj⟩:=eB hx;have hlt:j<args.length:=by rw[hargs.1];exact eJ hj
  exact U4 (aP.1 hb _ (gO hlt)) (hvd x hx) (hargs.2 j _ x (aO hlt) hj)
theorem IP {X:gU}(hno:Ev.iT X.P)(hm:X.P.follows .mixedOrders=true){kn:Ev.fc}(hK:Ev.xC X.P kn){f:FuncId}{args:List AV}{v:AV}{vE:Value}(hv:∀S x,VR S v x->x=vE)(hfree:Ev.aY vE=true)
 (h:∀(S:Wo) (E:Mem) (bM:List Value),Rel S aH.empty E->fm X S->LV S args bM->∃S' vE E',(∃N,∀n:Nat×Nat,N<=n.1/\N<=n.2->dO X kn n f bM E=some (vE,E'))/\VR S' v vE)
 {w:World} (hG:X.G<=w.heap.size) (hg:fm X (ve w)) {args':List Value} (hargs:LV (ve w) args args') (hb:args.all aed=true) (hvd:∀x∈args',x≠Ev.vd:=by simp[Ev.vd]) :
 Calls X.P f args'.toArray w λe w'=>e = .returned vE/\Below w.heap.size w w' :=
 P7 hno hm hK hv hfree h (Ev.kU.nil w) hG hg hargs hb hvd
end Go.Tv
namespace Go.Tv
open Go.Ev (Tr ah iD Mem jz alive av dD jl Fr)
noncomputable section
def U5 (H:aH):AV->Option AV
 |.own id _=>match H.get id with
  |some (.list _ e l _ _ _)=>some (.dW e l)
  |_=>none
 |v=>ah (P4 v) (some v) none
def IQ (H:aH):List AV->Option (List AV)
 |[]=>some []
 |v::l=>match U5 H v with
  |some w=>match IQ H l with
   |some m=>some (w::m)
   |none=>none
  |none=>none
def U6 (H:aH):AV->Option AV
 |.agg l=>match IQ H l with
  |some m=>some (.agg m)
  |none=>none
 |_=>none
def normArg (H:aH):Option Ty->AV->Option AV
 |some e,a=>match a with
  |.str _=>none
  |a=>match Ca H e a with
   |some l=>some (.dW e l)
   |none=>none
 |none,a=>ah (P4 a) (some a) (U6 H a)
def normArgs (H:aH):List (Option Ty)->List AV->Option (List AV)
 |[],[]=>some []
 |s::sig,a::args=>match normArg H s a with
  |some b=>match normArgs H sig args with
   |some l=>some (b::l)
   |none=>none
  |none=>none
 |_,_=>none
def tg {β:Type}(sig:List (Option Ty))(g:List AV->Option (Bool×List fN))(args:List AV)(H:aH)(k:AV->aH->Option β):Option β :=
 match normArgs H sig args with
 |some args'=>match g args' with
  |some (c,rs)=>ah c (k (rJ (mb rs H).1) (mb rs H).2) none
  |none=>none
 |none=>none
def dh (X:gU)(cf:Nat×Nat->Ev.cH)(f:FuncId)(g:List AV->Option (Bool×List fN)):Prop :=
 ∀args' rs,g args'=some (true,rs)->∃vs H1,NN X cf f args' vs H1/\tf H1 [] vs rs
abbrev Tu:=FuncId->Option (List (Option Ty)×(List AV->Option (Bool×List fN)))
def Ch {β:Type}(X:gU)(args:List AV)(H:aH)(k:AV->aH->Option β):Option β :=
 match args with
 |[.dg]=>k (.fH []) H
 |[.own i _]=>match H.get i with
  |some (.list t (.int .u8) l _ _ false)=>ah (H.nH i&&Ev.HN X.P t&&Nat.ble 1 l.length) (k (.fH []) (H.put i .dead)) none
  |_=>none
 |_=>none
def sx (X:gU)(K:Tu)(inl:FuncId->Bool)(rounds:Nat)(β:Type):Nat->cI β :=
 λn=>Nat.rec (motive:=λ_=>cI β) (λ_ _ _ _=>none)
  (λ_ go id args H k=>ah (X.kl id) (Ch X args H k) (match K id with
   |some (sig,g)=>tg sig g args H k
   |none=>ah (inl id) (aT X go ⟨.none,.none,X.trs id⟩ rounds id args H k) none)) n
def asL (e:Ty):AV->Option (List e.den)
 |.dW e' l=>iq e' e l
 |_=>none
end
theorem uf {e:Ty}{a:AV}{l:List e.den}(h:asL e a=some l):a = .dW e l:=by
 unfold asL at h;split at h
 .obtain ⟨he,hc⟩:=bT h;subst he;have hc:_=l:=hc;rw[<-hc]
 cases h
theorem NR {H:aH}{v w:AV}(h:U5 H v=some w):Ei H v w:=by
 unfold U5 at h;split at h
 .rename_i id n;split at h
  .rename_i t e l gu ex ro hg;cases h;refine .inr ⟨e,l,rfl,?_,λs hs=>by cases hs⟩;show (match H.get id with
    |some (.list _ e' l' _ _ _)=>iq e' e l'
    |_=>none)=some l
   rw[hg];unfold iq;simp
  cases h
 rw[av]at h;split at h
 .rename_i hs;cases h;exact .inl ⟨rfl,hs⟩
 cases h
theorem Ci {H:aH}:∀{l m:List AV},IQ H l=some m->l.length=m.length/\∀(j:Nat) x y,l[j]? = some x->m[j]? = some y->Ei H x y
 |[],m,h=>by cases h;exact⟨rfl,λj x y hx=>by simp at hx⟩
 |v::l,m,h=>by
  unfold IQ at h;split at h
  .rename_i w hw;split at h
   .rename_i m' hm;cases h;obtain⟨h1,h2⟩:=Ci hm;refine⟨by simp[h1],λj x y hx hy=>?_⟩;cases j with
    |succ j=>exact h2 j x y (by simpa using hx) (by simpa using hy)
    |zero=>simp at hx hy;subst hx;subst hy;exact NR hw
   cases h
  cases h
theorem NT {H:aH}{a b:AV}(h:U6 H a=some b):P5 H a b:=by
 unfold U6 at h;split at h
 .rename_i l;split at h
  .rename_i m hm;cases h;obtain⟨h1,h2⟩:=Ci hm;exact .inr ⟨l,m,rfl,rfl,h1,h2⟩
  cases h
 cases h
theorem yg {H:aH}:∀{sig:List (Option Ty)} {args args':List AV},normArgs H sig args=some args'->args.length=args'.length/\∀(j:Nat) a b,args[j]? = some a->args'[j]? = some b->P5 H a b
 |[],[],args',h=>by cases h;exact⟨rfl,λj a b ha=>by simp at ha⟩
 |[],_::_,args',h=>by cases h
 |_::_,[],args',h=>by cases h
 |s::sig,a::args,args',h=>by
  unfold normArgs at h;split at h
  .rename_i b hb;split at h
   .rename_i l hl;cases h;obtain⟨h1,h2⟩:=yg hl;refine⟨by simp[h1],λj x y hx hy=>?_⟩;cases j with
    |succ j=>exact h2 j x y (by simpa using hx) (by simpa using hy)
    |zero =>
     simp at hx hy;subst hx;subst hy;unfold normArg at hb;split at hb
     .split at hb
      .cases hb
      rename_i e _ hne;split at hb
      .rename_i l' hl';cases hb;exact .inl (.inr ⟨_,l',rfl,hl',λs hs=>hne s hs⟩)
      cases hb
     rw[av]at hb;split at hb
     .rename_i hs;cases hb;exact .inl (.inl ⟨rfl,hs⟩)
     exact NT hb
   cases h
  cases h
section
variable {X:gU} {cf:Nat×Nat->Ev.cH}
theorem yV {β:Type}{f:FuncId}{sig:List (Option Ty)}{g:List AV->Option (Bool×List fN)}(hc:dh X cf f g){args:List AV}{H:aH}{k:AV->aH->Option β}{r:β}(h:tg sig g args H k=some r):∃v H',k v H'=some r/\IC X cf f args H v H':=by
 unfold tg at h;split at h
 .rename_i args' ha;split at h
  .rename_i c rs hg;rw[av]at h;split at h
   .rename_i hc';subst hc';obtain⟨vs,H1,h1,h2⟩:=hc args' rs hg;obtain⟨l1,l2⟩:=yg ha;exact⟨_,_,h,h1.am7 h2 l1 l2⟩
   cases h
  cases h
 cases h
def aee (X:gU)(kn:Ev.fc):Prop:=∀id,X.kl id=true->kn id Ev.pg=some (.tuple #[])/\kn id [.slice none 0 0]=some (.tuple #[])/\∀i n c,kn id [.slice (some ⟨i,0,none⟩) n c]=none
theorem mM.u8s {F:Nat->Option (List Value)}:∀{l:List (Ty.den (.int .u8))} {cs:List Value},mM (CR F (.int .u8)) l cs->cs.all Ev.JV=true
 |[],cs,h=>by
  have:cs=[]:=h;subst this;rfl
 |x::l,cs,h=>by
  obtain⟨c1,c2,rfl,h1,h2⟩:=h;have h1:c1=[.int .u8 x]:=h1;subst h1;simp only[gN,eP,bY,mM.u8s h2,Bool.and_true];rfl
theorem LV.single {S:Wo}{a:AV}{l:List Value}(h:LV S [a] l):∃x,l=[x]/\VR S a x:=by
 match l,h with
 |[x],h=>exact⟨x,rfl,h.2 0 a x rfl rfl⟩
 |[],h=>exact absurd h.1 (by simp)
 |_::_::_,h=>exact absurd h.1 (by simp)
theorem Ek {kn:Ev.fc}{f:FuncId}(hk:kn f Ev.pg=some (.tuple #[])/\kn f [.slice none 0 0]=some (.tuple #[])/\∀i n c,kn f [.slice (some ⟨i,0,none⟩) n c]=none){β:Type}{args:List AV}{H:aH}{k:AV->aH->Option β}{r:β}(h:Ch X args H k=some r) :
 ∃v H',k v H'=some r/\IC X (dO X kn) f args H v H':=by
 obtain⟨k1,k2,k3⟩:=hk;unfold Ch at h;split at h
 .refine ⟨_,_,h,λS E bM hr hg hl=>?_⟩;obtain⟨x,rfl,hx⟩:=LV.single hl;cases hx;refine⟨S,.tuple #[],E,⟨1,λn hn=>?_⟩,S.le_refl,.fH [] [] rfl (λj x y hx=>by simp at hx),hr,St.refl _ _ _⟩;obtain⟨R,D⟩:=n;obtain⟨D',rfl⟩:∃D',D=D'+1:=⟨D-1,by have:=hn.2;simp only at this;omega⟩;show Ev.nK X.P X.G kn R (D'+1) f _ E=_;rw[Ev.lS,k2];rfl
 .rename_i id n0;split at h
  .rename_i t l gu ex JM;rw[av]at h;split at h
   .rename_i hc;simp only[ak]at hc;obtain⟨⟨hmay,hu8⟩,h1⟩:=hc;have h1:=az h1;refine⟨_,_,h,λS E bM hr hg hl=>?_⟩;obtain⟨x,rfl,hx⟩:=LV.single hl;obtain⟨q1,⟨q2,g2,q3,q4⟩,q5⟩:=hr.row id _ JM;cases hx with
    |own _ _ i c s hρ g hg' hn =>
     rw[q3]at hg';cases hg';rcases q5 with⟨q5,_,_⟩|⟨i',cap',b,mid,post,e1,e2,e3,e4,e5,e6,e7,e8,e9,e10⟩
     .rw[q5]at h1;simp at h1
     rw[hρ]at e1;cases e1;have hmay':H.lk<=id:=by simpa[aH.nH,br] using hmay
     have hlk:=hr.lk id _ _ JM hmay' hρ;obtain⟨E1,hE1⟩:=Mem.iS (b:={ b with live:=false,fix:=false }) (kW e2) hlk;have fe:Ev.kill E i=some E1:=by unfold Ev.kill;rw[(dD e2).1];exact hE1
     obtain⟨z1,z2,z3,z4,z5⟩:=Ev.nF fe;obtain⟨m1,m2⟩:=hr.mod (S':=S) (E':=E1) (r':=.dead) JM rfl S.le_refl rfl (λ_ _ _=>rfl) z1 z2 (λj hj=>z4 j (hj _ hρ)) (λj cs h=>.inl h) (λq hq=>by cases hq);refine⟨S,.tuple #[],E1,⟨1,λn hn'=>?_⟩,S.le_refl,.fH [] [] rfl (λj x y hx=>by simp at hx),m1,m2⟩;obtain⟨R,D⟩:=n;obtain⟨D',rfl⟩:∃D',D=D'+1:=⟨D-1,by have:=hn'.2;simp only at this;omega⟩;show Ev.nK X.P X.G kn R (D'+1) f _ E=_;rw[Ev.lS,k3];obtain⟨l2,CA⟩:=e10.2;have hall:b.cells.all Ev.JV=true:=by rw[e4,jF,e5.u8s,CA.u8s];rfl
     have hsz:(Ty.int .u8).size=1:=rfl;rw[hsz,Nat.mul_one]at e6;have hks:Ev.oD X.P kn f [.slice (some ⟨i,0,none⟩) n0 c] E=some (.tuple #[],E1):=by
      unfold Ev.oD;simp only[k1,e2];rw[av,ag]
      .simp only[fe]
      rw[hall,e3,hu8];have a1:n0<=c:=by rw[<-hn,q4];exact e7
      simp only[Bool.and_true,ak];exact⟨⟨⟨rfl,ek a1⟩,by rw[aN];exact e6⟩,ek e8⟩
     show Ev.nD (Ev.oD X.P kn f _ E) _=_;rw[hks];rfl
    |fY _ g hg' hn =>
     rw[q3]at hg';cases hg';omega
   cases h
  cases h
 cases h
theorem lg {kn:Ev.fc}{K:Tu}{inl:FuncId->Bool}(hK:∀id sig g,K id=some (sig,g)->dh X (dO X kn) id g)(hi:∀id,inl id=true->∀args,kn id args=none)(rounds:Nat)(n:Nat)(β:Type) (hkl:aee X kn:=by exact λ_ h=>Bool.noConfusion (show false=true from h)):cT X (dO X kn) (sx X K inl rounds β n):=by
 induction n with
 |zero=>exact λf args H k r h=>by cases h
 |succ n ih =>
  intro f args H k r h;have h:ah (X.kl f) (Ch X args H k) (match K f with
   |some (sig,g)=>tg sig g args H k
   |none=>ah (inl f) (aT X (sx X K inl rounds β n) ⟨.none,.none,X.trs f⟩ rounds f args H k) none)=some r:=h
  rw[av]at h;split at h
  .rename_i hf;exact Ek (hkl f hf) h
  split at h
  .rename_i sig g hk;exact yV (hK f sig g hk) h
  rw[av]at h;split at h
  .rename_i hin;obtain⟨v,H',h1,h2⟩:=kV (nf:=true) ih (λ_=>⟨rfl,rfl⟩) h;refine⟨v,H',h1,λS E bM hr hg hl=>?_⟩;obtain⟨S',vE,E',a1,a2,a3,a4,a5⟩:=h2 S E bM hr hg hl;exact⟨S',vE,E',fZ (hi f hin) a1,(a5 rfl).1,a2,a3,(a5 rfl).2⟩
  cases h
theorem aef {kn:Ev.fc}{f:FuncId}(hk:∀args,kn f args=none){g:List AV->Option (Bool×List fN)}{call:∀ β,cI β}(hcall:∀ β,cT X (dO X kn) (call β))
 (h:∀args' rs,g args'=some (true,rs)->∃vs H1 an rounds,aT X (call (AV×aH)) an rounds f args' aH.empty (λv H=>some (v,H))=some (rJ vs,H1)/\tf H1 [] vs rs):dh X (dO X kn) f g:=by
 intro args' rs hg;obtain⟨vs,H1,an,rounds,h1,h2⟩:=h args' rs hg;refine⟨vs,H1,λS E bM hr hgl hl=>?_,h2⟩;obtain⟨S',vE,E',a1,a2,a3,a4⟩:=Zl hk hcall h1 S E bM hr hgl hl;exact⟨S',vE,E',a1,C9 a2,a3,a4⟩
theorem R4 {kn:Ev.fc}{f:FuncId}{g:List AV->Option (Bool×List fN)}
 (h:∀args' rs,g args'=some (true,rs)->∃v vE,rs=[.val v]/\ue v=true/\(∀S,VR S v vE)/\Ev.aY vE=true/\∀S bM,LV S args' bM->kn f bM=some vE/\Ev.cF bM=true):dh X (dO X kn) f g:=by
 intro args' rs hg;obtain⟨v,vE,rfl,hs,hv,hfree,hkn⟩:=h args' rs hg;refine⟨[v],aH.empty,λS E bM hr hgl hl=>?_,⟨rfl,hs,trivial⟩⟩;obtain⟨k1,k2⟩:=hkn S bM hl;refine⟨S,vE,E,⟨1,λn hn=>?_⟩,⟨[vE],rfl,LV.cons (hv S) LV.nil⟩,hr,Bm.refl _ _ _⟩;obtain⟨R,D⟩:=n;obtain⟨D',rfl⟩:∃D',D=D'+1:=⟨D-1,by have:=hn.2;simp only at this;omega⟩;show Ev.nK X.P X.G kn R (D'+1) f bM E=_;rw[Ev.lS,k1];simp[k2,hfree]
end
end Go.Tv
namespace Go.Tv
open Go.Ev (ah av bI eT bB cB)
noncomputable section
def ai6:IntKind->IntKind->Bool
 |.i64,.i64=>true
 |.u8,.u8=>true
 |.i32,.i32=>true
 |.u64,.u64=>true
 |.u32,.u32=>true
 |.u16,.u16=>true
 |_,_=>false
def U7:List UInt8->List UInt8->Bool
 |[],[]=>true
 |a::l,b::m=>ah (Nat.beq a.toNat b.toNat) (U7 l m) false
 |_,_=>false
def P8:AV->AV->Bool
 |.int k a,.int k' b=>ah (ai6 k k') (bI a b) false
 |.bool a,.bool b=>ah a b (!b)
 |.str a,.str b=>U7 a b
 |.pZ a,.pZ b=>Nat.beq a b
 |.dg,.dg=>true
 |.nX,.nX=>true
 |_,_=>false
def P9:List AV->List AV->Bool
 |[],[]=>true
 |a::l,b::m=>ah (P8 a b) (P9 l m) false
 |_,_=>false
def Zp:AV->AV->Bool
 |.agg l,.agg m=>P9 l m
 |a,b=>P8 a b
def Gx:(e:Ty)->e.den->e.den->Bool
 |.int _,a,b=>bI a b
 |.bool,a,b=>ah a b (!b)
 |.str,a,b=>U7 a b
 |.pZ,a,b=>Nat.beq a b
 |.unit,_,_=>true
 |.sl _,_,_=>false
 |.pair x y,a,b=>ah (Gx x a.1 b.1) (Gx y a.2 b.2) false
def Zq (e:Ty):List e.den->List e.den->Bool
 |[],[]=>true
 |a::l,b::m=>ah (Gx e a b) (Zq e l m) false
 |_,_=>false
def Qa (t:TypeId)(e:Ty)(l:List e.den)(room:Bool):Option Row->Bool
 |some (.list t' e' l' _ ex ro)=>ah (Nat.beq t t' && !ro&&(ah room ex true)) (match iq e' e l' with
  |some m=>Zq e m l
  |none=>false) false
 |_=>false
def vf (H:aH):List Nat->List AV->List fN->Bool
 |_,[],[]=>true
 |seen,v::vs,.val w::rs=>ah (Zp v w) (vf H seen vs rs) false
 |seen,.own id n::vs,.list t e l::rs=>ah (e.zQ&&Nat.beq n l.length&&Qa t e l false (H.get id) && !(seen.any (Nat.beq id))) (vf H (id::seen) vs rs) false
 |seen,.dg::vs,.list _ e l::rs=>ah (e.zQ&&l.isEmpty) (vf H seen vs rs) false
 |seen,.rH id off len cap::vs,.room t e l n::rs=>ah (e.zQ&&Nat.beq off 0&&Nat.beq len n&&Nat.beq cap l.length&&Qa t e l true (H.get id) && !(seen.any (Nat.beq id))) (vf H (id::seen) vs rs) false
 |_,_,_=>false
def leaves (rs:List fN):Option (AV×aH)->Bool
 |some (.fH vs,H)=>ah (Nat.beq vs.length 1) false (vf H [] vs rs)
 |some (v,H)=>vf H [] [v] rs
 |none=>false
end
theorem R5 {a b:IntKind}(h:ai6 a b=true):a=b:=by
 cases a<;>cases b<;>first|rfl|cases h
theorem Bt:∀{a b:List UInt8},U7 a b=true->a=b
 |[],[],_=>rfl
 |[],_::_,h=>by cases h
 |_::_,[],h=>by cases h
 |a::l,b::m,h=>by
  simp only[U7,av,aN]at h;split at h
  .rename_i hab;rw[Bt h,jJ.1 hab]
  cases h
theorem Cj {a b:Bool}(h:ah a b (!b)=true):a=b:=by cases a<;>cases b<;>first|rfl|cases h
theorem El {a b:AV}(h:P8 a b=true):a=b/\ue b=true:=by
 unfold P8 at h;split at h
 .rw[av]at h;split at h
  .rename_i hk;rw[eT]at h;exact⟨by rw[R5 hk,eI.1 h],rfl⟩
  cases h
 .exact ⟨by rw[Cj h],rfl⟩
 .exact ⟨by rw[Bt h],rfl⟩
 .exact ⟨by rw[aZ h],rfl⟩
 .exact ⟨rfl,rfl⟩
 .exact ⟨rfl,rfl⟩
 cases h
theorem Em:∀{l m:List AV},P9 l m=true->l=m/\ue (.agg m)=true
 |[],[],_=>⟨rfl,rfl⟩
 |[],_::_,h=>by cases h
 |_::_,[],h=>by cases h
 |a::l,b::m,h=>by
  simp only[P9,av]at h;split at h
  .rename_i hab;obtain⟨rfl,hs⟩:=Em h;have hab':=hab;obtain⟨rfl,_⟩:=El hab;refine⟨rfl,?_⟩;unfold ue at hs ⊢;simp only[bY,ak];refine⟨?_,hs⟩;cases a<;>first|rfl|cases hab'
  cases h
theorem R6 {a b:AV}(h:Zp a b=true):a=b/\ue b=true:=by
 unfold Zp at h;split at h
 .obtain ⟨rfl,h2⟩:=Em h;exact⟨rfl,h2⟩
 exact El h
theorem yX:∀(e:Ty) {a b:e.den},Gx e a b=true->a=b
 |.int _,a,b,h=>by
  have h:bI a b=true:=h;rw[eT]at h;exact eI.1 h
 |.bool,a,b,h=>Cj h
 |.str,a,b,h=>Bt h
 |.pZ,a,b,h=>aZ h
 |.unit,_,_,_=>rfl
 |.sl _,_,_,h=>by cases h
 |.pair x y,a,b,h=>by
  have h:ah (Gx x a.1 b.1) (Gx y a.2 b.2) false=true:=h;rw[av]at h;split at h
  .rename_i h1;exact Prod.ext (yX x h1) (yX y h)
  cases h
theorem Gy (e:Ty):∀{a b:List e.den},Zq e a b=true->a=b
 |[],[],_=>rfl
 |[],_::_,h=>by cases h
 |_::_,[],h=>by cases h
 |a::l,b::m,h=>by
  simp only[Zq,av]at h;split at h
  .rename_i hab;rw[yX e hab,Gy e h]
  cases h
theorem En {t:TypeId}{e:Ty}{l:List e.den}{room:Bool}{r:Option Row}(h:Qa t e l room r=true):∃gu ex,r=some (.list t e l gu ex false)/\(room=true->ex=true):=by
 unfold Qa at h;split at h
 .rename_i t' e' l' gu ex ro;rw[av]at h;split at h
  .rename_i hc;simp only[ak,aS,aN]at hc;obtain⟨⟨rfl,rfl⟩,hx⟩:=hc;split at h
   .rename_i m hm;obtain⟨he,hc⟩:=bT hm;subst he;have hc:l'=m:=hc;subst hc;have hl:l'=l:=Gy _ h;subst hl;refine⟨gu,ex,rfl,λhr=>?_⟩;subst hr;exact hx
   cases h
  cases h
 cases h
theorem Li {id:Nat}{seen:List Nat}(h:(!(seen.any (Nat.beq id)))=true):id ∉ seen:=λhm=>by
 have:seen.any (Nat.beq id)=true:=jb.2 ⟨id,hm,by rw[aN]⟩;rw[this]at h;cases h
theorem Gz {H:aH}:∀{vs:List AV} {rs:List fN} {seen:List Nat},vf H seen vs rs=true->tf H seen vs rs:=by
 intro vs;induction vs with
 |nil =>
  intro rs seen h;cases rs with
  |nil=>trivial
  |cons r rs=>cases r<;>cases h
 |cons v vs ih =>
  intro rs seen h;cases rs with
  |nil=>cases v<;>cases h
  |cons r rs =>
   cases r with
   |val w =>
    have h:ah (Zp v w) (vf H seen vs rs) false=true:=by cases v<;>exact h
    rw[av]at h;split at h
    .rename_i hv;obtain⟨h1,h2⟩:=R6 hv;exact⟨h1,h2,ih h⟩
    cases h
   |list t e l =>
    cases v<;>try (cases h;done)
    .simp only[vf,av]at h;split at h
     .rename_i hc;simp only[ak,gQ]at hc;exact⟨hc.1,.inr ⟨rfl,hc.2,ih h⟩⟩
     cases h
    rename_i id n;simp only[vf,av]at h;split at h
    .rename_i hc;simp only[ak,aN]at hc;obtain⟨⟨⟨h1,rfl⟩,h3⟩,h4⟩:=hc;obtain⟨gu,ex,h5,_⟩:=En h3;exact⟨h1,.inl ⟨id,gu,ex,rfl,h5,Li h4,ih h⟩⟩
    cases h
   |room t e l len =>
    cases v<;>try (cases h;done)
    rename_i id off n cap;simp only[vf,av]at h;split at h
    .rename_i hc;simp only[ak,aN]at hc;obtain⟨⟨⟨⟨⟨h1,rfl⟩,rfl⟩,rfl⟩,h3⟩,h4⟩:=hc;obtain⟨gu,ex,h5,h6⟩:=En h3;have:=h6 rfl;subst this;exact⟨h1,id,gu,rfl,h5,Li h4,ih h⟩
    cases h
theorem Lj {rs:List fN}{r:Option (AV×aH)}(h:leaves rs r=true):∃vs H,r=some (rJ vs,H)/\tf H [] vs rs:=by
 unfold leaves at h;split at h
 .rename_i vs H;rw[av]at h;split at h
  .cases h
  rename_i hn;refine⟨vs,H,?_,Gz h⟩
  match vs,hn with
  |[],_=>rfl
  |[v],hn=>exact absurd rfl hn
  |_::_::_,_=>rfl
 .rename_i v H hv;exact⟨[v],H,rfl,Gz h⟩
 cases h
theorem U8 {X:gU}{kn:Ev.fc}{f:FuncId}(hk:∀args,kn f args=none){g:List AV->Option (Bool×List fN)}{call:∀ β,cI β}(hcall:∀ β,cT X (dO X kn) (call β))(an:eD)(rounds:Nat)
 (h:∀args rs,g args=some (true,rs)->leaves rs (aT X (call (AV×aH)) an rounds f args aH.empty (λv H=>some (v,H)))=true):dh X (dO X kn) f g :=
 aef hk hcall λargs rs hg=>by
  obtain⟨vs,H,h1,h2⟩:=Lj (h args rs hg);exact⟨vs,H,an,rounds,h1,h2⟩
theorem Eo {H:aH}:∀{vs:List AV} {seen:List Nat},vs.all ue=true->tf H seen vs (vs.map .val)
 |[],_,_=>trivial
 |v::vs,seen,h=>by
  simp only[bY,ak]at h;exact⟨rfl,h.1,Eo h.2⟩
theorem dA {X:gU}{kn:Ev.fc}{f:FuncId}(hk:∀args,kn f args=none){g:List AV->Option (Bool×List fN)}{call:∀ β,cI β}(hcall:∀ β,cT X (dO X kn) (call β))
 (h:∀args rs,g args=some (true,rs)->∃vs an rounds,aT X (call AV) an rounds f args aH.empty (λv _=>some v)=some (rJ vs)/\rs=vs.map .val/\vs.all ue=true):dh X (dO X kn) f g:=by
 intro args rs hg;obtain⟨vs,an,rounds,h1,h2,h3⟩:=h args rs hg;subst h2;obtain⟨v',H1,k1,k2⟩:=kV (nf:=false) (hcall _) (λh=>by cases h) h1;have k1:v'=rJ vs:=bL k1;subst k1;refine⟨vs,H1,λS E bM hr hgl hl=>?_,Eo h3⟩;obtain⟨S',vE,E',a1,a2,a3,a4,_⟩:=k2 S E bM hr hgl hl;exact⟨S',vE,E',fZ hk a1,C9 a2,a3,a4⟩
theorem z6 {X:gU}{kn:Ev.fc}{id:FuncId}(hk:∀args,kn id args=none){call:∀ β,cI β}(hcall:∀ β,cT X (dO X kn) (call β)){an:eD}{rounds:Nat}{args:List AV}{v:AV}
 (h:aT X (call AV) an rounds id args aH.empty (λv _=>some v)=some v):∀(S:Wo) (E:Ev.Mem) (bM:List Value),Rel S aH.empty E->fm X S->LV S args bM ->
 ∃S' vE E',(∃N,∀n:Nat×Nat,N<=n.1/\N<=n.2->dO X kn n id bM E=some (vE,E'))/\VR S' v vE:=by
 obtain⟨v',H1,h1,h2⟩:=kV (nf:=false) (hcall _) (λh=>by cases h) h;cases h1;intro S E bM hr hg hl;obtain⟨S',vE,E',a1,a2,_,_,_⟩:=h2 S E bM hr hg hl;exact⟨S',vE,E',fZ hk a1,a2⟩
theorem ai7 {α:Type}(a b:α):ah true a b=a:=rfl
theorem U9 {α:Type}(a b:α):ah false a b=b:=rfl
end Go.Tv
namespace Go.Tv
open Go.Ev (ah alive aY cF bG)
theorem Zr {X:gU}{w:World}(h:∀g,g<X.G->X.gv g≠[]->∃(cv:List Value) (t:TypeId) (fr:Nat×Nat),w.heap[g]? = some (.cells cv.toArray t fr)/\X.gv g=cv.map Nv/\cF cv=true):fm X (ve w):=λg hg he=>by
 obtain⟨cv,t,fr,h1,h2,h3⟩:=h g hg he;have hlt:g<w.heap.size:=(aD.1 h1).1;obtain⟨_,_,s3⟩:=xH w;have wK:∀v∈cv,bG (Zm w.heap.size) v v:=λv hv=>by
  obtain⟨i,hi⟩:=eB hv;exact Ev.dz v (Ev.oN h3 hi)
 have hb:Ej w g=⟨cv,t,true,false⟩:=by
  unfold Ej;rw[h1];simp only[Ev.jz.mk.injEq,and_true];refine j6 λi=>?_
  rw[cA];cases hi:cv[i]? with
  |none=>simp[hi]
  |some v =>
   have:(cv.toArray.toList)[i]? = some v:=by simpa using hi
   simp only[this,bK];have hno:¬ ∃a,v=Value.slice (some a) 0 0:=λ⟨a,e⟩=>by
    have:=Ev.oN h3 hi;rw[e]at this;cases this
   rw[aa hno,ag (wK v (bg hi))]
 refine⟨cv,?_,λT _=>?_⟩
 .show (alive (Go.Tv.snap w) g).map (·.cells)=some cv
  unfold Ev.alive;rw[s3,ag hlt,hb];rfl
 rw[h2];refine⟨by simp,λj x y hx hy=>?_⟩;rw[cA,hy]at hx;simp only[bK,aq]at hx;subst hx;exact yP (Ev.oN h3 hy)
theorem GA {X:gU}{w:World}{rows:List Ev.jz}(hr:Ev.kU rows w)(h:∀g,g<X.G->X.gv g≠[]->∃b,rows[g]? = some b/\b.live=true/\X.gv g=b.cells.map Nv/\cF b.cells=true):fm X (ve w) :=
 Zr λg hg he=>by
  obtain⟨b,h1,h2,h3,h4⟩:=h g hg he;obtain⟨fr,h5,_⟩:=hr.2 g b h1 h2;exact⟨b.cells,b.elem,fr,h5,h3,h4⟩
end Go.Tv
namespace Go.Tv
open Go.Ev (ah iD)
noncomputable section
variable {β:Type}
def inside:Code->Bool->Code
 |.seq a b,d=>ah d b a
 |.cond _ a b,d=>ah d b a
 |.block _ a,_=>a
 |.loop a,_=>a
 |.scope a,_=>a
 |c,_=>c
def jL (c:Code):List Bool->Code
 |[]=>c
 |d::p=>jL (inside c d) p
def jX (a:mQ):List Bool->mQ
 |[]=>a
 |d::p=>jX (ah d a.r a.l) p
def gZ (keep:List Tmp):List Bool->mQ
 |[]=>.node (some keep) .none .none
 |d::p=>ah d (.node none .none (gZ keep p)) (.node none (gZ keep p) .none)
def Bu (X:gU)(call:cI β)(tr:List Tmp)(J:s8 β)(rounds:Nat):List Bool->Code->mQ->KT β->KT β
 |[],_,_,k=>k
 |false::p,.seq x y,a,k=>Bu X call tr J rounds p x a.l (xU (λf H=>gY X call tr J rounds y a.r f H k) k)
 |true::p,.seq _ y,a,k=>Bu X call tr J rounds p y a.r k
 |false::p,.cond _ x _,a,k=>Bu X call tr J rounds p x a.l k
 |true::p,.cond _ _ y,a,k=>Bu X call tr J rounds p y a.r k
 |_::p,.block id b,a,k=>Bu X call tr J rounds p b a.l (D6 id k)
 |_::p,.scope b,a,k=>Bu X call tr J rounds p b a.l (Bc b J k)
 |_::_,_,_,k=>k
def jf (X:gU)(call:cI β)(an:eD)(rounds:Nat)(id:FuncId)(p:List Bool)(k:AV->aH->Option β)(n:Nat)(f:fF)(H:aH):Option β :=
 match X.P.funcs[id]? with
 |some fn=>match fn.body with
  |some c=>KL (jX an.C3 p) (λf H k=>gY X call an.tr (ng X call an.tr an.ja rounds rounds) rounds (jL c (p++[false])) (jX an.C3 p).l f H k)
   (Bu X call an.tr (ng X call an.tr an.ja rounds rounds) rounds p c an.C3 (pn X fn k)) n f H
  |none=>none
 |none=>none
def ai8 (X:gU)(call:cI β)(an:eD)(rounds:Nat)(id:FuncId)(p:List Bool)(l:Nat)(k:AV->aH->Option β)(n:Nat)(f:fF)(H:aH):Option β :=
 match X.P.funcs[id]? with
 |some fn=>match fn.body with
  |some c=>match findLabel (jL c (p++[false])) l with
   |some rest=>NH X call an.tr an.ja rounds n (jL c (p++[false])) rest f H (Bu X call an.tr (ng X call an.tr an.ja rounds rounds) rounds p c an.C3 (pn X fn k))
   |none=>none
  |none=>none
 |none=>none
def lz (n:Nat)(l:List (Tmp×AV)):fF:=l.foldl (λg q=>g.put (some q.1) q.2) ⟨n,.e⟩
def pz (l:List Row):aH:=l.foldl (λM r=>M.push r) ⟨0,0,0,.e⟩
end
end Go.Tv
namespace Go.Tv
open Go.Ev (ah av bB bI cB eT)
theorem Va (n:Int):IntKind.wrap .i64 n=if n%18446744073709551616<9223372036854775808 then n%18446744073709551616 else n%18446744073709551616-18446744073709551616:=by
 have e:IntKind.wrap .i64 n=if n%(2 ^ 64:Int)>=(2 ^ 63:Int) then n%(2 ^ 64:Int)-(2 ^ 64:Int) else n%(2 ^ 64:Int):=by
  unfold IntKind.wrap;by_cases h:n%(2 ^ 64:Int)>=(2 ^ 63:Int)
  .rw[ag h];exact ag (by show (true&&decide (n%(2 ^ 64:Int)>=(2 ^ 63:Int)))=true;simpa using h)
  rw[aa h];exact aa (by show ¬(true&&decide (n%(2 ^ 64:Int)>=(2 ^ 63:Int)))=true;simp;omega)
 rw[e];split<;>split<;>omega
theorem i64_in {n:Int}(h0 : -9223372036854775808<=n)(h1:n<9223372036854775808):IntKind.wrap .i64 n=n:=by
 rw[Va];split<;>omega
theorem Qb (n:Int):IntKind.wrap .u64 n=n%18446744073709551616:=by
 unfold IntKind.wrap;simp only[IntKind.bits,IntKind.signed,iO,ct,dY];rfl
theorem u64_in {n:Int}(h0:0<=n)(h1:n<18446744073709551616):IntKind.wrap .u64 n=n:=by rw[Qb];omega
theorem aeg (n:Int):IntKind.wrap .u8 n=n%256:=by
 unfold IntKind.wrap;simp only[IntKind.bits,IntKind.signed,iO,ct,dY];rfl
theorem u8_in {n:Int}(h0:0<=n)(h1:n<256):IntKind.wrap .u8 n=n:=by rw[aeg];omega
theorem pL {a b:Int}(h:a<b):bB a b=true:=by rw[cB];simpa using h
theorem fG {a b:Int}(h:b<=a):bB a b=false:=by rw[cB];simpa using h
theorem FL {a b:Int}(h:a=b):bI a b=true:=by rw[eT,h];simp
theorem xI {a b:Int}(h:a≠b):bI a b=false:=by rw[eT];simpa using h
theorem aeh (c:UInt8):0<=cU c:=Int.natCast_nonneg _
theorem aei (c:UInt8):cU c<256:=by have:=c.toNat_lt;unfold cU;simp;omega
theorem Qc (c:UInt8):iU8 (cU c)=c:=by unfold iU8 cU;simp
theorem IU {a b:UInt8}(h:cU a=cU b):a=b:=by rw[<-Qc a,h,Qc]
theorem sy {α:Type}(l:List α)(n:Nat):dX l (n:Int)=l[n]? := rfl
theorem lX {α:Type}(pre r:List α)(c:α):dX (pre++c::r) (pre.length:Int)=some c:=by rw[sy];simp
theorem ee {a b:Nat}(h:a<=b):Nat.ble a b=true:=ek h
theorem Vb {s w:List UInt8}{a n:Nat}(he:(s.drop a).take n=w)(f t:Nat)(ht:t<=n):eA s ((a+f:Nat):Int) ((a+t:Nat):Int)=(w.take t).drop f:=by
 unfold eA;simp only[bh];rw[<-he,o5,oZ,eH,gm ht];congr 1;omega
theorem Zs {a:Int}(h0:0<=a)(h1:a<18446744073709551616)(k:Nat)(hk:k<=64):((BitVec.ofInt 64 a &&& BitVec.ofInt 64 ((2 ^ k-1:Nat):Int)).toNat:Int)=a%(2 ^ k:Nat):=by
 obtain⟨n,rfl⟩:∃n:Nat,a=n:=⟨a.toNat,by omega⟩;rw[BitVec.toNat_and,iN,iN,jU,jU];have h2:n%2 ^ 64=n:=gR (by omega);have hp:2 ^ k<=2 ^ 64:=Nat.pow_le_pow_right (by omega) hk;have hpos:0<2 ^ k:=Nat.two_pow_pos k;have h3:(2 ^ k-1)%2 ^ 64=2 ^ k-1:=gR (by omega);rw[h2,h3,Nat.and_two_pow_sub_one_eq_mod];simp
abbrev xX:=FuncId×List (Option Ty)×(List AV->Option (Bool×List fN))
noncomputable def Tw (l:List xX):Tu:=λf=>List.rec (motive:=λ_=>Option (List (Option Ty)×(List AV->Option (Bool×List fN)))) none (λe _ r=>ah (Nat.beq f e.1) (some e.2) r) l
def jx (X:gU)(cf:Nat×Nat->Ev.cH)(l:List xX):Prop:=∀id sig g,Tw l id=some (sig,g)->dh X cf id g
theorem jx.nil {X:gU}{cf:Nat×Nat->Ev.cH}:jx X cf []:=λ_ _ _ h=>by cases h
theorem jx.cons {X:gU}{cf:Nat×Nat->Ev.cH}{f:FuncId}{sig:List (Option Ty)}{g:List AV->Option (Bool×List fN)}{l:List xX}(h:dh X cf f g)(t:jx X cf l):jx X cf ((f,sig,g)::l):=λid sig' g' hk=>by
 have hk:ah (Nat.beq id f) (some (sig,g)) (Tw l id)=some (sig',g'):=hk;cases hb:Nat.beq id f with
 |true =>
  rw[hb]at hk;have he:id=f:=aZ hb;have hk:(sig,g)=(sig',g'):=bL hk;cases hk;rw[he];exact h
 |false=>rw[hb]at hk;exact t id sig' g' hk
noncomputable def yh {α:Type}(n a b:Int)(x y:α):α:=ah (!bB n a) (ah (!bB b n) x y) y
theorem Ep {α:Type}(n a b:Int)(x y:α):yh n a b x y=if a<=n/\n<=b then x else y:=by
 unfold yh;simp only[av,cB,aS,bH];by_cases h1:n<a
 .rw[aa (by simpa using h1),aa (by omega)]
 rw[ag h1];by_cases h2:b<n
 .rw[aa (by simpa using h2),aa (by omega)]
 rw[ag h2,ag (by omega)]
theorem cG {α:Type}(a b:Int)(x y:α):ah (bB a b) x y=if a<b then x else y:=by rw[av,cB];simp
theorem jM {α:Type}(a b:Int)(x y:α):ah (!bB a b) x y=if b<=a then x else y:=by
 rw[av,cB];by_cases h:a<b
 .rw[aa (by simpa using h),aa (by omega)]
 rw[ag (by simpa using h),ag (by omega)]
theorem ck {α:Type}(a b:Int)(x y:α):ah (bI a b) x y=if a=b then x else y:=by rw[av,eT];simp
theorem cX {α:Type}(a b:Int)(x y:α):ah (!bI a b) x y=if a=b then y else x:=by
 rw[av,eT];by_cases h:a=b
 .rw[aa (by simpa using h),ag h]
 rw[ag (by simpa using h),aa h]
end Go.Tv
namespace Go.Tv
open Go.Ev (Tr ah iD Mem jz alive av dD jl Fr bG Ren)
end Go.Tv
namespace Go.Tv
open Go.Ev (bG)
open Go.WideShapes Go.Deep
variable {H:Type} {enc:TypeId×Value->H} {P:Program} {w:World} {base:Nat} {sp:Nat->Bool} {held:Bool}
end Go.Tv
namespace Go.Tv
variable {β:Type}
noncomputable def z9:mQ->mQ
 |.node _ l r=>.node none l r
 |a=>a
noncomputable def codeFrom (X:gU)(call:cI β)(an:eD)(rounds:Nat)(id:FuncId)(p:List Bool)(k:AV->aH->Option β)(f:fF)(H:aH):Option β :=
 match X.P.funcs[id]? with
 |some fn=>match fn.body with
  |some c=>gY X call an.tr (ng X call an.tr an.ja rounds rounds) rounds (jL c p) (z9 (jX an.C3 p)) f H (Bu X call an.tr (ng X call an.tr an.ja rounds rounds) rounds p c an.C3 (pn X fn k))
  |none=>none
 |none=>none
end Go.Tv
namespace Go.Tv
def qt:mQ->mQ->mQ
 |.none,b=>b
 |.node o l r,.none=>.node o l r
 |.node o l r,.node o' l' r'=>.node (match o with|some x=>some x|none=>o') (qt l l') (qt r r')
end Go.Tv
namespace Go.Tv
open Go.Ev
theorem EA {X:gU}{kn:Ev.fc}{f:FuncId}{g:List AV->Option (Bool×List fN)}
 (h:∀args' rs,g args'=some (true,rs)->∃v u vE uE,rs=[.val v,.val u]/\ue v=true/\ue u=true/\(∀S,VR S v vE)/\(∀S,VR S u uE)/\∀S bM,LV S args' bM->kn f bM=some (.tuple #[vE,uE])/\Ev.cF bM=true/\Ev.aY (.tuple #[vE,uE])=true):dh X (dO X kn) f g:=by
 intro args' rs hg;obtain⟨v,u,vE,uE,rfl,hs,hs2,hv,hu,hkn⟩:=h args' rs hg;refine⟨[v,u],aH.empty,λS E bM hr hgl hl=>?_,⟨rfl,hs,rfl,hs2,trivial⟩⟩;obtain⟨k1,k2,k3⟩:=hkn S bM hl;refine⟨S,.tuple #[vE,uE],E,⟨1,λn hn=>?_⟩,⟨[vE,uE],rfl,LV.cons (hv S) (LV.cons (hu S) LV.nil)⟩,hr,Bm.refl _ _ _⟩;obtain⟨R,D⟩:=n;obtain⟨D',rfl⟩:∃D',D=D'+1:=⟨D-1,by have:=hn.2;simp only at this;omega⟩;show Ev.nK X.P X.G kn R (D'+1) f bM E=_;rw[Ev.lS,k1];simp only[k2,k3,nA,fD]
end Go.Tv
namespace Go.Tv
open Go.Ev
noncomputable section
variable {β:Type}
def VS:Code->List Bool->Code
 |.seq x y,true::p=>.seq x (VS y p)
 |_,_=>.skip
def Aa:Code->List Bool->Bool
 |.seq _ y,true::p=>Aa y p
 |.seq _ _,[]=>true
 |_,_=>false
theorem y6 (X:gU)(call:cI β)(tr:List Tmp)(J:s8 β)(rounds:Nat):∀(p:List Bool) (c:Code),Aa c p=true->∀(a:mQ) (f:fF) (H:aH) (k:KT β),
 gY X call tr J rounds c a f H k=gY X call tr J rounds (VS c p) a f H (xU (λf H=>gY X call tr J rounds (jL c p) (jX a p) f H k) k)
 |[],c,h,a,f,H,k=>by
  cases c<;>first|(cases h;done)|rfl
 |false::p,c,h,a,f,H,k=>by cases c<;>cases h
 |true::p,c,h,a,f,H,k=>by
  cases c with
  |seq x y =>
   have ih:=y6 X call tr J rounds p y h;show Cd a f H (λf H=>gY X call tr J rounds x a.l f H (xU (λf H=>gY X call tr J rounds y a.r f H k) k)) =
    Cd a f H (λf H=>gY X call tr J rounds x a.l f H (xU (λf H=>gY X call tr J rounds (VS y p) a.r f H (xU (λf H=>gY X call tr J rounds (jL y p) (jX a.r p) f H k) k)) (xU (λf H=>gY X call tr J rounds (jL y p) (jX a.r p) f H k) k)))
   congr 1
   funext f H
   congr 1
   funext lv f H
   cases lv with
   |normal=>exact ih a.r f H k
   |exit id=>rfl
   |ret=>rfl
   |goto l=>rfl
  |_=>cases h
theorem BC (X:gU)(call:cI β)(tr:List Tmp)(J:s8 β)(rounds:Nat):∀(p:List Bool) (c:Code),Aa c p=true->∀(a:mQ) (f:fF) (H:aH) (k:KT β),
 gY X call tr J rounds (jL c p) (jX a p) f H k=Cd (jX a p) f H λf H=>gY X call tr J rounds (jL c p) (z9 (jX a p)) f H k
 |[],c,h,a,f,H,k=>by
  cases c with
  |seq x y =>
   cases a with
   |none=>rfl
   |node o l r=>rfl
  |_=>cases h
 |false::p,c,h,a,f,H,k=>by cases c<;>cases h
 |true::p,c,h,a,f,H,k=>by
  cases c with
  |seq x y=>exact BC X call tr J rounds p y h a.r f H k
  |_=>cases h
theorem Da (X:gU)(call:cI β)(tr:List Tmp)(J:s8 β)(rounds:Nat):∀(p:List Bool) (c:Code),Aa c p=true->∀(a:mQ) (k:KT β),Bu X call tr J rounds p c a k=k
 |[],c,_,a,k=>by cases c<;>rfl
 |false::p,c,h,a,k=>by cases c<;>cases h
 |true::p,c,h,a,k=>by
  cases c with
  |seq x y=>exact Da X call tr J rounds p y h a.r k
  |_=>cases h
def ZM (X:gU)(call:cI β)(an:eD)(rounds:Nat)(id:FuncId)(p:List Bool)(args:List AV)(H:aH)(k:AV->aH->Option β)(K:fF->aH->Option β):Option β :=
 match X.P.funcs[id]? with
 |some fn=>match fn.body with
  |some c=>ah (Nat.ble args.length fn.ntmps)
   (gY X call an.tr (ng X call an.tr an.ja rounds rounds) rounds (VS c p) an.C3 ((fF.mk fn.ntmps .e).fill 0 args) H (xU (λf H=>Cd (jX an.C3 p) f H K) (pn X fn k))) none
  |none=>none
 |none=>none
def Qo (X:gU)(id:FuncId)(p:List Bool):Bool :=
 match X.P.funcs[id]? with
 |some fn=>match fn.body with
  |some c=>Aa c p
  |none=>false
 |none=>false
theorem EB {X:gU}{call:cI β}{an:eD}{rounds:Nat}{id:FuncId}{p:List Bool}(hp:Qo X id p=true)(args:List AV)(H:aH)(k:AV->aH->Option β) :
 aT X call an rounds id args H k=ZM X call an rounds id p args H k (codeFrom X call an rounds id p k):=by
 unfold Qo at hp;unfold aT ZM;cases hf:X.P.funcs[id]? with
 |none=>rfl
 |some fn =>
  rw[hf]at hp;simp only at hp ⊢;cases hb:fn.body with
  |none=>rfl
  |some c =>
   rw[hb]at hp;simp only at hp ⊢;rw[y6 X call an.tr _ rounds p c hp];have e:(λf H=>gY X call an.tr (ng X call an.tr an.ja rounds rounds) rounds (jL c p) (jX an.C3 p) f H (pn X fn k)) =
    λf H=>Cd (jX an.C3 p) f H (codeFrom X call an rounds id p k):=by
    funext f H
    rw[BC X call an.tr _ rounds p c hp];congr 1
    funext f H
    unfold codeFrom;rw[hf];simp only;rw[hb];simp only;rw[Da X call an.tr _ rounds p c hp]
   rw[e]
end
end Go.Tv

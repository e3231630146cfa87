/- What the layer answers the machine's call answers. Calls by contracts, or by the callee's own text. Contracts that are shown by runs alone: what a run leaves, told by a reckoning. Package-level variables that read as given data, for the symbolic layer. Loops over what is known by terms alone: a loop of a function's code as a function of its rounds and of the slots that are kept at its head. Numbers, bytes and lists: lemmas for what runs of the symbolic layer come to. Slices that came in, as lists. Slices of plain data that came in, as lists. A function from a place of its code on; notes at several places; contracts of two results that are known already. -/
import Derived.Test.YtbeckacfibledaaGreatDoorLyf
import Derived.Test.YtbeckacfibledaaGreatDoorLyc
import Derived.Deep.Slices
import Derived.WideShapes
set_option linter.unusedVariables false
set_option linter.unusedSimpArgs false

namespace Go.Tv
open Go.Ev (Tr ah iG Mem jC alive au dF jn Fr bG Ren)
open Go.RowKit
theorem Dh {S:Wo}{vs:List AV}{x:Value}(h:VR S (rH vs) x):∃xs,x=Ev.wg xs/\LV S vs xs:=by
 match vs,h with
 |[],h =>
  have h:VR S (.fG []) x:=h;cases h with
  |fG _ m hl hv =>
   have:m=[]:=aQ.1 hl.symm;subst this;exact⟨[],rfl,LV.nil⟩
 |[v],h=>exact⟨[x],rfl,LV.cons h LV.nil⟩
 |v::w::vs,h =>
  have h:VR S (.fG (v::w::vs)) x:=h;cases h with
  |fG _ m hl hv =>
   match m,hl,hv with
   |a::b::m,hl,hv=>exact⟨a::b::m,rfl,⟨hl,hv⟩⟩
def ZQ (n:Nat):Ren:=λi=>if i<n then some (i,0) else none
open Classical in
noncomputable def Er (w:World)(i:Nat):jC :=
 match w.heap[i]? with
 |some (.cells C t _)=>⟨C.toList.map λv=>if ∃a,v = .slice (some a) 0 0 then Ev.vd else if bG (ZQ w.heap.size) v v then v else .chan none,t,true,false⟩
 |_=>⟨[],0,false,false⟩
theorem Ab:∀(l:List jC) (H:Mem),∃H',H.uR l=some H'
 |[],H=>⟨_,rfl⟩
 |b::l,H=>by
  obtain⟨H1,h1⟩:=Mem.lV H b;obtain⟨H2,h2⟩:=Ab l H1;exact⟨H2,by simp only[Ev.Mem.uR,h1,h2]⟩
noncomputable def snap (w:World):Mem:=(Mem.uR Mem.empty ((List.range w.heap.size).map (Er w))).getD Mem.empty
theorem xS (w:World):(snap w).size=w.heap.size/\(snap w).lk=w.heap.size/\∀i,(snap w).get i=if i<w.heap.size then some (Er w i) else none:=by
 obtain⟨H',h⟩:=Ab ((List.range w.heap.size).map (Er w)) Mem.empty;obtain⟨h1,h2,h3⟩:=Ev.wF _ h;have e:snap w=H':=by unfold snap;rw[h];rfl
 rw[e];have hs:H'.size=w.heap.size:=by rw[h1];simp[Mem.empty]
 refine⟨hs,by rw[h2,hs],λi=>?_⟩;rw[h3,aa (by simp[Mem.empty])];simp only[Mem.empty,Nat.sub_zero];by_cases hi:i<w.heap.size
 .rw[ag hi];simp[hi]
 rw[aa hi];simp;omega
theorem Vv (P:Program)(w:World)(G:Nat)(hG:G<=w.heap.size):Ev.ei ⟨P,w.heap.size,w.heap.size,G,w,λ_=>none⟩ (ZQ w.heap.size) (snap w) w:=by
 obtain⟨s1,s2,s3⟩:=xS w;have ac0:∀{i:Nat} {b:Ev.jC},(snap w).get i=some b->Ev.iN b=false:=by
  intro i b hi;rw[s3]at hi;split at hi
  .cases hi;unfold Er;split<;>rfl
  cases hi
 refine⟨⟨Below.refl _ _,λr o h=>by cases h⟩,aC _,λi x h=>?_,by rw[s2];exact aC _,by rw[s1];exact aC _,λg hg=>ag (ct hg hG),λi b hi hl=>?_,λi j bi bj r x y hi _ hj _ hr hr'=>?_,λi b hi hm=>(by rw[ac0 hi]at hm;cases hm),λi j bi bj r x y hi hm=>(by rw[ac0 hi]at hm;cases hm)⟩
 .rw[s1];unfold ZQ at h;split at h
  .assumption
  cases h
 .rw[s3]at hi;split at hi
  .rename_i hlt;cases hi;unfold Er at hl ⊢;split at hl
   .rename_i C t fr hC;refine⟨i,0,C,fr,0,ag hlt,.inl ⟨hlt,rfl⟩,hC,.inl hlt,⟨.inl hlt,λ_=>rfl⟩,by simp,⟨by simp,λj v hv hj=>?_⟩,.inl hlt⟩;simp only[cz,aL]at hv;obtain⟨u,hu,rfl⟩:=hv;split at hj
    .rename_i wR;rw[ag wR];obtain⟨a,rfl⟩:=wR;exact⟨_,by simpa using hu,.void a⟩
    rename_i hno;rw[aa hno];split at hj
    .rename_i wR;rw[ag wR];exact⟨u,by simpa using hu,wR⟩
    cases hj
   cases hl
  cases hi
 unfold ZQ at hr hr';split at hr
 .split at hr'
  .cases hr;cases hr';rfl
  cases hr'
 cases hr
noncomputable def vi (w:World):Wo:=⟨oL (snap w),λ_=>none,λ_ _=>none⟩
theorem Vw (w:World):Rel (vi w) aG.empty (snap w):=BA _ _ (λi cs hi=>by
 have hi:(alive (snap w) i).map (·.cells)=some cs:=hi
 simp only[aL]at hi;obtain⟨b,h1,h2⟩:=hi;exact⟨b,h1,h2⟩) (by obtain⟨s1,s2,_⟩:=xS w;omega)
def ae0:AV->Bool
 |.dH _ _=>true
 |v=>ug v
theorem Vx {w:World}{a:AV}{x:Value}(ha:ae0 a=true)(hvd:x≠Ev.vd)(h:VR (vi w) a x):bG (ZQ w.heap.size) x x:=by
 have one:∀(v:AV) (y:Value),(match v with | .int _ _=>true | .bool _=>true | .str _=>true | .p6 _=>true | .dG=>true | .nX=>true|_=>false)=true->VR (vi w) v y->bG (ZQ w.heap.size) y y:=by
  intro v y hv h;cases h<;>first|(cases hv;done)|constructor
 cases h with
 |dH e l v hS =>
  rcases hS with⟨_,rfl|rfl⟩|⟨i,pre,mid,post,cap,rfl,hF,_⟩
  .exact .l9 _ _
  .exact absurd rfl hvd
  have hF:(alive (snap w) i).map (·.cells)=some (pre++(mid++post)):=hF
  have hi:i<w.heap.size:=by
   cases ha:alive (snap w) i with
   |none=>rw[ha]at hF;cases hF
   |some b=>have:=kX ha;rw[(xS w).1]at this;exact this
  exact .slice i _ _ _ i 0 (ag hi)
 |agg l m hl hm =>
  refine .agg _ _ rfl λj a b h1 h2=>?_
  rw[h1]at h2;cases h2;have hlt:j<m.length:=by have:=(aB.1 h1).1;simpa using this
  have hj:m[j]? = some a:=by simpa using h1
  have ua:j<l.length:=by omega
  have:=aK.1 ha l[j] (je ua);exact one l[j] a this (hm j l[j] a (aP ua) hj)
 |int=>exact .int _ _
 |bool=>exact .bool _
 |str=>exact .string _
 |p6=>exact .float _ _
 |dG=>exact .l9 _ _
 |nX=>exact .wh
 |_=>cases ha
theorem ZR {X:gY}(hno:Ev.iX X.P)(hm:X.P.follows .mixedOrders=true){kn:Ev.fc}{GR:List Ev.jC}(hK:Ev.ke X.P GR kn){f:FuncId}{args:List AV}{v:AV}{vE:Value}(hv:∀S x,VR S v x->x=vE)(hfree:Ev.aZ vE=true)
 (h:∀(S:Wo) (E:Mem) (bK:List Value),Rel S aG.empty E->fk X S->LV S args bK->∃S' vE E',(∃N,∀n:Nat×Nat,N<=n.1/\N<=n.2->dR X kn n f bK E=some (vE,E'))/\VR S' v vE)
 {w:World} (ZS:Ev.kV GR w) (hG:X.G<=w.heap.size) (hg:fk X (vi w)) {args':List Value} (hargs:LV (vi w) args args') (wR:∀x∈args',bG (ZQ w.heap.size) x x) :
 Calls X.P f args'.toArray w λe w'=>e = .returned vE/\Below w.heap.size w w':=by
 obtain⟨S',vE',E',⟨N,h1⟩,h2⟩:=h (vi w) (snap w) args' (Vw w) hg hargs;have hvE:=hv S' vE' h2;subst hvE;have hc:=h1 (N,N) ⟨aC _,aC _⟩;have wR:Ev.LR (bG (ZQ w.heap.size)) args' args':=⟨rfl,λj x y hx hy=>by
  rw[hx]at hy;cases hy;exact wR x (bh hx)⟩
 refine(Ev.Qj hno hm hK hc (.inr (by first|assumption|exact hfree)) (c:=⟨X.P,w.heap.size,w.heap.size,X.G,w,λ_=>none⟩) rfl ⟨rfl,ZS,ZS.1⟩ (Vv X.P w X.G hG) wR).mono ?_;rintro e w' ⟨ρ',v',rfl,k1,k2,k3⟩;exact⟨by rw[Ev.lP k2 hfree],k3.below⟩
theorem Qz {X:gY}(hno:Ev.iX X.P)(hm:X.P.follows .mixedOrders=true){kn:Ev.fc}{GR:List Ev.jC}(hK:Ev.ke X.P GR kn){f:FuncId}{args:List AV}{v:AV}{vE:Value}(hv:∀S x,VR S v x->x=vE)(hfree:Ev.aZ vE=true)
 (h:∀(S:Wo) (E:Mem) (bK:List Value),Rel S aG.empty E->fk X S->LV S args bK->∃S' vE E',(∃N,∀n:Nat×Nat,N<=n.1/\N<=n.2->dR X kn n f bK E=some (vE,E'))/\VR S' v vE)
 {w:World} (ZS:Ev.kV GR w) (hG:X.G<=w.heap.size) (hg:fk X (vi w)) {args':List Value} (hargs:LV (vi w) args args') (hb:args.all ae0=true) (hvd:∀x∈args',x≠Ev.vd:=by simp[Ev.vd]) :
 Calls X.P f args'.toArray w λe w'=>e = .returned vE/\Below w.heap.size w w' :=
 ZR hno hm hK hv hfree h ZS hG hg hargs λx hx=>by
  obtain⟨j,hj⟩:=eD hx;have hlt:j<args.length:=by rw[hargs.1];exact eL hj
  exact Vx (aK.1 hb _ (je hlt)) (hvd x hx) (hargs.2 j _ x (aP hlt) hj)
theorem Ja {X:gY}(hno:Ev.iX X.P)(hm:X.P.follows .mixedOrders=true){kn:Ev.fc}(hK:Ev.xO X.P kn){f:FuncId}{args:List AV}{v:AV}{vE:Value}(hv:∀S x,VR S v x->x=vE)(hfree:Ev.aZ vE=true)
 (h:∀(S:Wo) (E:Mem) (bK:List Value),Rel S aG.empty E->fk X S->LV S args bK->∃S' vE E',(∃N,∀n:Nat×Nat,N<=n.1/\N<=n.2->dR X kn n f bK E=some (vE,E'))/\VR S' v vE)
 {w:World} (hG:X.G<=w.heap.size) (hg:fk X (vi w)) {args':List Value} (hargs:LV (vi w) args args') (hb:args.all ae0=true) (hvd:∀x∈args',x≠Ev.vd:=by simp[Ev.vd]) :
 Calls X.P f args'.toArray w λe w'=>e = .returned vE/\Below w.heap.size w w' :=
 Qz hno hm hK hv hfree h (Ev.kV.nil w) hG hg hargs hb hvd
end Go.Tv
namespace Go.Tv
open Go.Ev (Tr ah iG Mem jC alive au dF jn Fr)
noncomputable section
def Vy (H:aG):AV->Option AV
 |.own id _=>match H.get id with
  |some (.list _ e l _ _ _)=>some (.dH e l)
  |_=>none
 |v=>ah (Qw v) (some v) none
def Jb (H:aG):List AV->Option (List AV)
 |[]=>some []
 |v::l=>match Vy H v with
  |some w=>match Jb H l with
   |some m=>some (w::m)
   |none=>none
  |none=>none
def Vz (H:aG):AV->Option AV
 |.agg l=>match Jb H l with
  |some m=>some (.agg m)
  |none=>none
 |_=>none
def normArg (H:aG):Option Ty->AV->Option AV
 |some e,a=>match a with
  |.str _=>none
  |a=>match Ci H e a with
   |some l=>some (.dH e l)
   |none=>none
 |none,a=>ah (Qw a) (some a) (Vz H a)
def normArgs (H:aG):List (Option Ty)->List AV->Option (List AV)
 |[],[]=>some []
 |s::sig,a::args=>match normArg H s a with
  |some b=>match normArgs H sig args with
   |some l=>some (b::l)
   |none=>none
  |none=>none
 |_,_=>none
def tq {β:Type}(sig:List (Option Ty))(g:List AV->Option (Bool×List fy))(args:List AV)(H:aG)(k:AV->aG->Option β):Option β :=
 match normArgs H sig args with
 |some args'=>match g args' with
  |some (c,rs)=>ah c (k (rH (mc rs H).1) (mc rs H).2) none
  |none=>none
 |none=>none
def cZ (X:gY)(cf:Nat×Nat->Ev.cG)(f:FuncId)(g:List AV->Option (Bool×List fy)):Prop :=
 ∀args' rs,g args'=some (true,rs)->∃vs H1,Oo X cf f args' vs H1/\tn H1 [] vs rs
abbrev T3:=FuncId->Option (List (Option Ty)×(List AV->Option (Bool×List fy)))
def Co {β:Type}(X:gY)(args:List AV)(H:aG)(k:AV->aG->Option β):Option β :=
 match args with
 |[.dG]=>k (.fG []) H
 |[.own i _]=>match H.get i with
  |some (.list t (.int .u8) l _ _ false)=>ah (H.nH i&&Ev.Ia X.P t&&Nat.ble 1 l.length) (k (.fG []) (H.put i .dead)) none
  |_=>none
 |_=>none
def sy (X:gY)(K:T3)(inl:FuncId->Bool)(rounds:Nat)(β:Type):Nat->cH β :=
 λn=>Nat.rec (motive:=λ_=>cH β) (λ_ _ _ _=>none)
  (λ_ go id args H k=>ah (X.kl id) (Co X args H k) (match K id with
   |some (sig,g)=>tq sig g args H k
   |none=>ah (inl id) (aT X go ⟨.none,.none,X.trs id⟩ rounds id args H k) none)) n
def GM (e:Ty):AV->Option (List e.den)
 |.dH e' l=>iu e' e l
 |_=>none
end
theorem iy {e:Ty}{a:AV}{l:List e.den}(h:GM e a=some l):a = .dH e l:=by
 unfold GM at h;split at h
 .obtain ⟨he,hc⟩:=bS h;subst he;have hc:_=l:=hc;rw[<-hc]
 cases h
theorem Oq {H:aG}{v w:AV}(h:Vy H v=some w):Ep H v w:=by
 unfold Vy at h;split at h
 .rename_i id n;split at h
  .rename_i t e l gw ex ro hg;cases h;refine .inr ⟨e,l,rfl,?_,λs hs=>by cases hs⟩;show (match H.get id with
    |some (.list _ e' l' _ _ _)=>iu e' e l'
    |_=>none)=some l
   rw[hg];unfold iu;simp
  cases h
 rw[au]at h;split at h
 .rename_i hs;cases h;exact .inl ⟨rfl,hs⟩
 cases h
theorem Cp {H:aG}:∀{l m:List AV},Jb H l=some m->l.length=m.length/\∀(j:Nat) x y,l[j]? = some x->m[j]? = some y->Ep H x y
 |[],m,h=>by cases h;exact⟨rfl,λj x y hx=>by simp at hx⟩
 |v::l,m,h=>by
  unfold Jb at h;split at h
  .rename_i w hw;split at h
   .rename_i m' hm;cases h;obtain⟨h1,h2⟩:=Cp hm;refine⟨by simp[h1],λj x y hx hy=>?_⟩;cases j with
    |succ j=>exact h2 j x y (by simpa using hx) (by simpa using hy)
    |zero=>simp at hx hy;subst hx;subst hy;exact Oq hw
   cases h
  cases h
theorem Ot {H:aG}{a b:AV}(h:Vz H a=some b):Qx H a b:=by
 unfold Vz at h;split at h
 .rename_i l;split at h
  .rename_i m hm;cases h;obtain⟨h1,h2⟩:=Cp hm;exact .inr ⟨l,m,rfl,rfl,h1,h2⟩
  cases h
 cases h
theorem yx {H:aG}:∀{sig:List (Option Ty)} {args args':List AV},normArgs H sig args=some args'->args.length=args'.length/\∀(j:Nat) a b,args[j]? = some a->args'[j]? = some b->Qx H a b
 |[],[],args',h=>by cases h;exact⟨rfl,λj a b ha=>by simp at ha⟩
 |[],_::_,args',h=>by cases h
 |_::_,[],args',h=>by cases h
 |s::sig,a::args,args',h=>by
  unfold normArgs at h;split at h
  .rename_i b hb;split at h
   .rename_i l hl;cases h;obtain⟨h1,h2⟩:=yx hl;refine⟨by simp[h1],λj x y hx hy=>?_⟩;cases j with
    |succ j=>exact h2 j x y (by simpa using hx) (by simpa using hy)
    |zero =>
     simp at hx hy;subst hx;subst hy;unfold normArg at hb;split at hb
     .split at hb
      .cases hb
      rename_i e _ hne;split at hb
      .rename_i l' hl';cases hb;exact .inl (.inr ⟨_,l',rfl,hl',λs hs=>hne s hs⟩)
      cases hb
     rw[au]at hb;split at hb
     .rename_i hs;cases hb;exact .inl (.inl ⟨rfl,hs⟩)
     exact Ot hb
   cases h
  cases h
section
variable {X:gY} {cf:Nat×Nat->Ev.cG}
theorem za {β:Type}{f:FuncId}{sig:List (Option Ty)}{g:List AV->Option (Bool×List fy)}(hc:cZ X cf f g){args:List AV}{H:aG}{k:AV->aG->Option β}{r:β}(h:tq sig g args H k=some r):∃v H',k v H'=some r/\I1 X cf f args H v H':=by
 unfold tq at h;split at h
 .rename_i args' ha;split at h
  .rename_i c rs hg;rw[au]at h;split at h
   .rename_i hc';subst hc';obtain⟨vs,H1,h1,h2⟩:=hc args' rs hg;obtain⟨l1,l2⟩:=yx ha;exact⟨_,_,h,h1.aom h2 l1 l2⟩
   cases h
  cases h
 cases h
def ae1 (X:gY)(kn:Ev.fc):Prop:=∀id,X.kl id=true->kn id Ev.pF=some (.tuple #[])/\kn id [.slice none 0 0]=some (.tuple #[])/\∀i n c,kn id [.slice (some ⟨i,0,none⟩) n c]=none
theorem mN.u8s {F:Nat->Option (List Value)}:∀{l:List (Ty.den (.int .u8))} {cs:List Value},mN (CR F (.int .u8)) l cs->cs.all Ev.Kg=true
 |[],cs,h=>by
  have:cs=[]:=h;subst this;rfl
 |x::l,cs,h=>by
  obtain⟨c1,c2,rfl,h1,h2⟩:=h;have h1:c1=[.int .u8 x]:=h1;subst h1;simp only[fO,eR,bW,mN.u8s h2,kK];rfl
theorem LV.single {S:Wo}{a:AV}{l:List Value}(h:LV S [a] l):∃x,l=[x]/\VR S a x:=by
 match l,h with
 |[x],h=>exact⟨x,rfl,h.2 0 a x rfl rfl⟩
 |[],h=>exact absurd h.1 (by simp)
 |_::_::_,h=>exact absurd h.1 (by simp)
theorem Es {kn:Ev.fc}{f:FuncId}(hk:kn f Ev.pF=some (.tuple #[])/\kn f [.slice none 0 0]=some (.tuple #[])/\∀i n c,kn f [.slice (some ⟨i,0,none⟩) n c]=none){β:Type}{args:List AV}{H:aG}{k:AV->aG->Option β}{r:β}(h:Co X args H k=some r) :
 ∃v H',k v H'=some r/\I1 X (dR X kn) f args H v H':=by
 obtain⟨k1,k2,k3⟩:=hk;unfold Co at h;split at h
 .refine ⟨_,_,h,λS E bK hr hg hl=>?_⟩;obtain⟨x,rfl,hx⟩:=LV.single hl;cases hx;refine⟨S,.tuple #[],E,⟨1,λn hn=>?_⟩,S.le_refl,.fG [] [] rfl (λj x y hx=>by simp at hx),hr,St.refl _ _ _⟩;obtain⟨R,D⟩:=n;obtain⟨D',rfl⟩:∃D',D=D'+1:=⟨D-1,by have:=hn.2;simp only at this;omega⟩;show Ev.nK X.P X.G kn R (D'+1) f _ E=_;rw[Ev.lU,k2];rfl
 .rename_i id n0;split at h
  .rename_i t l gw ex J8;rw[au]at h;split at h
   .rename_i hc;simp only[ak]at hc;obtain⟨⟨hmay,hu8⟩,h1⟩:=hc;have h1:=ay h1;refine⟨_,_,h,λS E bK hr hg hl=>?_⟩;obtain⟨x,rfl,hx⟩:=LV.single hl;obtain⟨q1,⟨q2,g2,q3,q4⟩,q5⟩:=hr.row id _ J8;cases hx with
    |own _ _ i c s hρ g hg' hn =>
     rw[q3]at hg';cases hg';rcases q5 with⟨q5,_,_⟩|⟨i',cap',b,mid,post,e1,e2,e3,e4,e5,e6,e7,e8,e9,e10⟩
     .rw[q5]at h1;simp at h1
     rw[hρ]at e1;cases e1;have hmay':H.lk<=id:=by simpa[aG.nH,bt] using hmay
     have hlk:=hr.lk id _ _ J8 hmay' hρ;obtain⟨E1,hE1⟩:=Mem.iW (b:={ b with live:=false,fix:=false }) (kX e2) hlk;have fe:Ev.kill E i=some E1:=by unfold Ev.kill;rw[(dF e2).1];exact hE1
     obtain⟨z1,z2,z3,z4,z5⟩:=Ev.nF fe;obtain⟨m1,m2⟩:=hr.mod (S':=S) (E':=E1) (r':=.dead) J8 rfl S.le_refl rfl (λ_ _ _=>rfl) z1 z2 (λj hj=>z4 j (hj _ hρ)) (λj cs h=>.inl h) (λq hq=>by cases hq);refine⟨S,.tuple #[],E1,⟨1,λn hn'=>?_⟩,S.le_refl,.fG [] [] rfl (λj x y hx=>by simp at hx),m1,m2⟩;obtain⟨R,D⟩:=n;obtain⟨D',rfl⟩:∃D',D=D'+1:=⟨D-1,by have:=hn'.2;simp only at this;omega⟩;show Ev.nK X.P X.G kn R (D'+1) f _ E=_;rw[Ev.lU,k3];obtain⟨l2,CI⟩:=e10.2;have hall:b.cells.all Ev.Kg=true:=by rw[e4,jG,e5.u8s,CI.u8s];rfl
     have hsz:(Ty.int .u8).size=1:=rfl;rw[hsz,Nat.mul_one]at e6;have hks:Ev.oF X.P kn f [.slice (some ⟨i,0,none⟩) n0 c] E=some (.tuple #[],E1):=by
      unfold Ev.oF;simp only[k1,e2];rw[au,ag]
      .simp only[fe]
      rw[hall,e3,hu8];have a1:n0<=c:=by rw[<-hn,q4];exact e7
      simp only[kK,ak];exact⟨⟨⟨rfl,eo a1⟩,by rw[aO];exact e6⟩,eo e8⟩
     show Ev.nD (Ev.oF X.P kn f _ E) _=_;rw[hks];rfl
    |fZ _ g hg' hn =>
     rw[q3]at hg';cases hg';omega
   cases h
  cases h
 cases h
theorem lp {kn:Ev.fc}{K:T3}{inl:FuncId->Bool}(hK:∀id sig g,K id=some (sig,g)->cZ X (dR X kn) id g)(hi:∀id,inl id=true->∀args,kn id args=none)(rounds:Nat)(n:Nat)(β:Type) (hkl:ae1 X kn:=by exact λ_ h=>Bool.noConfusion (show false=true from h)):cX X (dR X kn) (sy X K inl rounds β n):=by
 induction n with
 |zero=>exact λf args H k r h=>by cases h
 |succ n ih =>
  intro f args H k r h;have h:ah (X.kl f) (Co X args H k) (match K f with
   |some (sig,g)=>tq sig g args H k
   |none=>ah (inl f) (aT X (sy X K inl rounds β n) ⟨.none,.none,X.trs f⟩ rounds f args H k) none)=some r:=h
  rw[au]at h;split at h
  .rename_i hf;exact Es (hkl f hf) h
  split at h
  .rename_i sig g hk;exact za (hK f sig g hk) h
  rw[au]at h;split at h
  .rename_i hin;obtain⟨v,H',h1,h2⟩:=kW (nf:=true) ih (λ_=>⟨rfl,rfl⟩) h;refine⟨v,H',h1,λS E bK hr hg hl=>?_⟩;obtain⟨S',vE,E',a1,a2,a3,a4,a5⟩:=h2 S E bK hr hg hl;exact⟨S',vE,E',gb (hi f hin) a1,(a5 rfl).1,a2,a3,(a5 rfl).2⟩
  cases h
theorem ae2 {kn:Ev.fc}{f:FuncId}(hk:∀args,kn f args=none){g:List AV->Option (Bool×List fy)}{call:∀ β,cH β}(hcall:∀ β,cX X (dR X kn) (call β))
 (h:∀args' rs,g args'=some (true,rs)->∃vs H1 an rounds,aT X (call (AV×aG)) an rounds f args' aG.empty (λv H=>some (v,H))=some (rH vs,H1)/\tn H1 [] vs rs):cZ X (dR X kn) f g:=by
 intro args' rs hg;obtain⟨vs,H1,an,rounds,h1,h2⟩:=h args' rs hg;refine⟨vs,H1,λS E bK hr hgl hl=>?_,h2⟩;obtain⟨S',vE,E',a1,a2,a3,a4⟩:=ZP hk hcall h1 S E bK hr hgl hl;exact⟨S',vE,E',a1,Dh a2,a3,a4⟩
theorem Sw {kn:Ev.fc}{f:FuncId}{g:List AV->Option (Bool×List fy)}
 (h:∀args' rs,g args'=some (true,rs)->∃v vE,rs=[.val v]/\ug v=true/\(∀S,VR S v vE)/\Ev.aZ vE=true/\∀S bK,LV S args' bK->kn f bK=some vE/\Ev.cE bK=true):cZ X (dR X kn) f g:=by
 intro args' rs hg;obtain⟨v,vE,rfl,hs,hv,hfree,hkn⟩:=h args' rs hg;refine⟨[v],aG.empty,λS E bK hr hgl hl=>?_,⟨rfl,hs,trivial⟩⟩;obtain⟨k1,k2⟩:=hkn S bK hl;refine⟨S,vE,E,⟨1,λn hn=>?_⟩,⟨[vE],rfl,LV.cons (hv S) LV.nil⟩,hr,Bu.refl _ _ _⟩;obtain⟨R,D⟩:=n;obtain⟨D',rfl⟩:∃D',D=D'+1:=⟨D-1,by have:=hn.2;simp only at this;omega⟩;show Ev.nK X.P X.G kn R (D'+1) f bK E=_;rw[Ev.lU,k1];simp[k2,hfree]
end
end Go.Tv
namespace Go.Tv
open Go.Ev (ah au bI eF bB cA)
noncomputable section
def ajX:IntKind->IntKind->Bool
 |.i64,.i64=>true
 |.u8,.u8=>true
 |.i32,.i32=>true
 |.u64,.u64=>true
 |.u32,.u32=>true
 |.u16,.u16=>true
 |_,_=>false
def VA:List UInt8->List UInt8->Bool
 |[],[]=>true
 |a::l,b::m=>ah (Nat.beq a.toNat b.toNat) (VA l m) false
 |_,_=>false
def QA:AV->AV->Bool
 |.int k a,.int k' b=>ah (ajX k k') (bI a b) false
 |.bool a,.bool b=>ah a b (!b)
 |.str a,.str b=>VA a b
 |.p6 a,.p6 b=>Nat.beq a b
 |.dG,.dG=>true
 |.nX,.nX=>true
 |_,_=>false
def QB:List AV->List AV->Bool
 |[],[]=>true
 |a::l,b::m=>ah (QA a b) (QB l m) false
 |_,_=>false
def ZT:AV->AV->Bool
 |.agg l,.agg m=>QB l m
 |a,b=>QA a b
def GN:(e:Ty)->e.den->e.den->Bool
 |.int _,a,b=>bI a b
 |.bool,a,b=>ah a b (!b)
 |.str,a,b=>VA a b
 |.p6,a,b=>Nat.beq a b
 |.unit,_,_=>true
 |.sl _,_,_=>false
 |.pair x y,a,b=>ah (GN x a.1 b.1) (GN y a.2 b.2) false
def ZU (e:Ty):List e.den->List e.den->Bool
 |[],[]=>true
 |a::l,b::m=>ah (GN e a b) (ZU e l m) false
 |_,_=>false
def QC (t:TypeId)(e:Ty)(l:List e.den)(room:Bool):Option Row->Bool
 |some (.list t' e' l' _ ex ro)=>ah (Nat.beq t t' && !ro&&(ah room ex true)) (match iu e' e l' with
  |some m=>ZU e m l
  |none=>false) false
 |_=>false
def vk (H:aG):List Nat->List AV->List fy->Bool
 |_,[],[]=>true
 |seen,v::vs,.val w::rs=>ah (ZT v w) (vk H seen vs rs) false
 |seen,.own id n::vs,.list t e l::rs=>ah (e.zW&&Nat.beq n l.length&&QC t e l false (H.get id) && !(seen.any (Nat.beq id))) (vk H (id::seen) vs rs) false
 |seen,.dG::vs,.list _ e l::rs=>ah (e.zW&&l.isEmpty) (vk H seen vs rs) false
 |seen,.rF id off len cap::vs,.room t e l n::rs=>ah (e.zW&&Nat.beq off 0&&Nat.beq len n&&Nat.beq cap l.length&&QC t e l true (H.get id) && !(seen.any (Nat.beq id))) (vk H (id::seen) vs rs) false
 |_,_,_=>false
def leaves (rs:List fy):Option (AV×aG)->Bool
 |some (.fG vs,H)=>ah (Nat.beq vs.length 1) false (vk H [] vs rs)
 |some (v,H)=>vk H [] [v] rs
 |none=>false
end
theorem Sx {a b:IntKind}(h:ajX a b=true):a=b:=by
 cases a<;>cases b<;>first|rfl|cases h
theorem BB:∀{a b:List UInt8},VA a b=true->a=b
 |[],[],_=>rfl
 |[],_::_,h=>by cases h
 |_::_,[],h=>by cases h
 |a::l,b::m,h=>by
  simp only[VA,au,aO]at h;split at h
  .rename_i hab;rw[BB h,jJ.1 hab]
  cases h
theorem Cq {a b:Bool}(h:ah a b (!b)=true):a=b:=by cases a<;>cases b<;>first|rfl|cases h
theorem Et {a b:AV}(h:QA a b=true):a=b/\ug b=true:=by
 unfold QA at h;split at h
 .rw[au]at h;split at h
  .rename_i hk;rw[eF]at h;exact⟨by rw[Sx hk,eK.1 h],rfl⟩
  cases h
 .exact ⟨by rw[Cq h],rfl⟩
 .exact ⟨by rw[BB h],rfl⟩
 .exact ⟨by rw[bf h],rfl⟩
 .exact ⟨rfl,rfl⟩
 .exact ⟨rfl,rfl⟩
 cases h
theorem Eu:∀{l m:List AV},QB l m=true->l=m/\ug (.agg m)=true
 |[],[],_=>⟨rfl,rfl⟩
 |[],_::_,h=>by cases h
 |_::_,[],h=>by cases h
 |a::l,b::m,h=>by
  simp only[QB,au]at h;split at h
  .rename_i hab;obtain⟨rfl,hs⟩:=Eu h;have hab':=hab;obtain⟨rfl,_⟩:=Et hab;refine⟨rfl,?_⟩;unfold ug at hs ⊢;simp only[bW,ak];refine⟨?_,hs⟩;cases a<;>first|rfl|cases hab'
  cases h
theorem Sz {a b:AV}(h:ZT a b=true):a=b/\ug b=true:=by
 unfold ZT at h;split at h
 .obtain ⟨rfl,h2⟩:=Eu h;exact⟨rfl,h2⟩
 exact Et h
theorem zb:∀(e:Ty) {a b:e.den},GN e a b=true->a=b
 |.int _,a,b,h=>by
  have h:bI a b=true:=h;rw[eF]at h;exact eK.1 h
 |.bool,a,b,h=>Cq h
 |.str,a,b,h=>BB h
 |.p6,a,b,h=>bf h
 |.unit,_,_,_=>rfl
 |.sl _,_,_,h=>by cases h
 |.pair x y,a,b,h=>by
  have h:ah (GN x a.1 b.1) (GN y a.2 b.2) false=true:=h;rw[au]at h;split at h
  .rename_i h1;exact Prod.ext (zb x h1) (zb y h)
  cases h
theorem GP (e:Ty):∀{a b:List e.den},ZU e a b=true->a=b
 |[],[],_=>rfl
 |[],_::_,h=>by cases h
 |_::_,[],h=>by cases h
 |a::l,b::m,h=>by
  simp only[ZU,au]at h;split at h
  .rename_i hab;rw[zb e hab,GP e h]
  cases h
theorem Ew {t:TypeId}{e:Ty}{l:List e.den}{room:Bool}{r:Option Row}(h:QC t e l room r=true):∃gw ex,r=some (.list t e l gw ex false)/\(room=true->ex=true):=by
 unfold QC at h;split at h
 .rename_i t' e' l' gw ex ro;rw[au]at h;split at h
  .rename_i hc;simp only[ak,aS,aO]at hc;obtain⟨⟨rfl,rfl⟩,hx⟩:=hc;split at h
   .rename_i m hm;obtain⟨he,hc⟩:=bS hm;subst he;have hc:l'=m:=hc;subst hc;have hl:l'=l:=GP _ h;subst hl;refine⟨gw,ex,rfl,λhr=>?_⟩;subst hr;exact hx
   cases h
  cases h
 cases h
theorem LD {id:Nat}{seen:List Nat}(h:(!(seen.any (Nat.beq id)))=true):id ∉ seen:=λhm=>by
 have:seen.any (Nat.beq id)=true:=jd.2 ⟨id,hm,by rw[aO]⟩;rw[this]at h;cases h
theorem GS {H:aG}:∀{vs:List AV} {rs:List fy} {seen:List Nat},vk H seen vs rs=true->tn H seen vs rs:=by
 intro vs;induction vs with
 |nil =>
  intro rs seen h;cases rs with
  |nil=>trivial
  |cons r rs=>cases r<;>cases h
 |cons v vs ih =>
  intro rs seen h;cases rs with
  |nil=>cases v<;>cases h
  |cons r rs =>
   cases r with
   |val w =>
    have h:ah (ZT v w) (vk H seen vs rs) false=true:=by cases v<;>exact h
    rw[au]at h;split at h
    .rename_i hv;obtain⟨h1,h2⟩:=Sz hv;exact⟨h1,h2,ih h⟩
    cases h
   |list t e l =>
    cases v<;>try (cases h;done)
    .simp only[vk,au]at h;split at h
     .rename_i hc;simp only[ak,gU]at hc;exact⟨hc.1,.inr ⟨rfl,hc.2,ih h⟩⟩
     cases h
    rename_i id n;simp only[vk,au]at h;split at h
    .rename_i hc;simp only[ak,aO]at hc;obtain⟨⟨⟨h1,rfl⟩,h3⟩,h4⟩:=hc;obtain⟨gw,ex,h5,_⟩:=Ew h3;exact⟨h1,.inl ⟨id,gw,ex,rfl,h5,LD h4,ih h⟩⟩
    cases h
   |room t e l len =>
    cases v<;>try (cases h;done)
    rename_i id off n cap;simp only[vk,au]at h;split at h
    .rename_i hc;simp only[ak,aO]at hc;obtain⟨⟨⟨⟨⟨h1,rfl⟩,rfl⟩,rfl⟩,h3⟩,h4⟩:=hc;obtain⟨gw,ex,h5,h6⟩:=Ew h3;have:=h6 rfl;subst this;exact⟨h1,id,gw,rfl,h5,LD h4,ih h⟩
    cases h
theorem LF {rs:List fy}{r:Option (AV×aG)}(h:leaves rs r=true):∃vs H,r=some (rH vs,H)/\tn H [] vs rs:=by
 unfold leaves at h;split at h
 .rename_i vs H;rw[au]at h;split at h
  .cases h
  rename_i hn;refine⟨vs,H,?_,GS h⟩
  match vs,hn with
  |[],_=>rfl
  |[v],hn=>exact absurd rfl hn
  |_::_::_,_=>rfl
 .rename_i v H hv;exact⟨[v],H,rfl,GS h⟩
 cases h
theorem VB {X:gY}{kn:Ev.fc}{f:FuncId}(hk:∀args,kn f args=none){g:List AV->Option (Bool×List fy)}{call:∀ β,cH β}(hcall:∀ β,cX X (dR X kn) (call β))(an:ez)(rounds:Nat)
 (h:∀args rs,g args=some (true,rs)->leaves rs (aT X (call (AV×aG)) an rounds f args aG.empty (λv H=>some (v,H)))=true):cZ X (dR X kn) f g :=
 ae2 hk hcall λargs rs hg=>by
  obtain⟨vs,H,h1,h2⟩:=LF (h args rs hg);exact⟨vs,H,an,rounds,h1,h2⟩
theorem Ex {H:aG}:∀{vs:List AV} {seen:List Nat},vs.all ug=true->tn H seen vs (vs.map .val)
 |[],_,_=>trivial
 |v::vs,seen,h=>by
  simp only[bW,ak]at h;exact⟨rfl,h.1,Ex h.2⟩
theorem cR {X:gY}{kn:Ev.fc}{f:FuncId}(hk:∀args,kn f args=none){g:List AV->Option (Bool×List fy)}{call:∀ β,cH β}(hcall:∀ β,cX X (dR X kn) (call β))
 (h:∀args rs,g args=some (true,rs)->∃vs an rounds,aT X (call AV) an rounds f args aG.empty (λv _=>some v)=some (rH vs)/\rs=vs.map .val/\vs.all ug=true):cZ X (dR X kn) f g:=by
 intro args rs hg;obtain⟨vs,an,rounds,h1,h2,h3⟩:=h args rs hg;subst h2;obtain⟨v',H1,k1,k2⟩:=kW (nf:=false) (hcall _) (λh=>by cases h) h1;have k1:v'=rH vs:=bM k1;subst k1;refine⟨vs,H1,λS E bK hr hgl hl=>?_,Ex h3⟩;obtain⟨S',vE,E',a1,a2,a3,a4,_⟩:=k2 S E bK hr hgl hl;exact⟨S',vE,E',gb hk a1,Dh a2,a3,a4⟩
theorem Ac {X:gY}{kn:Ev.fc}{id:FuncId}(hk:∀args,kn id args=none){call:∀ β,cH β}(hcall:∀ β,cX X (dR X kn) (call β)){an:ez}{rounds:Nat}{args:List AV}{v:AV}
 (h:aT X (call AV) an rounds id args aG.empty (λv _=>some v)=some v):∀(S:Wo) (E:Ev.Mem) (bK:List Value),Rel S aG.empty E->fk X S->LV S args bK ->
 ∃S' vE E',(∃N,∀n:Nat×Nat,N<=n.1/\N<=n.2->dR X kn n id bK E=some (vE,E'))/\VR S' v vE:=by
 obtain⟨v',H1,h1,h2⟩:=kW (nf:=false) (hcall _) (λh=>by cases h) h;cases h1;intro S E bK hr hg hl;obtain⟨S',vE,E',a1,a2,_,_,_⟩:=h2 S E bK hr hg hl;exact⟨S',vE,E',gb hk a1,a2⟩
theorem ajY {α:Type}(a b:α):ah true a b=a:=rfl
theorem ajZ {α:Type}(a b:α):ah false a b=b:=rfl
end Go.Tv
namespace Go.Tv
open Go.Ev (ah alive aZ cE bG)
theorem ZV {X:gY}{w:World}(h:∀g,g<X.G->X.gv g≠[]->∃(cv:List Value) (t:TypeId) (fr:Nat×Nat),w.heap[g]? = some (.cells cv.toArray t fr)/\X.gv g=cv.map N9/\cE cv=true):fk X (vi w):=λg hg he=>by
 obtain⟨cv,t,fr,h1,h2,h3⟩:=h g hg he;have hlt:g<w.heap.size:=(aB.1 h1).1;obtain⟨_,_,s3⟩:=xS w;have wR:∀v∈cv,bG (ZQ w.heap.size) v v:=λv hv=>by
  obtain⟨i,hi⟩:=eD hv;exact Ev.dA v (Ev.oO h3 hi)
 have hb:Er w g=⟨cv,t,true,false⟩:=by
  unfold Er;rw[h1];simp only[Ev.jC.mk.injEq,and_true];refine j5 λi=>?_
  rw[cz];cases hi:cv[i]? with
  |none=>simp[hi]
  |some v =>
   have:(cv.toArray.toList)[i]? = some v:=by simpa using hi
   simp only[this,bL];have hno:¬ ∃a,v=Value.slice (some a) 0 0:=λ⟨a,e⟩=>by
    have:=Ev.oO h3 hi;rw[e]at this;cases this
   rw[aa hno,ag (wR v (bh hi))]
 refine⟨cv,?_,λT _=>?_⟩
 .show (alive (Go.Tv.snap w) g).map (·.cells)=some cv
  unfold Ev.alive;rw[s3,ag hlt,hb];rfl
 rw[h2];refine⟨by simp,λj x y hx hy=>?_⟩;rw[cz,hy]at hx;simp only[bL,aq]at hx;subst hx;exact y4 (Ev.oO h3 hy)
theorem GU {X:gY}{w:World}{rows:List Ev.jC}(hr:Ev.kV rows w)(h:∀g,g<X.G->X.gv g≠[]->∃b,rows[g]? = some b/\b.live=true/\X.gv g=b.cells.map N9/\cE b.cells=true):fk X (vi w) :=
 ZV λg hg he=>by
  obtain⟨b,h1,h2,h3,h4⟩:=h g hg he;obtain⟨fr,h5,_⟩:=hr.2 g b h1 h2;exact⟨b.cells,b.elem,fr,h5,h3,h4⟩
end Go.Tv
namespace Go.Tv
open Go.Ev (ah iG)
noncomputable section
variable {β:Type}
def inside:Code->Bool->Code
 |.seq a b,d=>ah d b a
 |.cond _ a b,d=>ah d b a
 |.block _ a,_=>a
 |.loop a,_=>a
 |.scope a,_=>a
 |c,_=>c
def ku (c:Code):List Bool->Code
 |[]=>c
 |d::p=>ku (inside c d) p
def lC (a:mS):List Bool->mS
 |[]=>a
 |d::p=>lC (ah d a.r a.l) p
def gZ (keep:List Tmp):List Bool->mS
 |[]=>.node (some keep) .none .none
 |d::p=>ah d (.node none .none (gZ keep p)) (.node none (gZ keep p) .none)
def Ey (X:gY)(call:cH β)(tr:List Tmp)(J:tf β)(rounds:Nat):List Bool->Code->mS->KT β->KT β
 |[],_,_,k=>k
 |false::p,.seq x y,a,k=>Ey X call tr J rounds p x a.l (yT (λf H=>iw X call tr J rounds y a.r f H k) k)
 |true::p,.seq _ y,a,k=>Ey X call tr J rounds p y a.r k
 |false::p,.cond _ x _,a,k=>Ey X call tr J rounds p x a.l k
 |true::p,.cond _ _ y,a,k=>Ey X call tr J rounds p y a.r k
 |_::p,.block id b,a,k=>Ey X call tr J rounds p b a.l (Ed id k)
 |_::p,.scope b,a,k=>Ey X call tr J rounds p b a.l (Bi b J k)
 |_::_,_,_,k=>k
def iH (X:gY)(call:cH β)(an:ez)(rounds:Nat)(id:FuncId)(p:List Bool)(k:AV->aG->Option β)(n:Nat)(f:fM)(H:aG):Option β :=
 match X.P.funcs[id]? with
 |some fn=>match fn.body with
  |some c=>Qn (lC an.IU p) (λf H k=>iw X call an.tr (pG X call an.tr an.ja rounds rounds) rounds (ku c (p++[false])) (lC an.IU p).l f H k)
   (Ey X call an.tr (pG X call an.tr an.ja rounds rounds) rounds p c an.IU (qo X fn k)) n f H
  |none=>none
 |none=>none
def aj0 (X:gY)(call:cH β)(an:ez)(rounds:Nat)(id:FuncId)(p:List Bool)(l:Nat)(k:AV->aG->Option β)(n:Nat)(f:fM)(H:aG):Option β :=
 match X.P.funcs[id]? with
 |some fn=>match fn.body with
  |some c=>match findLabel (ku c (p++[false])) l with
   |some rest=>Oj X call an.tr an.ja rounds n (ku c (p++[false])) rest f H (Ey X call an.tr (pG X call an.tr an.ja rounds rounds) rounds p c an.IU (qo X fn k))
   |none=>none
  |none=>none
 |none=>none
def lq (n:Nat)(l:List (Tmp×AV)):fM:=l.foldl (λg q=>g.put (some q.1) q.2) ⟨n,.e⟩
def oY (l:List Row):aG:=l.foldl (λM r=>M.push r) ⟨0,0,0,.e⟩
end
end Go.Tv
namespace Go.Tv
open Go.Ev (ah au bB bI cA eF)
theorem VC (n:Int):IntKind.wrap .i64 n=if n%18446744073709551616<9223372036854775808 then n%18446744073709551616 else n%18446744073709551616-18446744073709551616:=by
 have e:IntKind.wrap .i64 n=if n%(2 ^ 64:Int)>=(2 ^ 63:Int) then n%(2 ^ 64:Int)-(2 ^ 64:Int) else n%(2 ^ 64:Int):=by
  unfold IntKind.wrap;by_cases h:n%(2 ^ 64:Int)>=(2 ^ 63:Int)
  .rw[ag h];exact ag (by show (true&&decide (n%(2 ^ 64:Int)>=(2 ^ 63:Int)))=true;simpa using h)
  rw[aa h];exact aa (by show ¬(true&&decide (n%(2 ^ 64:Int)>=(2 ^ 63:Int)))=true;simp;omega)
 rw[e];split<;>split<;>omega
theorem i64_in {n:Int}(h0 : -9223372036854775808<=n)(h1:n<9223372036854775808):IntKind.wrap .i64 n=n:=by
 rw[VC];split<;>omega
theorem QD (n:Int):IntKind.wrap .u64 n=n%18446744073709551616:=by
 unfold IntKind.wrap;simp only[IntKind.bits,IntKind.signed,iS,cr,ee];rfl
theorem u64_in {n:Int}(h0:0<=n)(h1:n<18446744073709551616):IntKind.wrap .u64 n=n:=by rw[QD];omega
theorem ae3 (n:Int):IntKind.wrap .u8 n=n%256:=by
 unfold IntKind.wrap;simp only[IntKind.bits,IntKind.signed,iS,cr,ee];rfl
theorem u8_in {n:Int}(h0:0<=n)(h1:n<256):IntKind.wrap .u8 n=n:=by rw[ae3];omega
theorem qG {a b:Int}(h:a<b):bB a b=true:=by rw[cA];simpa using h
theorem fH {a b:Int}(h:b<=a):bB a b=false:=by rw[cA];simpa using h
theorem F3 {a b:Int}(h:a=b):bI a b=true:=by rw[eF,h];simp
theorem xT {a b:Int}(h:a≠b):bI a b=false:=by rw[eF];simpa using h
theorem ae4 (c:UInt8):0<=cY c:=Int.natCast_nonneg _
theorem ae5 (c:UInt8):cY c<256:=by have:=c.toNat_lt;unfold cY;simp;omega
theorem QE (c:UInt8):Y4 (cY c)=c:=by unfold Y4 cY;simp
theorem Jc {a b:UInt8}(h:cY a=cY b):a=b:=by rw[<-QE a,h,QE]
theorem uh {α:Type}(l:List α)(n:Nat):dQ l (n:Int)=l[n]? := rfl
theorem lY {α:Type}(pre r:List α)(c:α):dQ (pre++c::r) (pre.length:Int)=some c:=by rw[uh];simp
theorem dS {a b:Nat}(h:a<=b):Nat.ble a b=true:=eo h
theorem VD {s w:List UInt8}{a n:Nat}(he:(s.drop a).take n=w)(f t:Nat)(ht:t<=n):dX s ((a+f:Nat):Int) ((a+t:Nat):Int)=(w.take t).drop f:=by
 unfold dX;simp only[bg];rw[<-he,o9,o7,eJ,gp ht];congr 1;omega
theorem ZW {a:Int}(h0:0<=a)(h1:a<18446744073709551616)(k:Nat)(hk:k<=64):((BitVec.ofInt 64 a &&& BitVec.ofInt 64 ((2 ^ k-1:Nat):Int)).toNat:Int)=a%(2 ^ k:Nat):=by
 obtain⟨n,rfl⟩:∃n:Nat,a=n:=⟨a.toNat,by omega⟩;rw[BitVec.toNat_and,iR,iR,jR,jR];have h2:n%2 ^ 64=n:=gW (by omega);have hp:2 ^ k<=2 ^ 64:=Nat.pow_le_pow_right (by omega) hk;have hpos:0<2 ^ k:=Nat.two_pow_pos k;have h3:(2 ^ k-1)%2 ^ 64=2 ^ k-1:=gW (by omega);rw[h2,h3,Nat.and_two_pow_sub_one_eq_mod];simp
abbrev vW:=FuncId×List (Option Ty)×(List AV->Option (Bool×List fy))
noncomputable def T4 (l:List vW):T3:=λf=>List.rec (motive:=λ_=>Option (List (Option Ty)×(List AV->Option (Bool×List fy)))) none (λe _ r=>ah (Nat.beq f e.1) (some e.2) r) l
def iO (X:gY)(cf:Nat×Nat->Ev.cG)(l:List vW):Prop:=∀id sig g,T4 l id=some (sig,g)->cZ X cf id g
theorem iO.nil {X:gY}{cf:Nat×Nat->Ev.cG}:iO X cf []:=λ_ _ _ h=>by cases h
theorem iO.cons {X:gY}{cf:Nat×Nat->Ev.cG}{f:FuncId}{sig:List (Option Ty)}{g:List AV->Option (Bool×List fy)}{l:List vW}(h:cZ X cf f g)(t:iO X cf l):iO X cf ((f,sig,g)::l):=λid sig' g' hk=>by
 have hk:ah (Nat.beq id f) (some (sig,g)) (T4 l id)=some (sig',g'):=hk;cases hb:Nat.beq id f with
 |true =>
  rw[hb]at hk;have he:id=f:=bf hb;have hk:(sig,g)=(sig',g'):=bM hk;cases hk;rw[he];exact h
 |false=>rw[hb]at hk;exact t id sig' g' hk
noncomputable def yz {α:Type}(n a b:Int)(x y:α):α:=ah (!bB n a) (ah (!bB b n) x y) y
theorem Ez {α:Type}(n a b:Int)(x y:α):yz n a b x y=if a<=n/\n<=b then x else y:=by
 unfold yz;simp only[au,cA,aS,bH];by_cases h1:n<a
 .rw[aa (by simpa using h1),aa (by omega)]
 rw[ag h1];by_cases h2:b<n
 .rw[aa (by simpa using h2),aa (by omega)]
 rw[ag h2,ag (by omega)]
theorem cF {α:Type}(a b:Int)(x y:α):ah (bB a b) x y=if a<b then x else y:=by rw[au,cA];simp
theorem iP {α:Type}(a b:Int)(x y:α):ah (!bB a b) x y=if b<=a then x else y:=by
 rw[au,cA];by_cases h:a<b
 .rw[aa (by simpa using h),aa (by omega)]
 rw[ag (by simpa using h),ag (by omega)]
theorem cq {α:Type}(a b:Int)(x y:α):ah (bI a b) x y=if a=b then x else y:=by rw[au,eF];simp
theorem cw {α:Type}(a b:Int)(x y:α):ah (!bI a b) x y=if a=b then y else x:=by
 rw[au,eF];by_cases h:a=b
 .rw[aa (by simpa using h),ag h]
 rw[ag (by simpa using h),aa h]
end Go.Tv
namespace Go.Tv
open Go.Ev (Tr ah iG Mem jC alive au dF jn Fr bG Ren)
end Go.Tv
namespace Go.Tv
open Go.Ev (bG)
open Go.WideShapes Go.Deep
variable {H:Type} {enc:TypeId×Value->H} {P:Program} {w:World} {base:Nat} {sp:Nat->Bool} {held:Bool}
end Go.Tv
namespace Go.Tv
variable {β:Type}
noncomputable def Af:mS->mS
 |.node _ l r=>.node none l r
 |a=>a
noncomputable def codeFrom (X:gY)(call:cH β)(an:ez)(rounds:Nat)(id:FuncId)(p:List Bool)(k:AV->aG->Option β)(f:fM)(H:aG):Option β :=
 match X.P.funcs[id]? with
 |some fn=>match fn.body with
  |some c=>iw X call an.tr (pG X call an.tr an.ja rounds rounds) rounds (ku c p) (Af (lC an.IU p)) f H (Ey X call an.tr (pG X call an.tr an.ja rounds rounds) rounds p c an.IU (qo X fn k))
  |none=>none
 |none=>none
end Go.Tv
namespace Go.Tv
def vp:mS->mS->mS
 |.none,b=>b
 |.node o l r,.none=>.node o l r
 |.node o l r,.node o' l' r'=>.node (match o with|some x=>some x|none=>o') (vp l l') (vp r r')
end Go.Tv
namespace Go.Tv
open Go.Ev
theorem EI {X:gY}{kn:Ev.fc}{f:FuncId}{g:List AV->Option (Bool×List fy)}
 (h:∀args' rs,g args'=some (true,rs)->∃v u vE uE,rs=[.val v,.val u]/\ug v=true/\ug u=true/\(∀S,VR S v vE)/\(∀S,VR S u uE)/\∀S bK,LV S args' bK->kn f bK=some (.tuple #[vE,uE])/\Ev.cE bK=true/\Ev.aZ (.tuple #[vE,uE])=true):cZ X (dR X kn) f g:=by
 intro args' rs hg;obtain⟨v,u,vE,uE,rfl,hs,hs2,hv,hu,hkn⟩:=h args' rs hg;refine⟨[v,u],aG.empty,λS E bK hr hgl hl=>?_,⟨rfl,hs,rfl,hs2,trivial⟩⟩;obtain⟨k1,k2,k3⟩:=hkn S bK hl;refine⟨S,.tuple #[vE,uE],E,⟨1,λn hn=>?_⟩,⟨[vE,uE],rfl,LV.cons (hv S) (LV.cons (hu S) LV.nil)⟩,hr,Bu.refl _ _ _⟩;obtain⟨R,D⟩:=n;obtain⟨D',rfl⟩:∃D',D=D'+1:=⟨D-1,by have:=hn.2;simp only at this;omega⟩;show Ev.nK X.P X.G kn R (D'+1) f bK E=_;rw[Ev.lU,k1];simp only[k2,k3,nA,fF]
end Go.Tv
namespace Go.Tv
open Go.Ev
noncomputable section
variable {β:Type}
def Wl:Code->List Bool->Code
 |.seq x y,true::p=>.seq x (Wl y p)
 |_,_=>.skip
def Ai:Code->List Bool->Bool
 |.seq _ y,true::p=>Ai y p
 |.seq _ _,[]=>true
 |_,_=>false
theorem zg (X:gY)(call:cH β)(tr:List Tmp)(J:tf β)(rounds:Nat):∀(p:List Bool) (c:Code),Ai c p=true->∀(a:mS) (f:fM) (H:aG) (k:KT β),
 iw X call tr J rounds c a f H k=iw X call tr J rounds (Wl c p) a f H (yT (λf H=>iw X call tr J rounds (ku c p) (lC a p) f H k) k)
 |[],c,h,a,f,H,k=>by
  cases c<;>first|(cases h;done)|rfl
 |false::p,c,h,a,f,H,k=>by cases c<;>cases h
 |true::p,c,h,a,f,H,k=>by
  cases c with
  |seq x y =>
   have ih:=zg X call tr J rounds p y h;show CM a f H (λf H=>iw X call tr J rounds x a.l f H (yT (λf H=>iw X call tr J rounds y a.r f H k) k)) =
    CM a f H (λf H=>iw X call tr J rounds x a.l f H (yT (λf H=>iw X call tr J rounds (Wl y p) a.r f H (yT (λf H=>iw X call tr J rounds (ku y p) (lC a.r p) f H k) k)) (yT (λf H=>iw X call tr J rounds (ku y p) (lC a.r p) f H k) k)))
   congr 1
   funext f H
   congr 1
   funext lv f H
   cases lv with
   |normal=>exact ih a.r f H k
   |exit id=>rfl
   |ret=>rfl
   |goto l=>rfl
  |_=>cases h
theorem BK (X:gY)(call:cH β)(tr:List Tmp)(J:tf β)(rounds:Nat):∀(p:List Bool) (c:Code),Ai c p=true->∀(a:mS) (f:fM) (H:aG) (k:KT β),
 iw X call tr J rounds (ku c p) (lC a p) f H k=CM (lC a p) f H λf H=>iw X call tr J rounds (ku c p) (Af (lC a p)) f H k
 |[],c,h,a,f,H,k=>by
  cases c with
  |seq x y =>
   cases a with
   |none=>rfl
   |node o l r=>rfl
  |_=>cases h
 |false::p,c,h,a,f,H,k=>by cases c<;>cases h
 |true::p,c,h,a,f,H,k=>by
  cases c with
  |seq x y=>exact BK X call tr J rounds p y h a.r f H k
  |_=>cases h
theorem Di (X:gY)(call:cH β)(tr:List Tmp)(J:tf β)(rounds:Nat):∀(p:List Bool) (c:Code),Ai c p=true->∀(a:mS) (k:KT β),Ey X call tr J rounds p c a k=k
 |[],c,_,a,k=>by cases c<;>rfl
 |false::p,c,h,a,k=>by cases c<;>cases h
 |true::p,c,h,a,k=>by
  cases c with
  |seq x y=>exact Di X call tr J rounds p y h a.r k
  |_=>cases h
def aag (X:gY)(call:cH β)(an:ez)(rounds:Nat)(id:FuncId)(p:List Bool)(args:List AV)(H:aG)(k:AV->aG->Option β)(K:fM->aG->Option β):Option β :=
 match X.P.funcs[id]? with
 |some fn=>match fn.body with
  |some c=>ah (Nat.ble args.length fn.ntmps)
   (iw X call an.tr (pG X call an.tr an.ja rounds rounds) rounds (Wl c p) an.IU ((fM.mk fn.ntmps .e).fill 0 args) H (yT (λf H=>CM (lC an.IU p) f H K) (qo X fn k))) none
  |none=>none
 |none=>none
def QU (X:gY)(id:FuncId)(p:List Bool):Bool :=
 match X.P.funcs[id]? with
 |some fn=>match fn.body with
  |some c=>Ai c p
  |none=>false
 |none=>false
theorem EJ {X:gY}{call:cH β}{an:ez}{rounds:Nat}{id:FuncId}{p:List Bool}(hp:QU X id p=true)(args:List AV)(H:aG)(k:AV->aG->Option β) :
 aT X call an rounds id args H k=aag X call an rounds id p args H k (codeFrom X call an rounds id p k):=by
 unfold QU at hp;unfold aT aag;cases hf:X.P.funcs[id]? with
 |none=>rfl
 |some fn =>
  rw[hf]at hp;simp only at hp ⊢;cases hb:fn.body with
  |none=>rfl
  |some c =>
   rw[hb]at hp;simp only at hp ⊢;rw[zg X call an.tr _ rounds p c hp];have e:(λf H=>iw X call an.tr (pG X call an.tr an.ja rounds rounds) rounds (ku c p) (lC an.IU p) f H (qo X fn k)) =
    λf H=>CM (lC an.IU p) f H (codeFrom X call an rounds id p k):=by
    funext f H
    rw[BK X call an.tr _ rounds p c hp];congr 1
    funext f H
    unfold codeFrom;rw[hf];simp only;rw[hb];simp only;rw[Di X call an.tr _ rounds p c hp]
   rw[e]
end
end Go.Tv

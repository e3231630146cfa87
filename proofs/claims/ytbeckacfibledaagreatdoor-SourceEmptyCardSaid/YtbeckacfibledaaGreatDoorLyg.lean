/- What the layer answers the machine's call answers. Calls by contracts, or by the callee's own text. Contracts that are shown by runs alone: what a run leaves, told by a reckoning. Package-level variables that read as given data, for the symbolic layer. Loops over what is known by terms alone: a loop of a function's code as a function of its rounds and of the slots that are kept at its head. Numbers, bytes and lists: lemmas for what runs of the symbolic layer come to. Slices that came in, as lists. Slices of plain data that came in, as lists. A function from a place of its code on; notes at several places; contracts of two results that are known already. -/
import Derived.Test.YtbeckacfibledaaGreatDoorLyf
import Derived.Test.YtbeckacfibledaaGreatDoorLyc
import Derived.Deep.Slices
import Derived.WideShapes
set_option linter.unusedVariables false
set_option linter.unusedSimpArgs false

namespace Go.Tv
open Go.Ev (Tr ah iL Mem jJ alive ax dF jt Fr bG Ren)
open Go.RowKit
theorem Du {S:Wo}{vs:List AV}{x:Value}(h:VR S (rQ vs) x):∃xs,x=Ev.wz xs/\LV S vs xs:=by
 match vs,h with
 |[],h =>
  have h:VR S (.fH []) x:=h;cases h with
  |fH _ m hl hv =>
   have:m=[]:=aQ.1 hl.symm;subst this;exact⟨[],rfl,LV.nil⟩
 |[v],h=>exact⟨[x],rfl,LV.cons h LV.nil⟩
 |v::w::vs,h =>
  have h:VR S (.fH (v::w::vs)) x:=h;cases h with
  |fH _ m hl hv =>
   match m,hl,hv with
   |a::b::m,hl,hv=>exact⟨a::b::m,rfl,⟨hl,hv⟩⟩
def idR (n:Nat):Ren:=λi=>if i<n then some (i,0) else none
open Classical in
noncomputable def ED (w:World)(i:Nat):jJ :=
 match w.heap[i]? with
 |some (.cells C t _)=>⟨C.toList.map λv=>if ∃a,v = .slice (some a) 0 0 then Ev.vd else if bG (idR w.heap.size) v v then v else .chan none,t,true,false⟩
 |_=>⟨[],0,false,false⟩
theorem Aq:∀(l:List jJ) (H:Mem),∃H',H.u7 l=some H'
 |[],H=>⟨_,rfl⟩
 |b::l,H=>by
  obtain⟨H1,h1⟩:=Mem.lY H b;obtain⟨H2,h2⟩:=Aq l H1;exact⟨H2,by simp only[Ev.Mem.u7,h1,h2]⟩
noncomputable def snap (w:World):Mem:=(Mem.u7 Mem.empty ((List.range w.heap.size).map (ED w))).getD Mem.empty
theorem x8 (w:World):(snap w).size=w.heap.size/\(snap w).lk=w.heap.size/\∀i,(snap w).get i=if i<w.heap.size then some (ED w i) else none:=by
 obtain⟨H',h⟩:=Aq ((List.range w.heap.size).map (ED w)) Mem.empty;obtain⟨h1,h2,h3⟩:=Ev.wO _ h;have e:snap w=H':=by unfold snap;rw[h];rfl
 rw[e];have hs:H'.size=w.heap.size:=by rw[h1];simp[Mem.empty]
 refine⟨hs,by rw[h2,hs],λi=>?_⟩;rw[h3,aa (by simp[Mem.empty])];simp only[Mem.empty,Nat.sub_zero];by_cases hi:i<w.heap.size
 .rw[ag hi];simp[hi]
 rw[aa hi];simp;omega
theorem VS (P:Program)(w:World)(G:Nat)(hG:G<=w.heap.size):Ev.ef ⟨P,w.heap.size,w.heap.size,G,w,λ_=>none⟩ (idR w.heap.size) (snap w) w:=by
 obtain⟨s1,s2,s3⟩:=x8 w;have adx:∀{i:Nat} {b:Ev.jJ},(snap w).get i=some b->Ev.iS b=false:=by
  intro i b hi;rw[s3]at hi;split at hi
  .cases hi;unfold ED;split<;>rfl
  cases hi
 refine⟨⟨Below.refl _ _,λr o h=>by cases h⟩,aC _,λi x h=>?_,by rw[s2];exact aC _,by rw[s1];exact aC _,λg hg=>ag (cw hg hG),λi b hi hl=>?_,λi j bi bj r x y hi _ hj _ hr hr'=>?_,λi b hi hm=>(by rw[adx hi]at hm;cases hm),λi j bi bj r x y hi hm=>(by rw[adx hi]at hm;cases hm)⟩
 .rw[s1];unfold idR at h;split at h
  .assumption
  cases h
 .rw[s3]at hi;split at hi
  .rename_i hlt;cases hi;unfold ED at hl ⊢;split at hl
   .rename_i C t fr hC;refine⟨i,0,C,fr,0,ag hlt,.inl ⟨hlt,rfl⟩,hC,.inl hlt,⟨.inl hlt,λ_=>rfl⟩,by simp,⟨by simp,λj v hv hj=>?_⟩,.inl hlt⟩;simp only[cB,aL]at hv;obtain⟨u,hu,rfl⟩:=hv;split at hj
    .rename_i w9;rw[ag w9];obtain⟨a,rfl⟩:=w9;exact⟨_,by simpa using hu,.void a⟩
    rename_i hno;rw[aa hno];split at hj
    .rename_i w9;rw[ag w9];exact⟨u,by simpa using hu,w9⟩
    cases hj
   cases hl
  cases hi
 unfold idR at hr hr';split at hr
 .split at hr'
  .cases hr;cases hr';rfl
  cases hr'
 cases hr
noncomputable def vt (w:World):Wo:=⟨oR (snap w),λ_=>none,λ_ _=>none⟩
theorem VT (w:World):Rel (vt w) aG.empty (snap w):=BO _ _ (λi cs hi=>by
 have hi:(alive (snap w) i).map (·.cells)=some cs:=hi
 simp only[aL]at hi;obtain⟨b,h1,h2⟩:=hi;exact⟨b,h1,h2⟩) (by obtain⟨s1,s2,_⟩:=x8 w;omega)
def afw:AV->Bool
 |.dH _ _=>true
 |v=>uw v
theorem VU {w:World}{a:AV}{x:Value}(ha:afw a=true)(hvd:x≠Ev.vd)(h:VR (vt w) a x):bG (idR w.heap.size) x x:=by
 have one:∀(v:AV) (y:Value),(match v with | .int _ _=>true | .bool _=>true | .str _=>true | .qg _=>true | .dG=>true | .oh=>true|_=>false)=true->VR (vt w) v y->bG (idR w.heap.size) y y:=by
  intro v y hv h;cases h<;>first|(cases hv;done)|constructor
 cases h with
 |dH e l v hS =>
  rcases hS with⟨_,rfl|rfl⟩|⟨i,pre,mid,post,cap,rfl,hF,_⟩
  .exact .me _ _
  .exact absurd rfl hvd
  have hF:(alive (snap w) i).map (·.cells)=some (pre++(mid++post)):=hF
  have hi:i<w.heap.size:=by
   cases ha:alive (snap w) i with
   |none=>rw[ha]at hF;cases hF
   |some b=>have:=lq ha;rw[(x8 w).1]at this;exact this
  exact .slice i _ _ _ i 0 (ag hi)
 |agg l m hl hm =>
  refine .agg _ _ rfl λj a b h1 h2=>?_
  rw[h1]at h2;cases h2;have hlt:j<m.length:=by have:=(aB.1 h1).1;simpa using this
  have hj:m[j]? = some a:=by simpa using h1
  have uo:j<l.length:=by omega
  have:=aK.1 ha l[j] (jj uo);exact one l[j] a this (hm j l[j] a (aP uo) hj)
 |int=>exact .int _ _
 |bool=>exact .bool _
 |str=>exact .string _
 |qg=>exact .float _ _
 |dG=>exact .me _ _
 |oh=>exact .wA
 |_=>cases ha
theorem aal {X:ij}(hno:Ev.jd X.P)(hm:X.P.follows .mixedOrders=true){kn:Ev.fe}{GR:List Ev.jJ}(hK:Ev.kq X.P GR kn){f:FuncId}{args:List AV}{v:AV}{vE:Value}(hv:∀S x,VR S v x->x=vE)(hfree:Ev.aZ vE=true)
 (h:∀(S:Wo) (E:Mem) (bJ:List Value),Rel S aG.empty E->fm X S->LV S args bJ->∃S' vE E',(∃N,∀n:Nat×Nat,N<=n.1/\N<=n.2->dR X kn n f bJ E=some (vE,E'))/\VR S' v vE)
 {w:World} (aam:Ev.lg GR w) (hG:X.G<=w.heap.size) (hg:fm X (vt w)) {args':List Value} (hargs:LV (vt w) args args') (w9:∀x∈args',bG (idR w.heap.size) x x) :
 Calls X.P f args'.toArray w λe w'=>e = .returned vE/\Below w.heap.size w w':=by
 obtain⟨S',vE',E',⟨N,h1⟩,h2⟩:=h (vt w) (snap w) args' (VT w) hg hargs;have hvE:=hv S' vE' h2;subst hvE;have hc:=h1 (N,N) ⟨aC _,aC _⟩;have w9:Ev.LR (bG (idR w.heap.size)) args' args':=⟨rfl,λj x y hx hy=>by
  rw[hx]at hy;cases hy;exact w9 x (bh hx)⟩
 refine(Ev.QA hno hm hK hc (.inr (by first|assumption|exact hfree)) (c:=⟨X.P,w.heap.size,w.heap.size,X.G,w,λ_=>none⟩) rfl ⟨rfl,aam,aam.1⟩ (VS X.P w X.G hG) w9).mono ?_;rintro e w' ⟨ρ',v',rfl,k1,k2,k3⟩;exact⟨by rw[Ev.lS k2 hfree],k3.below⟩
theorem QU {X:ij}(hno:Ev.jd X.P)(hm:X.P.follows .mixedOrders=true){kn:Ev.fe}{GR:List Ev.jJ}(hK:Ev.kq X.P GR kn){f:FuncId}{args:List AV}{v:AV}{vE:Value}(hv:∀S x,VR S v x->x=vE)(hfree:Ev.aZ vE=true)
 (h:∀(S:Wo) (E:Mem) (bJ:List Value),Rel S aG.empty E->fm X S->LV S args bJ->∃S' vE E',(∃N,∀n:Nat×Nat,N<=n.1/\N<=n.2->dR X kn n f bJ E=some (vE,E'))/\VR S' v vE)
 {w:World} (aam:Ev.lg GR w) (hG:X.G<=w.heap.size) (hg:fm X (vt w)) {args':List Value} (hargs:LV (vt w) args args') (hb:args.all afw=true) (hvd:∀x∈args',x≠Ev.vd:=by simp[Ev.vd]) :
 Calls X.P f args'.toArray w λe w'=>e = .returned vE/\Below w.heap.size w w' :=
 aal hno hm hK hv hfree h aam hG hg hargs λx hx=>by
  obtain⟨j,hj⟩:=eD hx;have hlt:j<args.length:=by rw[hargs.1];exact eL hj
  exact VU (aK.1 hb _ (jj hlt)) (hvd x hx) (hargs.2 j _ x (aP hlt) hj)
theorem Jm {X:ij}(hno:Ev.jd X.P)(hm:X.P.follows .mixedOrders=true){kn:Ev.fe}(hK:Ev.xZ X.P kn){f:FuncId}{args:List AV}{v:AV}{vE:Value}(hv:∀S x,VR S v x->x=vE)(hfree:Ev.aZ vE=true)
 (h:∀(S:Wo) (E:Mem) (bJ:List Value),Rel S aG.empty E->fm X S->LV S args bJ->∃S' vE E',(∃N,∀n:Nat×Nat,N<=n.1/\N<=n.2->dR X kn n f bJ E=some (vE,E'))/\VR S' v vE)
 {w:World} (hG:X.G<=w.heap.size) (hg:fm X (vt w)) {args':List Value} (hargs:LV (vt w) args args') (hb:args.all afw=true) (hvd:∀x∈args',x≠Ev.vd:=by simp[Ev.vd]) :
 Calls X.P f args'.toArray w λe w'=>e = .returned vE/\Below w.heap.size w w' :=
 QU hno hm hK hv hfree h (Ev.lg.nil w) hG hg hargs hb hvd
end Go.Tv
namespace Go.Tv
open Go.Ev (Tr ah iL Mem jJ alive ax dF jt Fr)
noncomputable section
def VV (H:aG):AV->Option AV
 |.own id _=>match H.get id with
  |some (.list _ e l _ _ _)=>some (.dH e l)
  |_=>none
 |v=>ah (QO v) (some v) none
def Jn (H:aG):List AV->Option (List AV)
 |[]=>some []
 |v::l=>match VV H v with
  |some w=>match Jn H l with
   |some m=>some (w::m)
   |none=>none
  |none=>none
def VW (H:aG):AV->Option AV
 |.agg l=>match Jn H l with
  |some m=>some (.agg m)
  |none=>none
 |_=>none
def normArg (H:aG):Option Ty->AV->Option AV
 |some e,a=>match a with
  |.str _=>none
  |a=>match Cv H e a with
   |some l=>some (.dH e l)
   |none=>none
 |none,a=>ah (QO a) (some a) (VW H a)
def normArgs (H:aG):List (Option Ty)->List AV->Option (List AV)
 |[],[]=>some []
 |s::sig,a::args=>match normArg H s a with
  |some b=>match normArgs H sig args with
   |some l=>some (b::l)
   |none=>none
  |none=>none
 |_,_=>none
def tG {β:Type}(sig:List (Option Ty))(g:List AV->Option (Bool×List fA))(args:List AV)(H:aG)(k:AV->aG->Option β):Option β :=
 match normArgs H sig args with
 |some args'=>match g args' with
  |some (c,rs)=>ah c (k (rQ (mh rs H).1) (mh rs H).2) none
  |none=>none
 |none=>none
def dc (X:ij)(cf:Nat×Nat->Ev.cH)(f:FuncId)(g:List AV->Option (Bool×List fA)):Prop :=
 ∀args' rs,g args'=some (true,rs)->∃vs H1,OM X cf f args' vs H1/\tE H1 [] vs rs
abbrev Up:=FuncId->Option (List (Option Ty)×(List AV->Option (Bool×List fA)))
def CC {β:Type}(X:ij)(args:List AV)(H:aG)(k:AV->aG->Option β):Option β :=
 match args with
 |[.dG]=>k (.fH []) H
 |[.own i _]=>match H.get i with
  |some (.list t (.int .u8) l _ _ false)=>ah (H.nO i&&Ev.Ip X.P t&&Nat.ble 1 l.length) (k (.fH []) (H.put i .dead)) none
  |_=>none
 |_=>none
def sJ (X:ij)(K:Up)(inl:FuncId->Bool)(rounds:Nat)(β:Type):Nat->cI β :=
 λn=>Nat.rec (motive:=λ_=>cI β) (λ_ _ _ _=>none)
  (λ_ go id args H k=>ah (X.kl id) (CC X args H k) (match K id with
   |some (sig,g)=>tG sig g args H k
   |none=>ah (inl id) (aT X go ⟨.none,.none,X.trs id⟩ rounds id args H k) none)) n
def G9 (e:Ty):AV->Option (List e.den)
 |.dH e' l=>iC e' e l
 |_=>none
end
theorem iE {e:Ty}{a:AV}{l:List e.den}(h:G9 e a=some l):a = .dH e l:=by
 unfold G9 at h;split at h
 .obtain ⟨he,hc⟩:=bT h;subst he;have hc:_=l:=hc;rw[<-hc]
 cases h
theorem OO {H:aG}{v w:AV}(h:VV H v=some w):EC H v w:=by
 unfold VV at h;split at h
 .rename_i id n;split at h
  .rename_i t e l gC ex ro hg;cases h;refine .inr ⟨e,l,rfl,?_,λs hs=>by cases hs⟩;show (match H.get id with
    |some (.list _ e' l' _ _ _)=>iC e' e l'
    |_=>none)=some l
   rw[hg];unfold iC;simp
  cases h
 rw[ax]at h;split at h
 .rename_i hs;cases h;exact .inl ⟨rfl,hs⟩
 cases h
theorem CD {H:aG}:∀{l m:List AV},Jn H l=some m->l.length=m.length/\∀(j:Nat) x y,l[j]? = some x->m[j]? = some y->EC H x y
 |[],m,h=>by cases h;exact⟨rfl,λj x y hx=>by simp at hx⟩
 |v::l,m,h=>by
  unfold Jn at h;split at h
  .rename_i w hw;split at h
   .rename_i m' hm;cases h;obtain⟨h1,h2⟩:=CD hm;refine⟨by simp[h1],λj x y hx hy=>?_⟩;cases j with
    |succ j=>exact h2 j x y (by simpa using hx) (by simpa using hy)
    |zero=>simp at hx hy;subst hx;subst hy;exact OO hw
   cases h
  cases h
theorem OQ {H:aG}{a b:AV}(h:VW H a=some b):QS H a b:=by
 unfold VW at h;split at h
 .rename_i l;split at h
  .rename_i m hm;cases h;obtain⟨h1,h2⟩:=CD hm;exact .inr ⟨l,m,rfl,rfl,h1,h2⟩
  cases h
 cases h
theorem yI {H:aG}:∀{sig:List (Option Ty)} {args args':List AV},normArgs H sig args=some args'->args.length=args'.length/\∀(j:Nat) a b,args[j]? = some a->args'[j]? = some b->QS H a b
 |[],[],args',h=>by cases h;exact⟨rfl,λj a b ha=>by simp at ha⟩
 |[],_::_,args',h=>by cases h
 |_::_,[],args',h=>by cases h
 |s::sig,a::args,args',h=>by
  unfold normArgs at h;split at h
  .rename_i b hb;split at h
   .rename_i l hl;cases h;obtain⟨h1,h2⟩:=yI hl;refine⟨by simp[h1],λj x y hx hy=>?_⟩;cases j with
    |succ j=>exact h2 j x y (by simpa using hx) (by simpa using hy)
    |zero =>
     simp at hx hy;subst hx;subst hy;unfold normArg at hb;split at hb
     .split at hb
      .cases hb
      rename_i e _ hne;split at hb
      .rename_i l' hl';cases hb;exact .inl (.inr ⟨_,l',rfl,hl',λs hs=>hne s hs⟩)
      cases hb
     rw[ax]at hb;split at hb
     .rename_i hs;cases hb;exact .inl (.inl ⟨rfl,hs⟩)
     exact OQ hb
   cases h
  cases h
section
variable {X:ij} {cf:Nat×Nat->Ev.cH}
theorem zl {β:Type}{f:FuncId}{sig:List (Option Ty)}{g:List AV->Option (Bool×List fA)}(hc:dc X cf f g){args:List AV}{H:aG}{k:AV->aG->Option β}{r:β}(h:tG sig g args H k=some r):∃v H',k v H'=some r/\Jd X cf f args H v H':=by
 unfold tG at h;split at h
 .rename_i args' ha;split at h
  .rename_i c rs hg;rw[ax]at h;split at h
   .rename_i hc';subst hc';obtain⟨vs,H1,h1,h2⟩:=hc args' rs hg;obtain⟨l1,l2⟩:=yI ha;exact⟨_,_,h,h1.aoR h2 l1 l2⟩
   cases h
  cases h
 cases h
def afx (X:ij)(kn:Ev.fe):Prop:=∀id,X.kl id=true->kn id Ev.pM=some (.tuple #[])/\kn id [.slice none 0 0]=some (.tuple #[])/\∀i n c,kn id [.slice (some ⟨i,0,none⟩) n c]=none
theorem mU.u8s {F:Nat->Option (List Value)}:∀{l:List (Ty.den (.int .u8))} {cs:List Value},mU (CR F (.int .u8)) l cs->cs.all Ev.Ku=true
 |[],cs,h=>by
  have:cs=[]:=h;subst this;rfl
 |x::l,cs,h=>by
  obtain⟨c1,c2,rfl,h1,h2⟩:=h;have h1:c1=[.int .u8 x]:=h1;subst h1;simp only[fR,eS,bY,mU.u8s h2,kP];rfl
theorem LV.single {S:Wo}{a:AV}{l:List Value}(h:LV S [a] l):∃x,l=[x]/\VR S a x:=by
 match l,h with
 |[x],h=>exact⟨x,rfl,h.2 0 a x rfl rfl⟩
 |[],h=>exact absurd h.1 (by simp)
 |_::_::_,h=>exact absurd h.1 (by simp)
theorem EE {kn:Ev.fe}{f:FuncId}(hk:kn f Ev.pM=some (.tuple #[])/\kn f [.slice none 0 0]=some (.tuple #[])/\∀i n c,kn f [.slice (some ⟨i,0,none⟩) n c]=none){β:Type}{args:List AV}{H:aG}{k:AV->aG->Option β}{r:β}(h:CC X args H k=some r) :
 ∃v H',k v H'=some r/\Jd X (dR X kn) f args H v H':=by
 obtain⟨k1,k2,k3⟩:=hk;unfold CC at h;split at h
 .refine ⟨_,_,h,λS E bJ hr hg hl=>?_⟩;obtain⟨x,rfl,hx⟩:=LV.single hl;cases hx;refine⟨S,.tuple #[],E,⟨1,λn hn=>?_⟩,S.le_refl,.fH [] [] rfl (λj x y hx=>by simp at hx),hr,St.refl _ _ _⟩;obtain⟨R,D⟩:=n;obtain⟨D',rfl⟩:∃D',D=D'+1:=⟨D-1,by have:=hn.2;simp only at this;omega⟩;show Ev.nR X.P X.G kn R (D'+1) f _ E=_;rw[Ev.lX,k2];rfl
 .rename_i id n0;split at h
  .rename_i t l gC ex Km;rw[ax]at h;split at h
   .rename_i hc;simp only[ak]at hc;obtain⟨⟨hmay,hu8⟩,h1⟩:=hc;have h1:=az h1;refine⟨_,_,h,λS E bJ hr hg hl=>?_⟩;obtain⟨x,rfl,hx⟩:=LV.single hl;obtain⟨q1,⟨q2,g2,q3,q4⟩,q5⟩:=hr.row id _ Km;cases hx with
    |own _ _ i c s hρ g hg' hn =>
     rw[q3]at hg';cases hg';rcases q5 with⟨q5,_,_⟩|⟨i',cap',b,mid,post,e1,e2,e3,e4,e5,e6,e7,e8,e9,e10⟩
     .rw[q5]at h1;simp at h1
     rw[hρ]at e1;cases e1;have hmay':H.lk<=id:=by simpa[aG.nO,bu] using hmay
     have hlk:=hr.lk id _ _ Km hmay' hρ;obtain⟨E1,hE1⟩:=Mem.jc (b:={ b with live:=false,fix:=false }) (lq e2) hlk;have fh:Ev.kill E i=some E1:=by unfold Ev.kill;rw[(dF e2).1];exact hE1
     obtain⟨z1,z2,z3,z4,z5⟩:=Ev.nM fh;obtain⟨m1,m2⟩:=hr.mod (S':=S) (E':=E1) (r':=.dead) Km rfl S.le_refl rfl (λ_ _ _=>rfl) z1 z2 (λj hj=>z4 j (hj _ hρ)) (λj cs h=>.inl h) (λq hq=>by cases hq);refine⟨S,.tuple #[],E1,⟨1,λn hn'=>?_⟩,S.le_refl,.fH [] [] rfl (λj x y hx=>by simp at hx),m1,m2⟩;obtain⟨R,D⟩:=n;obtain⟨D',rfl⟩:∃D',D=D'+1:=⟨D-1,by have:=hn'.2;simp only at this;omega⟩;show Ev.nR X.P X.G kn R (D'+1) f _ E=_;rw[Ev.lX,k3];obtain⟨l2,A6⟩:=e10.2;have hall:b.cells.all Ev.Ku=true:=by rw[e4,jL,e5.u8s,A6.u8s];rfl
     have hsz:(Ty.int .u8).size=1:=rfl;rw[hsz,Nat.mul_one]at e6;have hks:Ev.oL X.P kn f [.slice (some ⟨i,0,none⟩) n0 c] E=some (.tuple #[],E1):=by
      unfold Ev.oL;simp only[k1,e2];rw[ax,ag]
      .simp only[fh]
      rw[hall,e3,hu8];have a1:n0<=c:=by rw[<-hn,q4];exact e7
      simp only[kP,ak];exact⟨⟨⟨rfl,ep a1⟩,by rw[aO];exact e6⟩,ep e8⟩
     show Ev.nK (Ev.oL X.P kn f _ E) _=_;rw[hks];rfl
    |gh _ g hg' hn =>
     rw[q3]at hg';cases hg';omega
   cases h
  cases h
 cases h
theorem lB {kn:Ev.fe}{K:Up}{inl:FuncId->Bool}(hK:∀id sig g,K id=some (sig,g)->dc X (dR X kn) id g)(hi:∀id,inl id=true->∀args,kn id args=none)(rounds:Nat)(n:Nat)(β:Type) (hkl:afx X kn:=by exact λ_ h=>Bool.noConfusion (show false=true from h)):cX X (dR X kn) (sJ X K inl rounds β n):=by
 induction n with
 |zero=>exact λf args H k r h=>by cases h
 |succ n ih =>
  intro f args H k r h;have h:ah (X.kl f) (CC X args H k) (match K f with
   |some (sig,g)=>tG sig g args H k
   |none=>ah (inl f) (aT X (sJ X K inl rounds β n) ⟨.none,.none,X.trs f⟩ rounds f args H k) none)=some r:=h
  rw[ax]at h;split at h
  .rename_i hf;exact EE (hkl f hf) h
  split at h
  .rename_i sig g hk;exact zl (hK f sig g hk) h
  rw[ax]at h;split at h
  .rename_i hin;obtain⟨v,H',h1,h2⟩:=lp (nf:=true) ih (λ_=>⟨rfl,rfl⟩) h;refine⟨v,H',h1,λS E bJ hr hg hl=>?_⟩;obtain⟨S',vE,E',a1,a2,a3,a4,a5⟩:=h2 S E bJ hr hg hl;exact⟨S',vE,E',gi (hi f hin) a1,(a5 rfl).1,a2,a3,(a5 rfl).2⟩
  cases h
theorem afy {kn:Ev.fe}{f:FuncId}(hk:∀args,kn f args=none){g:List AV->Option (Bool×List fA)}{call:∀ β,cI β}(hcall:∀ β,cX X (dR X kn) (call β))
 (h:∀args' rs,g args'=some (true,rs)->∃vs H1 an rounds,aT X (call (AV×aG)) an rounds f args' aG.empty (λv H=>some (v,H))=some (rQ vs,H1)/\tE H1 [] vs rs):dc X (dR X kn) f g:=by
 intro args' rs hg;obtain⟨vs,H1,an,rounds,h1,h2⟩:=h args' rs hg;refine⟨vs,H1,λS E bJ hr hgl hl=>?_,h2⟩;obtain⟨S',vE,E',a1,a2,a3,a4⟩:=aaj hk hcall h1 S E bJ hr hgl hl;exact⟨S',vE,E',a1,Du a2,a3,a4⟩
theorem SQ {kn:Ev.fe}{f:FuncId}{g:List AV->Option (Bool×List fA)}
 (h:∀args' rs,g args'=some (true,rs)->∃v vE,rs=[.val v]/\uw v=true/\(∀S,VR S v vE)/\Ev.aZ vE=true/\∀S bJ,LV S args' bJ->kn f bJ=some vE/\Ev.cG bJ=true):dc X (dR X kn) f g:=by
 intro args' rs hg;obtain⟨v,vE,rfl,hs,hv,hfree,hkn⟩:=h args' rs hg;refine⟨[v],aG.empty,λS E bJ hr hgl hl=>?_,⟨rfl,hs,trivial⟩⟩;obtain⟨k1,k2⟩:=hkn S bJ hl;refine⟨S,vE,E,⟨1,λn hn=>?_⟩,⟨[vE],rfl,LV.cons (hv S) LV.nil⟩,hr,BJ.refl _ _ _⟩;obtain⟨R,D⟩:=n;obtain⟨D',rfl⟩:∃D',D=D'+1:=⟨D-1,by have:=hn.2;simp only at this;omega⟩;show Ev.nR X.P X.G kn R (D'+1) f bJ E=_;rw[Ev.lX,k1];simp[k2,hfree]
end
end Go.Tv
namespace Go.Tv
open Go.Ev (ah ax bI eF bC cD)
noncomputable section
def akv:IntKind->IntKind->Bool
 |.i64,.i64=>true
 |.u8,.u8=>true
 |.i32,.i32=>true
 |.u64,.u64=>true
 |.u32,.u32=>true
 |.u16,.u16=>true
 |_,_=>false
def VX:List UInt8->List UInt8->Bool
 |[],[]=>true
 |a::l,b::m=>ah (Nat.beq a.toNat b.toNat) (VX l m) false
 |_,_=>false
def QV:AV->AV->Bool
 |.int k a,.int k' b=>ah (akv k k') (bI a b) false
 |.bool a,.bool b=>ah a b (!b)
 |.str a,.str b=>VX a b
 |.qg a,.qg b=>Nat.beq a b
 |.dG,.dG=>true
 |.oh,.oh=>true
 |_,_=>false
def QW:List AV->List AV->Bool
 |[],[]=>true
 |a::l,b::m=>ah (QV a b) (QW l m) false
 |_,_=>false
def aan:AV->AV->Bool
 |.agg l,.agg m=>QW l m
 |a,b=>QV a b
def He:(e:Ty)->e.den->e.den->Bool
 |.int _,a,b=>bI a b
 |.bool,a,b=>ah a b (!b)
 |.str,a,b=>VX a b
 |.qg,a,b=>Nat.beq a b
 |.unit,_,_=>true
 |.sl _,_,_=>false
 |.pair x y,a,b=>ah (He x a.1 b.1) (He y a.2 b.2) false
def aao (e:Ty):List e.den->List e.den->Bool
 |[],[]=>true
 |a::l,b::m=>ah (He e a b) (aao e l m) false
 |_,_=>false
def QX (t:TypeId)(e:Ty)(l:List e.den)(room:Bool):Option Row->Bool
 |some (.list t' e' l' _ ex ro)=>ah (Nat.beq t t' && !ro&&(ah room ex true)) (match iC e' e l' with
  |some m=>aao e m l
  |none=>false) false
 |_=>false
def vu (H:aG):List Nat->List AV->List fA->Bool
 |_,[],[]=>true
 |seen,v::vs,.val w::rs=>ah (aan v w) (vu H seen vs rs) false
 |seen,.own id n::vs,.list t e l::rs=>ah (e.Ac&&Nat.beq n l.length&&QX t e l false (H.get id) && !(seen.any (Nat.beq id))) (vu H (id::seen) vs rs) false
 |seen,.dG::vs,.list _ e l::rs=>ah (e.Ac&&l.isEmpty) (vu H seen vs rs) false
 |seen,.rO id off len cap::vs,.room t e l n::rs=>ah (e.Ac&&Nat.beq off 0&&Nat.beq len n&&Nat.beq cap l.length&&QX t e l true (H.get id) && !(seen.any (Nat.beq id))) (vu H (id::seen) vs rs) false
 |_,_,_=>false
def leaves (rs:List fA):Option (AV×aG)->Bool
 |some (.fH vs,H)=>ah (Nat.beq vs.length 1) false (vu H [] vs rs)
 |some (v,H)=>vu H [] [v] rs
 |none=>false
end
theorem SU {a b:IntKind}(h:akv a b=true):a=b:=by
 cases a<;>cases b<;>first|rfl|cases h
theorem BP:∀{a b:List UInt8},VX a b=true->a=b
 |[],[],_=>rfl
 |[],_::_,h=>by cases h
 |_::_,[],h=>by cases h
 |a::l,b::m,h=>by
  simp only[VX,ax,aO]at h;split at h
  .rename_i hab;rw[BP h,jO.1 hab]
  cases h
theorem CE {a b:Bool}(h:ah a b (!b)=true):a=b:=by cases a<;>cases b<;>first|rfl|cases h
theorem EF {a b:AV}(h:QV a b=true):a=b/\uw b=true:=by
 unfold QV at h;split at h
 .rw[ax]at h;split at h
  .rename_i hk;rw[eF]at h;exact⟨by rw[SU hk,eK.1 h],rfl⟩
  cases h
 .exact ⟨by rw[CE h],rfl⟩
 .exact ⟨by rw[BP h],rfl⟩
 .exact ⟨by rw[bf h],rfl⟩
 .exact ⟨rfl,rfl⟩
 .exact ⟨rfl,rfl⟩
 cases h
theorem EG:∀{l m:List AV},QW l m=true->l=m/\uw (.agg m)=true
 |[],[],_=>⟨rfl,rfl⟩
 |[],_::_,h=>by cases h
 |_::_,[],h=>by cases h
 |a::l,b::m,h=>by
  simp only[QW,ax]at h;split at h
  .rename_i hab;obtain⟨rfl,hs⟩:=EG h;have hab':=hab;obtain⟨rfl,_⟩:=EF hab;refine⟨rfl,?_⟩;unfold uw at hs ⊢;simp only[bY,ak];refine⟨?_,hs⟩;cases a<;>first|rfl|cases hab'
  cases h
theorem SV {a b:AV}(h:aan a b=true):a=b/\uw b=true:=by
 unfold aan at h;split at h
 .obtain ⟨rfl,h2⟩:=EG h;exact⟨rfl,h2⟩
 exact EF h
theorem zm:∀(e:Ty) {a b:e.den},He e a b=true->a=b
 |.int _,a,b,h=>by
  have h:bI a b=true:=h;rw[eF]at h;exact eK.1 h
 |.bool,a,b,h=>CE h
 |.str,a,b,h=>BP h
 |.qg,a,b,h=>bf h
 |.unit,_,_,_=>rfl
 |.sl _,_,_,h=>by cases h
 |.pair x y,a,b,h=>by
  have h:ah (He x a.1 b.1) (He y a.2 b.2) false=true:=h;rw[ax]at h;split at h
  .rename_i h1;exact Prod.ext (zm x h1) (zm y h)
  cases h
theorem Hg (e:Ty):∀{a b:List e.den},aao e a b=true->a=b
 |[],[],_=>rfl
 |[],_::_,h=>by cases h
 |_::_,[],h=>by cases h
 |a::l,b::m,h=>by
  simp only[aao,ax]at h;split at h
  .rename_i hab;rw[zm e hab,Hg e h]
  cases h
theorem EH {t:TypeId}{e:Ty}{l:List e.den}{room:Bool}{r:Option Row}(h:QX t e l room r=true):∃gC ex,r=some (.list t e l gC ex false)/\(room=true->ex=true):=by
 unfold QX at h;split at h
 .rename_i t' e' l' gC ex ro;rw[ax]at h;split at h
  .rename_i hc;simp only[ak,aS,aO]at hc;obtain⟨⟨rfl,rfl⟩,hx⟩:=hc;split at h
   .rename_i m hm;obtain⟨he,hc⟩:=bT hm;subst he;have hc:l'=m:=hc;subst hc;have hl:l'=l:=Hg _ h;subst hl;refine⟨gC,ex,rfl,λhr=>?_⟩;subst hr;exact hx
   cases h
  cases h
 cases h
theorem LS {id:Nat}{seen:List Nat}(h:(!(seen.any (Nat.beq id)))=true):id ∉ seen:=λhm=>by
 have:seen.any (Nat.beq id)=true:=ji.2 ⟨id,hm,by rw[aO]⟩;rw[this]at h;cases h
theorem Hh {H:aG}:∀{vs:List AV} {rs:List fA} {seen:List Nat},vu H seen vs rs=true->tE H seen vs rs:=by
 intro vs;induction vs with
 |nil =>
  intro rs seen h;cases rs with
  |nil=>trivial
  |cons r rs=>cases r<;>cases h
 |cons v vs ih =>
  intro rs seen h;cases rs with
  |nil=>cases v<;>cases h
  |cons r rs =>
   cases r with
   |val w =>
    have h:ah (aan v w) (vu H seen vs rs) false=true:=by cases v<;>exact h
    rw[ax]at h;split at h
    .rename_i hv;obtain⟨h1,h2⟩:=SV hv;exact⟨h1,h2,ih h⟩
    cases h
   |list t e l =>
    cases v<;>try (cases h;done)
    .simp only[vu,ax]at h;split at h
     .rename_i hc;simp only[ak,ia]at hc;exact⟨hc.1,.inr ⟨rfl,hc.2,ih h⟩⟩
     cases h
    rename_i id n;simp only[vu,ax]at h;split at h
    .rename_i hc;simp only[ak,aO]at hc;obtain⟨⟨⟨h1,rfl⟩,h3⟩,h4⟩:=hc;obtain⟨gC,ex,h5,_⟩:=EH h3;exact⟨h1,.inl ⟨id,gC,ex,rfl,h5,LS h4,ih h⟩⟩
    cases h
   |room t e l len =>
    cases v<;>try (cases h;done)
    rename_i id off n cap;simp only[vu,ax]at h;split at h
    .rename_i hc;simp only[ak,aO]at hc;obtain⟨⟨⟨⟨⟨h1,rfl⟩,rfl⟩,rfl⟩,h3⟩,h4⟩:=hc;obtain⟨gC,ex,h5,h6⟩:=EH h3;have:=h6 rfl;subst this;exact⟨h1,id,gC,rfl,h5,LS h4,ih h⟩
    cases h
theorem LU {rs:List fA}{r:Option (AV×aG)}(h:leaves rs r=true):∃vs H,r=some (rQ vs,H)/\tE H [] vs rs:=by
 unfold leaves at h;split at h
 .rename_i vs H;rw[ax]at h;split at h
  .cases h
  rename_i hn;refine⟨vs,H,?_,Hh h⟩
  match vs,hn with
  |[],_=>rfl
  |[v],hn=>exact absurd rfl hn
  |_::_::_,_=>rfl
 .rename_i v H hv;exact⟨[v],H,rfl,Hh h⟩
 cases h
theorem VY {X:ij}{kn:Ev.fe}{f:FuncId}(hk:∀args,kn f args=none){g:List AV->Option (Bool×List fA)}{call:∀ β,cI β}(hcall:∀ β,cX X (dR X kn) (call β))(an:ei)(rounds:Nat)
 (h:∀args rs,g args=some (true,rs)->leaves rs (aT X (call (AV×aG)) an rounds f args aG.empty (λv H=>some (v,H)))=true):dc X (dR X kn) f g :=
 afy hk hcall λargs rs hg=>by
  obtain⟨vs,H,h1,h2⟩:=LU (h args rs hg);exact⟨vs,H,an,rounds,h1,h2⟩
theorem EI {H:aG}:∀{vs:List AV} {seen:List Nat},vs.all uw=true->tE H seen vs (vs.map .val)
 |[],_,_=>trivial
 |v::vs,seen,h=>by
  simp only[bY,ak]at h;exact⟨rfl,h.1,EI h.2⟩
theorem cS {X:ij}{kn:Ev.fe}{f:FuncId}(hk:∀args,kn f args=none){g:List AV->Option (Bool×List fA)}{call:∀ β,cI β}(hcall:∀ β,cX X (dR X kn) (call β))
 (h:∀args rs,g args=some (true,rs)->∃vs an rounds,aT X (call AV) an rounds f args aG.empty (λv _=>some v)=some (rQ vs)/\rs=vs.map .val/\vs.all uw=true):dc X (dR X kn) f g:=by
 intro args rs hg;obtain⟨vs,an,rounds,h1,h2,h3⟩:=h args rs hg;subst h2;obtain⟨v',H1,k1,k2⟩:=lp (nf:=false) (hcall _) (λh=>by cases h) h1;have k1:v'=rQ vs:=bL k1;subst k1;refine⟨vs,H1,λS E bJ hr hgl hl=>?_,EI h3⟩;obtain⟨S',vE,E',a1,a2,a3,a4,_⟩:=k2 S E bJ hr hgl hl;exact⟨S',vE,E',gi hk a1,Du a2,a3,a4⟩
theorem Ar {X:ij}{kn:Ev.fe}{id:FuncId}(hk:∀args,kn id args=none){call:∀ β,cI β}(hcall:∀ β,cX X (dR X kn) (call β)){an:ei}{rounds:Nat}{args:List AV}{v:AV}
 (h:aT X (call AV) an rounds id args aG.empty (λv _=>some v)=some v):∀(S:Wo) (E:Ev.Mem) (bJ:List Value),Rel S aG.empty E->fm X S->LV S args bJ ->
 ∃S' vE E',(∃N,∀n:Nat×Nat,N<=n.1/\N<=n.2->dR X kn n id bJ E=some (vE,E'))/\VR S' v vE:=by
 obtain⟨v',H1,h1,h2⟩:=lp (nf:=false) (hcall _) (λh=>by cases h) h;cases h1;intro S E bJ hr hg hl;obtain⟨S',vE,E',a1,a2,_,_,_⟩:=h2 S E bJ hr hg hl;exact⟨S',vE,E',gi hk a1,a2⟩
theorem akw {α:Type}(a b:α):ah true a b=a:=rfl
theorem akx {α:Type}(a b:α):ah false a b=b:=rfl
end Go.Tv
namespace Go.Tv
open Go.Ev (ah alive aZ cG bG)
theorem aap {X:ij}{w:World}(h:∀g,g<X.G->X.gv g≠[]->∃(cv:List Value) (t:TypeId) (fr:Nat×Nat),w.heap[g]? = some (.cells cv.toArray t fr)/\X.gv g=cv.map Ow/\cG cv=true):fm X (vt w):=λg hg he=>by
 obtain⟨cv,t,fr,h1,h2,h3⟩:=h g hg he;have hlt:g<w.heap.size:=(aB.1 h1).1;obtain⟨_,_,s3⟩:=x8 w;have w9:∀v∈cv,bG (idR w.heap.size) v v:=λv hv=>by
  obtain⟨i,hi⟩:=eD hv;exact Ev.dB v (Ev.oW h3 hi)
 have hb:ED w g=⟨cv,t,true,false⟩:=by
  unfold ED;rw[h1];simp only[Ev.jJ.mk.injEq,and_true];refine kf λi=>?_
  rw[cB];cases hi:cv[i]? with
  |none=>simp[hi]
  |some v =>
   have:(cv.toArray.toList)[i]? = some v:=by simpa using hi
   simp only[this,bK];have hno:¬ ∃a,v=Value.slice (some a) 0 0:=λ⟨a,e⟩=>by
    have:=Ev.oW h3 hi;rw[e]at this;cases this
   rw[aa hno,ag (w9 v (bh hi))]
 refine⟨cv,?_,λT _=>?_⟩
 .show (alive (Go.Tv.snap w) g).map (·.cells)=some cv
  unfold Ev.alive;rw[s3,ag hlt,hb];rfl
 rw[h2];refine⟨by simp,λj x y hx hy=>?_⟩;rw[cB,hy]at hx;simp only[bK,aq]at hx;subst hx;exact zf (Ev.oW h3 hy)
theorem Hi {X:ij}{w:World}{rows:List Ev.jJ}(hr:Ev.lg rows w)(h:∀g,g<X.G->X.gv g≠[]->∃b,rows[g]? = some b/\b.live=true/\X.gv g=b.cells.map Ow/\cG b.cells=true):fm X (vt w) :=
 aap λg hg he=>by
  obtain⟨b,h1,h2,h3,h4⟩:=h g hg he;obtain⟨fr,h5,_⟩:=hr.2 g b h1 h2;exact⟨b.cells,b.elem,fr,h5,h3,h4⟩
end Go.Tv
namespace Go.Tv
open Go.Ev (ah iL)
noncomputable section
variable {β:Type}
def inside:Code->Bool->Code
 |.seq a b,d=>ah d b a
 |.cond _ a b,d=>ah d b a
 |.block _ a,_=>a
 |.loop a,_=>a
 |.scope a,_=>a
 |c,_=>c
def kB (c:Code):List Bool->Code
 |[]=>c
 |d::p=>kB (inside c d) p
def lH (a:mY):List Bool->mY
 |[]=>a
 |d::p=>lH (ah d a.r a.l) p
def gD (keep:List Tmp):List Bool->mY
 |[]=>.node (some keep) .none .none
 |d::p=>ah d (.node none .none (gD keep p)) (.node none (gD keep p) .none)
def EJ (X:ij)(call:cI β)(tr:List Tmp)(J:tA β)(rounds:Nat):List Bool->Code->mY->KT β->KT β
 |[],_,_,k=>k
 |false::p,.seq x y,a,k=>EJ X call tr J rounds p x a.l (y8 (λf H=>iD X call tr J rounds y a.r f H k) k)
 |true::p,.seq _ y,a,k=>EJ X call tr J rounds p y a.r k
 |false::p,.cond _ x _,a,k=>EJ X call tr J rounds p x a.l k
 |true::p,.cond _ _ y,a,k=>EJ X call tr J rounds p y a.r k
 |_::p,.block id b,a,k=>EJ X call tr J rounds p b a.l (Eo id k)
 |_::p,.scope b,a,k=>EJ X call tr J rounds p b a.l (Bx b J k)
 |_::_,_,_,k=>k
def iF (X:ij)(call:cI β)(an:ei)(rounds:Nat)(id:FuncId)(p:List Bool)(k:AV->aG->Option β)(n:Nat)(f:fJ)(H:aG):Option β :=
 match X.P.funcs[id]? with
 |some fn=>match fn.body with
  |some c=>QE (lH an.I6 p) (λf H k=>iD X call an.tr (pN X call an.tr an.ja rounds rounds) rounds (kB c (p++[false])) (lH an.I6 p).l f H k)
   (EJ X call an.tr (pN X call an.tr an.ja rounds rounds) rounds p c an.I6 (qz X fn k)) n f H
  |none=>none
 |none=>none
def aky (X:ij)(call:cI β)(an:ei)(rounds:Nat)(id:FuncId)(p:List Bool)(l:Nat)(k:AV->aG->Option β)(n:Nat)(f:fJ)(H:aG):Option β :=
 match X.P.funcs[id]? with
 |some fn=>match fn.body with
  |some c=>match findLabel (kB c (p++[false])) l with
   |some rest=>OE X call an.tr an.ja rounds n (kB c (p++[false])) rest f H (EJ X call an.tr (pN X call an.tr an.ja rounds rounds) rounds p c an.I6 (qz X fn k))
   |none=>none
  |none=>none
 |none=>none
def kr (n:Nat)(l:List (Tmp×AV)):fJ:=l.foldl (λg q=>g.put (some q.1) q.2) ⟨n,.e⟩
def nA (l:List Row):aG:=l.foldl (λM r=>M.push r) ⟨0,0,0,.e⟩
end
end Go.Tv
namespace Go.Tv
open Go.Ev (ah ax bC bI cD eF)
theorem VZ (n:Int):IntKind.wrap .i64 n=if n%18446744073709551616<9223372036854775808 then n%18446744073709551616 else n%18446744073709551616-18446744073709551616:=by
 have e:IntKind.wrap .i64 n=if n%(2 ^ 64:Int)>=(2 ^ 63:Int) then n%(2 ^ 64:Int)-(2 ^ 64:Int) else n%(2 ^ 64:Int):=by
  unfold IntKind.wrap;by_cases h:n%(2 ^ 64:Int)>=(2 ^ 63:Int)
  .rw[ag h];exact ag (by show (true&&decide (n%(2 ^ 64:Int)>=(2 ^ 63:Int)))=true;simpa using h)
  rw[aa h];exact aa (by show ¬(true&&decide (n%(2 ^ 64:Int)>=(2 ^ 63:Int)))=true;simp;omega)
 rw[e];split<;>split<;>omega
theorem i64_in {n:Int}(h0 : -9223372036854775808<=n)(h1:n<9223372036854775808):IntKind.wrap .i64 n=n:=by
 rw[VZ];split<;>omega
theorem QZ (n:Int):IntKind.wrap .u64 n=n%18446744073709551616:=by
 unfold IntKind.wrap;simp only[IntKind.bits,IntKind.signed,iY,cu,ee];rfl
theorem u64_in {n:Int}(h0:0<=n)(h1:n<18446744073709551616):IntKind.wrap .u64 n=n:=by rw[QZ];omega
theorem afz (n:Int):IntKind.wrap .u8 n=n%256:=by
 unfold IntKind.wrap;simp only[IntKind.bits,IntKind.signed,iY,cu,ee];rfl
theorem u8_in {n:Int}(h0:0<=n)(h1:n<256):IntKind.wrap .u8 n=n:=by rw[afz];omega
theorem pZ {a b:Int}(h:a<b):bC a b=true:=by rw[cD];simpa using h
theorem fL {a b:Int}(h:b<=a):bC a b=false:=by rw[cD];simpa using h
theorem Gg {a b:Int}(h:a=b):bI a b=true:=by rw[eF,h];simp
theorem x9 {a b:Int}(h:a≠b):bI a b=false:=by rw[eF];simpa using h
theorem afA (c:UInt8):0<=cY c:=Int.natCast_nonneg _
theorem afB (c:UInt8):cY c<256:=by have:=c.toNat_lt;unfold cY;simp;omega
theorem Q0 (c:UInt8):Zy (cY c)=c:=by unfold Zy cY;simp
theorem Jo {a b:UInt8}(h:cY a=cY b):a=b:=by rw[<-Q0 a,h,Q0]
theorem ux {α:Type}(l:List α)(n:Nat):dQ l (n:Int)=l[n]? := rfl
theorem kK {α:Type}(pre r:List α)(c:α):dQ (pre++c::r) (pre.length:Int)=some c:=by rw[ux];simp
theorem dS {a b:Nat}(h:a<=b):Nat.ble a b=true:=ep h
theorem V0 {s w:List UInt8}{a n:Nat}(he:(s.drop a).take n=w)(f t:Nat)(ht:t<=n):dX s ((a+f:Nat):Int) ((a+t:Nat):Int)=(w.take t).drop f:=by
 unfold dX;simp only[bg];rw[<-he,pG,pF,eJ,gx ht];congr 1;omega
theorem aaq {a:Int}(h0:0<=a)(h1:a<18446744073709551616)(k:Nat)(hk:k<=64):((BitVec.ofInt 64 a &&& BitVec.ofInt 64 ((2 ^ k-1:Nat):Int)).toNat:Int)=a%(2 ^ k:Nat):=by
 obtain⟨n,rfl⟩:∃n:Nat,a=n:=⟨a.toNat,by omega⟩;rw[BitVec.toNat_and,iX,iX,jX,jX];have h2:n%2 ^ 64=n:=ig (by omega);have hp:2 ^ k<=2 ^ 64:=Nat.pow_le_pow_right (by omega) hk;have hpos:0<2 ^ k:=Nat.two_pow_pos k;have h3:(2 ^ k-1)%2 ^ 64=2 ^ k-1:=ig (by omega);rw[h2,h3,Nat.and_two_pow_sub_one_eq_mod];simp
abbrev wh:=FuncId×List (Option Ty)×(List AV->Option (Bool×List fA))
noncomputable def Uq (l:List wh):Up:=λf=>List.rec (motive:=λ_=>Option (List (Option Ty)×(List AV->Option (Bool×List fA)))) none (λe _ r=>ah (Nat.beq f e.1) (some e.2) r) l
def iT (X:ij)(cf:Nat×Nat->Ev.cH)(l:List wh):Prop:=∀id sig g,Uq l id=some (sig,g)->dc X cf id g
theorem iT.nil {X:ij}{cf:Nat×Nat->Ev.cH}:iT X cf []:=λ_ _ _ h=>by cases h
theorem iT.cons {X:ij}{cf:Nat×Nat->Ev.cH}{f:FuncId}{sig:List (Option Ty)}{g:List AV->Option (Bool×List fA)}{l:List wh}(h:dc X cf f g)(t:iT X cf l):iT X cf ((f,sig,g)::l):=λid sig' g' hk=>by
 have hk:ah (Nat.beq id f) (some (sig,g)) (Uq l id)=some (sig',g'):=hk;cases hb:Nat.beq id f with
 |true =>
  rw[hb]at hk;have he:id=f:=bf hb;have hk:(sig,g)=(sig',g'):=bL hk;cases hk;rw[he];exact h
 |false=>rw[hb]at hk;exact t id sig' g' hk
noncomputable def yJ {α:Type}(n a b:Int)(x y:α):α:=ah (!bC n a) (ah (!bC b n) x y) y
theorem EK {α:Type}(n a b:Int)(x y:α):yJ n a b x y=if a<=n/\n<=b then x else y:=by
 unfold yJ;simp only[ax,cD,aS,bH];by_cases h1:n<a
 .rw[aa (by simpa using h1),aa (by omega)]
 rw[ag h1];by_cases h2:b<n
 .rw[aa (by simpa using h2),aa (by omega)]
 rw[ag h2,ag (by omega)]
theorem cA {α:Type}(a b:Int)(x y:α):ah (bC a b) x y=if a<b then x else y:=by rw[ax,cD];simp
theorem iU {α:Type}(a b:Int)(x y:α):ah (!bC a b) x y=if b<=a then x else y:=by
 rw[ax,cD];by_cases h:a<b
 .rw[aa (by simpa using h),aa (by omega)]
 rw[ag (by simpa using h),ag (by omega)]
theorem cq {α:Type}(a b:Int)(x y:α):ah (bI a b) x y=if a=b then x else y:=by rw[ax,eF];simp
theorem cn {α:Type}(a b:Int)(x y:α):ah (!bI a b) x y=if a=b then y else x:=by
 rw[ax,eF];by_cases h:a=b
 .rw[aa (by simpa using h),ag h]
 rw[ag (by simpa using h),aa h]
end Go.Tv
namespace Go.Tv
open Go.Ev (Tr ah iL Mem jJ alive ax dF jt Fr bG Ren)
end Go.Tv
namespace Go.Tv
open Go.Ev (bG)
open Go.WideShapes Go.Deep
variable {H:Type} {enc:TypeId×Value->H} {P:Program} {w:World} {base:Nat} {sp:Nat->Bool} {held:Bool}
end Go.Tv
namespace Go.Tv
variable {β:Type}
noncomputable def Aw:mY->mY
 |.node _ l r=>.node none l r
 |a=>a
noncomputable def codeFrom (X:ij)(call:cI β)(an:ei)(rounds:Nat)(id:FuncId)(p:List Bool)(k:AV->aG->Option β)(f:fJ)(H:aG):Option β :=
 match X.P.funcs[id]? with
 |some fn=>match fn.body with
  |some c=>iD X call an.tr (pN X call an.tr an.ja rounds rounds) rounds (kB c p) (Aw (lH an.I6 p)) f H (EJ X call an.tr (pN X call an.tr an.ja rounds rounds) rounds p c an.I6 (qz X fn k))
  |none=>none
 |none=>none
end Go.Tv
namespace Go.Tv
def rR:mY->mY->mY
 |.none,b=>b
 |.node o l r,.none=>.node o l r
 |.node o l r,.node o' l' r'=>.node (match o with|some x=>some x|none=>o') (rR l l') (rR r r')
end Go.Tv
namespace Go.Tv
open Go.Ev
theorem EU {X:ij}{kn:Ev.fe}{f:FuncId}{g:List AV->Option (Bool×List fA)}
 (h:∀args' rs,g args'=some (true,rs)->∃v u vE uE,rs=[.val v,.val u]/\uw v=true/\uw u=true/\(∀S,VR S v vE)/\(∀S,VR S u uE)/\∀S bJ,LV S args' bJ->kn f bJ=some (.tuple #[vE,uE])/\Ev.cG bJ=true/\Ev.aZ (.tuple #[vE,uE])=true):dc X (dR X kn) f g:=by
 intro args' rs hg;obtain⟨v,u,vE,uE,rfl,hs,hs2,hv,hu,hkn⟩:=h args' rs hg;refine⟨[v,u],aG.empty,λS E bJ hr hgl hl=>?_,⟨rfl,hs,rfl,hs2,trivial⟩⟩;obtain⟨k1,k2,k3⟩:=hkn S bJ hl;refine⟨S,.tuple #[vE,uE],E,⟨1,λn hn=>?_⟩,⟨[vE,uE],rfl,LV.cons (hv S) (LV.cons (hu S) LV.nil)⟩,hr,BJ.refl _ _ _⟩;obtain⟨R,D⟩:=n;obtain⟨D',rfl⟩:∃D',D=D'+1:=⟨D-1,by have:=hn.2;simp only at this;omega⟩;show Ev.nR X.P X.G kn R (D'+1) f bJ E=_;rw[Ev.lX,k1];simp only[k2,k3,nH,fF]
end Go.Tv
namespace Go.Tv
open Go.Ev
noncomputable section
variable {β:Type}
def WJ:Code->List Bool->Code
 |.seq x y,true::p=>.seq x (WJ y p)
 |_,_=>.skip
def Ay:Code->List Bool->Bool
 |.seq _ y,true::p=>Ay y p
 |.seq _ _,[]=>true
 |_,_=>false
theorem zu (X:ij)(call:cI β)(tr:List Tmp)(J:tA β)(rounds:Nat):∀(p:List Bool) (c:Code),Ay c p=true->∀(a:mY) (f:fJ) (H:aG) (k:KT β),
 iD X call tr J rounds c a f H k=iD X call tr J rounds (WJ c p) a f H (y8 (λf H=>iD X call tr J rounds (kB c p) (lH a p) f H k) k)
 |[],c,h,a,f,H,k=>by
  cases c<;>first|(cases h;done)|rfl
 |false::p,c,h,a,f,H,k=>by cases c<;>cases h
 |true::p,c,h,a,f,H,k=>by
  cases c with
  |seq x y =>
   have ih:=zu X call tr J rounds p y h;show CZ a f H (λf H=>iD X call tr J rounds x a.l f H (y8 (λf H=>iD X call tr J rounds y a.r f H k) k)) =
    CZ a f H (λf H=>iD X call tr J rounds x a.l f H (y8 (λf H=>iD X call tr J rounds (WJ y p) a.r f H (y8 (λf H=>iD X call tr J rounds (kB y p) (lH a.r p) f H k) k)) (y8 (λf H=>iD X call tr J rounds (kB y p) (lH a.r p) f H k) k)))
   congr 1
   funext f H
   congr 1
   funext lv f H
   cases lv with
   |normal=>exact ih a.r f H k
   |exit id=>rfl
   |ret=>rfl
   |goto l=>rfl
  |_=>cases h
theorem BZ (X:ij)(call:cI β)(tr:List Tmp)(J:tA β)(rounds:Nat):∀(p:List Bool) (c:Code),Ay c p=true->∀(a:mY) (f:fJ) (H:aG) (k:KT β),
 iD X call tr J rounds (kB c p) (lH a p) f H k=CZ (lH a p) f H λf H=>iD X call tr J rounds (kB c p) (Aw (lH a p)) f H k
 |[],c,h,a,f,H,k=>by
  cases c with
  |seq x y =>
   cases a with
   |none=>rfl
   |node o l r=>rfl
  |_=>cases h
 |false::p,c,h,a,f,H,k=>by cases c<;>cases h
 |true::p,c,h,a,f,H,k=>by
  cases c with
  |seq x y=>exact BZ X call tr J rounds p y h a.r f H k
  |_=>cases h
theorem Dv (X:ij)(call:cI β)(tr:List Tmp)(J:tA β)(rounds:Nat):∀(p:List Bool) (c:Code),Ay c p=true->∀(a:mY) (k:KT β),EJ X call tr J rounds p c a k=k
 |[],c,_,a,k=>by cases c<;>rfl
 |false::p,c,h,a,k=>by cases c<;>cases h
 |true::p,c,h,a,k=>by
  cases c with
  |seq x y=>exact Dv X call tr J rounds p y h a.r k
  |_=>cases h
def aaK (X:ij)(call:cI β)(an:ei)(rounds:Nat)(id:FuncId)(p:List Bool)(args:List AV)(H:aG)(k:AV->aG->Option β)(K:fJ->aG->Option β):Option β :=
 match X.P.funcs[id]? with
 |some fn=>match fn.body with
  |some c=>ah (Nat.ble args.length fn.ntmps)
   (iD X call an.tr (pN X call an.tr an.ja rounds rounds) rounds (WJ c p) an.I6 ((fJ.mk fn.ntmps .e).fill 0 args) H (y8 (λf H=>CZ (lH an.I6 p) f H K) (qz X fn k))) none
  |none=>none
 |none=>none
def Rc (X:ij)(id:FuncId)(p:List Bool):Bool :=
 match X.P.funcs[id]? with
 |some fn=>match fn.body with
  |some c=>Ay c p
  |none=>false
 |none=>false
theorem EV {X:ij}{call:cI β}{an:ei}{rounds:Nat}{id:FuncId}{p:List Bool}(hp:Rc X id p=true)(args:List AV)(H:aG)(k:AV->aG->Option β) :
 aT X call an rounds id args H k=aaK X call an rounds id p args H k (codeFrom X call an rounds id p k):=by
 unfold Rc at hp;unfold aT aaK;cases hf:X.P.funcs[id]? with
 |none=>rfl
 |some fn =>
  rw[hf]at hp;simp only at hp ⊢;cases hb:fn.body with
  |none=>rfl
  |some c =>
   rw[hb]at hp;simp only at hp ⊢;rw[zu X call an.tr _ rounds p c hp];have e:(λf H=>iD X call an.tr (pN X call an.tr an.ja rounds rounds) rounds (kB c p) (lH an.I6 p) f H (qz X fn k)) =
    λf H=>CZ (lH an.I6 p) f H (codeFrom X call an rounds id p k):=by
    funext f H
    rw[BZ X call an.tr _ rounds p c hp];congr 1
    funext f H
    unfold codeFrom;rw[hf];simp only;rw[hb];simp only;rw[Dv X call an.tr _ rounds p c hp]
   rw[e]
end
end Go.Tv

/- What the layer answers the machine's call answers. Calls by contracts, or by the callee's own text. Contracts that are shown by runs alone: what a run leaves, told by a reckoning. Package-level variables that read as given data, for the symbolic layer. Loops over what is known by terms alone: a loop of a function's code as a function of its rounds and of the slots that are kept at its head. Numbers, bytes and lists: lemmas for what runs of the symbolic layer come to. Slices that came in, as lists. Slices of plain data that came in, as lists. A function from a place of its code on; notes at several places; contracts of two results that are known already. -/
import Derived.Test.YtpaddkkfefgkfaaGreatDoorLyf
import Derived.Test.YtpaddkkfefgkfaaGreatDoorLyc
import Derived.Deep.Slices
import Derived.WideShapes
set_option linter.unusedVariables false
set_option linter.unusedSimpArgs false

namespace Go.Tv
open Go.Ev (Tr pick2 Leave Mem Blk alive pick2_eq alive_some opA Fr VRel Ren)
open Go.RowKit
theorem xZ {S:Wo} {vs:List AV} {x:Value} (h:VR S (mh vs) x):∃xs,x=Ev.rz xs/\LV S vs xs:=by
 match vs,h with
 |
  [],h =>
  have h:VR S (.cB []) x:=h;cases h with
  |
   cB _ m hl hv =>
   have:m=[]:=List.length_eq_zero_iff.1 hl.symm;subst this;exact ⟨[],rfl,LV.nil⟩
 |[v],h=>exact ⟨[x],rfl,LV.cons h LV.nil⟩
 |
  v::w::vs,h =>
  have h:VR S (.cB (v::w::vs)) x:=h;cases h with
  |
   cB _ m hl hv =>
   match m,hl,hv with
   |a::b::m,hl,hv=>exact ⟨a::b::m,rfl,⟨hl,hv⟩⟩
def FQ (n:Nat):Ren:=λi=>if i<n then some (i,0) else none
open Classical in
noncomputable def o6 (w:World) (i:Nat):Blk :=
 match w.heap[i]? with
 |some (.cells C t _)=>⟨C.toList.map λv=>if ∃a,v = .slice (some a) 0 0 then Ev.vd else if VRel (FQ w.heap.size) v v then v else .chan none,t,true,false⟩
 |_=>⟨[],0,false,false⟩
theorem uf:∀(l:List Blk) (H:Mem),∃H',H.oD l=some H'
 |[],H=>⟨_,rfl⟩
 |
  b::l,H=>by
  obtain ⟨H1,h1⟩:=Mem.eY H b;obtain ⟨H2,h2⟩:=uf l H1;exact ⟨H2,by simp only[Ev.Mem.oD,h1,h2]⟩
noncomputable def snap (w:World):Mem:=(Mem.oD Mem.empty ((List.range w.heap.size).map (o6 w))).getD Mem.empty
theorem nX (w:World):(snap w).size=w.heap.size/\(snap w).lk=w.heap.size/\∀i,(snap w).get i=if i<w.heap.size then some (o6 w i) else none:=by
 obtain ⟨H',h⟩:=uf ((List.range w.heap.size).map (o6 w)) Mem.empty
 obtain ⟨h1,h2,h3⟩:=Ev.p5 _ h
 have e:snap w=H':=by unfold snap;rw[h];rfl
 rw[e]
 have hs:H'.size=w.heap.size:=by rw[h1];simp[Mem.empty]
 refine ⟨hs,by rw[h2,hs],λi=>?_⟩
 rw[h3,if_neg (by simp[Mem.empty])]
 simp only[Mem.empty,Nat.sub_zero]
 by_cases hi:i<w.heap.size
 .
  rw[if_pos hi];simp[hi]
 rw[if_neg hi];simp;omega
theorem FR (P:Program) (w:World) (G:Nat) (hG:G<=w.heap.size):Ev.bg ⟨P,w.heap.size,w.heap.size,G,w,λ_=>none⟩ (FQ w.heap.size) (snap w) w:=by
 obtain ⟨s1,s2,s3⟩:=nX w
 have V3:∀{i:Nat} {b:Ev.Blk},(snap w).get i=some b->Ev.cO b=false:=by
  intro i b hi;rw[s3] at hi;split at hi
  .
   cases hi;unfold o6;split<;>rfl
  cases hi
 refine ⟨⟨Below.refl _ _,λr o h=>by cases h⟩,Nat.le_refl _,λi x h=>?_,by rw[s2];exact Nat.le_refl _,by rw[s1];exact Nat.le_refl _,λg hg=>if_pos (Nat.lt_of_lt_of_le hg hG),λi b hi hl=>?_,λi j bi bj r x y hi _ hj _ hr hr'=>?_,λi b hi hm=>(by rw[V3 hi] at hm;cases hm),λi j bi bj r x y hi hm=>(by rw[V3 hi] at hm;cases hm)⟩
 .
  rw[s1];unfold FQ at h;split at h
  .
   assumption
  cases h
 .
  rw[s3] at hi;split at hi
  .
   rename_i hlt;cases hi;unfold o6 at hl ⊢;split at hl
   .
    rename_i C t fr hC;refine ⟨i,0,C,fr,0,if_pos hlt,.inl ⟨hlt,rfl⟩,hC,.inl hlt,⟨.inl hlt,λ_=>rfl⟩,by simp,⟨by simp,λj v hv hj=>?_⟩,.inl hlt⟩
    simp only[List.getElem?_map,Option.map_eq_some_iff] at hv;obtain ⟨u,hu,rfl⟩:=hv;split at hj
    .
     rename_i qg;rw[if_pos qg];obtain ⟨a,rfl⟩:=qg;exact ⟨_,by simpa using hu,.void a⟩
    rename_i hno;rw[if_neg hno];split at hj
    .
     rename_i qg;rw[if_pos qg];exact ⟨u,by simpa using hu,qg⟩
    cases hj
   cases hl
  cases hi
 unfold FQ at hr hr'
 split at hr
 .
  split at hr'
  .
   cases hr;cases hr';rfl
  cases hr'
 cases hr
noncomputable def iL (w:World):Wo:=⟨iK (snap w),λ_=>none,λ_ _=>none⟩
theorem FT (w:World):Rel (iL w) aa.empty (snap w):=vJ _ _ (λi cs hi=>by
 have hi:(alive (snap w) i).map (·.cells)=some cs:=hi
 simp only[Option.map_eq_some_iff] at hi
 obtain ⟨b,h1,h2⟩:=hi;exact ⟨b,h1,h2⟩) (by obtain ⟨s1,s2,_⟩:=nX w;omega)
def X5:AV->Bool
 |.bF _ _=>true
 |v=>nV v
theorem Pe {w:World} {a:AV} {x:Value} (ha:X5 a=true) (hvd:x≠Ev.vd) (h:VR (iL w) a x):VRel (FQ w.heap.size) x x:=by
 have one:∀(v:AV) (y:Value),(match v with | .int _ _=>true | .bool _=>true | .str _=>true | .kV _=>true | .bK=>true | .je=>true|_=>false)=true->VR (iL w) v y->VRel (FQ w.heap.size) y y:=by
  intro v y hv h;cases h<;>first|(cases hv;done)|constructor
 cases h with
 |
  bF e l v hS =>
  rcases hS with ⟨_,rfl|rfl⟩|⟨i,pre,mid,post,cap,rfl,hF,_⟩
  .
   exact .eB _ _
  .
   exact absurd rfl hvd
  have hF:(alive (snap w) i).map (·.cells)=some (pre++(mid++post)):=hF
  have hi:i<w.heap.size:=by
   cases ha:alive (snap w) i with
   |none=>rw[ha] at hF;cases hF
   |some b=>have:=fy ha;rw[(nX w).1] at this;exact this
  exact .slice i _ _ _ i 0 (if_pos hi)
 |
  agg l m hl hm =>
  refine .agg _ _ rfl λj a b h1 h2=>?_
  rw[h1] at h2;cases h2;have hlt:j<m.length:=by have:=(Array.getElem?_eq_some_iff.1 h1).1;simpa using this
  have hj:m[j]? = some a:=by simpa using h1
  have nP:j<l.length:=by omega
  have:=List.all_eq_true.1 ha l[j] (List.getElem_mem nP);exact one l[j] a this (hm j l[j] a (List.getElem?_eq_getElem nP) hj)
 |int=>exact .int _ _
 |bool=>exact .bool _
 |str=>exact .string _
 |kV=>exact .float _ _
 |bK=>exact .eB _ _
 |je=>exact .pK
 |_=>cases ha
theorem TB {X:cI} (hno:Ev.cP X.P) (hm:X.P.follows .mixedOrders=true) {kn:Ev.bP} {GR:List Ev.Blk} (hK:Ev.dP X.P GR kn) {f:FuncId} {args:List AV} {v:AV} {vE:Value} (hv:∀S x,VR S v x->x=vE) (hfree:Ev.addrFree vE=true)
 (h:∀(S:Wo) (E:Mem) (ax:List Value),Rel S aa.empty E->bN X S->LV S args ax->∃S' vE E',(∃N,∀n:Nat×Nat,N<=n.1/\N<=n.2->aY X kn n f ax E=some (vE,E'))/\VR S' v vE)
 {w:World} (Ig:Ev.dV GR w) (hG:X.G<=w.heap.size) (hg:bN X (iL w)) {args':List Value} (hargs:LV (iL w) args args') (qg:∀x∈args',VRel (FQ w.heap.size) x x) :
 Calls X.P f args'.toArray w λe w'=>e = .returned vE/\Below w.heap.size w w':=by
 obtain ⟨S',vE',E',⟨N,h1⟩,h2⟩:=h (iL w) (snap w) args' (FT w) hg hargs
 have hvE:=hv S' vE' h2
 subst hvE
 have hc:=h1 (N,N) ⟨Nat.le_refl _,Nat.le_refl _⟩
 have qg:Ev.LR (VRel (FQ w.heap.size)) args' args':=⟨rfl,λj x y hx hy=>by
  rw[hx] at hy;cases hy;exact qg x (List.mem_of_getElem? hx)⟩
 refine (Ev.Dm hno hm hK hc (.inr (by first|assumption|exact hfree)) (c:=⟨X.P,w.heap.size,w.heap.size,X.G,w,λ_=>none⟩) rfl ⟨rfl,Ig,Ig.1⟩ (FR X.P w X.G hG) qg).mono ?_
 rintro e w' ⟨ρ',v',rfl,k1,k2,k3⟩
 exact ⟨by rw[Ev.dU k2 hfree],k3.below⟩
theorem TC {X:cI} (hno:Ev.cP X.P) (hm:X.P.follows .mixedOrders=true) {kn:Ev.bP} {GR:List Ev.Blk} (hK:Ev.dP X.P GR kn) {f:FuncId} {args:List AV} {v:AV} {vE:Value} (hv:∀S x,VR S v x->x=vE) (hfree:Ev.addrFree vE=true)
 (h:∀(S:Wo) (E:Mem) (ax:List Value),Rel S aa.empty E->bN X S->LV S args ax->∃S' vE E',(∃N,∀n:Nat×Nat,N<=n.1/\N<=n.2->aY X kn n f ax E=some (vE,E'))/\VR S' v vE)
 {w:World} (Ig:Ev.dV GR w) (hG:X.G<=w.heap.size) (hg:bN X (iL w)) {args':List Value} (hargs:LV (iL w) args args') (hb:args.all X5=true) (hvd:∀x∈args',x≠Ev.vd:=by simp[Ev.vd]) :
 Calls X.P f args'.toArray w λe w'=>e = .returned vE/\Below w.heap.size w w' :=
 TB hno hm hK hv hfree h Ig hG hg hargs λx hx=>by
  obtain ⟨j,hj⟩:=List.getElem?_of_mem hx;have hlt:j<args.length:=by rw[hargs.1];exact bI hj
  exact Pe (List.all_eq_true.1 hb _ (List.getElem_mem hlt)) (hvd x hx) (hargs.2 j _ x (List.getElem?_eq_getElem hlt) hj)
theorem Ih {X:cI} (hno:Ev.cP X.P) (hm:X.P.follows .mixedOrders=true) {kn:Ev.bP} (hK:Ev.qN X.P kn) {f:FuncId} {args:List AV} {v:AV} {vE:Value} (hv:∀S x,VR S v x->x=vE) (hfree:Ev.addrFree vE=true)
 (h:∀(S:Wo) (E:Mem) (ax:List Value),Rel S aa.empty E->bN X S->LV S args ax->∃S' vE E',(∃N,∀n:Nat×Nat,N<=n.1/\N<=n.2->aY X kn n f ax E=some (vE,E'))/\VR S' v vE)
 {w:World} (hG:X.G<=w.heap.size) (hg:bN X (iL w)) {args':List Value} (hargs:LV (iL w) args args') (hb:args.all X5=true) (hvd:∀x∈args',x≠Ev.vd:=by simp[Ev.vd]) :
 Calls X.P f args'.toArray w λe w'=>e = .returned vE/\Below w.heap.size w w' :=
 TC hno hm hK hv hfree h (Ev.dV.nil w) hG hg hargs hb hvd
end Go.Tv

namespace Go.Tv
open Go.Ev (Tr pick2 Leave Mem Blk alive pick2_eq alive_some opA Fr)
noncomputable section
def Pf (H:aa):AV->Option AV
 |
  .own id _=>match H.get id with
  |some (.list _ e l _ _ _)=>some (.bF e l)
  |_=>none
 |v=>pick2 (Kj v) (some v) none
def DI (H:aa):List AV->Option (List AV)
 |[]=>some []
 |
  v::l=>match Pf H v with
  |
   some w=>match DI H l with
   |some m=>some (w::m)
   |none=>none
  |none=>none
def Pg (H:aa):AV->Option AV
 |
  .agg l=>match DI H l with
  |some m=>some (.agg m)
  |none=>none
 |_=>none
def normArg (H:aa):Option Ty->AV->Option AV
 |
  some e,a=>match a with
  |.str _=>none
  |
   a=>match wN H e a with
   |some l=>some (.bF e l)
   |none=>none
 |none,a=>pick2 (Kj a) (some a) (Pg H a)
def normArgs (H:aa):List (Option Ty)->List AV->Option (List AV)
 |[],[]=>some []
 |
  s::sig,a::args=>match normArg H s a with
  |
   some b=>match normArgs H sig args with
   |some l=>some (b::l)
   |none=>none
  |none=>none
 |_,_=>none
def qV {β:Type} (sig:List (Option Ty)) (g:List AV->Option (Bool×List bA)) (args:List AV) (H:aa) (k:AV->aa->Option β):Option β :=
 match normArgs H sig args with
 |
  some args'=>match g args' with
  |some (c,rs)=>pick2 c (k (mh (fu rs H).1) (fu rs H).2) none
  |none=>none
 |none=>none
def aO (X:cI) (cf:Nat×Nat->Ev.aN) (f:FuncId) (g:List AV->Option (Bool×List bA)):Prop :=
 ∀args' rs,g args'=some (true,rs)->∃vs H1,DH X cf f args' vs H1/\mV H1 [] vs rs
abbrev TD:=FuncId->Option (List (Option Ty)×(List AV->Option (Bool×List bA)))
def B2 {β:Type} (X:cI) (args:List AV) (H:aa) (k:AV->aa->Option β):Option β :=
 match args with
 |[.bK]=>k (.cB []) H
 |
  [.own i _]=>match H.get i with
  |some (.list t (.int .u8) l _ _ false)=>pick2 (H.ju i&&Ev.CV X.P t&&Nat.ble 1 l.length) (k (.cB []) (H.put i .dead)) none
  |_=>none
 |_=>none
def kB (X:cI) (K:TD) (inl:FuncId->Bool) (rounds:Nat) (β:Type):Nat->aT β :=
 λn=>Nat.rec (motive:=λ_=>aT β) (λ_ _ _ _=>none)
  (λ_ go id args H k=>pick2 (X.kl id) (B2 X args H k) (match K id with
   |some (sig,g)=>qV sig g args H k
   |none=>pick2 (inl id) (ag X go ⟨.none,.none,X.trs id⟩ rounds id args H k) none)) n
def sM (e:Ty):AV->Option (List e.den)
 |.bF e' l=>eP e' e l
 |_=>none
def asI (k:IntKind):AV->Option Int
 |.int k' n=>if k=k' then some n else none
 |_=>none
def asB:AV->Option Bool
 |.bool b=>some b
 |_=>none
def asS:AV->Option (List UInt8)
 |.str s=>some s
 |_=>none
end
theorem bq {e:Ty} {a:AV} {l:List e.den} (h:sM e a=some l):a = .bF e l:=by
 unfold sM at h
 split at h
 .
  obtain ⟨he,hc⟩:=aS h;subst he;have hc:_=l:=hc;rw[<-hc]
 cases h
theorem Ii {H:aa} {v w:AV} (h:Pf H v=some w):zj H v w:=by
 unfold Pf at h
 split at h
 .
  rename_i id n;split at h
  .
   rename_i t e l cw ex ro hg;cases h;refine .inr ⟨e,l,rfl,?_,λs hs=>by cases hs⟩
   show (match H.get id with
    |some (.list _ e' l' _ _ _)=>eP e' e l'
    |_=>none)=some l
   rw[hg];unfold eP;simp
  cases h
 rw[pick2_eq] at h
 split at h
 .
  rename_i hs;cases h;exact .inl ⟨rfl,hs⟩
 cases h
theorem wU {H:aa}:∀{l m:List AV},DI H l=some m->l.length=m.length/\∀(j:Nat) x y,l[j]? = some x->m[j]? = some y->zj H x y
 |[],m,h=>by cases h;exact ⟨rfl,λj x y hx=>by simp at hx⟩
 |
  v::l,m,h=>by
  unfold DI at h;split at h
  .
   rename_i w hw;split at h
   .
    rename_i m' hm;cases h;obtain ⟨h1,h2⟩:=wU hm;refine ⟨by simp[h1],λj x y hx hy=>?_⟩
    cases j with
    |succ j=>exact h2 j x y (by simpa using hx) (by simpa using hy)
    |zero=>simp at hx hy;subst hx;subst hy;exact Ii hw
   cases h
  cases h
theorem Ij {H:aa} {a b:AV} (h:Pg H a=some b):Kk H a b:=by
 unfold Pg at h
 split at h
 .
  rename_i l;split at h
  .
   rename_i m hm;cases h;obtain ⟨h1,h2⟩:=wU hm;exact .inr ⟨l,m,rfl,rfl,h1,h2⟩
  cases h
 cases h
theorem rQ {H:aa}:∀{sig:List (Option Ty)} {args args':List AV},normArgs H sig args=some args'->args.length=args'.length/\∀(j:Nat) a b,args[j]? = some a->args'[j]? = some b->Kk H a b
 |[],[],args',h=>by cases h;exact ⟨rfl,λj a b ha=>by simp at ha⟩
 |[],_::_,args',h=>by cases h
 |_::_,[],args',h=>by cases h
 |
  s::sig,a::args,args',h=>by
  unfold normArgs at h;split at h
  .
   rename_i b hb;split at h
   .
    rename_i l hl;cases h;obtain ⟨h1,h2⟩:=rQ hl;refine ⟨by simp[h1],λj x y hx hy=>?_⟩
    cases j with
    |succ j=>exact h2 j x y (by simpa using hx) (by simpa using hy)
    |
     zero =>
     simp at hx hy;subst hx;subst hy;unfold normArg at hb;split at hb
     .
      split at hb
      .
       cases hb
      rename_i e _ hne;split at hb
      .
       rename_i l' hl';cases hb;exact .inl (.inr ⟨_,l',rfl,hl',λs hs=>hne s hs⟩)
      cases hb
     rw[pick2_eq] at hb;split at hb
     .
      rename_i hs;cases hb;exact .inl (.inl ⟨rfl,hs⟩)
     exact Ij hb
   cases h
  cases h
section
variable {X:cI} {cf:Nat×Nat->Ev.aN}
theorem zk {β:Type} {f:FuncId} {sig:List (Option Ty)} {g:List AV->Option (Bool×List bA)} (hc:aO X cf f g) {args:List AV} {H:aa} {k:AV->aa->Option β} {r:β} (h:qV sig g args H k=some r):∃v H',k v H'=some r/\L4 X cf f args H v H':=by
 unfold qV at h
 split at h
 .
  rename_i args' ha;split at h
  .
   rename_i c rs hg;rw[pick2_eq] at h;split at h
   .
    rename_i hc';subst hc';obtain ⟨vs,H1,h1,h2⟩:=hc args' rs hg;obtain ⟨l1,l2⟩:=rQ ha;exact ⟨_,_,h,h1.agO h2 l1 l2⟩
   cases h
  cases h
 cases h
def acJ (X:cI) (kn:Ev.bP):Prop:=∀id,X.kl id=true->kn id Ev.jk=some (.tuple #[])/\kn id [.slice none 0 0]=some (.tuple #[])/\∀i n c,kn id [.slice (some ⟨i,0,none⟩) n c]=none
theorem fN.u8s {F:Nat->Option (List Value)}:∀{l:List (Ty.den (.int .u8))} {cs:List Value},fN (CR F (.int .u8)) l cs->cs.all Ev.EA=true
 |
  [],cs,h=>by
  have:cs=[]:=h;subst this;rfl
 |
  x::l,cs,h=>by
  obtain ⟨c1,c2,rfl,h1,h2⟩:=h;have h1:c1=[.int .u8 x]:=h1;subst h1;simp only[List.cons_append,List.nil_append,List.all_cons,fN.u8s h2,Bool.and_true];rfl
theorem LV.single {S:Wo} {a:AV} {l:List Value} (h:LV S [a] l):∃x,l=[x]/\VR S a x:=by
 match l,h with
 |[x],h=>exact ⟨x,rfl,h.2 0 a x rfl rfl⟩
 |[],h=>exact absurd h.1 (by simp)
 |_::_::_,h=>exact absurd h.1 (by simp)
theorem FU {kn:Ev.bP} {f:FuncId} (hk:kn f Ev.jk=some (.tuple #[])/\kn f [.slice none 0 0]=some (.tuple #[])/\∀i n c,kn f [.slice (some ⟨i,0,none⟩) n c]=none) {β:Type} {args:List AV} {H:aa} {k:AV->aa->Option β} {r:β} (h:B2 X args H k=some r) :
 ∃v H',k v H'=some r/\L4 X (aY X kn) f args H v H':=by
 obtain ⟨k1,k2,k3⟩:=hk
 unfold B2 at h
 split at h
 .
  refine ⟨_,_,h,λS E ax hr hg hl=>?_⟩
  obtain ⟨x,rfl,hx⟩:=LV.single hl;cases hx;refine ⟨S,.tuple #[],E,⟨1,λn hn=>?_⟩,S.le_refl,.cB [] [] rfl (λj x y hx=>by simp at hx),hr,St.refl _ _ _⟩
  obtain ⟨R,D⟩:=n;obtain ⟨D',rfl⟩:∃D',D=D'+1:=⟨D-1,by have:=hn.2;simp only at this;omega⟩
  show Ev.iO X.P X.G kn R (D'+1) f _ E=_;rw[Ev.gh,k2];rfl
 .
  rename_i id n0;split at h
  .
   rename_i t l cw ex Km;rw[pick2_eq] at h;split at h
   .
    rename_i hc;simp only[Bool.and_eq_true] at hc;obtain ⟨⟨hmay,hu8⟩,h1⟩:=hc;have h1:=Nat.le_of_ble_eq_true h1;refine ⟨_,_,h,λS E ax hr hg hl=>?_⟩
    obtain ⟨x,rfl,hx⟩:=LV.single hl;obtain ⟨q1,⟨q2,g2,q3,q4⟩,q5⟩:=hr.row id _ Km;cases hx with
    |
     own _ _ i c s hρ g hg' hn =>
     rw[q3] at hg';cases hg';rcases q5 with ⟨q5,_,_⟩|⟨i',cap',b,mid,post,e1,e2,e3,e4,e5,e6,e7,e8,e9,e10⟩
     .
      rw[q5] at h1;simp at h1
     rw[hρ] at e1;cases e1;have hmay':H.lk<=id:=by simpa[aa.ju,Nat.ble_eq] using hmay
     have hlk:=hr.lk id _ _ Km hmay' hρ;obtain ⟨E1,hE1⟩:=Mem.dD (b:={ b with live:=false,fix:=false }) (fy e2) hlk
     have bM:Ev.kill E i=some E1:=by unfold Ev.kill;rw[(alive_some e2).1];exact hE1
     obtain ⟨z1,z2,z3,z4,z5⟩:=Ev.iQ bM;obtain ⟨m1,m2⟩:=hr.mod (S':=S) (E':=E1) (r':=.dead) Km rfl S.le_refl rfl (λ_ _ _=>rfl) z1 z2 (λj hj=>z4 j (hj _ hρ)) (λj cs h=>.inl h) (λq hq=>by cases hq)
     refine ⟨S,.tuple #[],E1,⟨1,λn hn'=>?_⟩,S.le_refl,.cB [] [] rfl (λj x y hx=>by simp at hx),m1,m2⟩
     obtain ⟨R,D⟩:=n;obtain ⟨D',rfl⟩:∃D',D=D'+1:=⟨D-1,by have:=hn'.2;simp only at this;omega⟩
     show Ev.iO X.P X.G kn R (D'+1) f _ E=_;rw[Ev.gh,k3];obtain ⟨l2,AF⟩:=e10.2;have hall:b.cells.all Ev.EA=true:=by rw[e4,List.all_append,e5.u8s,AF.u8s];rfl
     have hsz:(Ty.int .u8).size=1:=rfl;rw[hsz,Nat.mul_one] at e6
     have hks:Ev.jl X.P kn f [.slice (some ⟨i,0,none⟩) n0 c] E=some (.tuple #[],E1):=by
      unfold Ev.jl;simp only[k1,e2];rw[pick2_eq,if_pos]
      .
       simp only[bM]
      rw[hall,e3,hu8];have a1:n0<=c:=by rw[<-hn,q4];exact e7
      simp only[Bool.and_true,Bool.and_eq_true];exact ⟨⟨⟨rfl,Nat.ble_eq_true_of_le a1⟩,by rw[Nat.beq_eq];exact e6⟩,Nat.ble_eq_true_of_le e8⟩
     show Ev.iB (Ev.jl X.P kn f _ E) _=_;rw[hks];rfl
    |
     cQ _ g hg' hn =>
     rw[q3] at hg';cases hg';omega
   cases h
  cases h
 cases h
theorem dF {kn:Ev.bP} {K:TD} {inl:FuncId->Bool} (hK:∀id sig g,K id=some (sig,g)->aO X (aY X kn) id g) (hi:∀id,inl id=true->∀args,kn id args=none) (rounds:Nat) (n:Nat) (β:Type) (hkl:acJ X kn:=by exact λ_ h=>Bool.noConfusion (show false=true from h)):aV X (aY X kn) (kB X K inl rounds β n):=by
 induction n with
 |zero=>exact λf args H k r h=>by cases h
 |
  succ n ih =>
  intro f args H k r h
  have h:pick2 (X.kl f) (B2 X args H k) (match K f with
   |some (sig,g)=>qV sig g args H k
   |none=>pick2 (inl f) (ag X (kB X K inl rounds β n) ⟨.none,.none,X.trs f⟩ rounds f args H k) none)=some r:=h
  rw[pick2_eq] at h;split at h
  .
   rename_i hf;exact FU (hkl f hf) h
  split at h
  .
   rename_i sig g hk;exact zk (hK f sig g hk) h
  rw[pick2_eq] at h;split at h
  .
   rename_i hin;obtain ⟨v,H',h1,h2⟩:=iy (nf:=true) ih (λ_=>⟨rfl,rfl⟩) h
   refine ⟨v,H',h1,λS E ax hr hg hl=>?_⟩
   obtain ⟨S',vE,E',a1,a2,a3,a4,a5⟩:=h2 S E ax hr hg hl;exact ⟨S',vE,E',dX (hi f hin) a1,(a5 rfl).1,a2,a3,(a5 rfl).2⟩
  cases h
theorem X6 {kn:Ev.bP} {f:FuncId} (hk:∀args,kn f args=none) {g:List AV->Option (Bool×List bA)} {call:∀ β,aT β} (hcall:∀ β,aV X (aY X kn) (call β))
 (h:∀args' rs,g args'=some (true,rs)->∃vs H1 an rounds,ag X (call (AV×aa)) an rounds f args' aa.empty (λv H=>some (v,H))=some (mh vs,H1)/\mV H1 [] vs rs):aO X (aY X kn) f g:=by
 intro args' rs hg
 obtain ⟨vs,H1,an,rounds,h1,h2⟩:=h args' rs hg
 refine ⟨vs,H1,λS E ax hr hgl hl=>?_,h2⟩
 obtain ⟨S',vE,E',a1,a2,a3,a4⟩:=TA hk hcall h1 S E ax hr hgl hl
 exact ⟨S',vE,E',a1,xZ a2,a3,a4⟩
theorem B3 {kn:Ev.bP} {f:FuncId} {g:List AV->Option (Bool×List bA)}
 (h:∀args' rs,g args'=some (true,rs)->∃v vE,rs=[.val v]/\nV v=true/\(∀S,VR S v vE)/\Ev.addrFree vE=true/\∀S ax,LV S args' ax->kn f ax=some vE/\Ev.addrFreeL ax=true):aO X (aY X kn) f g:=by
 intro args' rs hg
 obtain ⟨v,vE,rfl,hs,hv,hfree,hkn⟩:=h args' rs hg
 refine ⟨[v],aa.empty,λS E ax hr hgl hl=>?_,⟨rfl,hs,trivial⟩⟩
 obtain ⟨k1,k2⟩:=hkn S ax hl
 refine ⟨S,vE,E,⟨1,λn hn=>?_⟩,⟨[vE],rfl,LV.cons (hv S) LV.nil⟩,hr,AJ.refl _ _ _⟩
 obtain ⟨R,D⟩:=n
 obtain ⟨D',rfl⟩:∃D',D=D'+1:=⟨D-1,by have:=hn.2;simp only at this;omega⟩
 show Ev.iO X.P X.G kn R (D'+1) f ax E=_
 rw[Ev.gh,k1]
 simp[k2,hfree]
end
end Go.Tv

namespace Go.Tv
open Go.Ev (pick2 pick2_eq eqI eqI_spec ltI ltI_spec)
noncomputable section
def acK:IntKind->IntKind->Bool
 |.i64,.i64=>true
 |.u8,.u8=>true
 |.i32,.i32=>true
 |.u64,.u64=>true
 |.u32,.u32=>true
 |.u16,.u16=>true
 |_,_=>false
def Ph:List UInt8->List UInt8->Bool
 |[],[]=>true
 |a::l,b::m=>pick2 (Nat.beq a.toNat b.toNat) (Ph l m) false
 |_,_=>false
def Kn:AV->AV->Bool
 |.int k a,.int k' b=>pick2 (acK k k') (eqI a b) false
 |.bool a,.bool b=>pick2 a b (!b)
 |.str a,.str b=>Ph a b
 |.kV a,.kV b=>Nat.beq a b
 |.bK,.bK=>true
 |.je,.je=>true
 |_,_=>false
def Ko:List AV->List AV->Bool
 |[],[]=>true
 |a::l,b::m=>pick2 (Kn a b) (Ko l m) false
 |_,_=>false
def TE:AV->AV->Bool
 |.agg l,.agg m=>Ko l m
 |a,b=>Kn a b
def B4:(e:Ty)->e.den->e.den->Bool
 |.int _,a,b=>eqI a b
 |.bool,a,b=>pick2 a b (!b)
 |.str,a,b=>Ph a b
 |.kV,a,b=>Nat.beq a b
 |.unit,_,_=>true
 |.sl _,_,_=>false
 |.pair x y,a,b=>pick2 (B4 x a.1 b.1) (B4 y a.2 b.2) false
def TG (e:Ty):List e.den->List e.den->Bool
 |[],[]=>true
 |a::l,b::m=>pick2 (B4 e a b) (TG e l m) false
 |_,_=>false
def Kq (t:TypeId) (e:Ty) (l:List e.den) (room:Bool):Option Row->Bool
 |
  some (.list t' e' l' _ ex ro)=>pick2 (Nat.beq t t' && !ro&&(pick2 room ex true)) (match eP e' e l' with
  |some m=>TG e m l
  |none=>false) false
 |_=>false
def oO (H:aa):List Nat->List AV->List bA->Bool
 |_,[],[]=>true
 |seen,v::vs,.val w::rs=>pick2 (TE v w) (oO H seen vs rs) false
 |seen,.own id n::vs,.list t e l::rs=>pick2 (e.tV&&Nat.beq n l.length&&Kq t e l false (H.get id) && !(seen.any (Nat.beq id))) (oO H (id::seen) vs rs) false
 |seen,.bK::vs,.list _ e l::rs=>pick2 (e.tV&&l.isEmpty) (oO H seen vs rs) false
 |seen,.pz id off len cap::vs,.room t e l n::rs=>pick2 (e.tV&&Nat.beq off 0&&Nat.beq len n&&Nat.beq cap l.length&&Kq t e l true (H.get id) && !(seen.any (Nat.beq id))) (oO H (id::seen) vs rs) false
 |_,_,_=>false
def leaves (rs:List bA):Option (AV×aa)->Bool
 |some (.cB vs,H)=>pick2 (Nat.beq vs.length 1) false (oO H [] vs rs)
 |some (v,H)=>oO H [] [v] rs
 |none=>false
end
theorem Mc {a b:IntKind} (h:acK a b=true):a=b:=by
 cases a<;>cases b<;>first|rfl|cases h
theorem vK:∀{a b:List UInt8},Ph a b=true->a=b
 |[],[],_=>rfl
 |[],_::_,h=>by cases h
 |_::_,[],h=>by cases h
 |
  a::l,b::m,h=>by
  simp only[Ph,pick2_eq,Nat.beq_eq] at h;split at h
  .
   rename_i hab;rw[vK h,UInt8.toNat_inj.1 hab]
  cases h
theorem wV {a b:Bool} (h:pick2 a b (!b)=true):a=b:=by cases a<;>cases b<;>first|rfl|cases h
theorem zm {a b:AV} (h:Kn a b=true):a=b/\nV b=true:=by
 unfold Kn at h
 split at h
 .
  rw[pick2_eq] at h;split at h
  .
   rename_i hk;rw[eqI_spec] at h;exact ⟨by rw[Mc hk,beq_iff_eq.1 h],rfl⟩
  cases h
 .
  exact ⟨by rw[wV h],rfl⟩
 .
  exact ⟨by rw[vK h],rfl⟩
 .
  exact ⟨by rw[Nat.eq_of_beq_eq_true h],rfl⟩
 .
  exact ⟨rfl,rfl⟩
 .
  exact ⟨rfl,rfl⟩
 cases h
theorem zn:∀{l m:List AV},Ko l m=true->l=m/\nV (.agg m)=true
 |[],[],_=>⟨rfl,rfl⟩
 |[],_::_,h=>by cases h
 |_::_,[],h=>by cases h
 |
  a::l,b::m,h=>by
  simp only[Ko,pick2_eq] at h;split at h
  .
   rename_i hab;obtain ⟨rfl,hs⟩:=zn h;have hab':=hab;obtain ⟨rfl,_⟩:=zm hab;refine ⟨rfl,?_⟩;unfold nV at hs ⊢;simp only[List.all_cons,Bool.and_eq_true];refine ⟨?_,hs⟩;cases a<;>first|rfl|cases hab'
  cases h
theorem Md {a b:AV} (h:TE a b=true):a=b/\nV b=true:=by
 unfold TE at h
 split at h
 .
  obtain ⟨rfl,h2⟩:=zn h;exact ⟨rfl,h2⟩
 exact zm h
theorem sN:∀(e:Ty) {a b:e.den},B4 e a b=true->a=b
 |
  .int _,a,b,h=>by
  have h:eqI a b=true:=h;rw[eqI_spec] at h;exact beq_iff_eq.1 h
 |.bool,a,b,h=>wV h
 |.str,a,b,h=>vK h
 |.kV,a,b,h=>Nat.eq_of_beq_eq_true h
 |.unit,_,_,_=>rfl
 |.sl _,_,_,h=>by cases h
 |
  .pair x y,a,b,h=>by
  have h:pick2 (B4 x a.1 b.1) (B4 y a.2 b.2) false=true:=h;rw[pick2_eq] at h;split at h
  .
   rename_i h1;exact Prod.ext (sN x h1) (sN y h)
  cases h
theorem B5 (e:Ty):∀{a b:List e.den},TG e a b=true->a=b
 |[],[],_=>rfl
 |[],_::_,h=>by cases h
 |_::_,[],h=>by cases h
 |
  a::l,b::m,h=>by
  simp only[TG,pick2_eq] at h;split at h
  .
   rename_i hab;rw[sN e hab,B5 e h]
  cases h
theorem zo {t:TypeId} {e:Ty} {l:List e.den} {room:Bool} {r:Option Row} (h:Kq t e l room r=true):∃cw ex,r=some (.list t e l cw ex false)/\(room=true->ex=true):=by
 unfold Kq at h
 split at h
 .
  rename_i t' e' l' cw ex ro;rw[pick2_eq] at h;split at h
  .
   rename_i hc;simp only[Bool.and_eq_true,Bool.not_eq_true',Nat.beq_eq] at hc;obtain ⟨⟨rfl,rfl⟩,hx⟩:=hc;split at h
   .
    rename_i m hm;obtain ⟨he,hc⟩:=aS hm;subst he;have hc:l'=m:=hc;subst hc;have hl:l'=l:=B5 _ h;subst hl;refine ⟨cw,ex,rfl,λhr=>?_⟩
    subst hr;exact hx
   cases h
  cases h
 cases h
theorem FV {id:Nat} {seen:List Nat} (h:(!(seen.any (Nat.beq id)))=true):id ∉ seen:=λhm=>by
 have:seen.any (Nat.beq id)=true:=List.any_eq_true.2 ⟨id,hm,by rw[Nat.beq_eq]⟩
 rw[this] at h;cases h
theorem B6 {H:aa}:∀{vs:List AV} {rs:List bA} {seen:List Nat},oO H seen vs rs=true->mV H seen vs rs:=by
 intro vs
 induction vs with
 |
  nil =>
  intro rs seen h;cases rs with
  |nil=>trivial
  |cons r rs=>cases r<;>cases h
 |
  cons v vs ih =>
  intro rs seen h;cases rs with
  |nil=>cases v<;>cases h
  |
   cons r rs =>
   cases r with
   |
    val w =>
    have h:pick2 (TE v w) (oO H seen vs rs) false=true:=by cases v<;>exact h
    rw[pick2_eq] at h;split at h
    .
     rename_i hv;obtain ⟨h1,h2⟩:=Md hv;exact ⟨h1,h2,ih h⟩
    cases h
   |
    list t e l =>
    cases v<;>try (cases h;done)
    .
     simp only[oO,pick2_eq] at h;split at h
     .
      rename_i hc;simp only[Bool.and_eq_true,List.isEmpty_iff] at hc;exact ⟨hc.1,.inr ⟨rfl,hc.2,ih h⟩⟩
     cases h
    rename_i id n;simp only[oO,pick2_eq] at h;split at h
    .
     rename_i hc;simp only[Bool.and_eq_true,Nat.beq_eq] at hc;obtain ⟨⟨⟨h1,rfl⟩,h3⟩,h4⟩:=hc;obtain ⟨cw,ex,h5,_⟩:=zo h3;exact ⟨h1,.inl ⟨id,cw,ex,rfl,h5,FV h4,ih h⟩⟩
    cases h
   |
    room t e l len =>
    cases v<;>try (cases h;done)
    rename_i id off n cap;simp only[oO,pick2_eq] at h;split at h
    .
     rename_i hc;simp only[Bool.and_eq_true,Nat.beq_eq] at hc;obtain ⟨⟨⟨⟨⟨h1,rfl⟩,rfl⟩,rfl⟩,h3⟩,h4⟩:=hc;obtain ⟨cw,ex,h5,h6⟩:=zo h3;have:=h6 rfl;subst this;exact ⟨h1,id,cw,rfl,h5,FV h4,ih h⟩
    cases h
theorem FW {rs:List bA} {r:Option (AV×aa)} (h:leaves rs r=true):∃vs H,r=some (mh vs,H)/\mV H [] vs rs:=by
 unfold leaves at h
 split at h
 .
  rename_i vs H;rw[pick2_eq] at h;split at h
  .
   cases h
  rename_i hn;refine ⟨vs,H,?_,B6 h⟩
  match vs,hn with
  |[],_=>rfl
  |[v],hn=>exact absurd rfl hn
  |_::_::_,_=>rfl
 .
  rename_i v H hv;exact ⟨[v],H,rfl,B6 h⟩
 cases h
theorem zq {X:cI} {kn:Ev.bP} {f:FuncId} (hk:∀args,kn f args=none) {g:List AV->Option (Bool×List bA)} {call:∀ β,aT β} (hcall:∀ β,aV X (aY X kn) (call β)) (an:bG) (rounds:Nat)
 (h:∀args rs,g args=some (true,rs)->leaves rs (ag X (call (AV×aa)) an rounds f args aa.empty (λv H=>some (v,H)))=true):aO X (aY X kn) f g :=
 X6 hk hcall λargs rs hg=>by
  obtain ⟨vs,H,h1,h2⟩:=FW (h args rs hg);exact ⟨vs,H,an,rounds,h1,h2⟩
theorem zu {H:aa}:∀{vs:List AV} {seen:List Nat},vs.all nV=true->mV H seen vs (vs.map .val)
 |[],_,_=>trivial
 |
  v::vs,seen,h=>by
  simp only[List.all_cons,Bool.and_eq_true] at h;exact ⟨rfl,h.1,zu h.2⟩
theorem aJ {X:cI} {kn:Ev.bP} {f:FuncId} (hk:∀args,kn f args=none) {g:List AV->Option (Bool×List bA)} {call:∀ β,aT β} (hcall:∀ β,aV X (aY X kn) (call β))
 (h:∀args rs,g args=some (true,rs)->∃vs an rounds,ag X (call AV) an rounds f args aa.empty (λv _=>some v)=some (mh vs)/\rs=vs.map .val/\vs.all nV=true):aO X (aY X kn) f g:=by
 intro args rs hg
 obtain ⟨vs,an,rounds,h1,h2,h3⟩:=h args rs hg
 subst h2
 obtain ⟨v',H1,k1,k2⟩:=iy (nf:=false) (hcall _) (λh=>by cases h) h1
 have k1:v'=mh vs:=Option.some.inj k1
 subst k1
 refine ⟨vs,H1,λS E ax hr hgl hl=>?_,zu h3⟩
 obtain ⟨S',vE,E',a1,a2,a3,a4,_⟩:=k2 S E ax hr hgl hl
 exact ⟨S',vE,E',dX hk a1,xZ a2,a3,a4⟩
theorem x5 {X:cI} {kn:Ev.bP} {id:FuncId} (hk:∀args,kn id args=none) {call:∀ β,aT β} (hcall:∀ β,aV X (aY X kn) (call β)) {an:bG} {rounds:Nat} {args:List AV} {v:AV}
 (h:ag X (call AV) an rounds id args aa.empty (λv _=>some v)=some v):∀(S:Wo) (E:Ev.Mem) (ax:List Value),Rel S aa.empty E->bN X S->LV S args ax ->
 ∃S' vE E',(∃N,∀n:Nat×Nat,N<=n.1/\N<=n.2->aY X kn n id ax E=some (vE,E'))/\VR S' v vE:=by
 obtain ⟨v',H1,h1,h2⟩:=iy (nf:=false) (hcall _) (λh=>by cases h) h
 cases h1
 intro S E ax hr hg hl
 obtain ⟨S',vE,E',a1,a2,_,_,_⟩:=h2 S E ax hr hg hl
 exact ⟨S',vE,E',dX hk a1,a2⟩
noncomputable def aku (args:List AV):Option (Bool×List bA) :=
 match args with
 |[]=>some (true,[.val (.bool true)])
 |_=>none
theorem acL {α:Type} (a b:α):pick2 true a b=a:=rfl
theorem acM {α:Type} (a b:α):pick2 false a b=b:=rfl
end Go.Tv

namespace Go.Tv
open Go.Ev (pick2 alive addrFree addrFreeL VRel)
theorem TH {X:cI} {w:World} (h:∀g,g<X.G->X.gv g≠[]->∃(cv:List Value) (t:TypeId) (fr:Nat×Nat),w.heap[g]? = some (.cells cv.toArray t fr)/\X.gv g=cv.map Es/\addrFreeL cv=true):bN X (iL w):=λg hg he=>by
 obtain ⟨cv,t,fr,h1,h2,h3⟩:=h g hg he
 have hlt:g<w.heap.size:=(Array.getElem?_eq_some_iff.1 h1).1
 obtain ⟨_,_,s3⟩:=nX w
 have qg:∀v∈cv,VRel (FQ w.heap.size) v v:=λv hv=>by
  obtain ⟨i,hi⟩:=List.getElem?_of_mem hv;exact Ev.aU v (Ev.iP h3 hi)
 have hb:o6 w g=⟨cv,t,true,false⟩:=by
  unfold o6;rw[h1];simp only[Ev.Blk.mk.injEq,and_true];refine List.ext_getElem? λi=>?_
  rw[List.getElem?_map];cases hi:cv[i]? with
  |none=>simp[hi]
  |
   some v =>
   have:(cv.toArray.toList)[i]? = some v:=by simpa using hi
   simp only[this,Option.map_some]
   have hno:¬ ∃a,v=Value.slice (some a) 0 0:=λ⟨a,e⟩=>by
    have:=Ev.iP h3 hi;rw[e] at this;cases this
   rw[if_neg hno,if_pos (qg v (List.mem_of_getElem? hi))]
 refine ⟨cv,?_,λT _=>?_⟩
 .
  show (alive (Go.Tv.snap w) g).map (·.cells)=some cv;unfold Ev.alive;rw[s3,if_pos hlt,hb];rfl
 rw[h2]
 refine ⟨by simp,λj x y hx hy=>?_⟩
 rw[List.getElem?_map,hy] at hx
 simp only[Option.map_some,Option.some.injEq] at hx
 subst hx
 exact sG (Ev.iP h3 hy)
theorem B7 {X:cI} {w:World} {rows:List Ev.Blk} (hr:Ev.dV rows w) (h:∀g,g<X.G->X.gv g≠[]->∃b,rows[g]? = some b/\b.live=true/\X.gv g=b.cells.map Es/\addrFreeL b.cells=true):bN X (iL w) :=
 TH λg hg he=>by
  obtain ⟨b,h1,h2,h3,h4⟩:=h g hg he;obtain ⟨fr,h5,_⟩:=hr.2 g b h1 h2;exact ⟨b.cells,b.elem,fr,h5,h3,h4⟩
end Go.Tv

namespace Go.Tv
open Go.Ev (pick2 Leave)
noncomputable section
variable {β:Type}
def inside:Code->Bool->Code
 |.seq a b,d=>pick2 d b a
 |.cond _ a b,d=>pick2 d b a
 |.block _ a,_=>a
 |.loop a,_=>a
 |.scope a,_=>a
 |c,_=>c
def eG (c:Code):List Bool->Code
 |[]=>c
 |d::p=>eG (inside c d) p
def fA (a:ig):List Bool->ig
 |[]=>a
 |d::p=>fA (pick2 d a.r a.l) p
def dG (keep:List Tmp):List Bool->ig
 |[]=>.node (some keep) .none .none
 |d::p=>pick2 d (.node none .none (dG keep p)) (.node none (dG keep p) .none)
def A5 (X:cI) (call:aT β) (tr:List Tmp) (J:nT β) (rounds:Nat):List Bool->Code->ig->KT β->KT β
 |[],_,_,k=>k
 |false::p,.seq x y,a,k=>A5 X call tr J rounds p x a.l (tW (λf H=>eE X call tr J rounds y a.r f H k) k)
 |true::p,.seq _ y,a,k=>A5 X call tr J rounds p y a.r k
 |false::p,.cond _ x _,a,k=>A5 X call tr J rounds p x a.l k
 |true::p,.cond _ _ y,a,k=>A5 X call tr J rounds p y a.r k
 |_::p,.block id b,a,k=>A5 X call tr J rounds p b a.l (y5 id k)
 |_::p,.scope b,a,k=>A5 X call tr J rounds p b a.l (vu b J k)
 |_::_,_,_,k=>k
def dH (X:cI) (call:aT β) (an:bG) (rounds:Nat) (id:FuncId) (p:List Bool) (k:AV->aa->Option β) (n:Nat) (f:cj) (H:aa):Option β :=
 match X.P.funcs[id]? with
 |
  some fn=>match fn.body with
  |some c=>J8 (fA an.Fs p) (λf H k=>eE X call an.tr (mg X call an.tr an.ja rounds rounds) rounds (eG c (p++[false])) (fA an.Fs p).l f H k)
   (A5 X call an.tr (mg X call an.tr an.ja rounds rounds) rounds p c an.Fs (lC X fn k)) n f H
  |none=>none
 |none=>none
def acN (X:cI) (call:aT β) (an:bG) (rounds:Nat) (id:FuncId) (p:List Bool) (l:Nat) (k:AV->aa->Option β) (n:Nat) (f:cj) (H:aa):Option β :=
 match X.P.funcs[id]? with
 |
  some fn=>match fn.body with
  |
   some c=>match findLabel (eG c (p++[false])) l with
   |some rest=>H9 X call an.tr an.ja rounds n (eG c (p++[false])) rest f H (A5 X call an.tr (mg X call an.tr an.ja rounds rounds) rounds p c an.Fs (lC X fn k))
   |none=>none
  |none=>none
 |none=>none
def hU (n:Nat) (l:List (Tmp×AV)):cj:=l.foldl (λg q=>g.put (some q.1) q.2) ⟨n,.e⟩
def kC (l:List Row):aa:=l.foldl (λM r=>M.push r) ⟨0,0,0,.e⟩
end
end Go.Tv

namespace Go.Tv
open Go.Ev (pick2 pick2_eq ltI eqI ltI_spec eqI_spec)
theorem Pj (n:Int):IntKind.wrap .i64 n=if n%18446744073709551616<9223372036854775808 then n%18446744073709551616 else n%18446744073709551616-18446744073709551616:=by
 have e:IntKind.wrap .i64 n=if n%(2 ^ 64:Int)>=(2 ^ 63:Int) then n%(2 ^ 64:Int)-(2 ^ 64:Int) else n%(2 ^ 64:Int):=by
  unfold IntKind.wrap;by_cases h:n%(2 ^ 64:Int)>=(2 ^ 63:Int)
  .
   rw[if_pos h];exact if_pos (by show (true&&decide (n%(2 ^ 64:Int)>=(2 ^ 63:Int)))=true;simpa using h)
  rw[if_neg h];exact if_neg (by show ¬(true&&decide (n%(2 ^ 64:Int)>=(2 ^ 63:Int)))=true;simp;omega)
 rw[e]
 split<;>split<;>omega
theorem i64_in {n:Int} (h0 : -9223372036854775808<=n) (h1:n<9223372036854775808):IntKind.wrap .i64 n=n:=by
 rw[Pj]
 split<;>omega
theorem qW (n:Int):IntKind.wrap .u64 n=n%18446744073709551616:=by
 unfold IntKind.wrap
 simp only[IntKind.bits,IntKind.signed,Bool.false_and,Bool.false_eq_true,if_false]
 rfl
theorem u64_in {n:Int} (h0:0<=n) (h1:n<18446744073709551616):IntKind.wrap .u64 n=n:=by rw[qW];omega
theorem X7 (n:Int):IntKind.wrap .u8 n=n%256:=by
 unfold IntKind.wrap
 simp only[IntKind.bits,IntKind.signed,Bool.false_and,Bool.false_eq_true,if_false]
 rfl
theorem u8_in {n:Int} (h0:0<=n) (h1:n<256):IntKind.wrap .u8 n=n:=by rw[X7];omega
theorem kW {a b:Int} (h:a<b):ltI a b=true:=by rw[ltI_spec];simpa using h
theorem cF {a b:Int} (h:b<=a):ltI a b=false:=by rw[ltI_spec];simpa using h
theorem wW {a b:Int} (h:a=b):eqI a b=true:=by rw[eqI_spec,h];simp
theorem wX {a b:Int} (h:a≠b):eqI a b=false:=by rw[eqI_spec];simpa using h
theorem X8 (c:UInt8):0<=aF c:=Int.natCast_nonneg _
theorem X9 (c:UInt8):aF c<256:=by have:=c.toNat_lt;unfold aF;simp;omega
theorem DJ (c:UInt8):Et (aF c)=c:=by unfold Et aF;simp
theorem DK {a b:UInt8} (h:aF a=aF b):a=b:=by rw[<-DJ a,h,DJ]
theorem DL (s:List UInt8):(s.map aF).map Et=s:=by
 rw[List.map_map]
 have:Et∘aF=id:=funext DJ
 rw[this,List.map_id]
theorem mq {α:Type} (l:List α) (n:Nat):aI l (n:Int)=l[n]? := rfl
theorem ei {α:Type} (pre r:List α) (c:α):aI (pre++c::r) (pre.length:Int)=some c:=by rw[mq];simp
theorem bO {a b:Nat} (h:a<=b):Nat.ble a b=true:=Nat.ble_eq_true_of_le h
theorem Pk {s w:List UInt8} {a n:Nat} (he:(s.drop a).take n=w) (f t:Nat) (ht:t<=n):bz s ((a+f:Nat):Int) ((a+t:Nat):Int)=(w.take t).drop f:=by
 unfold bz
 simp only[Int.toNat_natCast]
 rw[<-he,List.take_take,List.drop_take,List.drop_drop,Nat.min_eq_left ht]
 congr 1;omega
theorem DM {a:Int} (h0:0<=a) (h1:a<18446744073709551616) (k:Nat) (hk:k<=64):((BitVec.ofInt 64 a &&& BitVec.ofInt 64 ((2 ^ k-1:Nat):Int)).toNat:Int)=a%(2 ^ k:Nat):=by
 obtain ⟨n,rfl⟩:∃n:Nat,a=n:=⟨a.toNat,by omega⟩
 rw[BitVec.toNat_and,BitVec.ofInt_natCast,BitVec.ofInt_natCast,BitVec.toNat_ofNat,BitVec.toNat_ofNat]
 have h2:n%2 ^ 64=n:=Nat.mod_eq_of_lt (by omega)
 have hp:2 ^ k<=2 ^ 64:=Nat.pow_le_pow_right (by omega) hk
 have hpos:0<2 ^ k:=Nat.two_pow_pos k
 have h3:(2 ^ k-1)%2 ^ 64=2 ^ k-1:=Nat.mod_eq_of_lt (by omega)
 rw[h2,h3,Nat.and_two_pow_sub_one_eq_mod]
 simp
abbrev nY:=FuncId×List (Option Ty)×(List AV->Option (Bool×List bA))
noncomputable def Me (l:List nY):TD:=λf=>List.rec (motive:=λ_=>Option (List (Option Ty)×(List AV->Option (Bool×List bA)))) none (λe _ r=>pick2 (Nat.beq f e.1) (some e.2) r) l
def cr (X:cI) (cf:Nat×Nat->Ev.aN) (l:List nY):Prop:=∀id sig g,Me l id=some (sig,g)->aO X cf id g
theorem cr.nil {X:cI} {cf:Nat×Nat->Ev.aN}:cr X cf []:=λ_ _ _ h=>by cases h
theorem cr.cons {X:cI} {cf:Nat×Nat->Ev.aN} {f:FuncId} {sig:List (Option Ty)} {g:List AV->Option (Bool×List bA)} {l:List nY} (h:aO X cf f g) (t:cr X cf l):cr X cf ((f,sig,g)::l):=λid sig' g' hk=>by
 have hk:pick2 (Nat.beq id f) (some (sig,g)) (Me l id)=some (sig',g'):=hk
 cases hb:Nat.beq id f with
 |
  true =>
  rw[hb] at hk;have he:id=f:=Nat.eq_of_beq_eq_true hb;have hk:(sig,g)=(sig',g'):=Option.some.inj hk;cases hk;rw[he];exact h
 |false=>rw[hb] at hk;exact t id sig' g' hk
noncomputable def rR {α:Type} (n a b:Int) (x y:α):α:=pick2 (!ltI n a) (pick2 (!ltI b n) x y) y
theorem zw {α:Type} (n a b:Int) (x y:α):rR n a b x y=if a<=n/\n<=b then x else y:=by
 unfold rR
 simp only[pick2_eq,ltI_spec,Bool.not_eq_true',decide_eq_false_iff_not]
 by_cases h1:n<a
 .
  rw[if_neg (by simpa using h1),if_neg (by omega)]
 rw[if_pos h1]
 by_cases h2:b<n
 .
  rw[if_neg (by simpa using h2),if_neg (by omega)]
 rw[if_pos h2,if_pos (by omega)]
theorem aW {α:Type} (a b:Int) (x y:α):pick2 (ltI a b) x y=if a<b then x else y:=by rw[pick2_eq,ltI_spec];simp
theorem cR {α:Type} (a b:Int) (x y:α):pick2 (!ltI a b) x y=if b<=a then x else y:=by
 rw[pick2_eq,ltI_spec]
 by_cases h:a<b
 .
  rw[if_neg (by simpa using h),if_neg (by omega)]
 rw[if_pos (by simpa using h),if_pos (by omega)]
theorem aB {α:Type} (a b:Int) (x y:α):pick2 (eqI a b) x y=if a=b then x else y:=by rw[pick2_eq,eqI_spec];simp
theorem aG {α:Type} (a b:Int) (x y:α):pick2 (!eqI a b) x y=if a=b then y else x:=by
 rw[pick2_eq,eqI_spec]
 by_cases h:a=b
 .
  rw[if_neg (by simpa using h),if_pos h]
 rw[if_pos (by simpa using h),if_neg h]
end Go.Tv

namespace Go.Tv
open Go.Ev (Tr pick2 Leave Mem Blk alive pick2_eq alive_some opA Fr VRel Ren)
open Classical in
theorem Ik {w:World} {i:Nat} {C:Array Value} {t:TypeId} {fr:Nat×Nat} (h:w.heap[i]? = some (.cells C t fr)):∃cs,(iL w).F i=some cs/\cs.length=C.size/\(∀(j:Nat) v,C[j]? = some v->VRel (FQ w.heap.size) v v->(∀a,v ≠ .slice (some a) 0 0)->cs[j]? = some v)/\∀(j:Nat) a,C[j]? = some (.slice (some a) 0 0)->cs[j]? = some Ev.vd:=by
 have hlt:i<w.heap.size:=(Array.getElem?_eq_some_iff.1 h).1
 have hg:(snap w).get i=some (o6 w i):=by rw[(nX w).2.2,if_pos hlt]
 have hb:o6 w i=⟨C.toList.map λv=>if ∃a,v = .slice (some a) 0 0 then Ev.vd else if VRel (FQ w.heap.size) v v then v else .chan none,t,true,false⟩:=by
  unfold o6;rw[h]
 have ha:alive (snap w) i=some (o6 w i):=by unfold Ev.alive;rw[hg,hb];rfl
 refine ⟨(o6 w i).cells,?_,by rw[hb];simp,λj v hv hs hn=>?_,λj a hv=>?_⟩
 .
  show (alive (snap w) i).map (·.cells)=_;rw[ha];rfl
 .
  rw[hb];have hn':¬ ∃a,v = .slice (some a) 0 0:=λ⟨a,h⟩=>hn a h
  simp[hv,hs,hn']
 rw[hb]
 simp[hv]
end Go.Tv

namespace Go.Tv
open Go.Ev (VRel)
open Go.WideShapes Go.Deep
def qq (P:Program) (g:TypeId->Ty->Bool):Nat->List Field->Ty->Bool
 |off,[f],e=>Nat.beq f.offset off&&Nat.beq (P.cellsOf f.type) e.size&&g f.type e
 |off,f::f'::fs,.pair a b=>Nat.beq f.offset off&&Nat.beq (P.cellsOf f.type) a.size&&g f.type a&&qq P g (off+a.size) (f'::fs) b
 |_,_,_=>false
def IQ (k:IntKind):Ty->Bool
 |.int k'=>decide (k=k')
 |_=>false
def DT:Ty->Bool
 |.bool=>true
 |_=>false
def IU:Ty->Bool
 |.str=>true
 |_=>false
theorem Gp {k:IntKind} {e:Ty} (h:IQ k e=true):e = .int k:=by
 cases e<;>first|(cases h;done)|(rw[of_decide_eq_true h])
theorem DU {e:Ty} (h:DT e=true):e = .bool:=by cases e<;>first|rfl|cases h
theorem Gq {e:Ty} (h:IU e=true):e = .str:=by cases e<;>first|rfl|cases h
def YH (P:Program):Nat->TypeId->Ty->Bool
 |0,_,_=>false
 |
  d+1,t,e=>match P.underlying t with
  |some (.int k)=>IQ k e
  |some .bool=>DT e
  |some .string=>IU e
  |some (.struct fs)=>Nat.beq (P.cellsOf t) e.size&&qq P (YH P d) 0 fs.toList e
  |_=>false
def wfD:(e:Ty)->e.den->Prop
 |.int k,n=>(Lit.int k n).wf=true
 |.str,s=>List.length s<=maxLen
 |.pair a b,x=>wfD a x.1/\wfD b x.2
 |.bool,_=>True
 |.kV,_=>True
 |.unit,_=>True
 |.sl _,_=>True
variable {H:Type} {enc:TypeId×Value->H} {P:Program} {w:World} {base:Nat} {sp:Nat->Bool} {held:Bool}
end Go.Tv

namespace Go.Tv
variable {β:Type}
noncomputable def uk:ig->ig
 |.node _ l r=>.node none l r
 |a=>a
noncomputable def codeFrom (X:cI) (call:aT β) (an:bG) (rounds:Nat) (id:FuncId) (p:List Bool) (k:AV->aa->Option β) (f:cj) (H:aa):Option β :=
 match X.P.funcs[id]? with
 |
  some fn=>match fn.body with
  |some c=>eE X call an.tr (mg X call an.tr an.ja rounds rounds) rounds (eG c p) (uk (fA an.Fs p)) f H (A5 X call an.tr (mg X call an.tr an.ja rounds rounds) rounds p c an.Fs (lC X fn k))
  |none=>none
 |none=>none
end Go.Tv
namespace Go.Tv
def oR:ig->ig->ig
 |.none,b=>b
 |.node o l r,.none=>.node o l r
 |.node o l r,.node o' l' r'=>.node (match o with|some x=>some x|none=>o') (oR l l') (oR r r')
end Go.Tv
namespace Go.Tv
open Go.Ev
theorem zH {X:cI} {kn:Ev.bP} {f:FuncId} {g:List AV->Option (Bool×List bA)}
 (h:∀args' rs,g args'=some (true,rs)->∃v u vE uE,rs=[.val v,.val u]/\nV v=true/\nV u=true/\(∀S,VR S v vE)/\(∀S,VR S u uE)/\∀S ax,LV S args' ax->kn f ax=some (.tuple #[vE,uE])/\Ev.addrFreeL ax=true/\Ev.addrFree (.tuple #[vE,uE])=true):aO X (aY X kn) f g:=by
 intro args' rs hg
 obtain ⟨v,u,vE,uE,rfl,hs,hs2,hv,hu,hkn⟩:=h args' rs hg
 refine ⟨[v,u],aa.empty,λS E ax hr hgl hl=>?_,⟨rfl,hs,rfl,hs2,trivial⟩⟩
 obtain ⟨k1,k2,k3⟩:=hkn S ax hl
 refine ⟨S,.tuple #[vE,uE],E,⟨1,λn hn=>?_⟩,⟨[vE,uE],rfl,LV.cons (hv S) (LV.cons (hu S) LV.nil)⟩,hr,AJ.refl _ _ _⟩
 obtain ⟨R,D⟩:=n
 obtain ⟨D',rfl⟩:∃D',D=D'+1:=⟨D-1,by have:=hn.2;simp only at this;omega⟩
 show Ev.iO X.P X.G kn R (D'+1) f ax E=_
 rw[Ev.gh,k1]
 simp only[k2,k3,Bool.and_self,if_true]
end Go.Tv
namespace Go.Tv
open Go.Ev
noncomputable section
variable {β:Type}
def P4:Code->List Bool->Code
 |.seq x y,true::p=>.seq x (P4 y p)
 |_,_=>.skip
def um:Code->List Bool->Bool
 |.seq _ y,true::p=>um y p
 |.seq _ _,[]=>true
 |_,_=>false
theorem sS (X:cI) (call:aT β) (tr:List Tmp) (J:nT β) (rounds:Nat):∀(p:List Bool) (c:Code),um c p=true->∀(a:ig) (f:cj) (H:aa) (k:KT β),
 eE X call tr J rounds c a f H k=eE X call tr J rounds (P4 c p) a f H (tW (λf H=>eE X call tr J rounds (eG c p) (fA a p) f H k) k)
 |
  [],c,h,a,f,H,k=>by
  cases c<;>first|(cases h;done)|rfl
 |false::p,c,h,a,f,H,k=>by cases c<;>cases h
 |
  true::p,c,h,a,f,H,k=>by
  cases c with
  |
   seq x y =>
   have ih:=sS X call tr J rounds p y h
   show AH a f H (λf H=>eE X call tr J rounds x a.l f H (tW (λf H=>eE X call tr J rounds y a.r f H k) k)) =
    AH a f H (λf H=>eE X call tr J rounds x a.l f H (tW (λf H=>eE X call tr J rounds (P4 y p) a.r f H (tW (λf H=>eE X call tr J rounds (eG y p) (fA a.r p) f H k) k)) (tW (λf H=>eE X call tr J rounds (eG y p) (fA a.r p) f H k) k)))
   congr 1
   funext f H
   congr 1
   funext lv f H
   cases lv with
   |normal=>exact ih a.r f H k
   |exit id=>rfl
   |ret=>rfl
   |goto l=>rfl
  |_=>cases h
theorem vP (X:cI) (call:aT β) (tr:List Tmp) (J:nT β) (rounds:Nat):∀(p:List Bool) (c:Code),um c p=true->∀(a:ig) (f:cj) (H:aa) (k:KT β),
 eE X call tr J rounds (eG c p) (fA a p) f H k=AH (fA a p) f H λf H=>eE X call tr J rounds (eG c p) (uk (fA a p)) f H k
 |
  [],c,h,a,f,H,k=>by
  cases c with
  |
   seq x y =>
   cases a with
   |none=>rfl
   |node o l r=>rfl
  |_=>cases h
 |false::p,c,h,a,f,H,k=>by cases c<;>cases h
 |
  true::p,c,h,a,f,H,k=>by
  cases c with
  |seq x y=>exact vP X call tr J rounds p y h a.r f H k
  |_=>cases h
theorem x7 (X:cI) (call:aT β) (tr:List Tmp) (J:nT β) (rounds:Nat):∀(p:List Bool) (c:Code),um c p=true->∀(a:ig) (k:KT β),A5 X call tr J rounds p c a k=k
 |[],c,_,a,k=>by cases c<;>rfl
 |false::p,c,h,a,k=>by cases c<;>cases h
 |
  true::p,c,h,a,k=>by
  cases c with
  |seq x y=>exact x7 X call tr J rounds p y h a.r k
  |_=>cases h
def YA (X:cI) (call:aT β) (an:bG) (rounds:Nat) (id:FuncId) (p:List Bool) (args:List AV) (H:aa) (k:AV->aa->Option β) (K:cj->aa->Option β):Option β :=
 match X.P.funcs[id]? with
 |
  some fn=>match fn.body with
  |some c=>pick2 (Nat.ble args.length fn.ntmps)
   (eE X call an.tr (mg X call an.tr an.ja rounds rounds) rounds (P4 c p) an.Fs ((cj.mk fn.ntmps .e).fill 0 args) H (tW (λf H=>AH (fA an.Fs p) f H K) (lC X fn k))) none
  |none=>none
 |none=>none
def KD (X:cI) (id:FuncId) (p:List Bool):Bool :=
 match X.P.funcs[id]? with
 |
  some fn=>match fn.body with
  |some c=>um c p
  |none=>false
 |none=>false
theorem IL {X:cI} {call:aT β} {an:bG} {rounds:Nat} {id:FuncId} {p:List Bool} (hp:KD X id p=true) (args:List AV) (H:aa) (k:AV->aa->Option β) :
 ag X call an rounds id args H k=YA X call an rounds id p args H k (codeFrom X call an rounds id p k):=by
 unfold KD at hp
 unfold ag YA
 cases hf:X.P.funcs[id]? with
 |none=>rfl
 |
  some fn =>
  rw[hf] at hp;simp only at hp ⊢;cases hb:fn.body with
  |none=>rfl
  |
   some c =>
   rw[hb] at hp;simp only at hp ⊢;rw[sS X call an.tr _ rounds p c hp]
   have e:(λf H=>eE X call an.tr (mg X call an.tr an.ja rounds rounds) rounds (eG c p) (fA an.Fs p) f H (lC X fn k)) =
    λf H=>AH (fA an.Fs p) f H (codeFrom X call an rounds id p k):=by
    funext f H
    rw[vP X call an.tr _ rounds p c hp]
    congr 1
    funext f H
    unfold codeFrom;rw[hf];simp only;rw[hb];simp only;rw[x7 X call an.tr _ rounds p c hp]
   rw[e]
end
end Go.Tv

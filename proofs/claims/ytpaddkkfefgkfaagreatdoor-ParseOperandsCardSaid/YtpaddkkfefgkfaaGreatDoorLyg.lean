/- What the layer answers the machine's call answers. Calls by contracts, or by the callee's own text. Contracts that are shown by runs alone: what a run leaves, told by a reckoning. Package-level variables that read as given data, for the symbolic layer. Loops over what is known by terms alone: a loop of a function's code as a function of its rounds and of the slots that are kept at its head. Numbers, bytes and lists: lemmas for what runs of the symbolic layer come to. Slices that came in, as lists. Slices of plain data that came in, as lists. A function from a place of its code on; notes at several places; contracts of two results that are known already. -/
import Derived.Test.YtpaddkkfefgkfaaGreatDoorLyf
import Derived.Test.YtpaddkkfefgkfaaGreatDoorLyc
import Derived.Deep.Slices
import Derived.WideShapes
set_option linter.unusedVariables false
set_option linter.unusedSimpArgs false

namespace Go.Tv
open Go.Ev (Tr pick2 Leave Mem Blk alive pick2_eq alive_some opA Fr VRel Ren)
open Go.RowKit
theorem tF {S:Wo} {vs:List AV} {x:Value} (h:VR S (jO vs) x):∃xs,x=Ev.qG xs/\LV S vs xs:=by
 match vs,h with
 |
  [],h =>
  have h:VR S (.bZ []) x:=h;cases h with
  |
   bZ _ m hl hv =>
   have:m=[]:=List.length_eq_zero_iff.1 hl.symm;subst this;exact ⟨[],rfl,LV.nil⟩
 |[v],h=>exact ⟨[x],rfl,LV.cons h LV.nil⟩
 |
  v::w::vs,h =>
  have h:VR S (.bZ (v::w::vs)) x:=h;cases h with
  |
   bZ _ m hl hv =>
   match m,hl,hv with
   |a::b::m,hl,hv=>exact ⟨a::b::m,rfl,⟨hl,hv⟩⟩
def QL (n:Nat):Ren:=λi=>if i<n then some (i,0) else none
open Classical in
noncomputable def ot (w:World) (i:Nat):Blk :=
 match w.heap[i]? with
 |some (.cells C t _)=>⟨C.toList.map λv=>if VRel (QL w.heap.size) v v then v else .chan none,t,true,false⟩
 |_=>⟨[],0,false,false⟩
theorem tG:∀(l:List Blk) (H:Mem),∃H',H.nE l=some H'
 |[],H=>⟨_,rfl⟩
 |
  b::l,H=>by
  obtain ⟨H1,h1⟩:=Mem.eX H b;obtain ⟨H2,h2⟩:=tG l H1;exact ⟨H2,by simp only[Ev.Mem.nE,h1,h2]⟩
noncomputable def snap (w:World):Mem:=(Mem.nE Mem.empty ((List.range w.heap.size).map (ot w))).getD Mem.empty
theorem mZ (w:World):(snap w).size=w.heap.size/\(snap w).lk=w.heap.size/\∀i,(snap w).get i=if i<w.heap.size then some (ot w i) else none:=by
 obtain ⟨H',h⟩:=tG ((List.range w.heap.size).map (ot w)) Mem.empty
 obtain ⟨h1,h2,h3⟩:=Ev.o4 _ h
 have e:snap w=H':=by unfold snap;rw[h];rfl
 rw[e]
 have hs:H'.size=w.heap.size:=by rw[h1];simp[Mem.empty]
 refine ⟨hs,by rw[h2,hs],λi=>?_⟩
 rw[h3,if_neg (by simp[Mem.empty])]
 simp only[Mem.empty,Nat.sub_zero]
 by_cases hi:i<w.heap.size
 .
  rw[if_pos hi];simp[hi]
 rw[if_neg hi];simp;omega
theorem Nr (P:Program) (w:World) (G:Nat) (hG:G<=w.heap.size):Ev.bg ⟨P,w.heap.size,w.heap.size,G,w,λ_=>none⟩ (QL w.heap.size) (snap w) w:=by
 obtain ⟨s1,s2,s3⟩:=mZ w
 have Us:∀{i:Nat} {b:Ev.Blk},(snap w).get i=some b->Ev.cE b=false:=by
  intro i b hi;rw[s3] at hi;split at hi
  .
   cases hi;unfold ot;split<;>rfl
  cases hi
 refine ⟨⟨Below.refl _ _,λr o h=>by cases h⟩,Nat.le_refl _,λi x h=>?_,by rw[s2];exact Nat.le_refl _,by rw[s1];exact Nat.le_refl _,λg hg=>if_pos (Nat.lt_of_lt_of_le hg hG),λi b hi hl=>?_,λi j bi bj r x y hi _ hj _ hr hr'=>?_,λi b hi hm=>(by rw[Us hi] at hm;cases hm),λi j bi bj r x y hi hm=>(by rw[Us hi] at hm;cases hm)⟩
 .
  rw[s1];unfold QL at h;split at h
  .
   assumption
  cases h
 .
  rw[s3] at hi;split at hi
  .
   rename_i hlt;cases hi;unfold ot at hl ⊢;split at hl
   .
    rename_i C t fr hC;refine ⟨i,0,C,fr,0,if_pos hlt,.inl ⟨hlt,rfl⟩,hC,.inl hlt,⟨.inl hlt,λ_=>rfl⟩,by simp,⟨by simp,λj v hv hj=>?_⟩,.inl hlt⟩
    simp only[List.getElem?_map,Option.map_eq_some_iff] at hv;obtain ⟨u,hu,rfl⟩:=hv;split at hj
    .
     rename_i Bi;rw[if_pos Bi];exact ⟨u,by simpa using hu,Bi⟩
    cases hj
   cases hl
  cases hi
 unfold QL at hr hr'
 split at hr
 .
  split at hr'
  .
   cases hr;cases hr';rfl
  cases hr'
 cases hr
noncomputable def kz (w:World):Wo:=⟨gw (snap w),λ_=>none,λ_ _=>none⟩
theorem Ns (w:World):Rel (kz w) aa.empty (snap w):=vg _ _ (λi cs hi=>by
 have hi:(alive (snap w) i).map (·.cells)=some cs:=hi
 simp only[Option.map_eq_some_iff] at hi
 obtain ⟨b,h1,h2⟩:=hi;exact ⟨b,h1,h2⟩) (by obtain ⟨s1,s2,_⟩:=mZ w;omega)
def Wm:AV->Bool
 |.bA _ _=>true
 |v=>kZ v
theorem Nt {w:World} {a:AV} {x:Value} (ha:Wm a=true) (h:VR (kz w) a x):VRel (QL w.heap.size) x x:=by
 have one:∀(v:AV) (y:Value),(match v with | .int _ _=>true | .bool _=>true | .str _=>true | .j6 _=>true | .br=>true | .iE=>true|_=>false)=true->VR (kz w) v y->VRel (QL w.heap.size) y y:=by
  intro v y hv h;cases h<;>first|(cases hv;done)|constructor
 cases h with
 |
  bA e l v hS =>
  rcases hS with ⟨_,rfl⟩|⟨i,pre,mid,post,cap,rfl,hF,_⟩
  .
   exact .fO _ _
  have hF:(alive (snap w) i).map (·.cells)=some (pre++(mid++post)):=hF
  have hi:i<w.heap.size:=by
   cases ha:alive (snap w) i with
   |none=>rw[ha] at hF;cases hF
   |some b=>have:=fu ha;rw[(mZ w).1] at this;exact this
  exact .slice i _ _ _ i 0 (if_pos hi)
 |
  agg l m hl hm =>
  refine .agg _ _ rfl λj a b h1 h2=>?_
  rw[h1] at h2;cases h2;have hlt:j<m.length:=by have:=(Array.getElem?_eq_some_iff.1 h1).1;simpa using this
  have hj:m[j]? = some a:=by simpa using h1
  have mQ:j<l.length:=by omega
  have:=List.all_eq_true.1 ha l[j] (List.getElem_mem mQ);exact one l[j] a this (hm j l[j] a (List.getElem?_eq_getElem mQ) hj)
 |int=>exact .int _ _
 |bool=>exact .bool _
 |str=>exact .string _
 |j6=>exact .float _ _
 |br=>exact .fO _ _
 |iE=>exact .oN
 |_=>cases ha
theorem C3 {X:cY} (hno:Ev.cz X.P) (hm:X.P.follows .mixedOrders=true) {kn:Ev.bO} {GR:List Ev.Blk} (hK:Ev.dL X.P GR kn) {f:FuncId} {args:List AV} {v:AV} {vE:Value} (hv:∀S x,VR S v x->x=vE) (hfree:Ev.addrFree vE=true)
 (h:∀(S:Wo) (E:Mem) (aB:List Value),Rel S aa.empty E->bP X S->LV S args aB->∃S' vE E',(∃N,∀n:Nat×Nat,N<=n.1/\N<=n.2->bu X kn n f aB E=some (vE,E'))/\VR S' v vE)
 {w:World} (aaq:Ev.dm GR w) (hG:X.G<=w.heap.size) (hg:bP X (kz w)) {args':List Value} (hargs:LV (kz w) args args') (hb:args.all Wm=true) :
 Calls X.P f args'.toArray w λe w'=>e = .returned vE/\Below w.heap.size w w':=by
 obtain ⟨S',vE',E',⟨N,h1⟩,h2⟩:=h (kz w) (snap w) args' (Ns w) hg hargs
 have hvE:=hv S' vE' h2
 subst hvE
 have hc:=h1 (N,N) ⟨Nat.le_refl _,Nat.le_refl _⟩
 have Bi:Ev.LR (VRel (QL w.heap.size)) args' args':=⟨rfl,λj x y hx hy=>by
  rw[hx] at hy;cases hy;have hlt:j<args.length:=by rw[hargs.1];exact bC hx
  exact Nt (List.all_eq_true.1 hb _ (List.getElem_mem hlt)) (hargs.2 j _ x (List.getElem?_eq_getElem hlt) hx)⟩
 refine (Ev.IL hno hm hK hc (.inr (by first|assumption|exact hfree)) (c:=⟨X.P,w.heap.size,w.heap.size,X.G,w,λ_=>none⟩) rfl ⟨rfl,aaq,aaq.1⟩ (Nr X.P w X.G hG) Bi).mono ?_
 rintro e w' ⟨ρ',v',rfl,k1,k2,k3⟩
 exact ⟨by rw[Ev.eT k2 hfree],k3.below⟩
theorem GZ {X:cY} (hno:Ev.cz X.P) (hm:X.P.follows .mixedOrders=true) {kn:Ev.bO} (hK:Ev.qq X.P kn) {f:FuncId} {args:List AV} {v:AV} {vE:Value} (hv:∀S x,VR S v x->x=vE) (hfree:Ev.addrFree vE=true)
 (h:∀(S:Wo) (E:Mem) (aB:List Value),Rel S aa.empty E->bP X S->LV S args aB->∃S' vE E',(∃N,∀n:Nat×Nat,N<=n.1/\N<=n.2->bu X kn n f aB E=some (vE,E'))/\VR S' v vE)
 {w:World} (hG:X.G<=w.heap.size) (hg:bP X (kz w)) {args':List Value} (hargs:LV (kz w) args args') (hb:args.all Wm=true) :
 Calls X.P f args'.toArray w λe w'=>e = .returned vE/\Below w.heap.size w w' :=
 C3 hno hm hK hv hfree h (Ev.dm.nil w) hG hg hargs hb
end Go.Tv

namespace Go.Tv
open Go.Ev (Tr pick2 Leave Mem Blk alive pick2_eq alive_some opA Fr)
noncomputable section
def Nu (H:aa):AV->Option AV
 |
  .own id _=>match H.get id with
  |some (.list _ e l _ _ _)=>some (.bA e l)
  |_=>none
 |v=>pick2 (I6 v) (some v) none
def C4 (H:aa):List AV->Option (List AV)
 |[]=>some []
 |
  v::l=>match Nu H v with
  |
   some w=>match C4 H l with
   |some m=>some (w::m)
   |none=>none
  |none=>none
def Nv (H:aa):AV->Option AV
 |
  .agg l=>match C4 H l with
  |some m=>some (.agg m)
  |none=>none
 |_=>none
def normArg (H:aa):Option Ty->AV->Option AV
 |
  some e,a=>match a with
  |.str _=>none
  |
   a=>match vY H e a with
   |some l=>some (.bA e l)
   |none=>none
 |none,a=>pick2 (I6 a) (some a) (Nv H a)
def normArgs (H:aa):List (Option Ty)->List AV->Option (List AV)
 |[],[]=>some []
 |
  s::sig,a::args=>match normArg H s a with
  |
   some b=>match normArgs H sig args with
   |some l=>some (b::l)
   |none=>none
  |none=>none
 |_,_=>none
def qA {β:Type} (sig:List (Option Ty)) (g:List AV->Option (Bool×List aZ)) (args:List AV) (H:aa) (k:AV->aa->Option β):Option β :=
 match normArgs H sig args with
 |
  some args'=>match g args' with
  |some (c,rs)=>pick2 c (k (jO (fj rs H).1) (fj rs H).2) none
  |none=>none
 |none=>none
def aI (X:cY) (cf:Nat×Nat->Ev.aM) (f:FuncId) (g:List AV->Option (Bool×List aZ)):Prop :=
 ∀args' rs,g args'=some (true,rs)->∃vs H1,CZ X cf f args' vs H1/\lY H1 [] vs rs
abbrev RM:=FuncId->Option (List (Option Ty)×(List AV->Option (Bool×List aZ)))
def Bj {β:Type} (X:cY) (args:List AV) (H:aa) (k:AV->aa->Option β):Option β :=
 match args with
 |[.br]=>k (.bZ []) H
 |
  [.own i _]=>match H.get i with
  |some (.list t (.int .u8) l _ _ false)=>pick2 (H.iU i&&Ev.Ci X.P t&&Nat.ble 1 l.length) (k (.bZ []) (H.put i .dead)) none
  |_=>none
 |_=>none
def jU (X:cY) (K:RM) (inl:FuncId->Bool) (rounds:Nat) (β:Type):Nat->aU β :=
 λn=>Nat.rec (motive:=λ_=>aU β) (λ_ _ _ _=>none)
  (λ_ go id args H k=>pick2 (X.kl id) (Bj X args H k) (match K id with
   |some (sig,g)=>qA sig g args H k
   |none=>pick2 (inl id) (ag X go ⟨.none,.none,X.Z7 id⟩ rounds id args H k) none)) n
def xh (e:Ty):AV->Option (List e.den)
 |.bA e' l=>fk e' e l
 |_=>none
def asI (k:IntKind):AV->Option Int
 |.int k' n=>if k=k' then some n else none
 |_=>none
def asB:AV->Option Bool
 |.bool b=>some b
 |_=>none
def asS:AV->Option (List UInt8)
 |.str s=>some s
 |_=>none
end
theorem eF {e:Ty} {a:AV} {l:List e.den} (h:xh e a=some l):a = .bA e l:=by
 unfold xh at h
 split at h
 .
  obtain ⟨he,hc⟩:=bh h;subst he;have hc:_=l:=hc;rw[<-hc]
 cases h
theorem G0 {H:aa} {v w:AV} (h:Nu H v=some w):yD H v w:=by
 unfold Nu at h
 split at h
 .
  rename_i id n;split at h
  .
   rename_i t e l ct ex ro hg;cases h;refine .inr ⟨e,l,rfl,?_,λs hs=>by cases hs⟩
   show (match H.get id with
    |some (.list _ e' l' _ _ _)=>fk e' e l'
    |_=>none)=some l
   rw[hg];unfold fk;simp
  cases h
 rw[pick2_eq] at h
 split at h
 .
  rename_i hs;cases h;exact .inl ⟨rfl,hs⟩
 cases h
theorem wm {H:aa}:∀{l m:List AV},C4 H l=some m->l.length=m.length/\∀(j:Nat) x y,l[j]? = some x->m[j]? = some y->yD H x y
 |[],m,h=>by cases h;exact ⟨rfl,λj x y hx=>by simp at hx⟩
 |
  v::l,m,h=>by
  unfold C4 at h;split at h
  .
   rename_i w hw;split at h
   .
    rename_i m' hm;cases h;obtain ⟨h1,h2⟩:=wm hm;refine ⟨by simp[h1],λj x y hx hy=>?_⟩
    cases j with
    |succ j=>exact h2 j x y (by simpa using hx) (by simpa using hy)
    |zero=>simp at hx hy;subst hx;subst hy;exact G0 hw
   cases h
  cases h
theorem G1 {H:aa} {a b:AV} (h:Nv H a=some b):I7 H a b:=by
 unfold Nv at h
 split at h
 .
  rename_i l;split at h
  .
   rename_i m hm;cases h;obtain ⟨h1,h2⟩:=wm hm;exact .inr ⟨l,m,rfl,rfl,h1,h2⟩
  cases h
 cases h
theorem qX {H:aa}:∀{sig:List (Option Ty)} {args args':List AV},normArgs H sig args=some args'->args.length=args'.length/\∀(j:Nat) a b,args[j]? = some a->args'[j]? = some b->I7 H a b
 |[],[],args',h=>by cases h;exact ⟨rfl,λj a b ha=>by simp at ha⟩
 |[],_::_,args',h=>by cases h
 |_::_,[],args',h=>by cases h
 |
  s::sig,a::args,args',h=>by
  unfold normArgs at h;split at h
  .
   rename_i b hb;split at h
   .
    rename_i l hl;cases h;obtain ⟨h1,h2⟩:=qX hl;refine ⟨by simp[h1],λj x y hx hy=>?_⟩
    cases j with
    |succ j=>exact h2 j x y (by simpa using hx) (by simpa using hy)
    |
     zero =>
     simp at hx hy;subst hx;subst hy;unfold normArg at hb;split at hb
     .
      split at hb
      .
       cases hb
      rename_i e _ hne;split at hb
      .
       rename_i l' hl';cases hb;exact .inl (.inr ⟨_,l',rfl,hl',λs hs=>hne s hs⟩)
      cases hb
     rw[pick2_eq] at hb;split at hb
     .
      rename_i hs;cases hb;exact .inl (.inl ⟨rfl,hs⟩)
     exact G1 hb
   cases h
  cases h
section
variable {X:cY} {cf:Nat×Nat->Ev.aM}
theorem yE {β:Type} {f:FuncId} {sig:List (Option Ty)} {g:List AV->Option (Bool×List aZ)} (hc:aI X cf f g) {args:List AV} {H:aa} {k:AV->aa->Option β} {r:β} (h:qA sig g args H k=some r):∃v H',k v H'=some r/\KE X cf f args H v H':=by
 unfold qA at h
 split at h
 .
  rename_i args' ha;split at h
  .
   rename_i c rs hg;rw[pick2_eq] at h;split at h
   .
    rename_i hc';subst hc';obtain ⟨vs,H1,h1,h2⟩:=hc args' rs hg;obtain ⟨l1,l2⟩:=qX ha;exact ⟨_,_,h,h1.aeK h2 l1 l2⟩
   cases h
  cases h
 cases h
def aar (X:cY) (kn:Ev.bO):Prop:=∀id,X.kl id=true->kn id Ev.iK=some (.tuple #[])/\kn id [.slice none 0 0]=some (.tuple #[])/\∀i n c,kn id [.slice (some ⟨i,0,none⟩) n c]=none
theorem fL.u8s {F:Nat->Option (List Value)}:∀{l:List (Ty.den (.int .u8))} {cs:List Value},fL (CR F (.int .u8)) l cs->cs.all Ev.DL=true
 |
  [],cs,h=>by
  have:cs=[]:=h;subst this;rfl
 |
  x::l,cs,h=>by
  obtain ⟨c1,c2,rfl,h1,h2⟩:=h;have h1:c1=[.int .u8 x]:=h1;subst h1;simp only[List.cons_append,List.nil_append,List.all_cons,fL.u8s h2,Bool.and_true];rfl
theorem LV.single {S:Wo} {a:AV} {l:List Value} (h:LV S [a] l):∃x,l=[x]/\VR S a x:=by
 match l,h with
 |[x],h=>exact ⟨x,rfl,h.2 0 a x rfl rfl⟩
 |[],h=>exact absurd h.1 (by simp)
 |_::_::_,h=>exact absurd h.1 (by simp)
theorem EV {kn:Ev.bO} {f:FuncId} (hk:kn f Ev.iK=some (.tuple #[])/\kn f [.slice none 0 0]=some (.tuple #[])/\∀i n c,kn f [.slice (some ⟨i,0,none⟩) n c]=none) {β:Type} {args:List AV} {H:aa} {k:AV->aa->Option β} {r:β} (h:Bj X args H k=some r) :
 ∃v H',k v H'=some r/\KE X (bu X kn) f args H v H':=by
 obtain ⟨k1,k2,k3⟩:=hk
 unfold Bj at h
 split at h
 .
  refine ⟨_,_,h,λS E aB hr hg hl=>?_⟩
  obtain ⟨x,rfl,hx⟩:=LV.single hl;cases hx;refine ⟨S,.tuple #[],E,⟨1,λn hn=>?_⟩,S.le_refl,.bZ [] [] rfl (λj x y hx=>by simp at hx),hr,St.refl _ _ _⟩
  obtain ⟨R,D⟩:=n;obtain ⟨D',rfl⟩:∃D',D=D'+1:=⟨D-1,by have:=hn.2;simp only at this;omega⟩
  show Ev.ig X.P X.G kn R (D'+1) f _ E=_;rw[Ev.fU,k2];rfl
 .
  rename_i id n0;split at h
  .
   rename_i t l ct ex RN;rw[pick2_eq] at h;split at h
   .
    rename_i hc;simp only[Bool.and_eq_true] at hc;obtain ⟨⟨hmay,hu8⟩,h1⟩:=hc;have h1:=Nat.le_of_ble_eq_true h1;refine ⟨_,_,h,λS E aB hr hg hl=>?_⟩
    obtain ⟨x,rfl,hx⟩:=LV.single hl;obtain ⟨q1,⟨q2,g2,q3,q4⟩,q5⟩:=hr.row id _ RN;cases hx with
    |
     own _ _ i c s hρ g hg' hn =>
     rw[q3] at hg';cases hg';rcases q5 with ⟨q5,_,_⟩|⟨i',cap',b,mid,post,e1,e2,e3,e4,e5,e6,e7,e8,e9,e10⟩
     .
      rw[q5] at h1;simp at h1
     rw[hρ] at e1;cases e1;have hmay':H.lk<=id:=by simpa[aa.iU,Nat.ble_eq] using hmay
     have hlk:=hr.lk id _ _ RN hmay' hρ;obtain ⟨E1,Y7⟩:=Mem.dF (b:={ b with live:=false,fix:=false }) (fu e2) hlk
     have bF:Ev.kill E i=some E1:=by unfold Ev.kill;rw[(alive_some e2).1];exact Y7
     obtain ⟨z1,z2,z3,z4,z5⟩:=Ev.ij bF;obtain ⟨m1,m2⟩:=hr.mod (S':=S) (E':=E1) (r':=.dead) RN rfl S.le_refl rfl (λ_ _ _=>rfl) z1 z2 (λj hj=>z4 j (hj _ hρ)) (λj cs h=>.inl h) (λq hq=>by cases hq)
     refine ⟨S,.tuple #[],E1,⟨1,λn hn'=>?_⟩,S.le_refl,.bZ [] [] rfl (λj x y hx=>by simp at hx),m1,m2⟩
     obtain ⟨R,D⟩:=n;obtain ⟨D',rfl⟩:∃D',D=D'+1:=⟨D-1,by have:=hn'.2;simp only at this;omega⟩
     show Ev.ig X.P X.G kn R (D'+1) f _ E=_;rw[Ev.fU,k3];obtain ⟨l2,sR⟩:=e10.2;have hall:b.cells.all Ev.DL=true:=by rw[e4,List.all_append,e5.u8s,sR.u8s];rfl
     have hsz:(Ty.int .u8).size=1:=rfl;rw[hsz,Nat.mul_one] at e6
     have hks:Ev.iL X.P kn f [.slice (some ⟨i,0,none⟩) n0 c] E=some (.tuple #[],E1):=by
      unfold Ev.iL;simp only[k1,e2];rw[pick2_eq,if_pos]
      .
       simp only[bF]
      rw[hall,e3,hu8];have a1:n0<=c:=by rw[<-hn,q4];exact e7
      simp only[Bool.and_true,Bool.and_eq_true];exact ⟨⟨⟨rfl,Nat.ble_eq_true_of_le a1⟩,by rw[Nat.beq_eq];exact e6⟩,Nat.ble_eq_true_of_le e8⟩
     show Ev.gR (Ev.iL X.P kn f _ E) _=_;rw[hks];rfl
    |
     cF _ g hg' hn =>
     rw[q3] at hg';cases hg';omega
   cases h
  cases h
 cases h
theorem fy {kn:Ev.bO} {K:RM} {inl:FuncId->Bool} (hK:∀id sig g,K id=some (sig,g)->aI X (bu X kn) id g) (hi:∀id,inl id=true->∀args,kn id args=none) (rounds:Nat) (n:Nat) (β:Type) (hkl:aar X kn:=by exact λ_ h=>Bool.noConfusion (show false=true from h)):aV X (bu X kn) (jU X K inl rounds β n):=by
 induction n with
 |zero=>exact λf args H k r h=>by cases h
 |
  succ n ih =>
  intro f args H k r h
  have h:pick2 (X.kl f) (Bj X args H k) (match K f with
   |some (sig,g)=>qA sig g args H k
   |none=>pick2 (inl f) (ag X (jU X K inl rounds β n) ⟨.none,.none,X.Z7 f⟩ rounds f args H k) none)=some r:=h
  rw[pick2_eq] at h;split at h
  .
   rename_i hf;exact EV (hkl f hf) h
  split at h
  .
   rename_i sig g hk;exact yE (hK f sig g hk) h
  rw[pick2_eq] at h;split at h
  .
   rename_i hin;obtain ⟨v,H',h1,h2⟩:=fT (nf:=true) ih (λ_=>⟨rfl,rfl⟩) h
   refine ⟨v,H',h1,λS E aB hr hg hl=>?_⟩
   obtain ⟨S',vE,E',a1,a2,a3,a4,a5⟩:=h2 S E aB hr hg hl;exact ⟨S',vE,E',dD (hi f hin) a1,(a5 rfl).1,a2,a3,(a5 rfl).2⟩
  cases h
theorem Wn {kn:Ev.bO} {f:FuncId} (hk:∀args,kn f args=none) {g:List AV->Option (Bool×List aZ)} {call:∀ β,aU β} (hcall:∀ β,aV X (bu X kn) (call β))
 (h:∀args' rs,g args'=some (true,rs)->∃vs H1 an rounds,ag X (call (AV×aa)) an rounds f args' aa.empty (λv H=>some (v,H))=some (jO vs,H1)/\lY H1 [] vs rs):aI X (bu X kn) f g:=by
 intro args' rs hg
 obtain ⟨vs,H1,an,rounds,h1,h2⟩:=h args' rs hg
 refine ⟨vs,H1,λS E aB hr hgl hl=>?_,h2⟩
 obtain ⟨S',vE,E',a1,a2,a3,a4⟩:=RK hk hcall h1 S E aB hr hgl hl
 exact ⟨S',vE,E',a1,tF a2,a3,a4⟩
theorem Bk {kn:Ev.bO} {f:FuncId} {g:List AV->Option (Bool×List aZ)}
 (h:∀args' rs,g args'=some (true,rs)->∃v vE,rs=[.val v]/\kZ v=true/\(∀S,VR S v vE)/\Ev.addrFree vE=true/\∀S aB,LV S args' aB->kn f aB=some vE/\Ev.addrFreeL aB=true):aI X (bu X kn) f g:=by
 intro args' rs hg
 obtain ⟨v,vE,rfl,hs,hv,hfree,hkn⟩:=h args' rs hg
 refine ⟨[v],aa.empty,λS E aB hr hgl hl=>?_,⟨rfl,hs,trivial⟩⟩
 obtain ⟨k1,k2⟩:=hkn S aB hl
 refine ⟨S,vE,E,⟨1,λn hn=>?_⟩,⟨[vE],rfl,LV.cons (hv S) LV.nil⟩,hr,zX.refl _ _ _⟩
 obtain ⟨R,D⟩:=n
 obtain ⟨D',rfl⟩:∃D',D=D'+1:=⟨D-1,by have:=hn.2;simp only at this;omega⟩
 show Ev.ig X.P X.G kn R (D'+1) f aB E=_
 rw[Ev.fU,k1]
 simp[k2,hfree]
end
end Go.Tv

namespace Go.Tv
open Go.Ev (pick2 pick2_eq eqI eqI_spec ltI ltI_spec)
noncomputable section
def aas:IntKind->IntKind->Bool
 |.i64,.i64=>true
 |.u8,.u8=>true
 |.i32,.i32=>true
 |.u64,.u64=>true
 |.u32,.u32=>true
 |.u16,.u16=>true
 |_,_=>false
def Nw:List UInt8->List UInt8->Bool
 |[],[]=>true
 |a::l,b::m=>pick2 (Nat.beq a.toNat b.toNat) (Nw l m) false
 |_,_=>false
def I9:AV->AV->Bool
 |.int k a,.int k' b=>pick2 (aas k k') (eqI a b) false
 |.bool a,.bool b=>pick2 a b (!b)
 |.str a,.str b=>Nw a b
 |.j6 a,.j6 b=>Nat.beq a b
 |.br,.br=>true
 |.iE,.iE=>true
 |_,_=>false
def Ja:List AV->List AV->Bool
 |[],[]=>true
 |a::l,b::m=>pick2 (I9 a b) (Ja l m) false
 |_,_=>false
def RO:AV->AV->Bool
 |.agg l,.agg m=>Ja l m
 |a,b=>I9 a b
def Bl:(e:Ty)->e.den->e.den->Bool
 |.int _,a,b=>eqI a b
 |.bool,a,b=>pick2 a b (!b)
 |.str,a,b=>Nw a b
 |.j6,a,b=>Nat.beq a b
 |.unit,_,_=>true
 |.sl _,_,_=>false
 |.pair x y,a,b=>pick2 (Bl x a.1 b.1) (Bl y a.2 b.2) false
def RP (e:Ty):List e.den->List e.den->Bool
 |[],[]=>true
 |a::l,b::m=>pick2 (Bl e a b) (RP e l m) false
 |_,_=>false
def Jb (t:TypeId) (e:Ty) (l:List e.den) (room:Bool):Option Row->Bool
 |
  some (.list t' e' l' _ ex ro)=>pick2 (Nat.beq t t' && !ro&&(pick2 room ex true)) (match fk e' e l' with
  |some m=>RP e m l
  |none=>false) false
 |_=>false
def pF (H:aa):List Nat->List AV->List aZ->Bool
 |_,[],[]=>true
 |seen,v::vs,.val w::rs=>pick2 (RO v w) (pF H seen vs rs) false
 |seen,.own id n::vs,.list t e l::rs=>pick2 (e.mV&&Nat.beq n l.length&&Jb t e l false (H.get id) && !(seen.any (Nat.beq id))) (pF H (id::seen) vs rs) false
 |seen,.br::vs,.list _ e l::rs=>pick2 (e.mV&&l.isEmpty) (pF H seen vs rs) false
 |seen,.oE id off len cap::vs,.room t e l n::rs=>pick2 (e.mV&&Nat.beq off 0&&Nat.beq len n&&Nat.beq cap l.length&&Jb t e l true (H.get id) && !(seen.any (Nat.beq id))) (pF H (id::seen) vs rs) false
 |_,_,_=>false
def leaves (rs:List aZ):Option (AV×aa)->Bool
 |some (.bZ vs,H)=>pick2 (Nat.beq vs.length 1) false (pF H [] vs rs)
 |some (v,H)=>pF H [] [v] rs
 |none=>false
end
theorem KO {a b:IntKind} (h:aas a b=true):a=b:=by
 cases a<;>cases b<;>first|rfl|cases h
theorem vh:∀{a b:List UInt8},Nw a b=true->a=b
 |[],[],_=>rfl
 |[],_::_,h=>by cases h
 |_::_,[],h=>by cases h
 |
  a::l,b::m,h=>by
  simp only[Nw,pick2_eq,Nat.beq_eq] at h;split at h
  .
   rename_i hab;rw[vh h,UInt8.toNat_inj.1 hab]
  cases h
theorem wo {a b:Bool} (h:pick2 a b (!b)=true):a=b:=by cases a<;>cases b<;>first|rfl|cases h
theorem yF {a b:AV} (h:I9 a b=true):a=b/\kZ b=true:=by
 unfold I9 at h
 split at h
 .
  rw[pick2_eq] at h;split at h
  .
   rename_i hk;rw[eqI_spec] at h;exact ⟨by rw[KO hk,beq_iff_eq.1 h],rfl⟩
  cases h
 .
  exact ⟨by rw[wo h],rfl⟩
 .
  exact ⟨by rw[vh h],rfl⟩
 .
  exact ⟨by rw[Nat.eq_of_beq_eq_true h],rfl⟩
 .
  exact ⟨rfl,rfl⟩
 .
  exact ⟨rfl,rfl⟩
 cases h
theorem yG:∀{l m:List AV},Ja l m=true->l=m/\kZ (.agg m)=true
 |[],[],_=>⟨rfl,rfl⟩
 |[],_::_,h=>by cases h
 |_::_,[],h=>by cases h
 |
  a::l,b::m,h=>by
  simp only[Ja,pick2_eq] at h;split at h
  .
   rename_i hab;obtain ⟨rfl,hs⟩:=yG h;have hab':=hab;obtain ⟨rfl,_⟩:=yF hab;refine ⟨rfl,?_⟩;unfold kZ at hs ⊢;simp only[List.all_cons,Bool.and_eq_true];refine ⟨?_,hs⟩;cases a<;>first|rfl|cases hab'
  cases h
theorem KP {a b:AV} (h:RO a b=true):a=b/\kZ b=true:=by
 unfold RO at h
 split at h
 .
  obtain ⟨rfl,h2⟩:=yG h;exact ⟨rfl,h2⟩
 exact yF h
theorem r8:∀(e:Ty) {a b:e.den},Bl e a b=true->a=b
 |
  .int _,a,b,h=>by
  have h:eqI a b=true:=h;rw[eqI_spec] at h;exact beq_iff_eq.1 h
 |.bool,a,b,h=>wo h
 |.str,a,b,h=>vh h
 |.j6,a,b,h=>Nat.eq_of_beq_eq_true h
 |.unit,_,_,_=>rfl
 |.sl _,_,_,h=>by cases h
 |
  .pair x y,a,b,h=>by
  have h:pick2 (Bl x a.1 b.1) (Bl y a.2 b.2) false=true:=h;rw[pick2_eq] at h;split at h
  .
   rename_i h1;exact Prod.ext (r8 x h1) (r8 y h)
  cases h
theorem Bm (e:Ty):∀{a b:List e.den},RP e a b=true->a=b
 |[],[],_=>rfl
 |[],_::_,h=>by cases h
 |_::_,[],h=>by cases h
 |
  a::l,b::m,h=>by
  simp only[RP,pick2_eq] at h;split at h
  .
   rename_i hab;rw[r8 e hab,Bm e h]
  cases h
theorem yH {t:TypeId} {e:Ty} {l:List e.den} {room:Bool} {r:Option Row} (h:Jb t e l room r=true):∃ct ex,r=some (.list t e l ct ex false)/\(room=true->ex=true):=by
 unfold Jb at h
 split at h
 .
  rename_i t' e' l' ct ex ro;rw[pick2_eq] at h;split at h
  .
   rename_i hc;simp only[Bool.and_eq_true,Bool.not_eq_true',Nat.beq_eq] at hc;obtain ⟨⟨rfl,rfl⟩,hx⟩:=hc;split at h
   .
    rename_i m hm;obtain ⟨he,hc⟩:=bh hm;subst he;have hc:l'=m:=hc;subst hc;have hl:l'=l:=Bm _ h;subst hl;refine ⟨ct,ex,rfl,λhr=>?_⟩
    subst hr;exact hx
   cases h
  cases h
 cases h
theorem EW {id:Nat} {seen:List Nat} (h:(!(seen.any (Nat.beq id)))=true):id ∉ seen:=λhm=>by
 have:seen.any (Nat.beq id)=true:=List.any_eq_true.2 ⟨id,hm,by rw[Nat.beq_eq]⟩
 rw[this] at h;cases h
theorem Bn {H:aa}:∀{vs:List AV} {rs:List aZ} {seen:List Nat},pF H seen vs rs=true->lY H seen vs rs:=by
 intro vs
 induction vs with
 |
  nil =>
  intro rs seen h;cases rs with
  |nil=>trivial
  |cons r rs=>cases r<;>cases h
 |
  cons v vs ih =>
  intro rs seen h;cases rs with
  |nil=>cases v<;>cases h
  |
   cons r rs =>
   cases r with
   |
    val w =>
    have h:pick2 (RO v w) (pF H seen vs rs) false=true:=by cases v<;>exact h
    rw[pick2_eq] at h;split at h
    .
     rename_i hv;obtain ⟨h1,h2⟩:=KP hv;exact ⟨h1,h2,ih h⟩
    cases h
   |
    list t e l =>
    cases v<;>try (cases h;done)
    .
     simp only[pF,pick2_eq] at h;split at h
     .
      rename_i hc;simp only[Bool.and_eq_true,List.isEmpty_iff] at hc;exact ⟨hc.1,.inr ⟨rfl,hc.2,ih h⟩⟩
     cases h
    rename_i id n;simp only[pF,pick2_eq] at h;split at h
    .
     rename_i hc;simp only[Bool.and_eq_true,Nat.beq_eq] at hc;obtain ⟨⟨⟨h1,rfl⟩,h3⟩,h4⟩:=hc;obtain ⟨ct,ex,h5,_⟩:=yH h3;exact ⟨h1,.inl ⟨id,ct,ex,rfl,h5,EW h4,ih h⟩⟩
    cases h
   |
    room t e l len =>
    cases v<;>try (cases h;done)
    rename_i id off n cap;simp only[pF,pick2_eq] at h;split at h
    .
     rename_i hc;simp only[Bool.and_eq_true,Nat.beq_eq] at hc;obtain ⟨⟨⟨⟨⟨h1,rfl⟩,rfl⟩,rfl⟩,h3⟩,h4⟩:=hc;obtain ⟨ct,ex,h5,h6⟩:=yH h3;have:=h6 rfl;subst this;exact ⟨h1,id,ct,rfl,h5,EW h4,ih h⟩
    cases h
theorem EX {rs:List aZ} {r:Option (AV×aa)} (h:leaves rs r=true):∃vs H,r=some (jO vs,H)/\lY H [] vs rs:=by
 unfold leaves at h
 split at h
 .
  rename_i vs H;rw[pick2_eq] at h;split at h
  .
   cases h
  rename_i hn;refine ⟨vs,H,?_,Bn h⟩
  match vs,hn with
  |[],_=>rfl
  |[v],hn=>exact absurd rfl hn
  |_::_::_,_=>rfl
 .
  rename_i v H hv;exact ⟨[v],H,rfl,Bn h⟩
 cases h
theorem yI {X:cY} {kn:Ev.bO} {f:FuncId} (hk:∀args,kn f args=none) {g:List AV->Option (Bool×List aZ)} {call:∀ β,aU β} (hcall:∀ β,aV X (bu X kn) (call β)) (an:bG) (rounds:Nat)
 (h:∀args rs,g args=some (true,rs)->leaves rs (ag X (call (AV×aa)) an rounds f args aa.empty (λv H=>some (v,H)))=true):aI X (bu X kn) f g :=
 Wn hk hcall λargs rs hg=>by
  obtain ⟨vs,H,h1,h2⟩:=EX (h args rs hg);exact ⟨vs,H,an,rounds,h1,h2⟩
theorem r9 {H:aa}:∀{vs:List AV} {seen:List Nat},vs.all kZ=true->lY H seen vs (vs.map .val)
 |[],_,_=>trivial
 |
  v::vs,seen,h=>by
  simp only[List.all_cons,Bool.and_eq_true] at h;exact ⟨rfl,h.1,r9 h.2⟩
theorem aG {X:cY} {kn:Ev.bO} {f:FuncId} (hk:∀args,kn f args=none) {g:List AV->Option (Bool×List aZ)} {call:∀ β,aU β} (hcall:∀ β,aV X (bu X kn) (call β))
 (h:∀args rs,g args=some (true,rs)->∃vs an rounds,ag X (call AV) an rounds f args aa.empty (λv _=>some v)=some (jO vs)/\rs=vs.map .val/\vs.all kZ=true):aI X (bu X kn) f g:=by
 intro args rs hg
 obtain ⟨vs,an,rounds,h1,h2,h3⟩:=h args rs hg
 subst h2
 obtain ⟨v',H1,k1,k2⟩:=fT (nf:=false) (hcall _) (λh=>by cases h) h1
 have k1:v'=jO vs:=Option.some.inj k1
 subst k1
 refine ⟨vs,H1,λS E aB hr hgl hl=>?_,r9 h3⟩
 obtain ⟨S',vE,E',a1,a2,a3,a4,_⟩:=k2 S E aB hr hgl hl
 exact ⟨S',vE,E',dD hk a1,tF a2,a3,a4⟩
theorem tI {X:cY} {kn:Ev.bO} {id:FuncId} (hk:∀args,kn id args=none) {call:∀ β,aU β} (hcall:∀ β,aV X (bu X kn) (call β)) {an:bG} {rounds:Nat} {args:List AV} {v:AV}
 (h:ag X (call AV) an rounds id args aa.empty (λv _=>some v)=some v):∀(S:Wo) (E:Ev.Mem) (aB:List Value),Rel S aa.empty E->bP X S->LV S args aB ->
 ∃S' vE E',(∃N,∀n:Nat×Nat,N<=n.1/\N<=n.2->bu X kn n id aB E=some (vE,E'))/\VR S' v vE:=by
 obtain ⟨v',H1,h1,h2⟩:=fT (nf:=false) (hcall _) (λh=>by cases h) h
 cases h1
 intro S E aB hr hg hl
 obtain ⟨S',vE,E',a1,a2,_,_,_⟩:=h2 S E aB hr hg hl
 exact ⟨S',vE,E',dD hk a1,a2⟩
noncomputable def ai3 (args:List AV):Option (Bool×List aZ) :=
 match args with
 |[]=>some (true,[.val (.bool true)])
 |_=>none
theorem aat {α:Type} (a b:α):pick2 true a b=a:=rfl
theorem aau {α:Type} (a b:α):pick2 false a b=b:=rfl
end Go.Tv

namespace Go.Tv
open Go.Ev (pick2 alive addrFree addrFreeL VRel)
theorem RQ {X:cY} {w:World} (h:∀g,g<X.G->X.gv g≠[]->∃(cv:List Value) (t:TypeId) (fr:Nat×Nat),w.heap[g]? = some (.cells cv.toArray t fr)/\X.gv g=cv.map DF/\addrFreeL cv=true):bP X (kz w):=λg hg he=>by
 obtain ⟨cv,t,fr,h1,h2,h3⟩:=h g hg he
 have hlt:g<w.heap.size:=(Array.getElem?_eq_some_iff.1 h1).1
 obtain ⟨_,_,s3⟩:=mZ w
 have Bi:∀v∈cv,VRel (QL w.heap.size) v v:=λv hv=>by
  obtain ⟨i,hi⟩:=List.getElem?_of_mem hv;exact Ev.aO v (Ev.jf h3 hi)
 have hb:ot w g=⟨cv,t,true,false⟩:=by
  unfold ot;rw[h1];simp only[Ev.Blk.mk.injEq,and_true];refine List.ext_getElem? λi=>?_
  rw[List.getElem?_map];cases hi:cv[i]? with
  |none=>simp[hi]
  |
   some v =>
   have:(cv.toArray.toList)[i]? = some v:=by simpa using hi
   simp only[this,Option.map_some];rw[if_pos (Bi v (List.mem_of_getElem? hi))]
 refine ⟨cv,?_,λT _=>?_⟩
 .
  show (alive (Go.Tv.snap w) g).map (·.cells)=some cv;unfold Ev.alive;rw[s3,if_pos hlt,hb];rfl
 rw[h2]
 refine ⟨by simp,λj x y hx hy=>?_⟩
 rw[List.getElem?_map,hy] at hx
 simp only[Option.map_some,Option.some.injEq] at hx
 subst hx
 exact rV (Ev.jf h3 hy)
theorem Bo {X:cY} {w:World} {rows:List Ev.Blk} (hr:Ev.dm rows w) (h:∀g,g<X.G->X.gv g≠[]->∃b,rows[g]? = some b/\b.live=true/\X.gv g=b.cells.map DF/\addrFreeL b.cells=true):bP X (kz w) :=
 RQ λg hg he=>by
  obtain ⟨b,h1,h2,h3,h4⟩:=h g hg he;obtain ⟨fr,h5,_⟩:=hr.2 g b h1 h2;exact ⟨b.cells,b.elem,fr,h5,h3,h4⟩
end Go.Tv

namespace Go.Tv
open Go.Ev (pick2 Leave)
noncomputable section
variable {β:Type}
def inside:Code->Bool->Code
 |.seq a b,d=>pick2 d b a
 |.cond _ a b,d=>pick2 d b a
 |.block _ a,_=>a
 |.loop a,_=>a
 |.scope a,_=>a
 |c,_=>c
def vk (c:Code):List Bool->Code
 |[]=>c
 |d::p=>vk (inside c d) p
def wq (a:gY):List Bool->gY
 |[]=>a
 |d::p=>wq (pick2 d a.r a.l) p
def cG (keep:List Tmp):List Bool->gY
 |[]=>.node (some keep) .none .none
 |d::p=>pick2 d (.node none .none (cG keep p)) (.node none (cG keep p) .none)
def C5 (X:cY) (call:aU β) (tr:List Tmp) (J:qU β) (rounds:Nat):List Bool->Code->gY->KT β->KT β
 |[],_,_,k=>k
 |false::p,.seq x y,a,k=>C5 X call tr J rounds p x a.l (CK (λf H=>lU X call tr J rounds y a.r f H k) k)
 |true::p,.seq _ y,a,k=>C5 X call tr J rounds p y a.r k
 |false::p,.cond _ x _,a,k=>C5 X call tr J rounds p x a.l k
 |true::p,.cond _ _ y,a,k=>C5 X call tr J rounds p y a.r k
 |_::p,.block id b,a,k=>C5 X call tr J rounds p b a.l (yl id k)
 |_::p,.scope b,a,k=>C5 X call tr J rounds p b a.l (uS b J k)
 |_::_,_,_,k=>k
def cK (X:cY) (call:aU β) (an:bG) (rounds:Nat) (id:FuncId) (p:List Bool) (k:AV->aa->Option β) (n:Nat) (f:ck) (H:aa):Option β :=
 match X.P.funcs[id]? with
 |
  some fn=>match fn.body with
  |some c=>IW (wq an.Ki p) (λf H k=>lU X call an.tr (nO X call an.tr an.ja rounds rounds) rounds (vk c (p++[false])) (wq an.Ki p).l f H k)
   (C5 X call an.tr (nO X call an.tr an.ja rounds rounds) rounds p c an.Ki (nP X fn k)) n f H
  |none=>none
 |none=>none
def aav (X:cY) (call:aU β) (an:bG) (rounds:Nat) (id:FuncId) (p:List Bool) (l:Nat) (k:AV->aa->Option β) (n:Nat) (f:ck) (H:aa):Option β :=
 match X.P.funcs[id]? with
 |
  some fn=>match fn.body with
  |
   some c=>match findLabel (vk c (p++[false])) l with
   |some rest=>GU X call an.tr an.ja rounds n (vk c (p++[false])) rest f H (C5 X call an.tr (nO X call an.tr an.ja rounds rounds) rounds p c an.Ki (nP X fn k))
   |none=>none
  |none=>none
 |none=>none
def fY (n:Nat) (l:List (Tmp×AV)):ck:=l.foldl (λg q=>g.put (some q.1) q.2) ⟨n,.e⟩
def iC (l:List Row):aa:=l.foldl (λM r=>M.push r) ⟨0,0,0,.e⟩
end
end Go.Tv

namespace Go.Tv
open Go.Ev (pick2 pick2_eq ltI eqI ltI_spec eqI_spec)
theorem Wp (n:Int):IntKind.wrap .i64 n=if n%18446744073709551616<9223372036854775808 then n%18446744073709551616 else n%18446744073709551616-18446744073709551616:=by
 have e:IntKind.wrap .i64 n=if n%(2 ^ 64:Int)>=(2 ^ 63:Int) then n%(2 ^ 64:Int)-(2 ^ 64:Int) else n%(2 ^ 64:Int):=by
  unfold IntKind.wrap;by_cases h:n%(2 ^ 64:Int)>=(2 ^ 63:Int)
  .
   rw[if_pos h];exact if_pos (by show (true&&decide (n%(2 ^ 64:Int)>=(2 ^ 63:Int)))=true;simpa using h)
  rw[if_neg h];exact if_neg (by show ¬(true&&decide (n%(2 ^ 64:Int)>=(2 ^ 63:Int)))=true;simp;omega)
 rw[e]
 split<;>split<;>omega
theorem i64_in {n:Int} (h0 : -9223372036854775808<=n) (h1:n<9223372036854775808):IntKind.wrap .i64 n=n:=by
 rw[Wp]
 split<;>omega
theorem tJ (n:Int):IntKind.wrap .u64 n=n%18446744073709551616:=by
 unfold IntKind.wrap
 simp only[IntKind.bits,IntKind.signed,Bool.false_and,Bool.false_eq_true,if_false]
 rfl
theorem u64_in {n:Int} (h0:0<=n) (h1:n<18446744073709551616):IntKind.wrap .u64 n=n:=by rw[tJ];omega
theorem Wq (n:Int):IntKind.wrap .u8 n=n%256:=by
 unfold IntKind.wrap
 simp only[IntKind.bits,IntKind.signed,Bool.false_and,Bool.false_eq_true,if_false]
 rfl
theorem u8_in {n:Int} (h0:0<=n) (h1:n<256):IntKind.wrap .u8 n=n:=by rw[Wq];omega
theorem kG {a b:Int} (h:a<b):ltI a b=true:=by rw[ltI_spec];simpa using h
theorem cA {a b:Int} (h:b<=a):ltI a b=false:=by rw[ltI_spec];simpa using h
theorem Ah {a b:Int} (h:a=b):eqI a b=true:=by rw[eqI_spec,h];simp
theorem wM {a b:Int} (h:a≠b):eqI a b=false:=by rw[eqI_spec];simpa using h
theorem Wr (c:UInt8):0<=aD c:=Int.natCast_nonneg _
theorem Ws (c:UInt8):aD c<256:=by have:=c.toNat_lt;unfold aD;simp;omega
theorem C6 (c:UInt8):Ew (aD c)=c:=by unfold Ew aD;simp
theorem C7 {a b:UInt8} (h:aD a=aD b):a=b:=by rw[<-C6 a,h,C6]
theorem Jc (s:List UInt8):(s.map aD).map Ew=s:=by
 rw[List.map_map]
 have:Ew∘aD=id:=funext C6
 rw[this,List.map_id]
theorem lg {α:Type} (l:List α) (n:Nat):aS l (n:Int)=l[n]? := rfl
theorem eo {α:Type} (pre r:List α) (c:α):aS (pre++c::r) (pre.length:Int)=some c:=by rw[lg];simp
theorem fG {a b:Nat} (h:a<=b):Nat.ble a b=true:=Nat.ble_eq_true_of_le h
theorem Nx {s w:List UInt8} {a n:Nat} (he:(s.drop a).take n=w) (f t:Nat) (ht:t<=n):bJ s ((a+f:Nat):Int) ((a+t:Nat):Int)=(w.take t).drop f:=by
 unfold bJ
 simp only[Int.toNat_natCast]
 rw[<-he,List.take_take,List.drop_take,List.drop_drop,Nat.min_eq_left ht]
 congr 1;omega
theorem Jd {a:Int} (h0:0<=a) (h1:a<18446744073709551616) (k:Nat) (hk:k<=64):((BitVec.ofInt 64 a &&& BitVec.ofInt 64 ((2 ^ k-1:Nat):Int)).toNat:Int)=a%(2 ^ k:Nat):=by
 obtain ⟨n,rfl⟩:∃n:Nat,a=n:=⟨a.toNat,by omega⟩
 rw[BitVec.toNat_and,BitVec.ofInt_natCast,BitVec.ofInt_natCast,BitVec.toNat_ofNat,BitVec.toNat_ofNat]
 have h2:n%2 ^ 64=n:=Nat.mod_eq_of_lt (by omega)
 have hp:2 ^ k<=2 ^ 64:=Nat.pow_le_pow_right (by omega) hk
 have hpos:0<2 ^ k:=Nat.two_pow_pos k
 have h3:(2 ^ k-1)%2 ^ 64=2 ^ k-1:=Nat.mod_eq_of_lt (by omega)
 rw[h2,h3,Nat.and_two_pow_sub_one_eq_mod]
 simp
abbrev kH:=FuncId×List (Option Ty)×(List AV->Option (Bool×List aZ))
noncomputable def KQ (l:List kH):RM:=λf=>List.rec (motive:=λ_=>Option (List (Option Ty)×(List AV->Option (Bool×List aZ)))) none (λe _ r=>pick2 (Nat.beq f e.1) (some e.2) r) l
def cg (X:cY) (cf:Nat×Nat->Ev.aM) (l:List kH):Prop:=∀id sig g,KQ l id=some (sig,g)->aI X cf id g
theorem cg.nil {X:cY} {cf:Nat×Nat->Ev.aM}:cg X cf []:=λ_ _ _ h=>by cases h
theorem cg.cons {X:cY} {cf:Nat×Nat->Ev.aM} {f:FuncId} {sig:List (Option Ty)} {g:List AV->Option (Bool×List aZ)} {l:List kH} (h:aI X cf f g) (t:cg X cf l):cg X cf ((f,sig,g)::l):=λid sig' g' hk=>by
 have hk:pick2 (Nat.beq id f) (some (sig,g)) (KQ l id)=some (sig',g'):=hk
 cases hb:Nat.beq id f with
 |
  true =>
  rw[hb] at hk;have he:id=f:=Nat.eq_of_beq_eq_true hb;have hk:(sig,g)=(sig',g'):=Option.some.inj hk;cases hk;rw[he];exact h
 |false=>rw[hb] at hk;exact t id sig' g' hk
noncomputable def qY {α:Type} (n a b:Int) (x y:α):α:=pick2 (!ltI n a) (pick2 (!ltI b n) x y) y
theorem yJ {α:Type} (n a b:Int) (x y:α):qY n a b x y=if a<=n/\n<=b then x else y:=by
 unfold qY
 simp only[pick2_eq,ltI_spec,Bool.not_eq_true',decide_eq_false_iff_not]
 by_cases h1:n<a
 .
  rw[if_neg (by simpa using h1),if_neg (by omega)]
 rw[if_pos h1]
 by_cases h2:b<n
 .
  rw[if_neg (by simpa using h2),if_neg (by omega)]
 rw[if_pos h2,if_pos (by omega)]
theorem aX {α:Type} (a b:Int) (x y:α):pick2 (ltI a b) x y=if a<b then x else y:=by rw[pick2_eq,ltI_spec];simp
theorem cj {α:Type} (a b:Int) (x y:α):pick2 (!ltI a b) x y=if b<=a then x else y:=by
 rw[pick2_eq,ltI_spec]
 by_cases h:a<b
 .
  rw[if_neg (by simpa using h),if_neg (by omega)]
 rw[if_pos (by simpa using h),if_pos (by omega)]
theorem az {α:Type} (a b:Int) (x y:α):pick2 (eqI a b) x y=if a=b then x else y:=by rw[pick2_eq,eqI_spec];simp
theorem aT {α:Type} (a b:Int) (x y:α):pick2 (!eqI a b) x y=if a=b then y else x:=by
 rw[pick2_eq,eqI_spec]
 by_cases h:a=b
 .
  rw[if_neg (by simpa using h),if_pos h]
 rw[if_pos (by simpa using h),if_neg h]
end Go.Tv

namespace Go.Tv
open Go.Ev (Tr pick2 Leave Mem Blk alive pick2_eq alive_some opA Fr VRel Ren)
theorem Ny {p:Program} {fits:TypeId->Bool}:∀{d:Nat} {e:TypeId} {count off n:Nat},rowAt p fits d e count off n=true->off<=count*p.cellsOf e
 |0,_,_,_,_,h=>by simp[rowAt] at h
 |
  d+1,e,count,off,n,h=>by
  rw[rowAt] at h;by_cases hs:p.cellsOf e=0
  .
   simp[hs] at h
  have hdm:=Nat.div_add_mod off (p.cellsOf e);have hr:=Nat.mod_lt off (Nat.pos_of_ne_zero hs);simp only[if_neg hs,Bool.or_eq_true,Bool.and_eq_true,decide_eq_true_eq,beq_iff_eq] at h;rw[Nat.mul_comm];rcases h with ⟨⟨h1,h2⟩,_⟩|⟨h1,_⟩
  .
   have:p.cellsOf e*(off/p.cellsOf e)<=p.cellsOf e*count:=Nat.mul_le_mul_left _ (by omega)
   omega
  have:p.cellsOf e*(off/p.cellsOf e+1)<=p.cellsOf e*count:=Nat.mul_le_mul_left _ h1;rw[Nat.mul_add] at this;omega
theorem Bq {p:Program}:∀{d:Nat} {e:TypeId} {count off:Nat} {u:TypeId} {n:Nat},liesAt p d e count off u n=true->off<=count*p.cellsOf e
 |0,_,_,_,_,_,h=>by simp[liesAt] at h
 |
  d+1,e,count,off,u,n,h=>by
  rw[liesAt,Bool.or_eq_true] at h;rcases h with h|h
  .
   exact Ny h
  split at h
  .
   exact Bq h
  cases h
theorem Wt {P:Program} {w:World} {r:Reach} {base:Nat} {a:Addr} {e:TypeId} {n:Nat} (h:w.has P r base a e n):a.spot=none/\∃C t fr,w.heap[a.block]? = some (.cells C t fr)/\a.off<=C.size:=by
 obtain ⟨_,h1,row,cells,h2,h3⟩:=h
 refine ⟨h1,?_⟩
 unfold World.shape? at h2
 split at h2
 .
  rename_i C t fr hC;cases h2;exact ⟨C,_,fr,hC,Nat.le_trans (Bq h3) (Nat.div_mul_le_self _ _)⟩
 cases h2
theorem G3 {P:Program} {w:World} {r:Reach} {base:Nat} {t e:TypeId} {a:Addr} {len cap:Nat} (ht:P.underlying t=some (.slice e)) (h:Value.okWide P w r base t (.slice (some a) len cap)):w.has P r base a e cap:=by
 simp only[Value.okWide,ht,Cell.okWide,Cell.ok] at h
 exact h.2.2
theorem G5 {w:World} {i:Nat} {C:Array Value} {t:TypeId} {fr:Nat×Nat} (h:w.heap[i]? = some (.cells C t fr)):∃cs,(kz w).F i=some cs/\cs.length=C.size/\∀(j:Nat) v,C[j]? = some v->VRel (QL w.heap.size) v v->cs[j]? = some v:=by
 have hlt:i<w.heap.size:=(Array.getElem?_eq_some_iff.1 h).1
 have hg:(snap w).get i=some (ot w i):=by rw[(mZ w).2.2,if_pos hlt]
 have hb:ot w i=⟨C.toList.map λv=>open Classical in if VRel (QL w.heap.size) v v then v else .chan none,t,true,false⟩:=by
  unfold ot;rw[h]
 have ha:alive (snap w) i=some (ot w i):=by unfold Ev.alive;rw[hg,hb];rfl
 refine ⟨(ot w i).cells,?_,by rw[hb];simp,λj v hv hs=>?_⟩
 .
  show (alive (snap w) i).map (·.cells)=_;rw[ha];rfl
 rw[hb]
 simp[hv,hs]
end Go.Tv

namespace Go.Tv
open Go.Ev (VRel)
open Go.WideShapes Go.Deep
def tT (P:Program) (g:TypeId->Ty->Bool):Nat->List Field->Ty->Bool
 |off,[f],e=>Nat.beq f.offset off&&Nat.beq (P.cellsOf f.type) e.size&&g f.type e
 |off,f::f'::fs,.pair a b=>Nat.beq f.offset off&&Nat.beq (P.cellsOf f.type) a.size&&g f.type a&&tT P g (off+a.size) (f'::fs) b
 |_,_,_=>false
def OA (k:IntKind):Ty->Bool
 |.int k'=>decide (k=k')
 |_=>false
def Ju:Ty->Bool
 |.bool=>true
 |_=>false
def OB:Ty->Bool
 |.str=>true
 |_=>false
theorem Fm {k:IntKind} {e:Ty} (h:OA k e=true):e = .int k:=by
 cases e<;>first|(cases h;done)|(rw[of_decide_eq_true h])
theorem De {e:Ty} (h:Ju e=true):e = .bool:=by cases e<;>first|rfl|cases h
theorem Fp {e:Ty} (h:OB e=true):e = .str:=by cases e<;>first|rfl|cases h
def yX (P:Program):Nat->TypeId->Ty->Bool
 |0,_,_=>false
 |
  d+1,t,e=>match P.underlying t with
  |some (.int k)=>OA k e
  |some .bool=>Ju e
  |some .string=>OB e
  |some (.struct fs)=>Nat.beq (P.cellsOf t) e.size&&tT P (yX P d) 0 fs.toList e
  |_=>false
def QS:(e:Ty)->e.den->Prop
 |.int k,n=>(Lit.int k n).wf=true
 |.str,s=>List.length s<=maxLen
 |.pair a b,x=>QS a x.1/\QS b x.2
 |.bool,_=>True
 |.j6,_=>True
 |.unit,_=>True
 |.sl _,_=>True
variable {H:Type} {enc:TypeId×Value->H} {P:Program} {w:World} {base:Nat} {sp:Nat->Bool} {held:Bool}
theorem Lc {F:Nat->Option (List Value)} {fuel:Nat} {g:TypeId->Ty->Bool} (hg:∀t e cs x,g t e=true->DataW.trod enc P w base sp held fuel t cs=some x->∃y,CR F e y cs/\QS e y) {cs:List Value} :
 ∀(fs:List Field) (off:Nat) (e:Ty),tT P g off fs e=true->(∀f∈fs,∃x,DataW.trod enc P w base sp held fuel f.type ((cs.drop f.offset).take (P.cellsOf f.type))=some x)->cs.length=off+e.size ->
 ∃y,CR F e y (cs.drop off)/\QS e y:=by
 intro fs
 induction fs with
 |nil=>intro off e h;cases e<;>cases h
 |
  cons f fs ih =>
  intro off e h hx hl
  match fs,e,h with
  |
   [],e,h =>
   have h:(Nat.beq f.offset off&&Nat.beq (P.cellsOf f.type) e.size&&g f.type e)=true:=by cases e<;>exact h
   simp only[Bool.and_eq_true,Nat.beq_eq] at h;obtain ⟨⟨h1,h2⟩,h3⟩:=h;obtain ⟨x,h4⟩:=hx f (List.mem_cons_self ..);rw[h1,h2,List.take_of_length_le (by rw[List.length_drop];omega)] at h4
   exact hg _ _ _ _ h3 h4
  |
   f'::fs,.pair a b,h =>
   have h:(Nat.beq f.offset off&&Nat.beq (P.cellsOf f.type) a.size&&g f.type a&&tT P g (off+a.size) (f'::fs) b)=true:=h;simp only[Bool.and_eq_true,Nat.beq_eq] at h;obtain ⟨⟨⟨h1,h2⟩,h3⟩,h5⟩:=h;obtain ⟨x,h4⟩:=hx f (List.mem_cons_self ..);rw[h1,h2] at h4;obtain ⟨y,k1,k2⟩:=hg _ _ _ _ h3 h4;have hs:(Ty.pair a b).size=a.size+b.size:=rfl;obtain ⟨z,k3,k4⟩:=ih (off+a.size) b h5 (λf hf=>hx f (List.mem_cons_of_mem _ hf)) (by omega)
   refine ⟨(y,z),⟨(cs.drop off).take a.size,cs.drop (off+a.size),?_,k1,k3⟩,k2,k4⟩;rw[<-List.drop_drop,List.take_append_drop]
  |_::_,.int _,h=>cases h
  |_::_,.bool,h=>cases h
  |_::_,.str,h=>cases h
  |_::_,.j6,h=>cases h
  |_::_,.unit,h=>cases h
  |_::_,.sl _,h=>cases h
theorem Jv {F:Nat->Option (List Value)}:∀(d:Nat) (fuel:Nat) (t:TypeId) (e:Ty) (cs:List Value) (x:DataW H×List MemPlace),yX P d t e=true->DataW.trod enc P w base sp held fuel t cs=some x->∃y,CR F e y cs/\QS e y
 |0,_,_,_,_,_,h,_=>by cases h
 |
  d+1,fuel,t,e,cs,x,h,hx=>by
  rw[yX] at h;split at h
  .
   rename_i k hk;obtain rfl:=Fm h;obtain ⟨n,rfl,_,hw⟩:=DataW.trod_int hk hx;exact ⟨n,rfl,hw⟩
  .
   rename_i hk;obtain rfl:=De h;obtain ⟨b,rfl,_⟩:=DataW.trod_bool hk hx;exact ⟨b,rfl,trivial⟩
  .
   rename_i hk;obtain rfl:=Fp h;obtain ⟨s,rfl,_,hw⟩:=DataW.trod_string hk hx;refine ⟨s.data.toList,?_,?_⟩
   .
    show [Value.string s]=[.string ⟨s.data.toList.toArray⟩];obtain ⟨a⟩:=s;simp
   show s.data.toList.length<=maxLen
   simpa using hw
  .
   rename_i fs hk;simp only[Bool.and_eq_true,Nat.beq_eq] at h;obtain ⟨xs,n,_,_,hl,hlx,hm⟩:=DataW.trod_struct hk hx
   have hm:∀f∈fs.toList,∃x,DataW.trod enc P w base sp held n f.type ((cs.drop f.offset).take (P.cellsOf f.type))=some x:=λf hf=>by
    obtain ⟨i,hi⟩:=List.getElem?_of_mem hf;have hi':fs[i]? = some f:=by simpa using hi
    have hlt:i<xs.length:=by rw[hlx];exact (Array.getElem?_eq_some_iff.1 hi').1
    exact ⟨xs[i],(hm i f hi').trans (List.getElem?_eq_getElem hlt)⟩
   obtain ⟨y,h1,h2⟩:=Lc (F:=F) (g:=yX P d) (λt e cs x h hx=>Jv d n t e cs x h hx) fs.toList 0 e h.2 hm (by omega)
   exact ⟨y,by simpa using h1,h2⟩
  cases h
theorem CR.free {F:Nat->Option (List Value)}:∀(e:Ty) (y:e.den) (cs:List Value),e.mV=true->CR F e y cs->∀v∈cs,Ev.addrFree v=true
 |.int _,_,_,_,h,v,hv=>by rw[show _=_ from h] at hv;obtain rfl:=List.mem_singleton.1 hv;rfl
 |.bool,_,_,_,h,v,hv=>by rw[show _=_ from h] at hv;obtain rfl:=List.mem_singleton.1 hv;rfl
 |.str,_,_,_,h,v,hv=>by rw[show _=_ from h] at hv;obtain rfl:=List.mem_singleton.1 hv;rfl
 |.j6,_,_,_,h,v,hv=>by rw[show _=_ from h] at hv;obtain rfl:=List.mem_singleton.1 hv;rfl
 |.unit,_,_,_,h,v,hv=>by rw[show _=_ from h] at hv;cases hv
 |.sl _,_,_,hf,_,_,_=>by cases hf
 |
  .pair a b,x,_,hf,⟨c1,c2,h,h1,h2⟩,v,hv=>by
  have hf:(a.mV&&b.mV)=true:=hf;rw[Bool.and_eq_true] at hf;rw[h] at hv;rcases List.mem_append.1 hv with hv|hv
  .
   exact CR.free a x.1 c1 hf.1 h1 v hv
  exact CR.free b x.2 c2 hf.2 h2 v hv
theorem OC {F:Nat->Option (List Value)} {e:Ty} {s:Nat}:∀(len:Nat) (cells:List Value),cells.length=len*s->(∀i,i<len->∃y,CR F e y ((cells.drop (i*s)).take s)/\QS e y) ->
 ∃l:List e.den,l.length=len/\fL (CR F e) l cells/\∀y∈l,QS e y
 |0,cells,hl,_=>⟨[],rfl,List.length_eq_zero_iff.1 (by simpa using hl),λy hy=>by cases hy⟩
 |
  len+1,cells,hl,h=>by
  obtain ⟨y,h1,h2⟩:=h 0 (Nat.succ_pos _);rw[Nat.zero_mul,List.drop_zero] at h1
  obtain ⟨l,k1,k2,k3⟩:=OC (F:=F) (e:=e) (s:=s) len (cells.drop s) (by rw[List.length_drop,hl,Nat.succ_mul];omega) (λi hi=>by
   have:=h (i+1) (by omega)
   rw[List.drop_drop];rw[Nat.succ_mul,Nat.add_comm] at this;exact this)
  refine ⟨y::l,by rw[List.length_cons,k1],⟨_,_,(List.take_append_drop s cells).symm,h1,k2⟩,λz hz=>?_⟩
  rcases List.mem_cons.1 hz with rfl|hz
  .
   exact h2
  exact k3 z hz
theorem OD {r:Reach} {b0:Nat} {t e:TypeId} {ty:Ty} {d:Nat} {v:Value} {x:DataW H} {p:List MemPlace} (ht:P.underlying t=some (.slice e)) (hf:yX P d e ty=true) (hs:P.cellsOf e=ty.size) (hfl:ty.mV=true) (hok:Value.okWide P w r b0 t v)
 (h:DataW.Trod enc P w base sp held t v x p):∃l:List ty.den,VR (kz w) (.bA ty l) v/\(∀y∈l,QS ty y)/\l.length<=maxLen:=by
 obtain ⟨fuel,h⟩:=h
 obtain ⟨b,len,cap,rfl⟩:∃b len cap,v = .slice b len cap:=okWide_slice ht hok
 rcases open_slice ht h with ⟨h0,_⟩|⟨a,len',cap',m,n,D,Pl,hc,_,hl,hm,hmm,_,hx⟩
 .
  simp[Value.cells] at h0;obtain ⟨rfl,rfl,rfl⟩:=h0;exact ⟨[],.bA _ _ _ (.inl ⟨rfl,rfl⟩),λy hy=>(by cases hy),Nat.zero_le _⟩
 simp[Value.cells] at hc
 obtain ⟨rfl,rfl,rfl⟩:=hc
 obtain ⟨hsp,C,te,fr,hC,ho⟩:=Wt (G3 ht hok)
 obtain ⟨cs,h1,h2,h3⟩:=G5 hC
 have hle:len<=m:=by rw[hmm];split<;>omega
 have hel:∀i,i<len->(cs.drop (a.off+i*ty.size)).length>=ty.size/\∃y,CR (kz w).F ty y ((cs.drop (a.off+i*ty.size)).take ty.size)/\QS ty y:=by
  intro i hi;obtain ⟨cs',k1,k5⟩:=hx i (by omega)
  obtain ⟨_,k2,k3⟩:=World.cells?_some k1;obtain ⟨y,k6,k7⟩:=Jv (F:=(kz w).F) d n e ty cs' _ hf k5
  have dJ:∀j,j<ty.size->cs[a.off+i*ty.size+j]? = cs'[j]? := by
   intro j hj;have k4:=k3 j (by omega)
   have e1:(a.add (i*P.cellsOf e)).add j=⟨a.block,a.off+i*ty.size+j,none⟩:=by
    obtain ⟨ab,ao,as⟩:=a;cases hsp;unfold Addr.add;rw[hs]
    repeat' split
    all_goals simp_all
   rw[e1] at k4;unfold World.cell? at k4;simp only[hC,Option.isSome_none,Bool.false_eq_true,if_false] at k4;have hjl:j<cs'.length:=by omega
   rw[List.getElem?_eq_getElem hjl] at k4 ⊢;exact h3 _ _ k4 (Ev.aO _ (CR.free ty y cs' hfl k6 _ (List.getElem_mem hjl)))
  have hlen:(cs.drop (a.off+i*ty.size)).length>=ty.size:=by
   rw[List.length_drop];by_cases hz:ty.size=0
   .
    omega
   have:=dJ (ty.size-1) (by omega)
   rw[List.getElem?_eq_getElem (show ty.size-1<cs'.length by omega)] at this
   have:=(List.getElem?_eq_some_iff.1 this).1;omega
  refine ⟨hlen,y,?_,k7⟩
  have:(cs.drop (a.off+i*ty.size)).take ty.size=cs':=by
   apply List.ext_getElem?;intro j;by_cases hj:j<ty.size
   .
    rw[List.getElem?_take_of_lt hj,List.getElem?_drop,dJ j hj]
   rw[List.getElem?_eq_none (by simp;omega),List.getElem?_eq_none (by omega)]
  rw[this];exact k6
 have DS:len*ty.size<=(cs.drop a.off).length:=by
  rw[List.length_drop];rcases Nat.eq_zero_or_pos len with rfl|hp
  .
   simp
  obtain ⟨hlen,_⟩:=hel (len-1) (by omega)
  rw[List.length_drop] at hlen
  have e2:len*ty.size=(len-1)*ty.size+ty.size:=by
   obtain ⟨k,rfl⟩:∃k,len=k+1:=⟨len-1,by omega⟩
   rw[Nat.succ_mul];rfl
  by_cases hz:ty.size=0
  .
   rw[hz];simp
  omega
 obtain ⟨l,g1,g2,g3⟩:=OC (F:=(kz w).F) (e:=ty) (s:=ty.size) len ((cs.drop a.off).take (len*ty.size)) (by rw[List.length_take];omega) (λi hi=>by
  obtain ⟨_,y,q1,q2⟩:=hel i hi;refine ⟨y,?_,q2⟩;have e3:(i+1)*ty.size<=len*ty.size:=Nat.mul_le_mul_right _ (by omega)
  rw[Nat.succ_mul] at e3;rw[List.drop_take,List.take_take,List.drop_drop,Nat.min_eq_left (by omega)]
  exact q1)
 refine ⟨l,.bA _ _ _ (.inr ⟨a.block,cs.take a.off,(cs.drop a.off).take (len*ty.size),(cs.drop a.off).drop (len*ty.size),cap,?_,?_,g2,by omega⟩),g3,by omega⟩
 .
  have:(cs.take a.off).length=a.off:=by simp;omega
  rw[this,g1];obtain ⟨xb,xo,xs⟩:=a;cases hsp;rfl
 rw[List.take_append_drop,List.take_append_drop]
 exact h1
end Go.Tv

namespace Go.Tv
variable {β:Type}
noncomputable def Jr:gY->gY
 |.node _ l r=>.node none l r
 |a=>a
noncomputable def codeFrom (X:cY) (call:aU β) (an:bG) (rounds:Nat) (id:FuncId) (p:List Bool) (k:AV->aa->Option β) (f:ck) (H:aa):Option β :=
 match X.P.funcs[id]? with
 |
  some fn=>match fn.body with
  |some c=>lU X call an.tr (nO X call an.tr an.ja rounds rounds) rounds (vk c p) (Jr (wq an.Ki p)) f H (C5 X call an.tr (nO X call an.tr an.ja rounds rounds) rounds p c an.Ki (nP X fn k))
  |none=>none
 |none=>none
end Go.Tv
namespace Go.Tv
def nS:gY->gY->gY
 |.none,b=>b
 |.node o l r,.none=>.node o l r
 |.node o l r,.node o' l' r'=>.node (match o with|some x=>some x|none=>o') (nS l l') (nS r r')
end Go.Tv
namespace Go.Tv
open Go.Ev
theorem yQ {X:cY} {kn:Ev.bO} {f:FuncId} {g:List AV->Option (Bool×List aZ)}
 (h:∀args' rs,g args'=some (true,rs)->∃v u vE uE,rs=[.val v,.val u]/\kZ v=true/\kZ u=true/\(∀S,VR S v vE)/\(∀S,VR S u uE)/\∀S aB,LV S args' aB->kn f aB=some (.tuple #[vE,uE])/\Ev.addrFreeL aB=true/\Ev.addrFree (.tuple #[vE,uE])=true):aI X (bu X kn) f g:=by
 intro args' rs hg
 obtain ⟨v,u,vE,uE,rfl,hs,hs2,hv,hu,hkn⟩:=h args' rs hg
 refine ⟨[v,u],aa.empty,λS E aB hr hgl hl=>?_,⟨rfl,hs,rfl,hs2,trivial⟩⟩
 obtain ⟨k1,k2,k3⟩:=hkn S aB hl
 refine ⟨S,.tuple #[vE,uE],E,⟨1,λn hn=>?_⟩,⟨[vE,uE],rfl,LV.cons (hv S) (LV.cons (hu S) LV.nil)⟩,hr,zX.refl _ _ _⟩
 obtain ⟨R,D⟩:=n
 obtain ⟨D',rfl⟩:∃D',D=D'+1:=⟨D-1,by have:=hn.2;simp only at this;omega⟩
 show Ev.ig X.P X.G kn R (D'+1) f aB E=_
 rw[Ev.fU,k1]
 simp only[k2,k3,Bool.and_self,if_true]
end Go.Tv
namespace Go.Tv
open Go.Ev
noncomputable section
variable {β:Type}
def WX:Code->List Bool->Code
 |.seq x y,true::p=>.seq x (WX y p)
 |_,_=>.skip
def UE:Code->List Bool->Bool
 |.seq _ y,true::p=>UE y p
 |.seq _ _,[]=>true
 |_,_=>false
def ajn (X:cY) (call:aU β) (an:bG) (rounds:Nat) (id:FuncId) (p:List Bool) (args:List AV) (H:aa) (k:AV->aa->Option β) (K:ck->aa->Option β):Option β :=
 match X.P.funcs[id]? with
 |
  some fn=>match fn.body with
  |some c=>pick2 (Nat.ble args.length fn.ntmps)
   (lU X call an.tr (nO X call an.tr an.ja rounds rounds) rounds (WX c p) an.Ki ((ck.mk fn.ntmps .e).fill 0 args) H (CK (λf H=>Ex (wq an.Ki p) f H K) (nP X fn k))) none
  |none=>none
 |none=>none
def ahr (X:cY) (id:FuncId) (p:List Bool):Bool :=
 match X.P.funcs[id]? with
 |
  some fn=>match fn.body with
  |some c=>UE c p
  |none=>false
 |none=>false
end
end Go.Tv

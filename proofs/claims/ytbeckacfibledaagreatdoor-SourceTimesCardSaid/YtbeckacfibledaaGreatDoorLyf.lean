/- All operations of the layer, steps, regions. -/
import Derived.Test.YtbeckacfibledaaGreatDoorLye
set_option linter.unusedVariables false
set_option linter.unusedSimpArgs false

namespace Go.Tv
open Go.Ev (Tr ah jx Mem kV alive ay eA bQ iX kD br dh orElse)
def gi (X:ji)(S:Wo):Prop:=∀g,g<X.G->X.gv g≠[]->∃cs,S.F g=some cs/\∀T:Wo,(∀i x,S.F i=some x->T.F i=some x)->LV T (X.gv g) cs
theorem gi.mono' {X:ji}{S S':Wo}(h:gi X S)(a:∀i x,S.F i=some x->S'.F i=some x):gi X S':=λg b c=>let ⟨cs,d,e⟩:=h g b c;⟨cs,a _ _ d,λT f=>e T λi x j=>f i x (a i x j)⟩
theorem gi.mono {X:ji}{S S':Wo}(h:gi X S)(a:S.le S'):gi X S':=h.mono' a.F
def KL (X:ji)(cf:Nat×Nat->Ev.dx)(f:FuncId)(args:aI)(H:aH)(v:AV)(a:aH):Prop :=
 ∀(S:Wo) (E:Mem) (b:aW),Rel S H E->gi X S->LV S args b ->
  ∃S' c E',(∃N,∀n:Nat×Nat,N<=n.1/\N<=n.2->cf n f b E=some (c,E'))/\S.le S'/\VR S' v c/\Rel S' a E'/\St S H E S' a E'
def dO (X:ji)(cf:Nat×Nat->Ev.dx){β:Type}(call:dz β):Prop :=
 ∀f args H k (r:β),call f args H k=some r->∃v a,k v a=some r/\KL X cf f args H v a
def FM (X:ji)(cf:Nat×Nat->Ev.dx)(o:Oper)(ev:Operand->AV)(H:aH)(v:AV)(a:aH):Prop :=
 ∀(S:Wo) (E:Mem) (bM:Operand->Value),Rel S H E->gi X S->(∀x∈o.op.operands,VR S (ev x) (bM x)) ->
  ∃S' b E',(∃N,∀n:Nat×Nat,N<=n.1/\N<=n.2->kD X.P (cf n) bM o E=some (b,E'))/\S.le S'/\VR S' v b/\Rel S' a E'/\St S H E S' a E'
theorem fO.kE {X:ji}{cf:Nat×Nat->Ev.dx}{o:Oper}{ev:Operand->AV}{H a:aH}{v:AV}(h:fO X cf o ev H v a):FM X cf o ev H v a:=λS E bM b _ c=>h S E bM b c
section
variable {X:ji} {cf:Nat×Nat->Ev.dx} {o:Oper} {ev:Operand->AV} {H:aH} {β:Type} {r:β}
theorem Nr {x:Operand}(h:o.op = .move x\/o.op = .assign x):fO X cf o ev H (ev x) H:=.quiet λS E bM b a=>by
 rcases h with h|h
 .rw[h]at a;exact⟨bM x,λcall=>by unfold kD;rw[h],a x (by simp[Op.operands])⟩
 rw[h]at a;exact⟨bM x,λcall=>by unfold kD;rw[h],a x (by simp[Op.operands])⟩
theorem XM {c a b:Operand}{t:Bool}(h:o.op = .pick c a b)(f:ev c = .bool t):fO X cf o ev H (ah t (ev a) (ev b)) H:=.quiet λS E bM g d=>by
 rw[h]at d;have e:=d c (by simp[Op.operands]);rw[f]at e;refine⟨ah t (bM a) (bM b),λcall=>?_,?_⟩
 .unfold kD;rw[h];show Ev.EU (bM c) (bM a) (bM b) E=_;rw[e.nO];rfl
 cases t
 .exact d b (by simp[Op.operands])
 exact d a (by simp[Op.operands])
theorem Eu {x:Operand}{v:AV}(h:o.op = .nilCheck x)(d:ev x=v)(g:(∃id off,v = .ptr id off)\/(∃id n,v = .FB id n)\/(∃cs,v = .Ad cs)\/∃f a b,v = .fn f a b):fO X cf o ev H v H:=.quiet λS E bM i e=>by
 rw[h]at e;have c:=e x (by simp[Op.operands]);refine⟨bM x,λcall=>?_,by rw[<-d];exact c⟩;unfold kD;rw[h];show Ev.tP (bM x) E=_;rw[d]at c;rcases g with⟨id,off,rfl⟩|⟨id,n,rfl⟩|⟨cs,rfl⟩|⟨f,a,b,rfl⟩<;>(generalize bM x=A at c;cases c;rfl)
theorem Ns {x:Operand}{i:Nat}{vs:aI}{v:AV}(h:o.op = .extract x i)(d:ev x = .gI vs)(e:vs[i]? = some v):fO X cf o ev H v H:=.quiet λS E bM j c=>by
 rw[h]at c;have a:=c x (by simp[Op.operands]);rw[d]at a;generalize hA:bM x=A at a;cases a with
 |gI _ m f g =>
  obtain⟨y,hy,b⟩:=LV.get (S:=S) ⟨f,g⟩ e;refine⟨y,λcall=>?_,b⟩;unfold kD;rw[h];show Ev.tD (bM x) i E=_;rw[hA];simp only[Ev.tD,hy];rfl
theorem KM {f:FuncId}{first captured:Array Operand}(h:o.op = .makeFunc (.func f) first captured):fO X cf o ev H (.fn f (first.toList.map ev) (captured.toList.map ev)) H:=.quiet λS E bM i a=>by
 rw[h]at a;refine⟨.func (.func f) (first.map bM) (captured.map bM),λcall=>by unfold kD;rw[h],?_⟩;have e:first.map bM=(first.toList.map bM).toArray:=by apply l8.1;rw[Array.toList_map]
 have e2:captured.map bM=(captured.toList.map bM).toArray:=by apply l8.1;rw[Array.toList_map]
 rw[e,e2];have c:=LV.map (S:=S) (f:=ev) (g:=bM) first.toList λx b=>a x (by show x∈first++captured;rw[Array.mem_append];exact .inl (by simpa using b))
 have d:=LV.map (S:=S) (f:=ev) (g:=bM) captured.toList λx b=>a x (by show x∈first++captured;rw[Array.mem_append];exact .inr (by simpa using b))
 exact .fn f _ _ _ _ c.1 d.1 c.2 d.2
theorem acN {c:Call}{x y:Operand}{a b:Int}{h kb:IntKind}(d:o.op = .call c)(g:c.callee = .builtin .max)(i:c.args = #[x,y])(l:ev x = .int h a)(hy:ev y = .int kb b) :
 fO X cf o ev H (.int h (ah (Ev.bN a b) b a)) H:=.quiet λS E bM n j=>by
 rw[d]at j;have e:=j x (by simp[Op.operands,Call.operands,g,i]);have f:=j y (by simp[Op.operands,Call.operands,g,i]);rw[l]at e;rw[hy]at f;generalize hA:bM x=A at e;generalize k:bM y=B at f;cases e;cases f;refine⟨.int h (ah (Ev.bN a b) b a),λcall=>?_,.int _ _⟩;unfold kD;rw[d];show Ev.fu X.P call bM o c E=_;unfold Ev.fu;rw[g];show dh E (iX X.P bM o)=_;have m:iX X.P bM o=some (.int h (ah (Ev.bN a b) b a)):=by
  refine x6 (λcs b=>by rw[d];simp) ?_ ?_ rfl
  .unfold Ev.dU;rw[d];simp[Op.operands,Call.operands,g,i,hA,k,br]
  rw[ay,Ev.dc];simp[execOp,d,resolve,invoke,builtin,g,i,hA,k,Builtin.max_,Builtin.max2];rfl
 rw[m];rfl
theorem acO {c:Call}{x:Operand}{t te:TypeId}{id off len cap:Nat}{n:TypeId}{e:Ty}{l:List e.den}{iL:Nat}{p:Bool}(d:o.op = .call c)(f:c.callee = .builtin .cap)(i:c.args[0]? = some x)(q:c.argTypes[0]? = some t)(s:X.P.underlying t=some (.slice te))(u:ev x = .tc id off len cap)(v:H.get id=some (.list n e l iL true p)) :
 fO X cf o ev H (.int .i64 cap) H:=.quiet λS E bM w j=>by
 rw[d]at j;have a:=j x (by
  have:=bq i;simp only[Op.operands,Call.operands,f];simpa using this)
 rw[u]at a;obtain⟨g1,⟨g0,g,F,y⟩,z⟩:=w.row id _ v;generalize hA:bM x=A at a;cases a with
 |tc _ _ _ _ G c0 I hρ J B C K =>
  rcases z with⟨_,k,_⟩|⟨L,m,b,mid,post,q1,q2,q3,M,N,O,Q,R,D,T⟩
  .rw[hρ]at k;cases k
  rw[hρ]at q1;cases q1;refine⟨goInt cap,λcall=>?_,.int _ _⟩;unfold kD;rw[d];show Ev.fu X.P call bM o c E=_;unfold Ev.fu;rw[f];show Ev.vq X.P bM c.args c.argTypes E=_;unfold Ev.vq;rw[i,q];show dh E (Ev.DY X.P E t (bM x))=_;rw[hA];simp only[Ev.DY,s,q2,(D rfl).1];rfl
theorem Nt {c:Call}{x:Operand}{t te:TypeId}{id n:Nat}{w:TypeId}{e:Ty}{l:List e.den}{iL:Nat}{y:Bool}(a:o.op = .call c)(i:c.callee = .builtin .cap)(j:c.args[0]? = some x)(m:c.argTypes[0]? = some t)(p:X.P.underlying t=some (.slice te))(z:ev x = .own id n)(B:H.get id=some (.list w e l iL true y)) :
 fO X cf o ev H (.int .i64 n) H:=.quiet λS E bM C q=>by
 rw[a]at q;have d:=q x (by
  have:=bq j;simp only[Op.operands,Call.operands,i];simpa using this)
 rw[z]at d;obtain⟨g1,⟨g0,g,D,F⟩,G⟩:=C.row id _ B;generalize hA:bM x=A at d;cases d with
 |own _ _ K c0 L hρ I f J =>
  rcases G with⟨_,s,_⟩|⟨M,u,b,mid,post,q1,q2,q3,N,O,Q,R,T,v,U⟩
  .rw[hρ]at s;cases s
  rw[hρ]at q1;cases q1;rw[D]at f;cases f;have k:c0=n:=by have:=(v rfl).2.2;omega
  subst k;refine⟨goInt c0,λcall=>?_,.int _ _⟩;unfold kD;rw[a];show Ev.fu X.P call bM o c E=_;unfold Ev.fu;rw[i];show Ev.vq X.P bM c.args c.argTypes E=_;unfold Ev.vq;rw[j,m];show dh E (Ev.DY X.P E t (bM x))=_;rw[hA];simp only[Ev.DY,p,q2,(v rfl).1];rfl
 |iw _ I f J =>
  refine⟨goInt 0,λcall=>?_,.int _ _⟩;unfold kD;rw[a];show Ev.fu X.P call bM o c E=_;unfold Ev.fu;rw[i];show Ev.vq X.P bM c.args c.argTypes E=_;unfold Ev.vq;rw[j,m];show dh E (Ev.DY X.P E t (bM x))=_;rw[hA];simp only[Ev.DY,p];rfl
theorem Nu {c:Call}{x:Operand}{t te:TypeId}(b:o.op = .call c)(d:c.callee = .builtin .cap)(e:c.args[0]? = some x)(g:c.argTypes[0]? = some t)(h:X.P.underlying t=some (.slice te))(i:ev x = .eB) :
 fO X cf o ev H (.int .i64 0) H:=.quiet λS E bM j f=>by
 rw[b]at f;have a:=f x (by
  have:=bq e;simp only[Op.operands,Call.operands,d];simpa using this)
 rw[i]at a;generalize hA:bM x=A at a;cases a with
 |eB =>
  refine⟨goInt 0,λcall=>?_,.int _ _⟩;unfold kD;rw[b];show Ev.fu X.P call bM o c E=_;unfold Ev.fu;rw[d];show Ev.vq X.P bM c.args c.argTypes E=_;unfold Ev.vq;rw[e,g];show dh E (Ev.DY X.P E t (bM x))=_;rw[hA];simp only[Ev.DY,h];rfl
theorem XN {c:Call}{i:Operand}{id:FuncId}{a b:aI}{fn:Func}{u:Code}{v:AV}{q:aH}(e:o.op = .call c)(j:c.callee = .value i)(w:ev i = .fn id a b)(k:X.P.funcs[id]? = some fn)(d:fn.body=some u)(h:KL X cf id (a++(c.args.toList.map ev++b)) H v q):FM X cf o ev H v q:=by
 intro S E bM y z l;rw[e]at l;have m:=l i (by simp[Op.operands,Call.operands,j]);rw[w]at m;have B:=LV.map (S:=S) (f:=ev) (g:=bM) c.args.toList λx C=>l x (by simp[Op.operands,Call.operands,j];exact .inr (by simpa using C))
 generalize hA:bM i=A at m;cases m with
 |fn _ _ _ p s D F G I =>
  obtain⟨S',t,E',⟨N,J⟩,k2,K,L,M⟩:=h S E (p++(c.args.toList.map bM++s)) y z ((show LV S a p from ⟨D,G⟩).append (B.append ⟨F,I⟩));refine⟨S',t,E',⟨N,λn O=>?_⟩,k2,K,L,M⟩;unfold kD;rw[e];show Ev.fu X.P (cf n) bM o c E=_;unfold Ev.fu;rw[j];simp only[hA];have:Ev.rH X.P (cf n) (.func (.func id) p.toArray s.toArray) (c.args.toList.map bM) E=some (t,E'):=by
   simp only[Ev.rH,k,d,Option.isSome_some];exact J n O
  rw[this]
theorem KO {P:Program}{id:FuncId}(h:uL P id=true):∃fn a,P.funcs[id]? = some fn/\fn.body=some a:=by
 unfold uL at h;split at h
 .rename_i fn b;obtain⟨a,c⟩:=cw.1 h;exact⟨fn,a,b,c⟩
 cases h
theorem XO {S:Wo}{a:AV}{v x:Value}(h:toV a=some v)(b:VR S a x):x=v/\br v=true:=by
 unfold toV at h;split at h
 .cases h;exact⟨b.gW,rfl⟩
 .cases h;exact⟨b.nO,rfl⟩
 .cases h;exact⟨b.kH,rfl⟩
 .cases h;cases b;exact⟨rfl,rfl⟩
 .cases h;cases b with
  |fn _ _ _ c d e f i j =>
   have:c=[]:=aS.1 e.symm;subst this;have:d=[]:=aS.1 f.symm;subst this;exact⟨rfl,rfl⟩
 .rw[ay]at h;split at h
  .rename_i g;cases h;cases b;exact⟨rfl,g⟩
  cases h
 cases h
theorem KQ {S:Wo}{v:Value}(h:br v=true):VR S (ofR v) v:=by
 unfold ofR;split
 .rename_i cs;have a:∀v∈cs.toList,br v=true:=by
   have h:Ev.nU cs=true:=h;obtain⟨l⟩:=cs;exact CL h
  have e:Value.tuple cs = .tuple (cs.toList).toArray:=by simp
  rw[e];have:=LV.map (S:=S) (f:=Qs) (g:=λv=>v) cs.toList λv b=>Ar (a v b)
  rw[List.map_id'']at this
  .exact .gI _ _ this.1 this.2
  intro x;rfl
 rename_i c;unfold ofV;split
 .rename_i cs;have a:=Au h;have e:Value.agg cs = .agg (cs.toList).toArray:=by simp
  rw[e];have:=LV.map (S:=S) (f:=Qs) (g:=λv=>v) cs.toList λv b=>Ar (a v (by simpa[Value.cells] using b))
  rw[List.map_id'']at this
  .exact .agg _ _ this.1 this.2
  intro x;rfl
 exact Ar h
theorem DG {c:Call}{a:Operand}{id:FuncId}{bM:Operand->Value}{f g:aW}(d:o.op = .call c)(h:c.callee = .value a)(hA:bM a = .func (.func id) f.toArray g.toArray)(b:uL X.P id=false)(call:Ev.dx)(E:Mem) :
 kD X.P call bM o E=Ev.EV X.P bM o (bM a) (c.args.toList.map bM) E:=by
 unfold kD;rw[d];show Ev.fu X.P call bM o c E=_;unfold Ev.fu;rw[h];have:Ev.rH X.P call (bM a) (c.args.toList.map bM) E=none:=by
  rw[hA];unfold uL at b;simp only[Ev.rH];cases e:X.P.funcs[id]? with
  |none=>rfl
  |some fn =>
   rw[e]at b;simp only at b;simp only[b]
 simp only[this]
theorem BJ (c:∀cs b,o.op ≠ .select cs b){k:AV->Option β}(h:D3 X ev o k=some r):∃v,k (ofR v)=some r/\br v=true/\∀(S:Wo) (bM:Operand->Value),(∀x∈o.op.operands,VR S (ev x) (bM x))->iX X.P bM o=some v:=by
 unfold D3 at h;rw[ay]at h;split at h;case isFalse=>cases h
 rename_i e;split at h;case h_2=>cases h
 rename_i v g;rw[ay]at h;split at h;case isFalse=>cases h
 rename_i a;refine⟨v,h,a,λS bM i=>?_⟩;have heq:∀x∈o.op.operands,bM x=SD (toV (ev x))/\br (bM x)=true:=λx d=>by
  have j:=aN.1 e x (by simpa using d);obtain⟨y,hy⟩:=cw.1 j;obtain⟨f,e2⟩:=XO hy (i x d);rw[hy];exact⟨f,by rw[f];exact e2⟩
 refine x6 c ?_ ?_ a
 .unfold Ev.dU;exact aN.2 λx d=>(heq x (by simpa using d)).2
 rw[execOp_congr o c (λx d=>(heq x d).1)];exact g
theorem acP {op:BinOp}{t j:TypeId}{x y:Operand}(a:o.op = .binOp op t x y j)(f:anr (ev x)=true){k:AV->Option β}(h:D3 X ev o k=some r):∃v,k v=some r/\fO X cf o ev H v H:=by
 obtain⟨v,g,c,e⟩:=BJ (λcs b=>by rw[a];simp) h;refine⟨_,g,.quiet λS E bM p i=>⟨v,λcall=>?_,KQ c⟩⟩;have l:=e S bM i;have d:=i x (by rw[a];simp[Op.operands]);unfold kD;rw[a];show Ev.xB X.P bM o op t (bM x) (bM y) E=_;cases hA:ev x with
 |rL n =>
  rw[hA]at d;generalize bM x=z at d;cases d;unfold Ev.xB;rw[l];have m:Ev.ET op (.float .f64 n) (bM y)=none:=by cases bM y<;>rfl
  have e2:Ev.vp X.P op t (.float .f64 n) (bM y)=none:=by
   unfold Ev.vp;split<;>first|rfl|(rename_i g e q;cases e)|rfl
  rw[m,e2];rfl
 |_=>rw[hA]at f;cases f
theorem U1 {s d:TypeId}{x:Operand}(c:o.op = .convert s d x)(e:ahZ X.P d=true){k:AV->Option β}(h:D3 X ev o k=some r):∃v,k v=some r/\fO X cf o ev H v H:=by
 obtain⟨v,f,a,g⟩:=BJ (λcs b=>by rw[c];simp) h;refine⟨_,f,.quiet λS E bM n i=>⟨v,λcall=>?_,KQ a⟩⟩;have j:=g S bM i;unfold kD;rw[c];show Ev.mC X.P bM o s d (bM x) E=_;unfold Ev.mC;have l:Ev.pL X.P d (bM x)=none:=by
  unfold ahZ at e;unfold Ev.pL;split at e
  .rename_i q m;rw[m]
  cases e
 rw[l,j];cases X.P.underlying s<;>rfl
theorem FN {c:Call}{b:Builtin}(d:o.op = .call c)(e:c.callee = .builtin b)(f:b = .complex\/b = .real\/b = .imag){k:AV->Option β}(h:D3 X ev o k=some r):∃v,k v=some r/\fO X cf o ev H v H:=by
 obtain⟨v,g,a,i⟩:=BJ (λcs b=>by rw[d];simp) h;refine⟨_,g,.quiet λS E bM m j=>⟨v,λcall=>?_,KQ a⟩⟩;have l:=i S bM j;unfold kD;rw[d];show Ev.fu X.P call bM o c E=_;unfold Ev.fu;rw[e];rcases f with rfl|rfl|rfl;all_goals
  show dh E (iX X.P bM o)=_;rw[l];rfl
theorem acQ {c:Call}{g:Operand}{id:FuncId}{a b:aI}(d:o.op = .call c)(m:c.callee = .value g)(q:ev g = .fn id a b)(s:uL X.P id=false)(e:Kt X.P id=false){k:AV->Option β}(h:D3 X ev o k=some r):∃v,k v=some r/\fO X cf o ev H v H:=by
 obtain⟨v,t,f,u⟩:=BJ (λcs b=>by rw[d];simp) h;refine⟨_,t,.quiet λS E bM y n=>⟨v,λcall=>?_,KQ f⟩⟩;have p:=u S bM n;have j:=n g (by rw[d];simp[Op.operands,Call.operands,m]);rw[q]at j;generalize hA:bM g=A at j;cases j with
 |fn _ _ _ z B C w D F =>
  rw[DG d m hA s];have l:Ev.xD X.P (bM g)=false:=by
   rw[hA];unfold Ev.xD;split
   .rename_i x i;cases i;exact e
   rfl
  unfold Ev.EV;split
  .rw[l,p];rfl
  rw[p];rfl
theorem U2 {c:Call}{d x:Operand}{id:FuncId}(a:o.op = .call c)(f:c.callee = .value d)(k:ev d = .fn id [] [])(l:uL X.P id=false)(b:Kt X.P id=true)(i:c.args.toList=[x]):fO X cf o ev H (ev x) H:=.quiet λS E bM s j=>by
 have g:=j d (by rw[a];simp[Op.operands,Call.operands,f]);have m:=j x (by rw[a];simp[Op.operands,Call.operands,f];exact .inr (by rw[<-gk,i];simp));refine⟨bM x,λcall=>?_,m⟩;rw[k]at g;generalize hA:bM d=A at g;cases g with
 |fn _ _ _ n p q h t u =>
  have:n=[]:=aS.1 q.symm;subst this;have:p=[]:=aS.1 h.symm;subst this;rw[DG a f hA l,i];have e:Ev.xD X.P (bM d)=true:=by rw[hA];exact b
  simp only[dH,qf,Ev.EV,e]
theorem Aw {P:Program}{t:TypeId}{d:TypeDesc}{z:Value}(h:DD P t=some (d,z)):∃a e,P.underlying t=some (.map a e)/\P.underlying a=some d/\Ev.nI P e=some z/\Ev.uH d=true/\Ev.br z=true:=by
 unfold DD at h;split at h
 .rename_i a e c;split at h
  .rename_i i j f g;rw[ay]at h;split at h
   .rename_i b;rw[ak,ak]at b;cases h;exact⟨a,e,c,f,g,b.1,b.2.1⟩
   cases h
  cases h
 cases h
theorem KR {t:TypeId}(a:o.op = .makeMap t none)(f:(DD X.P t).isSome=true):fO X cf o ev H (.zN H.next) (H.push (.mf t [])):=by
 intro S E bM h n;obtain⟨⟨d,z⟩,j⟩:=cw.1 f;obtain⟨p,e,k,_⟩:=Aw j;obtain⟨E',c⟩:=Mem.nu E ⟨[],t,false,true⟩;obtain⟨q1,q2,q3⟩:=Mem.eG c;obtain⟨l,k2,m⟩:=h.add (r:=.mf t []) (x:=some (E.size,0,0)) (g:=none) (by omega) q2 (λi hi=>by rw[q3,aa (by omega)]) (λr' b=>by
  cases b;exact⟨E.size,0,0,⟨[],t,false,true⟩,ag rfl,by rw[q3,ag rfl],rfl,rfl,rfl⟩) (λy hy=>by cases hy;exact aG _) rfl
 refine⟨_,.map (some E.size),E',⟨0,λ_ _=>?_⟩,l,.zN _ E.size 0 0 (ag rfl),k2,m⟩;unfold kD;rw[a];show Ev.oW X.P t none E=_;unfold Ev.oW;rw[k];simp only[c]
theorem Ay {S:Wo}{d:TypeDesc}{a b:AV}{x y:Value}{r:Bool}(h:IC d a b=some r)(e:VR S a x)(f:VR S b y):Ev.Mh d x y=some r:=by
 unfold IC at h;split at h
 .rename_i s q;have c:=e.kH;have hy:=f.kH;subst c;subst hy;cases h;show some (Ev.qj s.toArray.toList q.toArray.toList)=_;rw[Ev.ni]
 .have c:=e.gW;have hy:=f.gW;subst c;subst hy;exact h
 cases h
theorem Nv {S:Wo}{d:TypeDesc}{a:AV}{x:Value}(h:CG d a=true)(c:VR S a x):Ev.br x=true:=by
 unfold CG at h;split at h
 .have b:=c.kH;subst b;rfl
 .have b:=c.gW;subst b;rfl
 cases h
theorem IL {β:Type}{d:TypeDesc}{s:AV}{z:AV}{k:AV->Bool->Option β}{r:β}:∀{ks:List (AV×AV)},Xq d s z k ks=some r ->
 ∃v b,k v b=some r/\∀(S:Wo) (xs:Value) (cs:aW) (i:Nat),VR S s xs->MC S ks cs->(b=false/\v=z/\Ev.tR d xs cs i=some none)\/(b=true/\∃j x,Ev.tR d xs cs i=some (some (j,x))/\VR S v x)
 |[],h=>⟨z,false,h,λS xs cs i c a=>by
  have a:cs=[]:=a;subst a;exact .inl ⟨rfl,rfl,rfl⟩⟩
 |q::ks,h=>by
  unfold Xq at h;split at h;case h_2=>cases h
  rename_i b0 e;rw[ay]at h;split at h
  .rename_i f;subst f;refine⟨q.2,true,h,λS xs cs i c a=>?_⟩;obtain⟨y,x,r',rfl,g,l,m⟩:=a;refine .inr ⟨rfl,i,x,?_,l⟩;unfold Ev.tR;rw[Ay e c g]
  rename_i f;have f:b0=false:=by simpa using f
  subst f;obtain⟨v,b,n,l⟩:=IL h;refine⟨v,b,n,λS xs cs i c a=>?_⟩;obtain⟨y,x,r',rfl,g,m,p⟩:=a;have:=l S xs r' (i+1) c p;unfold Ev.tR;rw[Ay e c g];exact this
theorem U3 {t:TypeId}{x q:Operand}{ok:Bool}(a:o.op = .lookup t x q ok){id:Nat}(G:ev x = .zN id){l:TypeId}{ks:List (AV×AV)}(I:H.get id=some (.mf l ks)){d:TypeDesc}{z:Value}(m:DD X.P t=some (d,z)){k:AV->Option β}
 (h:ah (Nat.beq l t&&ok&&CG d (ev q)) (Xq d (ev q) (.BB z) (λv b=>k (.gI [v,.bool b])) ks) none=some r):∃v,k v=some r/\fO X cf o ev H v H:=by
 rw[ay]at h;split at h;case isFalse=>cases h
 rename_i s;rw[ak,ak,aQ]at s;obtain⟨⟨rfl,rfl⟩,u⟩:=s;obtain⟨Q,e,w,g,B,C,f⟩:=Aw m;obtain⟨v,b,J,K⟩:=IL h;refine⟨_,J,.quiet λS E bM L D=>?_⟩;have n:=D x (by rw[a];simp[Op.operands]);have e2:=D q (by rw[a];simp[Op.operands]);rw[G]at n;obtain⟨i,c,R,b0,r1,M,N,O,T⟩:=L.row id _ I;generalize hA:bM x=A at n;cases n with
 |zN _ U V W hρ =>
  rw[r1]at hρ;cases hρ;have F:Ev.mapOf E i=some b0:=by unfold Ev.mapOf;rw[M];simp only[N,Ev.ng]
  have go:∀(y:Value),Ev.wZ X.P E l (bM x) (bM q) true=some y->∀call,kD X.P call bM o E=some (y,E):=λy hy call=>by
   unfold kD;rw[a];show dh E (Ev.wZ X.P E l (bM x) (bM q) true)=_;rw[hy];rfl
  rcases K S (bM q) b0.cells 0 e2 O with⟨rfl,rfl,p⟩|⟨rfl,j,y,p,hy⟩
  .refine ⟨.tuple #[z,.bool false],go _ ?_,.gI _ [z,.bool false] rfl (LV.cons (.BB z f) (LV.cons (.bool _) LV.nil)).2⟩;unfold Ev.wZ;rw[w,hA];simp only[g,B,Ev.qV,F,p,C,Ev.ng]
  refine⟨.tuple #[y,.bool true],go _ ?_,.gI _ [y,.bool true] rfl (LV.cons hy (LV.cons (.bool _) LV.nil)).2⟩;unfold Ev.wZ;rw[w,hA];simp only[g,B,Ev.qV,F,p,C,Ev.ng]
theorem IM {S:Wo}{d:TypeDesc}{s:AV}{xs:Value}(b:VR S s xs):∀{ks:List (AV×AV)} {cs:aW} (i:Nat),(ks.all λp=>IC d s p.1==some false)=true->MC S ks cs->Ev.tR d xs cs i=some none
 |[],cs,i,_,h=>by
  have h:cs=[]:=h;subst h;rfl
 |q::ks,cs,i,a,⟨y,x,r,c,e,g,f⟩=>by
  subst c;simp only[ck,ak,fL]at a;unfold Ev.tR;rw[Ay a.1 b e];exact IM b (i+1) a.2 f
structure IP (X:ji)(o:Oper)(t:TypeId)(m q x:Operand):Prop where
 m1:m∈o.op.operands
 q1:q∈o.op.operands
 x1:x∈o.op.operands
 go:∀call bM E,kD X.P call bM o E=Ev.qW X.P t (bM m) (bM q) (bM x) E
theorem IP.upd {t:TypeId}{m q x:Operand}(a:o.op = .mapUpdate t m q x):IP X o t m q x :=
 ⟨by rw[a];simp[Op.operands],by rw[a];simp[Op.operands],by rw[a];simp[Op.operands],λcall bM E=>by unfold kD;rw[a]⟩
theorem IP.ins {t:TypeId}{m q x:Operand}(a:o.op = .insert t m q x):IP X o t m q x :=
 ⟨by rw[a];simp[Op.operands],by rw[a];simp[Op.operands],by rw[a];simp[Op.operands],λcall bM E=>by unfold kD;rw[a]⟩
theorem Nw {t:TypeId}{m q x:Operand}(a:IP X o t m q x){id:Nat}(R:ev m = .zN id){s:TypeId}{ks:List (AV×AV)}(u:H.get id=some (.mf s ks)){d:TypeDesc}{z:Value}(w:DD X.P t=some (d,z)){k:AV->aH->Option β}
 (h:ah (Nat.beq s t&&H.o7 id&&tX (ev x)&&CG d (ev q)&&ks.all λp=>IC d (ev q) p.1==some false) (k .lG (H.put id (.mf s (ks++[(ev q,ev x)])))) none=some r):∃v J,k v J=some r/\fO X cf o ev H v J:=by
 rw[ay]at h;split at h;case isFalse=>cases h
 rename_i K;rw[ak,ak,ak,ak,aQ]at K;obtain⟨⟨⟨⟨rfl,g⟩,_⟩,l⟩,n⟩:=K;obtain⟨kt,e,T,y,hz,U,_⟩:=Aw w;refine⟨_,_,h,λS E bM B C=>?_⟩;have D:=C m a.m1;have F:=C q a.q1;have V:=C x a.x1;rw[R]at D;obtain⟨i,c,W,b0,r1,L,M,N,Y⟩:=B.row id _ u;generalize hA:bM m=A at D;cases D with
 |zN _ i' c' s' hρ =>
  rw[r1]at hρ;cases hρ;have G:Ev.mapOf E i=some b0:=by unfold Ev.mapOf;rw[L];simp only[M,Ev.ng]
  have f:H.lk<=id:=by simpa[aH.o7,bF] using g
  have I:=B.lk id _ _ u f r1;obtain⟨E',O⟩:=Mem.j5 (b:={ b0 with cells:=b0.cells++[bM q,bM x] }) (Mem.fM L) I;obtain⟨z1,z2,Z,z4,Q⟩:=Mem.mE O;obtain⟨m1,m2⟩:=B.mod (S':=S) (E':=E') (r':=.mf s (ks++[(ev q,ev x)])) u rfl S.le_refl rfl (λ_ _ _=>rfl) Z z4 (λj hj=>by rw[Q,aa (hj _ r1)]) (λj cs h=>.inl h) (λq' hq=>by
   cases hq;exact⟨i,c,W,{ b0 with cells:=b0.cells++[bM q,bM x] },r1,by rw[Q,ag rfl],M,N.snoc F V,Y⟩)
  refine⟨S,undef,E',⟨0,λ_ _=>?_⟩,S.le_refl,.lG _,m1,m2⟩;rw[a.go];unfold Ev.qW;rw[T,hA];simp only[y,G,U,Nv l F,oV,Ev.ng,IM F 0 n N,O]
theorem CP {P:Program}{t:TypeId}(h:UG P t=true):∃a e,P.underlying t=some (.map a e)/\P.underlying a=some .string/\Ev.nI P e=some (.int .i64 0):=by
 unfold UG at h;split at h
 .rename_i a e b;split at h
  .rename_i c f d;exact⟨a,e,b,c,d⟩
  cases h
 cases h
theorem CQ (s:au)(n:Int):∀(ks:List (au×Int)) (i:Nat),
 (sN ks s=true/\∃j,Ev.tR .string (.string ⟨s.toArray⟩) (kz ks) i=some (some (i+j,.int .i64 (ju ks s)))/\(kz ks).set (2*j+1) (.int .i64 n)=kz (jv ks s n)) \/
 (sN ks s=false/\Ev.tR .string (.string ⟨s.toArray⟩) (kz ks) i=some none/\ju ks s=0/\kz ks++[.string ⟨s.toArray⟩,.int .i64 n]=kz (jv ks s n))
 |[],i=>.inr ⟨rfl,rfl,rfl,rfl⟩
 |(q,m)::ks,i=>by
  have d:Ev.Mh .string (.string ⟨s.toArray⟩) (.string ⟨q.toArray⟩)=some (decide (s=q)):=by
   show some (Ev.qj s.toArray.toList q.toArray.toList)=_;rw[Ev.ni]
  unfold sN ju jv kz Ev.tR;rw[d];by_cases h:s=q
  .subst h;left
   rw[bg rfl];refine⟨rfl,0,rfl,rfl⟩
  rw[aY h];rcases CQ s n ks (i+1) with⟨a,j,b,c⟩|⟨a,b,c,e⟩
  .left
   refine⟨a,j+1,?_,?_⟩
   .show Ev.tR .string _ (kz ks) (i+1)=_;rw[b,show i+1+j=i+(j+1) by omega]
   show (Value.string ⟨q.toArray⟩::Value.int .i64 m::kz ks).set (2*(j+1)+1) _=Value.string ⟨q.toArray⟩::Value.int .i64 m::kz (jv ks s n);rw[show 2*(j+1)+1=(2*j+1)+1+1 by omega,lA,lA,c]
  right
  refine⟨a,b,c,?_⟩;show Value.string ⟨q.toArray⟩::Value.int .i64 m::(kz ks++_)=Value.string ⟨q.toArray⟩::Value.int .i64 m::kz (jv ks s n);rw[e]
theorem Nx {t:TypeId}(a:o.op = .makeMap t none)(d:UG X.P t=true):fO X cf o ev H (.zN H.next) (H.push (.mp t [])):=by
 intro S E bM f l;obtain⟨m,e,h,_,_⟩:=CP d;obtain⟨E',c⟩:=Mem.nu E ⟨[],t,false,true⟩;obtain⟨q1,q2,q3⟩:=Mem.eG c;obtain⟨j,k2,k⟩:=f.add (r:=.mp t []) (x:=some (E.size,0,0)) (g:=none) (by omega) q2 (λi hi=>by rw[q3,aa (by omega)]) (λr' b=>by
  cases b;exact⟨E.size,0,0,⟨[],t,false,true⟩,ag rfl,by rw[q3,ag rfl],rfl,rfl,rfl⟩) (λy hy=>by cases hy;exact aG _) rfl
 refine⟨_,.map (some E.size),E',⟨0,λ_ _=>?_⟩,j,.zN _ E.size 0 0 (ag rfl),k2,k⟩;unfold kD;rw[a];show Ev.oW X.P t none E=_;unfold Ev.oW;rw[h];simp only[c]
theorem XP {t:TypeId}{x q:Operand}{ok:Bool}(a:o.op = .lookup t x q ok){k:AV->Option β}(h:Xr X H t (ev x) (ev q) ok k=some r):∃v,k v=some r/\fO X cf o ev H v H:=by
 unfold Xr at h;split at h;case h_2=>cases h
 rename_i id B;split at h;case h_3=>cases h
 case h_2 =>
  rename_i m ks n;split at h
  .rename_i d z p;exact U3 a B n p h
  cases h
 rename_i m ks n;split at h;case h_2=>cases h
 rename_i s D;rw[ay]at h;split at h;case isFalse=>cases h
 rename_i C;rw[ak,aQ]at C;obtain⟨F,rfl⟩:=C;obtain⟨O,e,G,u,I⟩:=CP F;have main:∀(S:Wo) (E:Mem) (bM:Operand->Value),Rel S H E->(∀x∈o.op.operands,VR S (ev x) (bM x))->∀call,kD X.P call bM o E=some (ah ok (.tuple #[.int .i64 (ju ks s),.bool (sN ks s)]) (.int .i64 (ju ks s)),E):=by
  intro S E bM g f call;have w:=f x (by rw[a];simp[Op.operands]);have l:=f q (by rw[a];simp[Op.operands]);rw[B]at w;rw[D]at l;have l:=l.kH;obtain⟨i,c,Q,b,r1,J,K,L,R⟩:=g.row id _ n;generalize hA:bM x=A at w;cases w with
  |zN _ T U V hρ =>
   rw[r1]at hρ;cases hρ;have M:Ev.mapOf E i=some b:=by unfold Ev.mapOf;rw[J];simp only[K,Ev.ng]
   unfold kD;rw[a];show dh E (Ev.wZ X.P E m (bM x) (bM q) ok)=_;have:Ev.wZ X.P E m (bM x) (bM q) ok=some (ah ok (.tuple #[.int .i64 (ju ks s),.bool (sN ks s)]) (.int .i64 (ju ks s))):=by
    unfold Ev.wZ;rw[G,hA,l];simp only[u,I,Ev.qV,M,L];rcases CQ s 0 ks 0 with⟨g1,j,y,_⟩|⟨g1,y,N,_⟩
    .rw[y,g1];rfl
    rw[y,g1,N];rfl
   rw[this];rfl
 cases ok with
 |true=>exact⟨_,h,.quiet λS E bM g f=>⟨_,main S E bM g f,.gI _ [.int .i64 (ju ks s),.bool (sN ks s)] rfl (LV.cons (.int _ _) (LV.cons (.bool _) LV.nil)).2⟩⟩
 |false=>exact⟨_,h,.quiet λS E bM g f=>⟨_,main S E bM g f,.int _ _⟩⟩
theorem FO {t:TypeId}{m q x:Operand}(a:IP X o t m q x){k:AV->aH->Option β}(h:Es X H t (ev m) (ev q) (ev x) (λp=>k .lG p)=some r):∃v p,k v p=some r/\fO X cf o ev H v p:=by
 unfold Es at h;split at h;case h_2=>cases h
 rename_i id M;split at h;case h_3=>cases h
 case h_2 =>
  rename_i N ks g;split at h
  .rename_i d z y;exact Nw a M g y h
  cases h
 rename_i N ks g;split at h;case h_2=>cases h
 rename_i s n B T;rw[ay]at h;split at h;case isFalse=>cases h
 rename_i O;rw[ak,ak,aQ]at O;obtain⟨⟨U,rfl⟩,l⟩:=O;obtain⟨kt,e,V,C,hz⟩:=CP U;refine⟨_,_,h,λS E bM D F=>?_⟩;have G:=F m a.m1;have u:=F q a.q1;have w:=F x a.x1;rw[M]at G;rw[B]at u;rw[T]at w;have u:=u.kH;have w:=w.gW;obtain⟨i,c,W,b,r1,P,Q,Y,Z⟩:=D.row id _ g;generalize hA:bM m=A at G;cases G with
 |zN _ i' c' s' hρ =>
  rw[r1]at hρ;cases hρ;have I:Ev.mapOf E i=some b:=by unfold Ev.mapOf;rw[P];simp only[Q,Ev.ng]
  have f:H.lk<=id:=by simpa[aH.o7,bF] using l
  have J:=D.lk id _ _ g f r1;obtain⟨E',K⟩:=Mem.j5 (b:={ b with cells:=kz (jv ks s n) }) (Mem.fM P) J;obtain⟨z1,z2,z3,z4,R⟩:=Mem.mE K;obtain⟨m1,m2⟩:=D.mod (S':=S) (E':=E') (r':=.mp N (jv ks s n)) g rfl S.le_refl rfl (λ_ _ _=>rfl) z3 z4 (λj hj=>by rw[R,aa (hj _ r1)]) (λj cs h=>.inl h) (λq B=>by
   cases B;exact⟨i,c,W,{ b with cells:=kz (jv ks s n) },r1,by rw[R,ag rfl],Q,rfl,Z⟩)
  refine⟨S,undef,E',⟨0,λ_ _=>?_⟩,S.le_refl,.lG _,m1,m2⟩;rw[a.go];unfold Ev.qW;rw[V,hA,u,w];simp only[C,I,Y];show ah (Ev.uH .string&&Ev.br (.string ⟨s.toArray⟩)) _ none=_;rw[show (Ev.uH .string&&Ev.br (.string ⟨s.toArray⟩))=true from rfl,Ev.ng];rcases CQ s n ks 0 with⟨_,j,L,g3⟩|⟨_,L,_,g4⟩
  .rw[L];simp only[cj,g3,K]
  rw[L];simp only[g4,K]
theorem aic {call:dz β}(C:dO X cf call){tr:List Tmp}{k:AV->aH->Option β}(h:Ws X call tr ev o H k=some r):∃v u,k v u=some r/\FM X cf o ev H v u:=by
 have q1:∀{v:AV},(∃v,k v H=some r/\fO X cf o ev H v H)->∃v u,k v u=some r/\FM X cf o ev H v u:=λ⟨v,q,B⟩=>⟨v,H,q,B.kE⟩
 have q2:(∃v u,k v u=some r/\fO X cf o ev H v u)->∃v u,k v u=some r/\FM X cf o ev H v u:=λ⟨v,u,q,B⟩=>⟨v,u,q,B.kE⟩
 unfold Ws at h;split at h
 .rename_i x g;exact⟨_,_,h,(Nr (.inl g)).kE⟩
 .rename_i x g;exact⟨_,_,h,(Nr (.inr g)).kE⟩
 .rename_i c a b g;split at h
  .rename_i t j;refine⟨ah t (ev a) (ev b),H,?_,(XM g j).kE⟩;cases t<;>exact h
  cases h
 .rename_i g;rw[ay]at h;split at h
  .rename_i m;exact q1 (v:=.lG) (acP g m h)
  exact q1 (v:=.lG) (UP g h)
 .rename_i g;exact q1 (v:=.lG) (ah5 g h)
 .rename_i t g;rw[ay]at h;split at h
  .exact q2 (UY g h)
  split at h
  .rename_i z L;exact⟨_,_,h,(UX g L).kE⟩
  cases h
 .rename_i t x g;split at h
  .rename_i n cs M j;exact⟨_,_,h,(acL g M j).kE⟩
  cases h
 .rename_i g;exact q1 (v:=.lG) (UZ g h)
 .rename_i g;exact q2 (FL g h)
 .rename_i g;exact q1 (v:=.lG) (Xz g h)
 .rename_i g;exact q2 (UU g h)
 .rename_i x g;split at h
  .rename_i id off m;exact⟨_,_,h,(Eu g m (.inl ⟨_,_,rfl⟩)).kE⟩
  .rename_i id n m;exact⟨_,_,h,(Eu g m (.inr (.inl ⟨_,_,rfl⟩))).kE⟩
  .rename_i cs m;exact⟨_,_,h,(Eu g m (.inr (.inr (.inl ⟨_,rfl⟩)))).kE⟩
  .rename_i f a b m;exact⟨_,_,h,(Eu g m (.inr (.inr (.inr ⟨_,_,_,rfl⟩)))).kE⟩
  cases h
 .rename_i g;exact q1 (v:=.lG) (US g h)
 .rename_i g;exact q1 (v:=.lG) (acI g h)
 .rename_i x i g;split at h
  .rename_i vs m;split at h
   .rename_i v N;exact⟨_,_,h,(Ns g m N).kE⟩
   cases h
  cases h
 .rename_i g;exact q2 (XI g h)
 .rename_i g;exact⟨_,_,h,(KM g).kE⟩
 .rename_i t x lo hi g;split at h
  .rename_i d y _;rw[ay]at h;split at h
   .exact q2 (UW g h)
   exact q2 (CJ g h)
  exact q2 (CJ g h)
 .rename_i t x f g;split at h
  .rename_i T cs D m;split at h
   .rename_i U O;exact q1 (v:=.lG) (QC g D m O h)
   cases h
  cases h
 .rename_i g;exact q1 (v:=.lG) (UT g h)
 .rename_i g;rw[ay]at h;split at h
  .rename_i F;exact q1 (v:=.lG) (U1 g F h)
  exact q2 (XK g h)
 .rename_i c g;split at h
  .rename_i f j;split at h
   .rename_i id a b G;rw[ay]at h;split at h
    .rename_i E;obtain⟨fn,V,I,J⟩:=KO E;obtain⟨v,u,q,B⟩:=C _ _ _ _ _ h;exact⟨v,u,q,XN g j G I J B⟩
    rename_i E;have E:uL X.P id=false:=by simpa using E
    rw[ay]at h;split at h
    .rename_i w;split at h
     .rename_i x m;exact⟨_,_,h,(U2 g j G E w m).kE⟩
     cases h
    rename_i w;exact q1 (v:=.lG) (acQ g j G E (by simpa using w) h)
   cases h
  .rename_i j;split at h
   .rename_i x t A q;exact q1 (v:=.lG) (acJ g j A q h)
   cases h
  .rename_i j;split at h
   .rename_i s x st W A q B Q;exact q2 (QD g j A q B Q h)
   cases h
  .rename_i j;split at h
   .rename_i d x dt A q B;exact q2 (XG g j A q B h)
   cases h
  .rename_i j;split at h
   .rename_i x A;obtain⟨v,q,B⟩:=HW g j A h;exact⟨v,_,q,B.kE⟩
   cases h
  .rename_i j;split at h
   .rename_i p n Y it A q;exact q2 (XL g j A q h)
   cases h
  .rename_i j;split at h
   .rename_i x y A;split at h
    .rename_i Z a kb b m hy;exact⟨_,_,h,(acN g j (l8.1 A) m hy).kE⟩
    cases h
   cases h
  .rename_i j;split at h
   .rename_i x t A q;split at h
    .rename_i te id off len cap D m;split at h
     .rename_i R e l iL S K;exact⟨_,_,h,(acO g j A q D m K).kE⟩
     cases h
    .rename_i te id n D m;split at h
     .rename_i R e l iL S K;exact⟨_,_,h,(Nt g j A q D m K).kE⟩
     cases h
    .rename_i te D m;exact⟨_,_,h,(Nu g j A q D m).kE⟩
    cases h
   cases h
  .rename_i j;exact q1 (v:=.lG) (FN g j (.inl rfl) h)
  .rename_i j;exact q1 (v:=.lG) (FN g j (.inr (.inl rfl)) h)
  .rename_i j;exact q1 (v:=.lG) (FN g j (.inr (.inr rfl)) h)
  cases h
 .rename_i g;rw[ay]at h;split at h
  .rename_i F;exact⟨_,_,h,(Nx g F).kE⟩
  rw[ay]at h;split at h
  .rename_i F;exact⟨_,_,h,(KR g F).kE⟩
  cases h
 .rename_i g;exact q1 (v:=.lG) (XP g h)
 .rename_i g;exact q2 (FO (.upd g) h)
 .rename_i g;exact q2 (FO (.ins g) h)
 cases h
end
end Go.Tv
namespace Go.Tv
open Go.Ev (Tr ah jx Mem kV alive ay eA kD Fr)
structure nP (S:Wo)(f:gJ)(fE:Fr):Prop where
 n:f.n=fE.n
 v:∀i,VR S (f.get i) (fE.get i)
theorem nP.mono {S S':Wo}{f:gJ}{b:Fr}(h:nP S f b)(a:S.le S'):nP S' f b:=⟨h.n,λi=>(h.v i).mono a⟩
theorem gJ.KS (f:gJ)(d:Tmp)(v:AV):(f.put (some d) v).n=f.n/\∀i,(f.put (some d) v).get i=if i=d/\d<f.n then v else f.get i:=by
 have e:f.put (some d) v=ah (Nat.ble (Nat.succ d) f.n) (Option.rec (motive:=λ_=>gJ) f (λt=>⟨f.n,t⟩) (f.t.set d v)) f:=rfl;rw[e,ay,Ev.oG];simp only[aZ];by_cases a:d<f.n
 .rw[ag a];obtain⟨c,b⟩:=Tr.j5 v f.t d;rw[b];refine⟨rfl,λi=>?_⟩;show (Option.rec (motive:=λ_=>AV) .lG (λv=>v) (c.get i))=_;rw[Tr.yT b];by_cases hi:i=d
  .rw[ag hi,ag ⟨hi,a⟩]
  rw[aa hi,aa (λh=>hi h.1)];rfl
 rw[aa a];exact⟨rfl,λi=>by rw[aa (λh=>a h.2)]⟩
theorem Fr.qH (f:Fr)(dst:Option Tmp)(v:Value):∃a,f.put dst v=some a:=by
 cases dst with
 |none=>exact⟨f,rfl⟩
 |some d =>
  have e:f.put (some d) v=ah (Nat.ble (Nat.succ d) f.n) (Option.rec (motive:=λ_=>Option Fr) none (λt=>some ⟨f.n,t⟩) (f.t.set d v)) (some f):=rfl;rw[e,ay];split
  .obtain ⟨c,b⟩:=Tr.j5 v f.t d;rw[b];exact⟨_,rfl⟩
  exact⟨_,rfl⟩
theorem nP.put {S:Wo}{f:gJ}{c a:Fr}(h:nP S f c){dst:Option Tmp}{v:AV}{x:Value}(j:VR S v x)(k:c.put dst x=some a):nP S (f.put dst v) a:=by
 obtain⟨e,e2⟩:=Ev.Fr.iK k;cases dst with
 |none=>exact⟨h.n.trans e.symm,λi=>by rw[e2,aa (by simp)];exact h.v i⟩
 |some d =>
  obtain⟨g1,l⟩:=gJ.KS f d v;refine⟨by rw[g1,e,h.n],λi=>?_⟩;rw[l,e2];by_cases hi:i=d/\d<f.n
  .obtain ⟨rfl,g⟩:=hi;rw[ag ⟨rfl,g⟩,ag ⟨rfl,by rw[<-h.n];exact g⟩];exact j
  rw[aa hi,aa (λb=>hi ⟨by have:=b.1;simp at this;exact this.symm,by have:=b.1;simp at this;subst this;rw[h.n];exact b.2⟩)];exact h.v i
theorem nP.know {S:Wo}{f:gJ}{a:Fr}(h:nP S f a){d:Tmp}{v:AV}(b:VR S v (a.get d)):nP S (f.put (some d) v) a:=by
 obtain⟨g1,c⟩:=gJ.KS f d v;refine⟨by rw[g1,h.n],λi=>?_⟩;rw[c];by_cases hi:i=d/\d<f.n
 .obtain ⟨rfl,_⟩:=hi;rw[ag ⟨rfl,by assumption⟩];exact b
 rw[aa hi];exact h.v i
theorem aid {S:Wo}{v:Value}(h:Ev.br v=true):VR S (ofV v) v:=by
 unfold ofV;split
 .rename_i cs;have a:=Au h;have e:Value.agg cs = .agg (cs.toList).toArray:=by simp
  rw[e];have:=LV.map (S:=S) (f:=Qs) (g:=λv=>v) cs.toList λv b=>Ar (a v (by simpa[Value.cells] using b))
  rw[List.map_id'']at this
  .exact .agg _ _ this.1 this.2
  intro x;rfl
 exact Ar h
theorem sC {X:ji}{S:Wo}{f:gJ}{i:Fr}(h:nP S f i)(b:gi X S){x:Operand}(a:Ev.eU X.G x=true):VR S (f.eval X x) (i.eval x):=by
 cases x with
 |tmp t=>exact h.v t
 |const v=>exact aid a
 |global g =>
  have e:g<X.G:=by simpa[Ev.eU,Nat.blt_eq] using a
  show VR S (af6 (X.gv g)) _;have b:=b g e;revert b;generalize X.gv g=k;intro b;cases k with
  |nil=>exact .lG _
  |cons c l =>
   obtain⟨cs,m,d⟩:=b (by simp);have d:=d S λ_ _ h=>h
   exact .Ad (c::l) g [] cs [] (by simpa using m) d.1 d.2
 |func f=>exact .fn f [] [] [] [] rfl rfl (λj x y a=>by simp at a) (λj x y a=>by simp at a)
section
variable {X:ji} {cf:Nat×Nat->Ev.dx} {β:Type} {r:β}
def KU (X:ji)(run:Nat×Nat->Fr->Mem->Option (Fr×Mem))(f:gJ)(H:aH)(d:gJ)(b:aH):Prop :=
 ∀(S:Wo) (E:Mem) (c:Fr),Rel S H E->gi X S->nP S f c ->
  ∃S' a E',(∃N,∀n:Nat×Nat,N<=n.1/\N<=n.2->run n c E=some (a,E'))/\S.le S'/\nP S' d a/\Rel S' b E'/\St S H E S' b E'
theorem BK {call:dz β}(C:dO X cf call){tr:List Tmp}{ops:List Oper}{o:Oper}(J:∀x∈o.op.operands,Ev.eU X.G x=true){f:gJ}{H:aH}{k:gJ->aH->Option β}(h:stepT X call tr ops o f H k=some r) :
 ∃O i,k O i=some r/\KU X (λn a E=>Ev.jj X.P (cf n) ops o a E) f H O i:=by
 -- the operation is done
 have run:∀(z:gJ) (F:AV->aH->Option β),Ws X call tr (z.eval X) o H F=some r->∃v i,F v i=some r/\∀(S:Wo) (E:Mem) (a:Fr),Rel S H E->gi X S->nP S z a->Ev.oX o ops a=true ->
  ∃S' g E',(∃N,∀n:Nat×Nat,N<=n.1/\N<=n.2->Ev.jj X.P (cf n) ops o a E=some (g,E'))/\S.le S'/\nP S' (z.put o.dst v) g/\Rel S' i E'/\St S H E S' i E':=by
  intro z F q;obtain⟨v,i,R,e2⟩:=aic C q;refine⟨v,i,R,λS E a p s c K=>?_⟩;obtain⟨S',Q,E',⟨N,F⟩,k2,T,U,V⟩:=e2 S E a.eval p s λx L=>sC c s (J x L)
  obtain⟨g,I⟩:=Fr.qH a o.dst Q;refine⟨S',g,E',⟨N,λn W=>?_⟩,k2,(c.mono k2).put T I,U,V⟩;unfold Ev.jj;rw[K,F n W];show Ev.vt a o.dst (some (Q,E'))=_;simp only[Ev.vt,I]
 -- it is not
 have skip:∀(z:gJ) (S:Wo) (E:Mem) (a:Fr),Rel S H E->nP S z a->Ev.oX o ops a=false ->
  ∃S' g E',(∃N,∀n:Nat×Nat,N<=n.1/\N<=n.2->Ev.jj X.P (cf n) ops o a E=some (g,E'))/\S.le S'/\nP S' (z.put o.dst (.gI [])) g/\Rel S' H E'/\St S H E S' H E':=by
  intro z S E a p c K;obtain⟨g,I⟩:=Fr.qH a o.dst undef;refine⟨S,g,E,⟨0,λn _=>?_⟩,S.le_refl,c.put (.gI [] [] rfl λj x y L=>by simp at L) I,p,St.refl _ _ _⟩;unfold Ev.jj;rw[K];show Ev.vt a o.dst (some (undef,E))=_;simp only[Ev.vt,I]
 unfold stepT at h;split at h
 .rename_i u;obtain⟨v,i,q,A⟩:=run f _ h;exact⟨_,i,q,λS E a p s c=>A S E a p s c (by simp[Ev.oX,u])⟩
 rename_i j want u;split at h
 .rename_i d B;split at h
  .rename_i b Y;have M:∃t,ops[j]? = some t/\t.dst=some d:=by
    unfold Qz at B;split at B
    .rename_i t w;exact⟨t,w,B⟩
    cases B
   obtain⟨t,w,D⟩:=M;have e:∀S a,nP S f a->Ev.oX o ops a=ah b want (!want)/\a.get d = .bool b:=λS a c=>by
    have q:=c.v d;rw[Y]at q;have A:=q.nO;refine⟨?_,A⟩;unfold Ev.oX Ev.xG;simp only[u,w,D,A]
   have known:∀S a,nP S f a->nP S (f.put (some d) (.bool b)) a:=λS a c=>c.know (by rw[(e S a c).2];exact .bool b)
   cases b with
   |true =>
    cases want with
    |true =>
     have h:Ws X call tr ((f.put (some d) (.bool true)).eval X) o H (λv i=>k ((f.put (some d) (.bool true)).put o.dst v) i)=some r:=h;obtain⟨v,i,q,A⟩:=run _ _ h;exact⟨_,i,q,λS E a p s c=>A S E a p s (known S a c) (e S a c).1⟩
    |false=>exact⟨_,H,h,λS E a p s c=>skip _ S E a p (known S a c) (e S a c).1⟩
   |false =>
    cases want with
    |true=>exact⟨_,H,h,λS E a p s c=>skip _ S E a p (known S a c) (by rw[(e S a c).1];rfl)⟩
    |false =>
     have h:Ws X call tr ((f.put (some d) (.bool false)).eval X) o H (λv i=>k ((f.put (some d) (.bool false)).put o.dst v) i)=some r:=h;obtain⟨v,i,q,A⟩:=run _ _ h;exact⟨_,i,q,λS E a p s c=>A S E a p s (known S a c) (by rw[(e S a c).1];rfl)⟩
  .rename_i l Z;refine⟨_,H,h,λS E a p s c=>skip _ S E a p c ?_⟩;have w:∃t,ops[j]? = some t/\t.dst=some d:=by
    unfold Qz at B;split at B
    .rename_i t w;exact⟨t,w,B⟩
    cases B
   obtain⟨t,w,D⟩:=w;have q:=c.v d;rw[Z]at q;obtain⟨m,hm⟩:∃m,a.get d = .tuple m:=by
    generalize a.get d=x at q ⊢;cases q;exact⟨_,rfl⟩
   unfold Ev.oX Ev.xG;simp only[u,w,D,hm]
  cases h
 cases h
theorem XQ (a:cu):Ev.DZ (Ev.PU a)=some a:=by cases a<;>rfl
theorem XR (a b:cu):Ev.JY (Ev.cxV a b)=some (a,b):=by
 have code:Ev.JY (.chan (some (Ev.vr (Ev.EX a) (Ev.EX b)+2)))=some (a,b):=by
  show some (Ev.wo (Ev.w9 _ _).1,Ev.wo (Ev.w9 _ _).2)=_;rw[Ev.z8,Ev.Bi,Ev.Bi]
 cases a with
 |none=>exact code
 |some a=>cases b with
  |none=>exact code
  |some b=>rfl
theorem Ew {S:Wo}{a:AV}{q:cu}{x:Value}(h:toF a=some q)(b:VR S a x):Ev.DZ x=some q:=by
 unfold toF at h;split at h
 .cases h;cases b;rfl
 .cases h;cases b with|fl a v h=>rw[h];exact XQ _
 cases h
theorem SJ {S:Wo}{a:AV}{q:cu×cu}{x:Value}(h:PM a=some q)(c:VR S a x):Ev.JY x=some q:=by
 unfold PM at h;split at h
 .cases h;cases c;rfl
 .cases h;cases c with|cx a b v h=>rw[h];exact XR _ _
 cases h
theorem XS {S:Wo}{ev:Operand->AV}{bM:Operand->Value}{o:Oper}{v:AV}(h:ah0 X ev o=some v)(s:∀x∈o.op.operands,VR S (ev x) (bM x)):∃A,Ev.HO X.P bM o=some A/\VR S v A:=by
 unfold ah0 at h;rw[ay]at h;split at h;case isFalse=>cases h
 unfold Ev.HO;split at h
 .rename_i op t x y J c;rw[c];have d:=s x (by simp[c,Op.operands]);have hy:=s y (by simp[c,Op.operands]);unfold SE at h;split at h;case h_2=>cases h
  rename_i a b j k;simp only;unfold Ev.JX;rw[Ew j d,Ew k hy];simp only;split at h
  .cases h;exact⟨_,rfl,.fl _ _ rfl⟩
  .cases h;exact⟨_,rfl,.fl _ _ rfl⟩
  .cases h;exact⟨_,rfl,.fl _ _ rfl⟩
  .cases a<;>cases b<;>first|(cases h;done)|(cases h;exact⟨_,rfl,.bool true⟩)
  cases h
 .rename_i B c;obtain⟨callee,args,C⟩:=B;rw[c];have m:∀x∈args,VR S (ev x) (bM x):=λx d=>s x (by simp[c,Op.operands,Call.operands];exact .inr d)
  have one:∀{v:AV},args.toList.map ev=[v]->∃p,args = #[p]/\ev p=v:=λh=>by
   obtain⟨l⟩:=args
   match l,h with
   |[p],h=>exact⟨p,rfl,by simpa using h⟩
  have w:∀{v u:AV},args.toList.map ev=[v,u]->∃p q,args = #[p,q]/\ev p=v/\ev q=u:=λh=>by
   obtain⟨l⟩:=args
   match l,h with
   |[p,q],h=>exact⟨p,q,rfl,by simpa using h⟩
  simp only at h ⊢;split at h
  .rename_i x y e;obtain⟨p,q,rfl,rfl,rfl⟩:=w e;split at h
   .rename_i a b j k;cases h;refine⟨Ev.cxV a b,?_,.cx a b _ rfl⟩;simp only[dH,qf,Ew j (m p (by simp)),Ew k (m q (by simp))]
   cases h
  .rename_i x e;obtain⟨p,rfl,rfl⟩:=one e;split at h
   .rename_i q n;cases h;refine⟨Ev.PU q.1,?_,.fl _ _ rfl⟩;simp only[dH,qf,SJ n (m p (by simp))]
   cases h
  .rename_i x e;obtain⟨p,rfl,rfl⟩:=one e;split at h
   .rename_i q n;cases h;refine⟨Ev.PU q.2,?_,.fl _ _ rfl⟩;simp only[dH,qf,SJ n (m p (by simp))]
   cases h
  .rename_i f x e;obtain⟨p,rfl,D⟩:=one e;split at h
   .rename_i id E;rw[ay]at h;split at h
    .rename_i k;split at h
     .rename_i x;cases h;have d:=m p (by simp);rw[D]at d;have i:=s f (by simp[c,Op.operands,Call.operands]);rw[E]at i;generalize n:bM p=x at d;generalize F:bM f=g at i;obtain rfl:x = .chan (some 1):=by cases d with|fl a v h=>exact h
      cases i with
      |fn f a b G H j z K L =>
       obtain rfl:G=[]:=aS.1 (by simpa using j.symm);obtain rfl:H=[]:=aS.1 (by simpa using z.symm);refine⟨.chan none,?_,.lG _⟩;have I:[p].map bM=[.chan (some 1)]:=by simp[n,Ev.PU]
       show (match Callee.value f,[p].map bM with|_,_=>_)=_;simp only[I,F];rw[show (Ev.JZ X.P (.func (.func id) ([]:aW).toArray ([]:aW).toArray))=true from k]
     cases h
    cases h
   cases h
  cases h
 cases h
theorem XT {P:Program}{call:Ev.dx}{l:List Oper}{o:Oper}{f:Fr}{E:Mem}{r:Fr×Mem}(h:Ev.jj P call l o f E=some r):Ev.vu P call l o f E=some r:=by
 unfold Ev.vu;rw[h]
theorem U4 {P:Program}{call:Ev.dx}{l:List Oper}{o:Oper}{f c:Fr}{E:Mem}{v:Value}(d:Ev.oX o l f=true)(h:Ev.HO P f.eval o=some v)(e:f.put o.dst v=some c):Ev.vu P call l o f E=some (c,E):=by
 unfold Ev.vu;cases a:Ev.jj P call l o f E with
 |none =>
  rw[d,h];show Ev.vt f o.dst (some (v,E))=_;simp only[Ev.vt,e]
 |some r =>
  unfold Ev.jj at a;rw[d]at a;have a:Ev.vt f o.dst (kD P call f.eval o E)=some r:=a;cases b:kD P call f.eval o E with
  |none=>rw[b]at a;cases a
  |some q =>
   obtain⟨u,E'⟩:=q;obtain⟨rfl,rfl⟩:=Ev.ahx h b;rw[b]at a;simp only[Ev.vt,e]at a;exact a.symm
theorem U5 {call:dz β}(a:dO X cf call){tr:List Tmp}{ops:List Oper}{o:Oper}(c:∀x∈o.op.operands,Ev.eU X.G x=true){f:gJ}{H:aH}{k:gJ->aH->Option β}(h:Ku X call tr ops o f H k=some r) :
 ∃e g,k e g=some r/\KU X (λn d E=>Ev.vu X.P (cf n) ops o d E) f H e g:=by
 unfold Ku at h;split at h
 .rename_i v t j;refine⟨_,H,h,λS E d l m i=>?_⟩;obtain⟨u,p,q⟩:=XS t λx w=>sC i m (c x w)
  obtain⟨b,s⟩:=Fr.qH d o.dst u;exact⟨S,b,E,⟨0,λn _=>U4 (by simp[Ev.oX,j]) p s⟩,S.le_refl,i.put q s,l,St.refl _ _ _⟩
 obtain⟨e,g,p,q⟩:=BK a c h;refine⟨e,g,p,λS E d l m i=>?_⟩;obtain⟨S',b,E',⟨N,a1⟩,a2⟩:=q S E d l m i;exact⟨S',b,E',⟨N,λn y=>XT (a1 n y)⟩,a2⟩
def x8 (S:Wo)(b c:gS):Prop :=
 match b with
 |none=>True
 |some lT=>∃a,c=some a/\∀j∈a,(∃cs,S.F j=some cs)\/∃id∈lT,∃x,S.ρ id=some x/\x.1=j
theorem x8.mono {S S':Wo}{b d:gS}(h:x8 S b d)(a:S.le S'):x8 S' b d:=by
 cases b with
 |none=>trivial
 |some lT =>
  obtain⟨f,e,h⟩:=h;refine⟨f,e,λj g=>(h j g).imp (λ⟨cs,c⟩=>⟨cs,a.F _ _ c⟩) λ⟨id,c,x,i,k⟩=>⟨id,c,x,a.ρ _ _ i,k⟩⟩
theorem U6 {S:Wo}{q u:gS}(h:x8 S q u){ev:Operand->AV}{bM:Operand->Value}{o:Oper}(v:∀x∈o.op.operands,VR S (ev x) (bM x)):x8 S (Kv ev o q) (Ev.rI bM o u):=by
 unfold Kv;split
 .rename_i t x b;have d:=v x (by simp[b,Op.operands]);unfold Ev.rI;rw[b];split
  .rename_i l id off g;obtain⟨k,rfl,h⟩:=h;rw[g]at d;generalize hA:bM x=y at d;cases d with
   |ptr _ _ i c s hρ =>
    refine⟨i::k,by simp only[hA],λj a=>?_⟩;rcases bD.1 a with rfl|a
    .exact .inr ⟨id,by simp,_,hρ,rfl⟩
    exact(h j a).imp_right λ⟨f,m,n⟩=>⟨f,by simp[m],n⟩
  .rename_i l id A B iL w g;obtain⟨k,rfl,h⟩:=h;rw[g]at d;generalize hA:bM x=y at d;cases d with
   |Er _ _ _ _ _ i c e C D hρ _ _ _ =>
    refine⟨i::k,by simp only[hA],λj a=>?_⟩;rcases bD.1 a with rfl|a
    .exact .inr ⟨id,by simp,_,hρ,rfl⟩
    exact(h j a).imp_right λ⟨f,m,n⟩=>⟨f,by simp[m],n⟩
  .rename_i l cs g;obtain⟨k,rfl,h⟩:=h;rw[g]at d;generalize hA:bM x=y at d;cases d with
   |Ad _ i pre mid post z _ _ =>
    refine⟨i::k,by simp only[hA],λj a=>?_⟩;rcases bD.1 a with rfl|a
    .exact .inl ⟨_,z⟩
    exact h j a
  trivial
 rename_i p;unfold Ev.rI;split
 .rename_i t x b;exact absurd b (p t x)
 rw[ay,ay];split
 .trivial
 exact h
theorem IQ {S:Wo}{H:aH}{E:Mem}(w:Rel S H E){I y:gS}(h:x8 S I y){s:AV}{J:Value}(z:VR S s J)(f:CH H I s=true):Ev.ve y J=true:=by
 have own:∀{id:Nat} {l:cY} {i cap q off n c:Nat} {b:cY},y=some b->(∀j∈b,(∃cs,S.F j=some cs)\/∃id∈l,∃x,S.ρ id=some x/\x.1=j)->S.ρ id=some (i,cap,q) ->
  ((match H.get id with|some (.list _ _ _ _ _ false)=>true|_=>false)&&l.all λj => !Nat.beq j id&&(H.get j).isSome)=true->Ev.ve y (.slice (some ⟨i,off,none⟩) n c)=true:=by
  intro id l i cap q off n c b M K hρ L;simp only[ak]at L;obtain⟨u,A⟩:=L;split at u;case h_2=>cases u
  rename_i t e P iL ex d;subst M;show (b.all λj => !Nat.beq j i)=true;rw[aN];intro j B;have k:j≠i:=by
   intro e;subst e;rcases K j B with⟨cs,C⟩|⟨a,m,x,D,o⟩
   .have:=w.sep id _ _ d rfl hρ;rw[C]at this;cases this
   have:=aN.1 A a m;simp only[ak,aU]at this;obtain⟨v,G⟩:=this;obtain⟨r',p⟩:=cw.1 G;have:=w.inj a id _ _ _ _ p d D hρ o;subst this;rw[qg]at v;cases v
  rw[aU,<-fy,aQ];exact k
 unfold CH at f;split at f
 .cases z;rfl
 .rename_i id n l;obtain⟨b,e,h⟩:=h;cases z with
  |own _ _ i cap q hρ g d N=>exact own e h hρ f
  |iw _ g d N=>rfl
 .rename_i id off n c l;obtain⟨b,e,h⟩:=h;cases z with
  |tc _ _ _ _ i c q hρ g d O K=>exact own e h hρ f
 .rename_i id off l;obtain⟨b,e,h⟩:=h;cases z with
  |ptr _ _ i c q hρ =>
   simp only[ak]at f;obtain⟨u,A⟩:=f;split at u;case h_2=>cases u
   rename_i t cs d;subst e;show (b.all λj => !Nat.beq j i)=true;rw[aN];intro j B;have k:j≠i:=by
    intro e;subst e;rcases h j B with⟨cs,C⟩|⟨a,m,x,D,o⟩
    .have:=w.sep id _ _ d rfl hρ;rw[C]at this;cases this
    have:=aN.1 A a m;simp only[ak,aU]at this;obtain⟨v,G⟩:=this;obtain⟨r',p⟩:=cw.1 G;have:=w.inj a id _ _ _ _ p d D hρ o;subst this;rw[qg]at v;cases v
   rw[aU,<-fy,aQ];exact k
 cases f
theorem XU {call:dz β}(g:dO X cf call){tr:List Tmp}{ops:List Oper}{o:Oper}(v:∀x∈o.op.operands,Ev.eU X.G x=true){R:gS}{lk:Bool}{f:gJ}{H:aH}{k:gJ->aH->Option β}(h:Kw X call tr ops R lk o f H k=some r) :
 ∃d c,k d c=some r/\∀(S:Wo) (E:Mem) (b:Fr) (u:gS),Rel S H E->gi X S->nP S f b->x8 S R u ->
  ∃S' m E',(∃N,∀n:Nat×Nat,N<=n.1/\N<=n.2->Ev.sn X.P (cf n) ops u lk o b E=some (m,E'))/\S.le S'/\nP S' d m/\Rel S' c E'/\St S H E S' c E':=by
 unfold Kw at h;cases lk with
 |false =>
  obtain⟨d,c,B,C⟩:=BK g v h;exact⟨d,c,B,λS E b u i w y _=>C S E b i w y⟩
 |true =>
  cases J:Ev.mb o.op with
  |some s =>
   have h:(match Ev.mb o.op with
    |some s=>ah (CH H R (f.eval X s)) (stepT X call tr ops o f H k) none
    |none=>ah (sy H R (f.eval X) o) (stepT X call tr ops o f H k) (stepT X call tr ops o f { H with lk:=H.next } λd c=>k d { c with lk:=H.lk }))=some r:=h
   rw[J]at h;simp only[ay]at h;split at h
   .rename_i K;obtain⟨d,c,B,C⟩:=BK g v h;refine⟨d,c,B,λS E b u i w y W=>?_⟩;obtain⟨S',m,E',⟨N,L⟩,k2⟩:=C S E b i w y;refine⟨S',m,E',⟨N,λn O=>?_⟩,k2⟩;have Y:=IQ i W (sC y w (v s (Ev.Dv J))) K;show (match Ev.mb o.op with
     |some s=>ah (Ev.ve u (b.eval s)) (Ev.jj X.P (cf n) ops o b E) none
     |none=>ah (Ev.jt u b.eval o) (Ev.jj X.P (cf n) ops o b E)
      (match Ev.jj X.P (cf n) ops o b { E with lk:=E.size } with
       |some (d,c)=>some (d,{ c with lk:=E.lk })
       |none=>none))=_
    rw[J];simp only[Y];exact L n O
   cases h
  |none =>
   have h:(match Ev.mb o.op with
    |some s=>ah (CH H R (f.eval X s)) (stepT X call tr ops o f H k) none
    |none=>ah (sy H R (f.eval X) o) (stepT X call tr ops o f H k) (stepT X call tr ops o f { H with lk:=H.next } λd c=>k d { c with lk:=H.lk }))=some r:=h
   rw[J]at h;simp only[ay (sy H R (f.eval X) o)]at h;split at h
   .rename_i K;unfold sy at K;split at K;case h_2=>cases K
    rename_i s p;obtain⟨d,c,B,C⟩:=BK g v h;refine⟨d,c,B,λS E b u i w y W=>?_⟩;obtain⟨S',m,E',⟨N,L⟩,k2⟩:=C S E b i w y;refine⟨S',m,E',⟨N,λn O=>?_⟩,k2⟩;have Z:s∈o.op.operands:=by
     unfold Ev.nV at p;split at p
     .rename_i t a x hop;cases p;rw[hop];simp[Op.operands]
     cases p
    have Y:Ev.jt u b.eval o=true:=by
     unfold Ev.jt;rw[p];exact IQ i W (sC y w (v s Z)) K
    show (match Ev.mb o.op with
     |some s=>ah (Ev.ve u (b.eval s)) (Ev.jj X.P (cf n) ops o b E) none
     |none=>ah (Ev.jt u b.eval o) (Ev.jj X.P (cf n) ops o b E)
      (match Ev.jj X.P (cf n) ops o b { E with lk:=E.size } with
       |some (d,c)=>some (d,{ c with lk:=E.lk })
       |none=>none))=_
    rw[J];simp only[Y];exact L n O
   have h:stepT X call tr ops o f { H with lk:=H.next } (λd c=>k d { c with lk:=H.lk })=some r:=h;obtain⟨d,c,B,C⟩:=BK g v h;refine⟨d,{ c with lk:=H.lk },B,λS E b u i w y _=>?_⟩;have gH:∀(M:aH) n j,({ M with lk:=n }:aH).get j=M.get j:=λM n j=>rfl
   have gE:∀(M:Mem) n j,({ M with lk:=n }:Mem).get j=M.get j:=λM n j=>rfl
   have aE:∀(M:Mem) n j,alive ({ M with lk:=n }:Mem) j=alive M j:=λM n j=>rfl
   have Q:∀S (M:Mem) n id r,qD S ({ M with lk:=n }:Mem) id r↔qD S M id r:=λS M n id r=>by cases r<;>exact Iff.rfl
   have FP:Rel S { H with lk:=H.next } { E with lk:=E.size } :=
    ⟨i.fz,i.dom,i.D5,λid q z=>(Q _ _ _ _ _).2 (i.row id q z),i.inj,i.sep,λid q x z hl _=>absurd (aH.fM z) (by have hl':H.next<=id:=hl;show ¬id<H.next;omega),aG _,i.Nf,aG _⟩
   obtain⟨S',m,E',⟨N,L⟩,k2,k3,A,l⟩:=C S { E with lk:=E.size } b FP w y;refine⟨S',m,{ E' with lk:=E.lk },⟨N,λn O=>?_⟩,k2,k3,?_,?_⟩
   .show (match Ev.mb o.op with
     |some s=>ah (Ev.ve u (b.eval s)) (Ev.jj X.P (cf n) ops o b E) none
     |none=>ah (Ev.jt u b.eval o) (Ev.jj X.P (cf n) ops o b E)
      (match Ev.jj X.P (cf n) ops o b { E with lk:=E.size } with
       |some (d,c)=>some (d,{ c with lk:=E.lk })
       |none=>none))=_
    rw[J];have:=L n O;simp only at this ⊢;cases D:Ev.jt u b.eval o with
    |false=>rw[Ev.Mk,this]
    |true =>
     unfold Ev.jt at D;split at D
     .rename_i s p;obtain⟨w2,w3⟩:=Ev.W8 p this;subst w3;rw[Ev.ng,w2]
     cases D
   .refine ⟨A.fz,A.dom,A.D5,λid q z=>(Q _ _ _ _ _).2 (A.row id q z),A.inj,A.sep,λid q x z hl V=>?_,?_,?_,?_⟩
    .show E.lk<=x.1;by_cases T:id<H.next
     .have anG:H.get id≠none:=l.live id T (by
       have:c.get id=some q:=z;rw[this];simp)
      cases U:H.get id with
      |none=>exact absurd U anG
      |some q0 =>
       cases I:S.ρ id with
       |none =>
        rw[l.rn id T I]at V;cases V
       |some x0 =>
        have e:=k2.ρ id x0 I;rw[V]at e;have e:=bT e;subst e;exact i.lk id q0 x U hl I
     have:=A.lk id q x z (by rw[l.UH];show H.next<=id;omega) V;have h5:=l.lk;have:E.size<=x.1:=by rw[h5]at this;exact this
     have:=i.ID;omega
    .show H.lk<=c.next
     have:=l.nx;have:=i.A0;have:H.next<=c.next:=l.nx
     omega
    .exact A.Nf
    show E.lk<=E'.size;have:=l.sz;have:=i.ID;have:E.size<=E'.size:=l.sz;omega
   exact⟨l.sz,rfl,rfl,l.Ak,l.F,l.own,l.Mc,l.keep,l.par,l.nx,l.live,l.rn⟩
end
structure CS (S:Wo)(H:aH)(HE:Mem)(S':Wo)(H':aH)(HE':Mem):Prop where
 sz:HE.size<=HE'.size
 lk:HE'.lk=HE.lk
 UH:H'.lk=H.lk
 Ak:H'.par=H.par
 F:∀i x,S.F i=some x->S'.F i=some x
 own:∀i,Own S' H' i->i<HE.size->Own S H i
 Mc:∀i,S'.F i≠none->S.F i≠none\/Own S H i\/HE.size<=i
 keep:∀i,i<HE.size->¬Own S H i->HE'.get i=HE.get i
 par:∀id,id<H.par->S'.ρ id=S.ρ id
theorem St.PM {S S':Wo}{H a:aH}{E E':Mem}(h:St S H E S' a E'):CS S H E S' a E':=⟨h.sz,h.lk,h.UH,h.Ak,h.F,h.own,h.Mc,h.keep,h.par⟩
theorem CS.refl (S:Wo)(H:aH)(E:Mem):CS S H E S H E:=(St.refl S H E).PM
theorem CS.trans {S S1 S2:Wo}{H d e:aH}{E f g:Mem}(h:CS S H E S1 d f)(k:CS S1 d f S2 e g):CS S H E S2 e g:=by
 refine⟨bA h.sz k.sz,k.lk.trans h.lk,k.UH.trans h.UH,k.Ak.trans h.Ak,λi x j=>k.F i x (h.F i x j),λi c hi=>h.own i (k.own i c (cU hi h.sz)) hi,λi l=>?_,λi hi c=>?_,λid b=>(k.par id (by rw[h.Ak];exact b)).trans (h.par id b)⟩
 .rcases k.Mc i l with a|a|a
  .exact h.Mc i a
  .by_cases hi:i<E.size
   .exact .inr (.inl (h.own i a hi))
   exact .inr (.inr (by omega))
  exact .inr (.inr (bA h.sz a))
 exact(k.keep i (cU hi h.sz) λa=>c (h.own i a hi)).trans (h.keep i hi c)
def x9 {α:Type}(X:ji)(nf:Bool)(run:Nat×Nat->Fr->Mem->Option (α×Fr×Mem))(a:α)(f:gJ)(H:aH)(e:gJ)(c:aH):Prop :=
 ∀(S:Wo) (E:Mem) (d:Fr),Rel S H E->gi X S->nP S f d ->
  ∃S' b E',(∃N,∀n:Nat×Nat,N<=n.1/\N<=n.2->run n d E=some (a,b,E'))/\nP S' e b/\Rel S' c E'/\CS S H E S' c E'/\(nf=true->S.le S'/\St S H E S' c E')
theorem XV {P:Program}{ops:Array Oper}{l:List (Oper×Bool)}(h:Ev.plan P ops=some l):∀q∈l,q.1∈ops.toList:=by
 unfold Ev.plan Ev.PZ at h;rw[ay]at h;split at h
 .have c:=Ev.af1 (P:=P) (ops:=ops);have key:∀n L l,Ev.xb (Ev.u9 P ops ops.toList 0 []).reverse n L=some l->∀q∈l,q.1∈ops.toList:=by
   intro n;have mem:∀p∈(Ev.u9 P ops ops.toList 0 []).reverse,p.o∈ops.toList:=λp d=>by
    have:=bq (c.each p d).o;simpa using this
   induction n with
   |zero =>
    intro L l h;unfold Ev.xb at h;split at h
    .cases h;simp
    cases h
   |succ n g =>
    intro L l h;unfold Ev.xb at h;split at h
    .rename_i p d;have e:=j8 d;rw[ay]at h;split at h
     .split at h
      .rename_i i a;cases h;intro q b;rcases bD.1 b with rfl|b
       .exact mem p e
       exact g _ _ a q b
      cases h
     cases h
    split at h
    .cases h;simp
    rename_i j k d;split at h;case h_2=>cases h
    rename_i p m f;have e:p∈(Ev.u9 P ops ops.toList 0 []).reverse:=by
     have:=(Ev.wC f).1;rw[<-d]at this;exact(dF.1 this).1
    rw[ay]at h;split at h;case isFalse=>cases h
    split at h
    .rename_i i a;cases h;intro q b;rcases bD.1 b with rfl|b
     .exact mem p e
     exact g _ _ a q b
    cases h
  exact key _ _ _ h
 cases h
section
variable {X:ji} {cf:Nat×Nat->Ev.dx} {β:Type} {r:β}
theorem XW {call:dz β}(a:dO X cf call){tr:List Tmp}{ops:List Oper}:∀(l:List (Oper×Bool)),(∀q∈l,∀x∈q.1.op.operands,Ev.eU X.G x=true)->∀{R:gS} {f:gJ} {H:aH} {k:gJ->aH->Option β},acF X call tr ops l k R f H=some r ->
 ∃o j,k o j=some r/\∀(S:Wo) (E:Mem) (b:Fr) (c:gS),Rel S H E->gi X S->nP S f b->x8 S R c ->
  ∃S' e E',(∃N,∀n:Nat×Nat,N<=n.1/\N<=n.2->Ev.zH X.P (cf n) ops l c b E=some (e,E'))/\S.le S'/\nP S' o e/\Rel S' j E'/\St S H E S' j E'
 |[],_,R,f,H,k,h=>⟨f,H,h,λS E b c m g i _=>⟨S,b,E,⟨0,λ_ _=>rfl⟩,S.le_refl,i,m,St.refl _ _ _⟩⟩
 |q::l,d,R,f,H,k,h=>by
  have h:Kw X call tr ops R q.2 q.1 f H (acF X call tr ops l k (Kv (f.eval X) q.1 R))=some r:=h;obtain⟨L,M,s,t⟩:=XU a (d q (by simp)) h;obtain⟨u,v,w,y⟩:=XW a l (λq z=>d q (by simp[z])) s;refine⟨u,v,w,λS E b c m g i p=>?_⟩;obtain⟨S1,A,B,⟨N1,a1⟩,a2,C,D,F⟩:=t S E b c m g i p;obtain⟨S2,I,J,⟨N2,b1⟩,b2,b3,b4,b5⟩:=y S1 B A (Ev.rI b.eval q.1 c) D (g.mono a2) C ((U6 p λx K=>sC i g (d q (by simp) x K)).mono a2);refine⟨S2,I,J,⟨max N1 N2,λn O=>?_⟩,Wo.le_trans a2 b2,b3,b4,F.trans b5⟩
  have c1:=a1 n ⟨by omega,by omega⟩;have c2:=b1 n ⟨by omega,by omega⟩;show Option.rec (motive:=λ_=>Option (Fr×Mem)) none (λr=>Ev.zH X.P (cf n) ops l (Ev.rI b.eval q.1 c) r.1 r.2) (Ev.sn X.P (cf n) ops c q.2 q.1 b E)=_;rw[c1];exact c2
theorem SK {call:dz β}(a:dO X cf call){tr:List Tmp}{ops:List Oper}:∀(l:List Oper),(∀o∈l,∀x∈o.op.operands,Ev.eU X.G x=true)->∀{f:gJ} {H:aH} {k:gJ->aH->Option β},ah1 X call tr ops l k f H=some r ->
 ∃i j,k i j=some r/\KU X (λn b E=>Ev.Mi X.P (cf n) ops l b E) f H i j
 |[],_,f,H,k,h=>⟨f,H,h,λS E b d e g=>⟨S,b,E,⟨0,λ_ _=>rfl⟩,S.le_refl,g,d,St.refl _ _ _⟩⟩
 |o::l,c,f,H,k,h=>by
  have h:Ku X call tr ops o f H (ah1 X call tr ops l k)=some r:=h;obtain⟨I,J,s,t⟩:=U5 a (c o (by simp)) h;obtain⟨u,v,w,y⟩:=SK a l (λq z=>c q (by simp[z])) s;refine⟨u,v,w,λS E b d e g=>?_⟩;obtain⟨S1,m,p,⟨N1,a1⟩,a2,A,B,C⟩:=t S E b d e g;obtain⟨S2,D,F,⟨N2,b1⟩,b2,b3,b4,b5⟩:=y S1 p m B (e.mono a2) A;refine⟨S2,D,F,⟨max N1 N2,λn K=>?_⟩,Wo.le_trans a2 b2,b3,b4,C.trans b5⟩;have c1:Ev.vu X.P (cf n) ops o b E=some (m,p):=a1 n ⟨by omega,by omega⟩
  have c2:=b1 n ⟨by omega,by omega⟩;show Option.rec (motive:=λ_=>Option (Fr×Mem)) none (λr=>Ev.Mi X.P (cf n) ops l r.1 r.2) (Ev.vu X.P (cf n) ops o b E)=_;rw[c1];exact c2
theorem yY {call:dz β}(a:dO X cf call){tr:List Tmp}{ops:Array Oper}{draw:Bool}{f:gJ}{H:aH}{k:gJ->aH->Option β}(h:BC X call tr ops draw f H k=some r) :
 ∃d e,k d e=some r/\x9 X true (λn b E=>Ev.rV X.P X.G (cf n) ops draw b E) .normal f H d e:=by
 unfold BC at h;rw[ay]at h;split at h;case isFalse=>cases h
 rename_i g;have m:∀o∈ops.toList,∀x∈o.op.operands,Ev.eU X.G x=true:=λo D x F=>by
  have:=aN.1 g o D;exact aN.1 this x (by simpa using F)
 have fin:∀(l:List (Oper×Bool)),(∀q∈l,q.1∈ops.toList)->acF X call tr ops.toList l k (some []) f H=some r->(∀n b E,Ev.rV X.P X.G (cf n) ops draw b E=Ev.atEnd (Ev.zH X.P (cf n) ops.toList l (some []) b E)) ->
  ∃d e,k d e=some r/\x9 X true (λn b E=>Ev.rV X.P X.G (cf n) ops draw b E) .normal f H d e:=by
  intro l t I heq;obtain⟨d,e,p,u⟩:=XW a l (λq J=>m q.1 (t q J)) I;refine⟨d,e,p,λS E b c v w=>?_⟩;obtain⟨S',i,E',⟨N,a1⟩,a2,y,z,s⟩:=u S E b (some []) c v w ⟨[],rfl,λj K=>by cases K⟩;refine⟨S',i,E',⟨N,λn A=>?_⟩,y,z,s.PM,λ_=>⟨a2,s⟩⟩;have:=a1 n A;simp only at this ⊢;rw[heq,this];rfl
 rw[ay]at h;split at h
 .rename_i B;obtain⟨l,t,p⟩:=tG h;refine fin l (XV t) p λn b E=>?_
  unfold Ev.rV;rw[g,B,t]
 rename_i B;obtain⟨d,e,p,u⟩:=SK a ops.toList m h;refine⟨d,e,p,λS E b c v w=>?_⟩;obtain⟨S',i,E',⟨N,a1⟩,a2,y,z,s⟩:=u S E b c v w;refine⟨S',i,E',⟨N,λn A=>?_⟩,y,z,s.PM,λ_=>⟨a2,s⟩⟩;have:=a1 n A;have C:draw=false:=by simpa using B
 simp only at this ⊢;unfold Ev.rV;rw[g,C,this];rfl
end
theorem BL:∀(l:cY) (id n i:Nat),placeOf id l n=some i->n<=i/\l[i-n]? = some id
 |[],id,n,i,h=>by cases h
 |x::l,id,n,i,h=>by
  unfold placeOf at h;rw[ay]at h;split at h
  .rename_i a;cases h;have:x=id:=by simpa[aQ] using a
   subst this;simp
  obtain⟨c,b⟩:=BL l id (n+1) i h;refine⟨by omega,?_⟩;have:i-n=(i-(n+1))+1:=by omega
  rw[this];simpa using b
theorem uP:∀{l:cY},nodupB l=true->∀(i j:Nat) x,l[i]? = some x->l[j]? = some x->i=j
 |[],_,i,j,x,h,_=>by simp at h
 |y::l,h,i,j,x,hi,a=>by
  simp only[nodupB,ak,aU]at h;have hy:y ∉ l:=λb=>by
   have:l.any (Nat.beq y)=true:=kj.2 ⟨y,b,by simp[aQ]⟩;rw[this]at h;cases h.1
  cases i with
  |zero =>
   cases j with
   |zero=>rfl
   |succ j =>
    simp at hi a;subst hi;exact absurd (bu a) hy
  |succ i =>
   cases j with
   |zero =>
    simp at hi a;subst a;exact absurd (bu hi) hy
   |succ j=>rw[uP h.2 i j x (by simpa using hi) (by simpa using a)]
noncomputable def Wo.ya (S:Wo)(H:aH)(ids:cY):Wo :=
 ⟨S.F,λj=>(ids[j]?).bind S.ρ,λj v=>if v=0 then (ids[j]?).bind λid=>match H.get id with
  |some (.list _ e l _ _ _)=>some ⟨e,l⟩
  |_=>S.Γ id 0 else none⟩
section
variable {S:Wo} {H:aH} {ids:cY}
theorem Ex {E:Mem}(f:Rel S H E){id i:Nat}(hi:ids[i]? = some id){g:Sigma λe:Ty=>List e.den}(c:S.Γ id 0=some g):∃b,(S.ya H ids).Γ i 0=some b/\b.2.length=g.2.length:=by
 show ∃b,(if 0=0 then (ids[i]?).bind _ else none)=some b/\_;rw[ag rfl,hi];simp only[bh];split
 .rename_i t e l iL ex j a;obtain⟨_,⟨_,g0,d,h⟩,_⟩:=f.row id _ a;rw[c]at d;cases d;exact⟨_,rfl,h.symm⟩
 exact⟨g,c,rfl⟩
theorem VR.ya {E:Mem}(B:Rel S H E){v:AV}{x:Value}(h:VR S v x):VR (S.ya H ids) (nN ids v) x:=by
 have eC:∀{l:aI} {m:aW},(∀(j:Nat) a b,l[j]? = some a->m[j]? = some b->VR (S.ya H ids) (nN ids a) b)->(∀(j:Nat) a b,(zu ids l)[j]? = some a->m[j]? = some b->VR (S.ya H ids) a b)/\(zu ids l).length=l.length:=by
  intro l;induction l with
  |nil=>intro m h;exact⟨λj a b p=>by simp[zu]at p,rfl⟩
  |cons v l t =>
   intro m h;cases m with
   |nil=>exact⟨λj a b p o=>by simp at o,by have:=(t (m:=[]) (λj a b _ o=>by simp at o)).2;simp[zu,this]⟩
   |cons y m =>
    obtain⟨q,A⟩:=t (m:=m) λj a b p o=>h (j+1) a b (by simpa using p) (by simpa using o)
    refine⟨λj a b p o=>?_,by simp[zu,A]⟩;cases j with
    |zero=>simp[zu]at p o;subst p;subst o;exact h 0 v y rfl rfl
    |succ j=>exact q j a b (by simpa[zu] using p) (by simpa using o)
 have ρi:∀{id i:Nat} {y},ids[i]? = some id->S.ρ id=some y->(S.ya H ids).ρ i=some y:=λhi hy=>by
  show (ids[_]?).bind S.ρ=_;rw[hi];exact hy
 have d:∀{id i:Nat},placeOf id ids 0=some i->ids[i]? = some id:=λh=>by simpa using (BL ids _ 0 _ h).2
 induction h with
 |int=>unfold nN;exact .int _ _
 |bool=>unfold nN;exact .bool _
 |str=>unfold nN;exact .str _
 |rL=>unfold nN;exact .rL _
 |eC e l v h=>unfold nN;exact .eC e l v h
 |eB=>unfold nN;exact .eB
 |own id n i cap s h g u F =>
  unfold nN;split
  .rename_i j k;obtain⟨w,q,A⟩:=Ex B (d k) u;exact .own j n i cap s (ρi (d k) h) w q (by omega)
  exact .lG _
 |iw id g u F =>
  unfold nN;split
  .rename_i j k;obtain⟨w,q,A⟩:=Ex B (d k) u;exact .iw j w q (by omega)
  exact .lG _
 |tc id off len cap i c s h g u L C =>
  unfold nN;split
  .rename_i j k;obtain⟨w,q,A⟩:=Ex B (d k) u;exact .tc j off len cap i c s (ρi (d k) h) w q (by omega) C
  exact .lG _
 |ptr id off i c s h =>
  unfold nN;split
  .rename_i j k;exact .ptr j off i c s (ρi (d k) h)
  exact .lG _
 |Er=>unfold nN;exact .lG _
 |zN id i c s h =>
  unfold nN;split
  .rename_i j k;exact .zN j i c s (ρi (d k) h)
  exact .lG _
 |dat=>unfold nN;exact .lG _
 |FB id n i c s h g u F =>
  unfold nN;split
  .rename_i j k;obtain⟨w,q,A⟩:=Ex B (d k) u;exact .FB j n i c s (ρi (d k) h) w q (by omega)
  exact .lG _
 |Ad cs i pre mid post h C _ t =>
  unfold nN;obtain⟨z,D⟩:=eC t;exact .Ad _ i pre mid post h (by omega) z
 |pU=>unfold nN;exact .pU
 |fn f a b G I p o _ _ J K =>
  unfold nN;obtain⟨z,D⟩:=eC J;obtain⟨m1,M⟩:=eC K;exact .fn f _ _ G I (by omega) (by omega) z m1
 |agg l m C _ t =>
  unfold nN;obtain⟨z,D⟩:=eC t;exact .agg _ m (by omega) z
 |gI l m C _ t =>
  unfold nN;obtain⟨z,D⟩:=eC t;exact .gI _ m (by omega) z
 |BB v h=>unfold nN;exact .BB v h
 |fl a v h=>unfold nN;exact .fl a v h
 |cx a b v h=>unfold nN;exact .cx a b v h
 |lG v=>unfold nN;exact .lG v
theorem LV.ya {E:Mem}(a:Rel S H E):∀{l:aI} {m:aW},LV S l m->LV (S.ya H ids) (zu ids l) m
 |[],m,h=>by rw[h.kI];exact LV.nil
 |v::l,m,h=>by
  obtain⟨x,d,rfl,b,c⟩:=h.cons_inv;exact LV.cons (b.ya a) (LV.ya a c)
theorem Ey (r:Row):(Kx ids r).Cm=r.Cm:=by cases r<;>rfl
theorem Ny (H:aH)(ids:cY):∀(l:cY) (M:aH),(l.foldl (λM id=>M.push (td H ids id)) M).next=M.next+l.length /\
 (l.foldl (λM id=>M.push (td H ids id)) M).lk=M.lk/\(l.foldl (λM id=>M.push (td H ids id)) M).par=M.par /\
 ∀j,(l.foldl (λM id=>M.push (td H ids id)) M).get j=if j<M.next then M.get j else ((l[j-M.next]?).bind H.get).map (Kx ids)
 |[],M=>by
  refine⟨rfl,rfl,rfl,λj=>?_⟩;show M.get j=_;by_cases a:j<M.next
  .rw[ag a]
  rw[aa a];simp;cases h:M.get j with
  |none=>rfl
  |some r=>exact absurd (aH.fM h) a
 |id::l,M=>by
  rw[iF];obtain⟨d,e,f,g⟩:=Ny H ids l (M.push (td H ids id));obtain⟨c,i,p3,p4⟩:=aH.eG M (td H ids id);refine⟨by rw[d,c];simp;omega,by rw[e,i],by rw[f,p3],λj=>?_⟩;rw[g,c,p4];by_cases a:j<M.next
  .rw[ag (by omega),aa (by omega),ag a]
  rw[aa a];by_cases b:j=M.next
  .subst b;rw[ag (by omega),ag rfl];simp only[nG,List.getElem?_cons_zero,bh];unfold td;cases k:H.get id with
   |none=>rfl
   |some r=>cases r<;>first|rfl|exact absurd k aH.KC
  rw[aa (by omega)];have:j-M.next=(j-(M.next+1))+1:=by omega
  rw[this];rfl
theorem Nz (ids:cY)(f:gJ)(n:Nat):∀(keep:List Tmp) (g:gJ),g.n=n->((keep.foldl (λg t=>g.put (some t) (nN ids (f.get t))) g).n=n/\∀i,(keep.foldl (λg t=>g.put (some t) (nN ids (f.get t))) g).get i=g.get i\/(keep.foldl (λg t=>g.put (some t) (nN ids (f.get t))) g).get i=nN ids (f.get i))
 |[],g,a=>⟨a,λi=>.inl rfl⟩
 |t::keep,g,a=>by
  rw[iF];obtain⟨b,e2⟩:=gJ.KS g t (nN ids (f.get t));obtain⟨c,d⟩:=Nz ids f n keep (g.put (some t) (nN ids (f.get t))) (by rw[b,a]);refine⟨c,λi=>?_⟩;rcases d i with h|h
  .rw[h,e2];by_cases hi:i=t/\t<g.n
   .rw[ag hi,hi.1];exact .inr rfl
   rw[aa hi];exact .inl rfl
  exact .inr h
theorem MC.ya {S:Wo}{E:Mem}(a:Rel S H E){ids:cY}:∀{l:List (AV×AV)} {cs:aW},MC S l cs->MC (S.ya H ids) (l.map λq=>(nN ids q.1,nN ids q.2)) cs
 |[],cs,h=>h
 |q::l,cs,⟨y,x,r,b,c,d,e⟩=>⟨y,x,r,b,c.ya a,d.ya a,MC.ya a e⟩
variable {β:Type} {r:β}
theorem acS {keep:List Tmp}{f:gJ}{k:gJ->aH->Option β}(h:Xt keep f H k=some r):∃V J,k V J=some r/\∀(S:Wo) (E:Mem) (K:Fr),Rel S H E->nP S f K->∃S',nP S' V K/\Rel S' J E/\CS S H E S' J E:=by
 unfold Xt at h;simp only at h;generalize awn:xY H 3 (keep.foldl (λL t=>Nc L (f.get t)) (List.range H.par))=ids at h;rw[ay]at h;split at h;case isFalse=>cases h
 rename_i W;simp only[ak,aQ]at W;obtain⟨⟨N,m⟩,O⟩:=W;have m:ids.take H.par=List.range H.par:=by simpa using m
 refine⟨_,_,h,λS E K u X=>⟨S.ya H ids,?_,?_,?_⟩⟩;all_goals
  obtain⟨k1,k2⟩:=Nz ids f f.n keep ⟨f.n,.e⟩ rfl;obtain⟨D,Y,p3,p4⟩:=Ny H ids ids ⟨0,0,H.par,.e⟩
 .refine ⟨by rw[k1,X.n],λi=>?_⟩;rcases k2 i with e|e
  .rw[e];exact .lG _
  rw[e];exact(X.v i).ya u
 all_goals
  have w:∀j q,(ids.foldl (λM id=>M.push (td H ids id)) (⟨0,0,H.par,.e⟩:aH)).get j=some q->∃id r,ids[j]? = some id/\H.get id=some r/\q=Kx ids r:=λj q a=>by
   rw[p4,aa (by simp)]at a;simp only[nH,aO,eK]at a;obtain⟨r,⟨id,d,p⟩,rfl⟩:=a;exact⟨id,r,d,p,rfl⟩
  have ρj:∀{j id},ids[j]? = some id->(S.ya H ids).ρ j=S.ρ id:=λ{j id} a=>by
   show (ids[j]?).bind S.ρ=_;rw[a];rfl
  have P:H.par<=ids.length:=by
   have:=bO List.length m;simp at this;omega
 .refine ⟨u.fz,λj x F=>?_,λj v a=>?_,λj q a=>?_,λj Z q q' y y' a Q hy z he=>?_,λj q y a A hy=>?_,λj q y a _ hy=>?_,by rw[D,Y];simp,by rw[D,p3];simpa using P,u.ID⟩
  .rw[D];have F:(ids[j]?).bind S.ρ=some x:=F;cases hi:ids[j]? with
   |none=>rw[hi]at F;cases F
   |some id=>have:=fM hi;simpa using this
  .rw[D]at a;show (if v=0 then (ids[j]?).bind _ else none)=none;rw[eD (by simpa using a)];split<;>rfl
  .obtain ⟨id,r,d,p,rfl⟩:=w j q a;have o:=u.row id r p;cases r with
   |dead=>trivial
   |cells t cs =>
    obtain⟨i,c,s,b,a1,a2,G,I⟩:=o;exact⟨i,c,s,b,by rw[ρj d];exact a1,a2,G.ya u,I⟩
   |mp t ks =>
    obtain⟨i,c,s,b,a1,a2⟩:=o;exact⟨i,c,s,b,by rw[ρj d];exact a1,a2⟩
   |mf t ks =>
    obtain⟨i,c,s,b,a1,a2,G,I,R⟩:=o;exact⟨i,c,s,b,by rw[ρj d];exact a1,a2,G,I.ya u,R⟩
   |list t e l iL ex ro =>
    obtain⟨a1,⟨a2,g,G,I⟩,R⟩:=o;have hΓ:(S.ya H ids).Γ j 0=some ⟨e,l⟩:=by
     show (if 0=0 then (ids[j]?).bind _ else none)=_;rw[ag rfl,d];simp only[bh,p]
    refine⟨hΓ,⟨λv hv=>aa (by omega),⟨e,l⟩,hΓ,rfl⟩,?_⟩;rcases R with⟨b1,b2,b3⟩|⟨i,cap,b,mid,post,q1,q2⟩
    .exact .inl ⟨b1,by rw[ρj d];exact b2,b3⟩
    exact .inr ⟨i,cap,b,mid,post,by rw[ρj d];exact q1,q2⟩
  .obtain ⟨id,r,d,p,rfl⟩:=w j q a;obtain⟨T,r',B,U,rfl⟩:=w Z q' Q;rw[ρj d]at hy;rw[ρj B]at z;have:=u.inj id T r r' y y' p U hy z he;subst this;exact uP N j Z id d B
  .obtain ⟨id,r,d,p,rfl⟩:=w j q a;rw[ρj d]at hy;rw[Ey]at A;exact u.sep id r y p A hy
  obtain⟨id,r,d,p,rfl⟩:=w j q a;rw[ρj d]at hy;exact u.lk id r y p (by omega) hy
 refine⟨aG _,rfl,by rw[Y,O],p3,λ_ _ h=>h,λi ho _=>?_,λi hi=>.inl hi,λ_ _ _=>rfl,λid C=>?_⟩
 .obtain ⟨j,q,y,a,A,hy,rfl⟩:=ho;obtain⟨id,r,d,p,rfl⟩:=w j q a;rw[ρj d]at hy;rw[Ey]at A;exact⟨id,r,y,p,A,hy,rfl⟩
 refine ρj ?_;have:(ids.take H.par)[id]? = some id:=by rw[m];simp[C]
 rw[ez,ag C]at this;exact this
end
def oz.ua:oz->Bool
 |.none=>true
 |.node k a b=>k.isNone&&a.ua&&b.ua
theorem oz.mL {a:oz}(h:a.ua=true):a.keep=Option.none:=by
 cases a with
 |none=>rfl
 |node k a b =>
  simp only[oz.ua,ak]at h;show k=Option.none;exact Option.isNone_iff_eq_none.1 h.1.1
theorem oz.CT {a:oz}(h:a.ua=true):a.l.ua=true:=by
 cases a with
 |none=>rfl
 |node k a b=>simp only[oz.ua,ak]at h;exact h.1.2
theorem oz.XX {a:oz}(h:a.ua=true):a.r.ua=true:=by
 cases a with
 |none=>rfl
 |node k a b=>simp only[oz.ua,ak]at h;exact h.2
section
variable {X:ji} {cf:Nat×Nat->Ev.dx} {β:Type} {r:β} {nf:Bool}
def XY (nf:Bool)(f:gJ)(H:aH)(c:gJ)(a:aH):Prop :=
 ∀(S:Wo) (E:Mem) (b:Fr),Rel S H E->nP S f b->∃S',nP S' c b/\Rel S' a E/\CS S H E S' a E/\(nf=true->S.le S'/\St S H E S' a E)
theorem SL {a:oz}(m:nf=true->a.keep=none){f:gJ}{H:aH}{k:gJ->aH->Option β}(h:D4 a f H k=some r):∃b c,k b c=some r/\XY nf f H b c:=by
 unfold D4 at h;split at h
 .exact ⟨f,H,h,λS E i d e=>⟨S,e,d,CS.refl _ _ _,λ_=>⟨S.le_refl,St.refl _ _ _⟩⟩⟩
 rename_i l j;obtain⟨b,c,n,o⟩:=acS h;refine⟨b,c,n,λS E i d e=>?_⟩;obtain⟨S',a1,a2,p⟩:=o S E i d e;exact⟨S',a1,a2,p,λg=>by rw[m g]at j;cases j⟩
theorem XY.then {α:Type}{run:Nat×Nat->Fr->Mem->Option (α×Fr×Mem)}{a:α}{f c d:gJ}{H e g:aH}(h:XY nf f H c e)(k:x9 X nf run a c e d g):x9 X nf run a f H d g:=by
 intro S E i m n o;obtain⟨S1,a1,a2,j,l⟩:=h S E i m o;obtain⟨S2,p,q,b1,b2,b3,b4,b5⟩:=k S1 E i a2 (n.mono' j.F) a1;exact⟨S2,p,q,b1,b2,b3,j.trans b4,λb=>⟨Wo.le_trans (l b).1 (b5 b).1,(l b).2.trans (b5 b).2⟩⟩
theorem x9.then {f o p:gJ}{H q s:aH}{t d run:Nat×Nat->Fr->Mem->Option (jx×Fr×Mem)}{u b:jx}(h:x9 X nf t u f H o q)(k:x9 X nf d b o q p s)
 (a:∃m,∀n e E g i j l,m<=n.1->t n e E=some (u,g,i)->d n g i=some (b,j,l)->run n e E=some (b,j,l)):x9 X nf run b f H p s:=by
 intro S E e y v z;obtain⟨m,a⟩:=a;obtain⟨S1,g,i,⟨N1,a1⟩,a2,A,w,x⟩:=h S E e y v z;obtain⟨S2,j,l,⟨N2,b1⟩,b2,b3,b4,b5⟩:=k S1 i g A (v.mono' w.F) a2;refine⟨S2,j,l,⟨max m (max N1 N2),λn B=>?_⟩,b2,b3,w.trans b4,λc=>⟨Wo.le_trans (x c).1 (b5 c).1,(x c).2.trans (b5 c).2⟩⟩;exact a n e E g i j l (by omega) (a1 n ⟨by omega,by omega⟩) (b1 n ⟨by omega,by omega⟩)
theorem x9.same {f i:gJ}{H j:aH}{k run:Nat×Nat->Fr->Mem->Option (jx×Fr×Mem)}{l b:jx}(h:x9 X nf k l f H i j)
 (a:∃g,∀n c E d e,g<=n.1->k n c E=some (l,d,e)->run n c E=some (b,d,e)):x9 X nf run b f H i j:=by
 intro S E c m o p;obtain⟨g,a⟩:=a;obtain⟨S1,d,e,⟨N1,a1⟩,a2⟩:=h S E c m o p;exact⟨S1,d,e,⟨max g N1,λn q=>a n c E d e (by omega) (a1 n ⟨by omega,by omega⟩)⟩,a2⟩
theorem x9.here {run:Nat×Nat->Fr->Mem->Option (jx×Fr×Mem)}{b:jx}{f:gJ}{H:aH}(h:∀n a E,run n a E=some (b,a,E)):x9 X nf run b f H f H :=
 λS E a c e d=>⟨S,a,E,⟨0,λn _=>h n a E⟩,d,c,CS.refl _ _ _,λ_=>⟨S.le_refl,St.refl _ _ _⟩⟩
def ny (X:ji)(nf:Bool)(β:Type)(g:gJ->aH->KT β->Option β)(run:Nat×Nat->Fr->Mem->Option (jx×Fr×Mem)):Prop :=
 ∀f H k (r:β),g f H k=some r->∃a b c,k a b c=some r/\x9 X nf run a f H b c
def wM (X:ji)(nf:Bool){β:Type}(J:uM β)(JE:Nat×Nat->Ev.vA):Prop :=
 ∀c rest,ny X nf β (J c rest) (λn a E=>JE n c rest a E)
theorem CU {y:gJ->aH->Option β}{k:KT β}{a:jx}{f:gJ}{H:aH}(h:Aj y k a f H=some r):(a = .normal/\y f H=some r)\/(a ≠ .normal/\k a f H=some r):=by
 unfold Aj at h;split at h
 .exact .inl ⟨rfl,h⟩
 .exact .inr ⟨by simp,h⟩
 .exact .inr ⟨by simp,h⟩
 exact .inr ⟨by simp,h⟩
theorem vi {a:jx}(h:a ≠ .normal)(b:Fr)(E:Mem)(k:Fr->Mem->Ev.Out):Ev.andThen (some (a,b,E)) k=some (a,b,E):=by
 cases a<;>first|rfl|exact absurd rfl h
theorem yZ {a:oz}(s:nf=true->a.keep=none){body:gJ->aH->KT β->Option β}{e:Nat×Nat->Fr->Mem->Option (jx×Fr×Mem)}(t:ny X nf β body e):∀(m d:Nat) (f:gJ) (H:aH) (k:KT β),SF a body k m f H=some r ->
 ∃g u v,k g u v=some r/\x9 X nf (λn c E=>Ev.zI (e n) (n.1-d) c E) g f H u v
 |0,d,f,H,k,h=>by cases h
 |m+1,d,f,H,k,h=>by
  have h:body f H (Aj (λf H=>D4 a f H (SF a body k m)) k)=some r:=h;obtain⟨g,x,y,z,w⟩:=t _ _ _ _ h;have b:∀(q:Nat) (n:Nat×Nat) c E,Ev.zI (e n) (q+1) c E=Ev.andThen (e n c E) (Ev.zI (e n) q):=λq n c E=>rfl
  rcases CU z with⟨rfl,i⟩|⟨j,i⟩
  .obtain ⟨A,B,C,D⟩:=SL s i;obtain⟨l,F,G,I,J⟩:=yZ s t m (d+1) A B k C;refine⟨l,F,G,I,w.then (D.then J) ⟨d+1,λn c E K L M N o p e2=>?_⟩⟩;have:n.1-d=(n.1-(d+1))+1:=by omega
   rw[this,b,p];exact e2
  refine⟨g,x,y,i,w.same ⟨d+1,λn c E K L o p=>?_⟩⟩;have:n.1-d=(n.1-(d+1))+1:=by omega
  rw[this,b,p];exact vi j _ _ _
theorem NF {id:Nat}{g:gJ->aH->KT β->Option β}{run:Nat×Nat->Fr->Mem->Option (jx×Fr×Mem)}(p:ny X nf β g run):ny X nf β (λf H k=>g f H (FG id k)) (λn d E=>Ev.oF id (run n d E)):=by
 intro f H k r h;obtain⟨s,e,i,a,j⟩:=p _ _ _ _ h;unfold FG at a;split at a
 .rename_i l;rw[ay]at a;split at a
  .rename_i c;refine⟨_,e,i,a,j.same ⟨0,λn d E m o _ b=>?_⟩⟩;rw[b];simp[Ev.oF,c]
  rename_i c;refine⟨_,e,i,a,j.same ⟨0,λn d E m o _ b=>?_⟩⟩;rw[b];have:Nat.beq l id=false:=by
   cases q:Nat.beq l id with
   |true=>exact absurd q c
   |false=>rfl
  simp[Ev.oF,this]
 .exact ⟨_,e,i,a,j.same ⟨0,λn d E m o _ b=>by rw[b];rfl⟩⟩
 .exact ⟨_,e,i,a,j.same ⟨0,λn d E m o _ b=>by rw[b];rfl⟩⟩
 exact⟨_,e,i,a,j.same ⟨0,λn d E m o _ b=>by rw[b];rfl⟩⟩
theorem NG {c:Code}{J:uM β}{JE:Nat×Nat->Ev.vA}(s:wM X nf J JE){g:gJ->aH->KT β->Option β}{run:Nat×Nat->Fr->Mem->Option (jx×Fr×Mem)}(t:ny X nf β g run):ny X nf β (λf H k=>g f H (CI c J k)) (λn d E=>Ev.mY c (JE n) (run n d E)):=by
 intro f H k r h;obtain⟨y,i,j,b,e⟩:=t _ _ _ _ h;unfold CI at b;split at b
 .rename_i l;split at b
  .rename_i rest p;obtain⟨q,u,v,w,x⟩:=s c rest _ _ _ _ b;refine⟨q,u,v,w,e.then x ⟨0,λn d E m o z A _ a e2=>?_⟩⟩;rw[a];simp only[Ev.mY,p];exact e2
  rename_i p;exact⟨_,i,j,b,e.same ⟨0,λn d E m o _ a=>by rw[a];simp only[Ev.mY,p]⟩⟩
 .exact ⟨_,i,j,b,e.same ⟨0,λn d E m o _ a=>by rw[a];rfl⟩⟩
 .exact ⟨_,i,j,b,e.same ⟨0,λn d E m o _ a=>by rw[a];rfl⟩⟩
 exact⟨_,i,j,b,e.same ⟨0,λn d E m o _ a=>by rw[a];rfl⟩⟩
theorem wN {a:oz}(b:nf=true->a.keep=none){g:gJ->aH->KT β->Option β}{run:Nat×Nat->Fr->Mem->Option (jx×Fr×Mem)}(c:ny X nf β g run):ny X nf β (λf H k=>D4 a f H λf H=>g f H k) run:=by
 intro f H k r h;obtain⟨o,p,d,e⟩:=SL b h;obtain⟨i,j,l,m,n⟩:=c _ _ _ _ d;exact⟨i,j,l,m,e.then n⟩
theorem NH {call:dz β}(i:dO X cf call){tr:List Tmp}{J:uM β}{JE:Nat×Nat->Ev.vA}(rounds:Nat)(c:Code):Ev.pM c=true->ny X true β (jm X call tr J rounds c .none) (λn d E=>Ev.lq X.P X.G (cf n) (JE n) n.1 c d E):=by
 induction c with
 |skip=>intro _ f H k r h;exact⟨_,f,H,h,.here λ_ _ _=>rfl⟩
 |region id ops draw =>
  intro _ f H k r h;obtain⟨m,o,s,p⟩:=yY i (show BC X call tr ops draw f H (λf H=>k .normal f H)=some r from h);refine⟨_,m,o,s,λS E d B u v=>?_⟩;obtain⟨S',j,E',a1,a2,Q,R,T⟩:=p S E d B u v;exact⟨S',j,E',a1,a2,Q,R,λ_=>T rfl⟩
 |seq x y C D =>
  intro e f H k r h;have e:(Ev.pM x&&Ev.pM y)=true:=e;rw[ak]at e;obtain⟨q,U,V,s,p⟩:=C e.1 _ _ _ _ (show jm X call tr J rounds x .none f H (Aj (λf H=>jm X call tr J rounds y .none f H k) k)=some r from h);have z:∀n d E,Ev.lq X.P X.G (cf n) (JE n) n.1 (.seq x y) d E=Ev.andThen (Ev.lq X.P X.G (cf n) (JE n) n.1 x d E) (Ev.lq X.P X.G (cf n) (JE n) n.1 y):=λn d E=>rfl
  rcases CU s with⟨rfl,F⟩|⟨I,F⟩
  .obtain ⟨K,W,Y,Z,h5⟩:=D e.2 _ _ _ _ F;exact⟨K,W,Y,Z,p.then h5 ⟨0,λn d E zx E1 D6 E2 _ L e2=>by rw[z,L];exact e2⟩⟩
  exact⟨q,U,V,F,p.same ⟨0,λn d E zx E1 _ L=>by rw[z,L];exact vi I _ _ _⟩⟩
 |cond c x y C D =>
  intro e f H k r h;have e:(Ev.pM x&&Ev.pM y)=true:=e;rw[ak]at e;have h:ah (Ev.eU X.G c) (match f.eval X c with
   |.bool b=>ah b (jm X call tr J rounds x .none f H k) (jm X call tr J rounds y .none f H k)
   |_=>none) none=some r:=h
  rw[ay]at h;split at h;case isFalse=>cases h
  rename_i t;split at h
  .rename_i b hb;have z:∀n d E,Ev.lq X.P X.G (cf n) (JE n) n.1 (.cond c x y) d E=ah (Ev.eU X.G c) (Ev.EZ (d.eval c) (Ev.lq X.P X.G (cf n) (JE n) n.1 x) (Ev.lq X.P X.G (cf n) (JE n) n.1 y) d E) none:=λn d E=>rfl
   have both:∃q m o,k q m o=some r/\x9 X true (λn d E=>ah b (Ev.lq X.P X.G (cf n) (JE n) n.1 x d E) (Ev.lq X.P X.G (cf n) (JE n) n.1 y d E)) q f H m o:=by
    cases b with
    |true=>exact C e.1 _ _ _ _ h
    |false=>exact D e.2 _ _ _ _ h
   obtain⟨q,m,o,s,p⟩:=both;refine⟨q,m,o,s,λS E d B u v=>?_⟩;obtain⟨S',j,E',⟨N,a1⟩,a2⟩:=p S E d B u v;refine⟨S',j,E',⟨N,λn M=>?_⟩,a2⟩;have O:=sC v u t;rw[hb]at O;have a1:=a1 n M;simp only at a1 ⊢;rw[z,t,O.nO];exact a1
  cases h
 |block id b A=>intro e;exact NF (A e)
 |loop b A =>
  intro e f H k r h;exact yZ (a:=.none) (λ_=>rfl) (A e) rounds 0 f H k h
 |rangeFunc g params assign body _ _=>intro e;cases e
 |exit id=>intro _ f H k r h;exact⟨_,f,H,h,.here λ_ _ _=>rfl⟩
 |scope b A=>intro e;cases e
 |label l=>intro _ f H k r h;exact⟨_,f,H,h,.here λ_ _ _=>rfl⟩
 |goto l=>intro _ f H k r h;exact⟨_,f,H,h,.here λ_ _ _=>rfl⟩
 |ret=>intro _ f H k r h;exact⟨_,f,H,h,.here λ_ _ _=>rfl⟩
 |refuse w=>intro _ f H k r h;cases h
def QE (l:aI)(a:aW):Prop:=l.length=a.length/\∀(j:Nat) s y,l[j]? = some (.str s)->a[j]? = some y->y = .string ⟨s.toArray⟩
theorem QE.of {S:Wo}{l:aI}{a:aW}(h:LV S l a):QE l a:=⟨h.1,λj s y b hy=>(h.2 j _ y b hy).kH⟩
theorem QE.cons_inv {v:AV}{l:aI}{a:aW}(h:QE (v::l) a):∃x m,a=x::m/\(∀s,v = .str s->x = .string ⟨s.toArray⟩)/\QE l m:=by
 obtain⟨b,c⟩:=h;cases a with
 |nil=>simp at b
 |cons x m=>exact⟨x,m,rfl,λs d=>c 0 s x (by rw[d];rfl) rfl,by simpa using b,λj s y e hy=>c (j+1) s y (by simpa using e) (by simpa using hy)⟩
theorem IU {a:oz}(A:nf=true->a.keep=none){p:Tmp}{x y:gJ->aH->KT β->Option β}{B C:Nat×Nat->Fr->Mem->Option (jx×Fr×Mem)}(Y:ny X true β x B)(hy:ny X true β y C){k:KT β}:∀(l:aI) (f:gJ) (H:aH),Et a p x y k l f H=some r ->
 ∃D Z K,k D Z K=some r/\∀(S:Wo) (E:Mem) (b:Fr) (c:aW),Rel S H E->gi X S->nP S f b->QE l c ->
  ∃S' G E',(∃N,∀n:Nat×Nat,N<=n.1/\N<=n.2->Ev.s6 p (B n) (C n) b c E=some (D,G,E'))/\nP S' Z G/\Rel S' K E'/\CS S H E S' K E'/\(nf=true->S.le S'/\St S H E S' K E')
 |[],f,H,h=>⟨.normal,f,H,h,λS E b c t q j u=>by
  have u:c=[]:=aS.1 (by have:=u.1;simpa using this.symm);rw[u];exact⟨S,b,E,⟨0,λn _=>rfl⟩,j,t,CS.refl _ _ _,λ_=>⟨S.le_refl,St.refl _ _ _⟩⟩⟩
 |v::l,f,H,h=>by
  replace h:(match (generalizing:=false) v with
   |.str s=>x (f.put (some p) (.str s)) H (λD L M=>match D with
    |.normal=>y L M λD _ g=>match D with
     |.normal=>D4 a f g (Et a p x y k l)
     |.ret=>k .ret f g
     |_=>none
    |_=>none)
   |_=>none)=some r:=h
  split at h;case h_2=>cases h
  rename_i s;obtain⟨lv1,L,M,P,h2⟩:=Y _ _ _ _ h;split at P;case h_2=>cases P
  obtain⟨Q,f3,g,O,h4⟩:=hy _ _ _ _ P;have d:∀(n:Nat×Nat) (v:Value) (c:aW) (b:Fr) (E:Mem),Ev.s6 p (B n) (C n) b (v::c) E=match b.put (some p) v with
   |some m=>match B n m E with
    |some (.normal,L,M)=>match C n L M with
     |some (.normal,_,g)=>Ev.s6 p (B n) (C n) b c g
     |some (.ret,_,g)=>some (.ret,b,g)
     |_=>none
    |_=>none
   |none=>none:=λ_ _ _ _ _=>rfl
  have both:∀(S:Wo) (E:Mem) (b:Fr),Rel S H E->gi X S->nP S f b->∃S3 m w z e i,b.put (some p) (.string ⟨s.toArray⟩)=some m/\(∃N,∀n:Nat×Nat,N<=n.1/\N<=n.2->B n m E=some (.normal,w,z)/\C n w z=some (Q,e,i))/\Rel S3 g i/\S.le S3/\St S H E S3 g i:=λS E b t q j=>by
   obtain⟨m,I⟩:=Fr.qH b (some p) (.string ⟨s.toArray⟩);obtain⟨S2,w,z,⟨N1,a1⟩,a2,a3,a4,a5⟩:=h2 S E m t q (j.put (.str s) I);obtain⟨S3,e,i,⟨N2,b1⟩,b2,b3,b4,b5⟩:=h4 S2 z w a3 (q.mono' a4.F) a2;exact⟨S3,m,w,z,e,i,I,⟨max N1 N2,λn A=>⟨a1 n ⟨by omega,by omega⟩,b1 n ⟨by omega,by omega⟩⟩⟩,b3,Wo.le_trans (a5 rfl).1 (b5 rfl).1,(a5 rfl).2.trans (b5 rfl).2⟩
  split at O
  .obtain ⟨f4,H4,h5,h6⟩:=SL A O;obtain⟨R,f5,H5,h7,h8⟩:=IU A Y hy l f4 H4 h5;refine⟨R,f5,H5,h7,λS E b c t q j u=>?_⟩;obtain⟨v1,c,rfl,T,Ck⟩:=u.cons_inv;obtain rfl:=T s rfl;obtain⟨S3,m,w,z,e,i,c1,⟨N1,c2⟩,U,J,c5⟩:=both S E b t q j;obtain⟨S4,d1,d2,d3,d4⟩:=h6 S3 i b U (j.mono J);obtain⟨S5,V,E5,⟨N2,W⟩,e2,e3,e4,e5⟩:=h8 S4 i b c d2 ((q.mono' c5.F).mono' d3.F) d1 Ck;refine⟨S5,V,E5,⟨max N1 N2,λn A=>?_⟩,e2,e3,(c5.PM.trans d3).trans e4,λo=>⟨Wo.le_trans J (Wo.le_trans (d4 o).1 (e5 o).1),(c5.trans (d4 o).2).trans (e5 o).2⟩⟩
   obtain⟨g1,g2⟩:=c2 n ⟨by omega,by omega⟩;rw[d,c1];simp only[g1,g2];exact W n ⟨by omega,by omega⟩
  .refine ⟨.ret,f,g,O,λS E b c t q j u=>?_⟩;obtain⟨v1,c,rfl,T,Ck⟩:=u.cons_inv;obtain rfl:=T s rfl;obtain⟨S3,m,w,z,e,i,c1,⟨N1,c2⟩,U,J,c5⟩:=both S E b t q j;refine⟨S3,b,i,⟨N1,λn A=>?_⟩,j.mono J,U,c5.PM,λ_=>⟨J,c5⟩⟩;obtain⟨W,e2⟩:=c2 n A;rw[d,c1];simp only[W,e2]
  cases O
theorem Fy {call:dz β}(b:dO X cf call){a:oz}(Q:nf=true->a.keep=none){g:Operand}{ps:List Tmp}{plain:Bool}{x y:gJ->aH->KT β->Option β}{o t:Nat×Nat->Fr->Mem->Option (jx×Fr×Mem)}(R:plain=true->ny X true β x o)(hy:plain=true->ny X true β y t) :
 ny X nf β (Kz X call g ps plain a x y) (λn d E=>Ev.Cp X.P X.G (cf n) g ps plain (o n) (t n) d E):=by
 intro f H k r h;unfold Kz at h;rw[ay]at h;split at h;case isFalse=>cases h
 rename_i L;rw[ak]at L;obtain⟨e,w⟩:=L;split at h;case h_2=>cases h
 rename_i p T id U;split at h;case h_2=>cases h
 rename_i A;obtain⟨v,V,B,W⟩:=b _ _ _ _ _ h;split at B;case h_2=>cases B
 rename_i u l;obtain⟨Y,Z,H',h3,h4⟩:=IU Q (R w) (hy w) l f V B;refine⟨Y,Z,H',h3,λS E d hr C M=>?_⟩;have D:=sC M C e;rw[U]at D;generalize hq:d.eval g=q at D;cases D with
 |fn _ _ _ a' N I O va vb =>
  have I:a'=[]:=aS.1 (by simpa using I.symm);subst I;obtain⟨z,rfl⟩:∃z,N=[z]:=by
   cases N with
   |nil=>simp at O
   |cons z m=>cases m with
    |nil=>exact⟨z,rfl⟩
    |cons _ _=>simp at O
  have hz:=vb 0 _ z rfl rfl;cases hz with
  |ptr _ _ i c s hρ =>
   obtain⟨S1,vE,E1,⟨N1,a1⟩,a2,a3,a4,J⟩:=W S E [.pointer (some ⟨i,0,none⟩)] hr C (LV.cons (.ptr id 0 i c s hρ) LV.nil);cases a3 with
   |gI _ m hl hm =>
    obtain⟨u',m',rfl,_,K⟩:=(show LV S1 (u::l) m from ⟨hl,hm⟩).cons_inv;obtain⟨S2,D6,E2,⟨N2,b1⟩,b2,b3,b4,b5⟩:=h4 S1 E1 d m' a4 (C.mono' J.F) (M.mono a2) (QE.of K);refine⟨S2,D6,E2,⟨max N1 N2,λn hn'=>?_⟩,b2,b3,J.PM.trans b4,λj=>⟨Wo.le_trans a2 (b5 j).1,J.trans (b5 j).2⟩⟩;show Ev.Cp X.P X.G (cf n) g [p] plain (o n) (t n) d E=_;unfold Ev.Cp;rw[e,w,hq];simp only[A,a1 n ⟨by omega,by omega⟩];exact b1 n ⟨by omega,by omega⟩
theorem KV {call:dz β}(e:dO X cf call){tr:List Tmp}{J:uM β}{JE:Nat×Nat->Ev.vA}(U:wM X nf J JE)(rounds:Nat)(c:Code):∀(a:oz),(nf=true->a.ua=true)->ny X nf β (jm X call tr J rounds c a) (λn i E=>Ev.lq X.P X.G (cf n) (JE n) n.1 c i E):=by
 induction c with
 |skip=>intro a _ f H k r h;exact⟨_,f,H,h,.here λ_ _ _=>rfl⟩
 |region id ops draw =>
  intro a d;refine wN (g:=λf H k=>BC X call tr ops draw f H λf H=>k .normal f H) (λh=>oz.mL (d h)) λf H k r h=>?_
  obtain⟨j,m,q,o⟩:=yY e h;refine⟨_,j,m,q,λS E i C z A=>?_⟩;obtain⟨S',s,E',a1,a2,V,W,Y⟩:=o S E i C z A;exact⟨S',s,E',a1,a2,V,W,λ_=>Y rfl⟩
 |seq x y D F =>
  intro a d;refine wN (g:=λf H k=>jm X call tr J rounds x a.l f H (Aj (λf H=>jm X call tr J rounds y a.r f H k) k)) (λh=>oz.mL (d h)) λf H k r h=>?_
  obtain⟨p,I,K,q,o⟩:=D a.l (λh=>oz.CT (d h)) _ _ _ _ h;have B:∀n i E,Ev.lq X.P X.G (cf n) (JE n) n.1 (.seq x y) i E=Ev.andThen (Ev.lq X.P X.G (cf n) (JE n) n.1 x i E) (Ev.lq X.P X.G (cf n) (JE n) n.1 y):=λn i E=>rfl
  rcases CU q with⟨rfl,t⟩|⟨L,t⟩
  .obtain ⟨M,Z,H2,O,h5⟩:=F a.r (λh=>oz.XX (d h)) _ _ _ _ t;exact⟨M,Z,H2,O,o.then h5 ⟨0,λn i E zx E1 D6 E2 _ Q e2=>by rw[B,Q];exact e2⟩⟩
  exact⟨p,I,K,t,o.same ⟨0,λn i E zx E1 _ Q=>by rw[B,Q];exact vi L _ _ _⟩⟩
 |cond c x y D F =>
  intro a d;refine wN (g:=λf H k=>ah (Ev.eU X.G c) (match f.eval X c with
   |.bool b=>ah b (jm X call tr J rounds x a.l f H k) (jm X call tr J rounds y a.r f H k)
   |_=>none) none) (λh=>oz.mL (d h)) λf H k r h=>?_
  simp only at h;rw[ay]at h;split at h;case isFalse=>cases h
  rename_i u;split at h
  .rename_i b hb;have B:∀n i E,Ev.lq X.P X.G (cf n) (JE n) n.1 (.cond c x y) i E=ah (Ev.eU X.G c) (Ev.EZ (i.eval c) (Ev.lq X.P X.G (cf n) (JE n) n.1 x) (Ev.lq X.P X.G (cf n) (JE n) n.1 y) i E) none:=λn i E=>rfl
   have both:∃p j m,k p j m=some r/\x9 X nf (λn i E=>ah b (Ev.lq X.P X.G (cf n) (JE n) n.1 x i E) (Ev.lq X.P X.G (cf n) (JE n) n.1 y i E)) p f H j m:=by
    cases b with
    |true=>exact D a.l (λh=>oz.CT (d h)) _ _ _ _ h
    |false=>exact F a.r (λh=>oz.XX (d h)) _ _ _ _ h
   obtain⟨p,j,m,q,o⟩:=both;refine⟨p,j,m,q,λS E i C z A=>?_⟩;obtain⟨S',s,E',⟨N,a1⟩,a2⟩:=o S E i C z A;refine⟨S',s,E',⟨N,λn R=>?_⟩,a2⟩;have T:=sC A z u;rw[hb]at T;have a1:=a1 n R;simp only at a1 ⊢;rw[B,u,T.nO];exact a1
  cases h
 |block id b v =>
  intro a d;exact wN (g:=λf H k=>jm X call tr J rounds b a.l f H (FG id k)) (λh=>oz.mL (d h)) (NF (v a.l λh=>oz.CT (d h)))
 |loop b v =>
  intro a d f H k r h;obtain⟨I,K,q,o⟩:=SL (λh=>oz.mL (d h)) h;obtain⟨p,j,m,t,O⟩:=yZ (λh=>oz.mL (d h)) (v a.l λh=>oz.CT (d h)) rounds 0 I K k q;exact⟨p,j,m,t,o.then O⟩
 |rangeFunc g params assign body _ _ =>
  intro a d;exact wN (g:=λf H k=>Kz X call g params.toList (Ev.pM assign&&Ev.pM body) a (jm X call tr J rounds assign .none) (jm X call tr J rounds body .none) f H k) (λh=>oz.mL (d h))
   (Fy e (λh=>oz.mL (d h)) (λh=>NH (JE:=JE) e rounds assign (by rw[ak]at h;exact h.1)) (λh=>NH (JE:=JE) e rounds body (by rw[ak]at h;exact h.2)))
 |exit id=>intro a _ f H k r h;exact⟨_,f,H,h,.here λ_ _ _=>rfl⟩
 |scope b v =>
  intro a d;exact wN (g:=λf H k=>jm X call tr J rounds b a.l f H (CI b J k)) (λh=>oz.mL (d h)) (NG U (v a.l λh=>oz.CT (d h)))
 |label l=>intro a _ f H k r h;exact⟨_,f,H,h,.here λ_ _ _=>rfl⟩
 |goto l=>intro a _ f H k r h;exact⟨_,f,H,h,.here λ_ _ _=>rfl⟩
 |ret=>intro a _ f H k r h;exact⟨_,f,H,h,.here λ_ _ _=>rfl⟩
 |refuse w=>intro a _ f H k r h;cases h
theorem SM {ja:oz}(a:nf=true->ja.keep=none){J:uM β}{JE:Nat×Nat->Ev.vA}(b:wM X nf J JE):wM X nf (λc rest f H k=>D4 ja f H λf H=>J c rest f H k) JE :=
 λc rest=>wN (g:=J c rest) a (b c rest)
theorem IV {call:dz β}(a:dO X cf call){tr:List Tmp}{ja:oz}(b:nf=true->ja.ua=true)(rounds:Nat):∀(m d:Nat),wM X nf (QA X call tr ja rounds m) (λn=>Ev.wq X.P X.G (cf n) n.1 (n.1-d))
 |0,d=>λc rest f H k r h=>by cases h
 |m+1,d=>λc rest=>by
  have e:=SM (λh=>oz.mL (b h)) (IV (tr:=tr) a b rounds m (d+1));have key:=NG (c:=c) e (KV (tr:=tr) a e rounds rest ja.l λh=>oz.CT (b h));intro f H k r h;obtain⟨g,i,j,o,p⟩:=key f H k r h;refine⟨g,i,j,o,p.same ⟨d+1,λn q E u v s t=>?_⟩⟩;have:n.1-d=(n.1-(d+1))+1:=by omega
  show Ev.wq X.P X.G (cf n) n.1 (n.1-d) c rest q E=_;rw[this];exact t
theorem X2 {call:dz β}(a:dO X cf call){tr:List Tmp}{ja:oz}(b:nf=true->ja.ua=true)(rounds:Nat)(m d:Nat):wM X nf (qY X call tr ja rounds m) (λn=>Ev.wq X.P X.G (cf n) n.1 (n.1-d)) :=
 SM (λh=>oz.mL (b h)) (IV a b rounds m d)
theorem CD {H:aH}{f:gJ}{c:ResultVar}{k:AV->Option β}(h:KA X H f c k=some r):∃v,k v=some r/\∀S E a,Rel S H E->nP S f a->∃x,Ev.A8 X.P E a c=some x/\VR S v x:=by
 unfold KA at h;split at h
 .rename_i t;exact⟨_,h,λS E a d b=>⟨a.get t,rfl,b.v t⟩⟩
 rename_i x t;obtain⟨v,e,g⟩:=Ni h;exact⟨v,e,λS E a d b=>g S E _ d (b.v x)⟩
theorem wE {H:aH}{f:gJ}:∀{l:List ResultVar} {k:aI->Option β},xZ X H f k l=some r->∃vs,k vs=some r/\∀S E a,Rel S H E->nP S f a->∃xs,Ev.lQ X.P E a l=some xs/\LV S vs xs
 |[],k,h=>⟨[],h,λS E a b c=>⟨[],rfl,LV.nil⟩⟩
 |o::l,k,h=>by
  obtain⟨v,d,e⟩:=CD h;obtain⟨vs,g,i⟩:=wE d;refine⟨v::vs,g,λS E a b c=>?_⟩;obtain⟨x,j,e2⟩:=e S E a b c;obtain⟨xs,m,n⟩:=i S E a b c;exact⟨x::xs,by simp only[Ev.lQ,j,m],LV.cons e2 n⟩
theorem KW {S:Wo}{vs:aI}{xs:aW}(h:LV S vs xs):VR S (tf vs) (Ev.xH xs):=by
 match vs,xs,h with
 |[],xs,h=>rw[h.kI];exact .gI [] [] rfl (λj x y c=>by simp at c)
 |[v],xs,h =>
  obtain⟨x,m,rfl,b,a⟩:=h.cons_inv;rw[a.kI];exact b
 |v::w::vs,xs,h =>
  obtain⟨x,m,rfl,b,a⟩:=h.cons_inv;obtain⟨y,d,rfl,e,f⟩:=a.cons_inv;exact .gI _ _ h.1 h.2
theorem Az:∀(l:aW) (f:Fr) (i:Nat),∃a,f.fill i l=some a
 |[],f,i=>⟨f,rfl⟩
 |v::l,f,i=>by
  obtain⟨b,c⟩:=Fr.qH f (some i) v;obtain⟨d,e⟩:=Az l b (i+1);exact⟨d,by simp only[Ev.Fr.fill,c,e]⟩
theorem FQ {S:Wo}:∀{vs:aI} {xs:aW} {f:gJ} {b a:Fr} {i:Nat},nP S f b->LV S vs xs->b.fill i xs=some a->nP S (f.fill i vs) a
 |[],xs,f,b,a,i,c,d,h=>by
  rw[d.kI]at h;cases h;exact c
 |v::vs,xs,f,b,a,i,c,d,h=>by
  obtain⟨x,m,rfl,e,g⟩:=d.cons_inv;simp only[Ev.Fr.fill]at h;split at h
  .rename_i k j;exact FQ (f:=f.put (some i) v) (c.put e j) g h
  cases h
theorem mH {call:dz β}(b:dO X cf call){an:fe}(u:nf=true->an.KB.ua=true/\an.ja.ua=true){rounds:Nat}{id:FuncId}{args:aI}{H:aH}{k:AV->aH->Option β}(h:aT X call an rounds id args H k=some r) :
 ∃v a,k v a=some r/\∀(S:Wo) (E:Mem) (d:aW),Rel S H E->gi X S->LV S args d ->
  ∃S' j E',(∃N,∀n:Nat×Nat,N<=n.1/\N<=n.2->Ev.mZ X.P X.G (cf n) n.1 id d E=some (j,E'))/\VR S' v j/\Rel S' a E'/\CS S H E S' a E'/\(nf=true->S.le S'/\St S H E S' a E'):=by
 unfold aT at h;split at h;case h_2=>cases h
 rename_i fn p;split at h;case h_2=>cases h
 rename_i c A;rw[ay]at h;split at h;case isFalse=>cases h
 rename_i hlen;have B:=X2 (tr:=an.tr) b (λh=>(u h).2) rounds rounds 0;obtain⟨w,C,a,l,D⟩:=KV (tr:=an.tr) b B rounds c an.KB (λh=>(u h).1) _ _ _ _ h;have fin:(w = .normal\/w = .ret)->xZ X a C (λvs=>k (tf vs) a) fn.results.toList=some r->∃v a,k v a=some r/\∀(S:Wo) (E:Mem) (d:aW),Rel S H E->gi X S->LV S args d ->
  ∃S' j E',(∃N,∀n:Nat×Nat,N<=n.1/\N<=n.2->Ev.mZ X.P X.G (cf n) n.1 id d E=some (j,E'))/\VR S' v j/\Rel S' a E'/\CS S H E S' a E'/\(nf=true->S.le S'/\St S H E S' a E'):=λq m=>by
  obtain⟨vs,F,I⟩:=wE m;refine⟨tf vs,a,F,λS E d J K x=>?_⟩;obtain⟨L,o⟩:=Az d (Fr.mk fn.ntmps (Tr.full (Ev.yQ fn.ntmps))) 0;have s:nP S (gJ.mk fn.ntmps .e) (Fr.mk fn.ntmps (Tr.full (Ev.yQ fn.ntmps))):=⟨rfl,λi=>.lG _⟩;obtain⟨S',f,E',⟨N,a1⟩,a2,y,M,O⟩:=D S E L J K (FQ s x o);obtain⟨xs,z,e2⟩:=I S' E' f y a2;refine⟨S',Ev.xH xs,E',⟨N,λn t=>?_⟩,KW e2,y,M,O⟩;unfold Ev.mZ;have a1:=a1 n t;simp only[nH]at a1;simp only[p,A,o]
  have g:Nat.ble d.length fn.ntmps=true:=by rw[<-x.1];exact hlen
  rw[g,a1];rcases q with rfl|rfl
  .show Ev.dh E' ((Ev.lQ X.P E' f fn.results.toList).map Ev.xH)=_;rw[z];rfl
  show Ev.dh E' ((Ev.lQ X.P E' f fn.results.toList).map Ev.xH)=_;rw[z];rfl
 unfold r8 at l;split at l
 .exact fin (.inl rfl) l
 .exact fin (.inr rfl) l
 cases l
noncomputable def eM (X:ji)(kn:Ev.fZ):Nat×Nat->Ev.dx:=λn=>Ev.pg X.P X.G kn n.1 n.2
theorem iy {kn:Ev.fZ}{id:FuncId}(f:∀args,kn id args=none){a:aW}{E E':Mem}{c:Value}(h:∃N,∀n:Nat×Nat,N<=n.1/\N<=n.2->Ev.mZ X.P X.G (eM X kn n) n.1 id a E=some (c,E')):∃N,∀n:Nat×Nat,N<=n.1/\N<=n.2->eM X kn n id a E=some (c,E'):=by
 obtain⟨N,h⟩:=h;refine⟨N+1,λn d=>?_⟩;obtain⟨R,D⟩:=n;obtain⟨b,rfl⟩:∃b,D=b+1:=⟨D-1,by have:=d.2;simp only at this;omega⟩;have:=h (R,b) ⟨by have:=d.1;simp only at this ⊢;omega,by have:=d.2;simp only at this ⊢;omega⟩;show Ev.pg X.P X.G kn R (b+1) id a E=_;rw[Ev.nr,f];show Ev.oY (Ev.qm X.P kn id a E) _=_;rw[Ev.Qp (f _)];show Ev.oY (Ev.mZ X.P X.G (Ev.pg X.P X.G kn R b) R id a E) _=_;have e:Ev.mZ X.P X.G (Ev.pg X.P X.G kn R b) R id a E=some (c,E'):=this
 rw[e];rfl
end
inductive gj where
 |val (v:AV)
 |list (t:TypeId) (e:Ty) (l:List e.den)
 |room (t:TypeId) (e:Ty) (l:List e.den) (len:Nat)
noncomputable def nL:List gj->aH->aI×aH
 |[],H=>([],H)
 |.val v::rs,H=>(v::(nL rs H).1,(nL rs H).2)
 |.list t e l::rs,H=>(.own H.next l.length::(nL rs (H.push (.list t e l 0 false false))).1,(nL rs (H.push (.list t e l 0 false false))).2)
 |.room t e l len::rs,H=>(.tc H.next 0 len l.length::(nL rs (H.push (.list t e l 0 true false))).1,(nL rs (H.push (.list t e l 0 true false))).2)
def vH:AV->Bool
 |.int _ _=>true
 |.bool _=>true
 |.str _=>true
 |.rL _=>true
 |.eB=>true
 |.pU=>true
 |.agg l=>l.all λv=>match v with
  |.int _ _=>true
  |.bool _=>true
  |.str _=>true
  |.rL _=>true
  |.eB=>true
  |.pU=>true
  |_=>false
 |_=>false
def uQ (H:aH):cY->aI->List gj->Prop
 |_,[],[]=>True
 |seen,v::vs,.val w::rs=>v=w/\vH w=true/\uQ H seen vs rs
 |seen,v::vs,.list t e l::rs=>e.BA=true/\((∃id iL ex,v = .own id l.length/\H.get id=some (.list t e l iL ex false)/\id ∉ seen/\uQ H (id::seen) vs rs)\/(v = .eB/\l=[]/\uQ H seen vs rs))
 |seen,v::vs,.room t e l len::rs=>e.BA=true/\∃id iL,v = .tc id 0 len l.length/\H.get id=some (.list t e l iL true false)/\id ∉ seen/\uQ H (id::seen) vs rs
 |_,_,_=>False
theorem CR.IW {F c:Nat->Option aW}:∀(e:Ty),e.BA=true->∀(x:e.den) (cs:aW),CR F e x cs->CR c e x cs
 |.int _,_,_,_,h=>h
 |.bool,_,_,_,h=>h
 |.str,_,_,_,h=>h
 |.rL,_,_,_,h=>h
 |.unit,_,_,_,h=>h
 |.sl _,h,_,_,_=>by cases h
 |.pair a b,h,_,_,⟨c1,c2,e,d,f⟩=>by
  simp only[Ty.BA,ak]at h;exact⟨c1,c2,e,CR.IW a h.1 _ _ d,CR.IW b h.2 _ _ f⟩
theorem SN {S S':Wo}{v:AV}{x:Value}(h:vH v=true)(d:VR S v x):VR S' v x:=by
 cases d with
 |int=>exact .int _ _
 |bool=>exact .bool _
 |str=>exact .str _
 |rL=>exact .rL _
 |eB=>exact .eB
 |pU=>exact .pU
 |agg l m e f =>
  refine .agg l m e λj a b c g=>?_
  have i:=f j a b c g;have k:=aN.1 h a (bu c);cases i<;>first|(cases k;done)|constructor
 |_=>cases h
theorem Rel.grow {S:Wo}{H:aH}{E E':Mem}(h:Rel S H E)(l:E.size<=E'.size)(a:E'.lk=E.lk)(e:∀i,i<E.size->E'.get i=E.get i):Rel S H E':=by
 refine⟨λi cs hi=>?_,h.dom,h.D5,λid q c=>?_,h.inj,h.sep,λid q x c g d=>by rw[a];exact h.lk id q x c g d,h.A0,h.Nf,by rw[a];have:=h.ID;omega⟩
 .obtain ⟨b,f,j⟩:=h.fz i cs hi;exact⟨b,by rw[qC (e i (mI f))];exact f,j⟩
 exact(h.row id q c).keep S.le_refl (λh=>h) (λ_ h=>h) λx d=>by
  obtain⟨b,k⟩:=h.old c d;exact e _ (Mem.fM k)
theorem Rel.zP {S:Wo}{H:aH}{E:Mem}(h:Rel S H E){r:Row}{x:Option (Nat×Nat×Nat)}{g:Option (Sigma λe:Ty=>List e.den)}
 (C:∀r',r.live=some r'->qD (S.new H.next x g) E H.next r')
 (m:∀y,x=some y->(∀id q z,H.get id=some q->S.ρ id=some z->z.1≠y.1)/\S.F y.1=none/\E.lk<=y.1) :
 S.le (S.new H.next x g)/\Rel (S.new H.next x g) (H.push r) E:=by
 have k:=Wo.KD h x g;obtain⟨n,A,p3,p4⟩:=aH.eG H r;have ρne:∀id,id≠H.next->(S.new H.next x g).ρ id=S.ρ id:=λid a=>aa a
 have ρeq:(S.new H.next x g).ρ H.next=x:=ag rfl
 have Γne:∀id v,id≠H.next->(S.new H.next x g).Γ id v=S.Γ id v:=λid v a=>aa (by omega)
 have l:∀id r',(H.push r).get id=some r'->(id=H.next/\r.live=some r')\/(id≠H.next/\H.get id=some r'):=λid r' a=>by
  rw[p4]at a;by_cases e:id=H.next
  .rw[ag e]at a;exact .inl ⟨e,a⟩
  rw[aa e]at a;exact .inr ⟨e,a⟩
 refine⟨k,⟨h.fz,λid y hy=>?_,λid v o=>?_,λid r' f=>?_,λid c r1 p y s f i hy b t=>?_,λid r' y f D hy=>?_,λid r' y f B hy=>?_,by rw[n,A];have:=h.A0;omega,by rw[n,p3];have:=h.Nf;omega,h.ID⟩⟩
 .rw[n];by_cases e:id=H.next
  .omega
  rw[ρne id e]at hy;have:=h.dom id y hy;omega
 .rw[n]at o;rw[Γne id v (by omega)];exact h.D5 id v (by omega)
 .rcases l id r' f with⟨rfl,u⟩|⟨e,i⟩
  .exact C r' u
  exact(h.row id r' i).keep k (λG=>by rw[ρne id e];exact G) (λv o=>by rw[Γne id v e];exact o) λy hy=>rfl
 .rcases l id r1 f with⟨rfl,d⟩|⟨j,d⟩<;>rcases l c p i with⟨rfl,w⟩|⟨e2,w⟩
  .rfl
  .rw[ρeq]at hy;rw[ρne c e2]at b;exact absurd t.symm ((m y hy).1 c p s w b)
  .rw[ρeq]at b;rw[ρne id j]at hy;exact absurd t ((m s b).1 id r1 y d hy)
  rw[ρne id j]at hy;rw[ρne c e2]at b;exact h.inj id c r1 p y s d w hy b t
 .rcases l id r' f with⟨rfl,d⟩|⟨j,d⟩
  .rw[ρeq]at hy;exact(m y hy).2.1
  rw[ρne id j]at hy;exact h.sep id r' y d D hy
 rw[A]at B;rcases l id r' f with⟨rfl,d⟩|⟨j,d⟩
 .rw[ρeq]at hy;exact(m y hy).2.2
 rw[ρne id j]at hy;exact h.lk id r' y d B hy
def FR (S:Wo)(H:aH)(E E':Mem)(rs:List gj)(xs:aW):Prop :=
 ∃S',S.le S'/\LV S' (nL rs H).1 xs/\Rel S' (nL rs H).2 E'/\S'.F=S.F/\H.next<=(nL rs H).2.next/\(nL rs H).2.lk=H.lk/\(nL rs H).2.par=H.par /\
  (∀id,id<H.next->(nL rs H).2.get id=H.get id/\S'.ρ id=S.ρ id)/\(∀id q z,H.next<=id->(nL rs H).2.get id=some q->S'.ρ id=some z->E.size<=z.1)
theorem CV {S1:Wo}{D:aH}{E E':Mem}(O:Rel S1 D E')(A:∀id r y,D.get id=some r->r.Cm=false->S1.ρ id=some y->E.size<=y.1)(P:E'.lk<=E.size):∀{vs:aI} {rs:List gj} {seen:cY} {xs:aW} {S:Wo} {H:aH},uQ D seen vs rs->LV S1 vs xs->Rel S H E' ->
 (∀i,S.F i≠none->i<E.size)->(∀id q z,H.get id=some q->S.ρ id=some z->z.1<E.size\/∃k y,k∈seen/\S1.ρ k=some y/\y.1=z.1/\D.get k≠none) ->
 FR S H E E' rs xs
 |[],[],seen,xs,S,H,_,hl,I,hF,o=>by
  rw[hl.kI];exact⟨S,S.le_refl,LV.nil,I,rfl,aG _,rfl,rfl,λ_ _=>⟨rfl,rfl⟩,λid q z d G _=>absurd (aH.fM G) (by show ¬id<H.next;omega)⟩
 |v::vs,r0::rs,seen,xs,S,H,h,hl,I,hF,o=>by
  obtain⟨x,xs',rfl,J,h2⟩:=hl.cons_inv;have p6:∀v,S.Γ H.next v=none:=λv=>I.D5 _ _ (aG _)
  -- how to go on behind a row more
  have go:∀(t:TypeId) (e:Ty) (l:List e.den) (ex:Bool) (vv:AV) (f:cY) (y:Option (Nat×Nat×Nat)),(nL (r0::rs) H=(vv::(nL rs (H.push (.list t e l 0 ex false))).1,(nL rs (H.push (.list t e l 0 ex false))).2))->uQ D f vs rs->S.le (S.new H.next y (some ⟨e,l⟩))->Rel (S.new H.next y (some ⟨e,l⟩)) (H.push (.list t e l 0 ex false)) E'->VR (S.new H.next y (some ⟨e,l⟩)) vv x ->
   (∀z,y=some z->E.size<=z.1/\∃k M,k∈f/\S1.ρ k=some M/\M.1=z.1/\D.get k≠none)->(∀id,id∈seen->id∈f)->FR S H E E' (r0::rs) (x::xs'):=λt e l ex vv f y heq Q hle R hvr hy T=>by
   obtain⟨p1,p2,p3,p4⟩:=aH.eG H (.list t e l 0 ex false);have K:∀id q z,(H.push (.list t e l 0 ex false)).get id=some q->(S.new H.next y (some ⟨e,l⟩)).ρ id=some z->z.1<E.size\/∃k y,k∈f/\S1.ρ k=some y/\y.1=z.1/\D.get k≠none:=λid q z G j=>by
    rw[p4]at G;by_cases d:id=H.next
    .subst d;have j:y=some z:=by rw[<-j];exact(ag rfl).symm
     exact .inr (hy z j).2
    rw[aa d]at G;have j:S.ρ id=some z:=by rw[<-j];exact(aa d).symm
    rcases o id q z G j with h|⟨k,M,k1,k2⟩
    .exact .inl h
    exact .inr ⟨k,M,T _ k1,k2⟩
   obtain⟨S',a1,a2,a3,a4,a5,a6,a7,a8,a9⟩:=CV O A P Q h2 R hF K;rw[p1]at a5 a8 a9;rw[p2]at a6;rw[p3]at a7;unfold FR;rw[heq];exact
    ⟨S',Wo.le_trans hle a1,LV.cons (hvr.mono a1) a2,a3,a4,by show H.next<=_;exact bA (gx _) a5,a6,a7,λid d=>by
     obtain⟨b1,b2⟩:=a8 id (by omega);refine⟨b1.trans (by rw[p4,aa (by omega)]),b2.trans (aa (by omega))⟩,λid q z d G j=>by
     by_cases U:id=H.next
     .subst U;have:S'.ρ H.next=(S.new H.next y (some ⟨e,l⟩)).ρ H.next:=(a8 H.next (by omega)).2
      rw[this]at j;have j:y=some z:=by rw[<-j];exact(ag rfl).symm
      exact(hy z j).1
     exact a9 id q z (by omega) G j⟩
  -- a row that is N
  have p:∀{id:Nat} {q0:Row} {s V s0:Nat},D.get id=some q0->q0.Cm=false->S1.ρ id=some (s,V,s0)->id ∉ seen->E.size<=s/\((∀Ez q z,H.get Ez=some q->S.ρ Ez=some z->z.1≠s)/\S.F s=none/\E'.lk<=s):=λ{id q0 s V s0} C hro hρ B=>by
   have u:=A id _ _ C hro hρ;simp only at u;refine⟨u,λEz q z G j he=>?_,?_,by omega⟩
   .rcases o Ez q z G j with h3|⟨k,M,k1,k2,k3,k4⟩
    .omega
    cases W:D.get k with
    |none=>exact absurd W k4
    |some r1 =>
     have:=O.inj k id r1 _ M _ W C k2 hρ (by simp only;omega);subst this;exact B k1
   cases hFi:S.F s with
   |none=>rfl
   |some cs=>have:=hF s (by rw[hFi];simp);omega
  cases r0 with
  |val w =>
   obtain⟨rfl,hs,h⟩:=h;obtain⟨S',a1,a2,a3⟩:=CV O A P h h2 I hF o;exact⟨S',a1,LV.cons (SN hs J) a2,a3⟩
  |room t e l len =>
   obtain⟨Y,id,iL,rfl,C,B,h⟩:=h;obtain⟨g1,⟨g0,g,g2,g2'⟩,g3⟩:=O.row id _ C;generalize Nk:l.length=n at J;generalize hlz:(0:Nat)=zz at J;cases J with
   |tc _ _ _ _ s c0 s0 hρ g' Z hcc ass =>
    subst hlz;subst Nk;rcases g3 with⟨_,g5,_⟩|⟨i',cap,b,mid,post,q1,q2,q3,q4,q5,q6,q7,q8,q9,zw⟩
    .rw[hρ]at g5;cases g5
    rw[hρ]at q1;cases q1;obtain⟨u,L⟩:=p C rfl hρ B;obtain⟨b1,b2⟩:=I.zP (r:=.list t e l 0 true false) (x:=some (s,c0,e.size)) (g:=some ⟨e,l⟩) (λr' m=>by
     cases m;exact mJ p6 q2 q3 q4 (q5.mono λx c=>CR.IW e Y x c) q6 q7 q8 (λ_=>q9 rfl) (zw.2.imp λl2 h=>h.mono λx c=>CR.IW e Y x c)) (λy hy=>by cases hy;exact L)
    refine go t e l true _ (id::seen) _ rfl h b1 b2 (.tc _ 0 len l.length s c0 e.size (ag rfl) ⟨e,l⟩ (ag ⟨rfl,rfl⟩) (by simp) ass) (λz j=>?_) (λid d=>bI _ d);cases j;exact⟨u,id,_,cq,hρ,rfl,by rw[C];simp⟩
  |list t e l =>
   obtain⟨Y,h⟩:=h;rcases h with⟨id,iL,ex,rfl,C,B,h⟩|⟨rfl,rfl,h⟩
   .obtain ⟨g1,⟨g0,g,g2,g2'⟩,g3⟩:=O.row id _ C;have hCR:∀{mid:aW},ow (CR S1.F e) l mid->ow (CR S.F e) l mid:=λhC=>hC.mono λx c=>CR.IW e Y x c
    generalize Nk:l.length=n at J;cases J with
    |own _ _ s V s0 hρ g' Z hn' =>
     rcases g3 with⟨_,g5,_⟩|⟨i',cap,b,mid,post,q1,q2,q3,q4,q5,q6,q7,q8,q9,zw⟩
     .rw[hρ]at g5;cases g5
     rw[hρ]at q1;cases q1;subst Nk;obtain⟨u,L⟩:=p C rfl hρ B;obtain⟨b1,b2⟩:=I.zP (r:=.list t e l 0 false false) (x:=some (s,V,e.size)) (g:=some ⟨e,l⟩) (λr' m=>by
      cases m;exact mJ p6 q2 q3 q4 (hCR q5) q6 q7 q8 (λh=>by cases h) (zw.2.imp λl2 h=>h.mono λx c=>CR.IW e Y x c)) (λy hy=>by cases hy;exact L)
     refine go t e l false _ (id::seen) _ rfl h b1 b2 (.own _ _ s V e.size (ag rfl) ⟨e,l⟩ (ag ⟨rfl,rfl⟩) rfl) (λz j=>?_) (λid d=>bI _ d);cases j;exact⟨u,id,_,cq,hρ,rfl,by rw[C];simp⟩
    |iw _ g' Z hn' =>
     have hl0:l=[]:=aS.1 Nk;subst hl0;obtain⟨b1,b2⟩:=I.zP (r:=.list t e [] 0 false false) (x:=none) (g:=some ⟨e,[]⟩) (λr' m=>by cases m;exact mK p6) (λy hy=>by cases hy);exact go t e [] false _ (id::seen) none rfl h b1 b2 (.iw _ ⟨e,[]⟩ (ag ⟨rfl,rfl⟩) rfl) (λz j=>by cases j) (λid d=>bI _ d)
   cases J;obtain⟨b1,b2⟩:=I.zP (r:=.list t e [] 0 false false) (x:=none) (g:=some ⟨e,[]⟩) (λr' m=>by cases m;exact mK p6) (λy hy=>by cases hy);exact go t e [] false _ seen none rfl h b1 b2 (.iw _ ⟨e,[]⟩ (ag ⟨rfl,rfl⟩) rfl) (λz j=>by cases j) (λid d=>d)
def SP:AV->Bool
 |.fl _=>true
 |a=>vH a
theorem X3 {S S':Wo}{v:AV}{x:Value}(h:SP v=true)(b:VR S v x):VR S' v x:=by
 cases v with
 |fl a=>cases b with|fl _ _ h=>exact .fl _ _ h
 |_=>exact SN h b
def FT (H:aH)(a b:AV):Prop:=(a=b/\SP a=true)\/(∃e l,b = .eC e l/\DB H e a=some l/\∀s,a ≠ .str s)
def SQ (H:aH)(a b:AV):Prop:=FT H a b\/∃l c,a = .agg l/\b = .agg c/\l.length=c.length/\∀(j:Nat) x y,l[j]? = some x->c[j]? = some y->FT H x y
section
variable {X:ji} {cf:Nat×Nat->Ev.dx}
def QF (X:ji)(cf:Nat×Nat->Ev.dx)(f:FuncId)(args:aI)(vs:aI)(a:aH):Prop :=
 ∀(S:Wo) (E:Mem) (b:aW),Rel S aH.empty E->gi X S->LV S args b ->
  ∃S' c E',(∃N,∀n:Nat×Nat,N<=n.1/\N<=n.2->cf n f b E=some (c,E'))/\(∃xs,c=Ev.xH xs/\LV S' vs xs)/\Rel S' a E'/\CS S aH.empty E S' a E'
theorem rO (j:Nat):aH.empty.get j=none:=by
 rw[aH.get_eq];simp[aH.empty]
theorem CW (F:Nat->Option aW)(E:Mem)(a:∀i cs,F i=some cs->∃b,alive E i=some b/\b.cells=cs)(c:E.lk<=E.size):Rel ⟨F,λ_=>none,λ_ _=>none⟩ aH.empty E :=
 ⟨a,λ_ _ h=>(by cases h),λ_ _ _=>rfl,λid r h=>(by rw[rO]at h;cases h),λid d r r' x e h=>(by rw[rO]at h;cases h),λid r x h=>(by rw[rO]at h;cases h),λid r x h=>(by rw[rO]at h;cases h),aG _,aG _,c⟩
noncomputable def n9 (E:Mem):Nat->Option aW:=λi=>(alive E i).map (·.cells)
theorem SU {S:Wo}{H:aH}{E:Mem}(u:Rel S H E){a b:AV}{x:Value}(h:FT H a b)(m:VR S a x):VR ⟨n9 E,λ_=>none,λ_ _=>none⟩ b x:=by
 have o:∀i cs,S.F i=some cs->n9 E i=some cs:=λi cs hi=>by
  obtain⟨j,v,w⟩:=u.fz i cs hi;show (alive E i).map (·.cells)=_
  rw[v];simp[w]
 rcases h with⟨rfl,G⟩|⟨e,l,rfl,d,y⟩
 .exact X3 G m
 refine .eC e l x ?_;have z:∀{l:List e.den} {mid:aW},ow (CR S.F e) l mid->ow (CR (n9 E) e) l mid:=λA=>A.mono λx c=>CR.mono o e x c
 have row:∀(i:Nat) (j:kV),alive E i=some j->n9 E i=some j.cells:=λi j I=>by show (alive E i).map (·.cells)=_;rw[I];rfl
 unfold DB at d;split at d
 .rename_i t k;obtain⟨p,f⟩:=cr d;subst p;have f:k=l:=f;subst f;cases m with
  |eC _ _ _ J=>exact J.mono o
 .cases d;cases m;exact .inl ⟨rfl,.inl rfl⟩
 .rename_i id n;split at d
  .rename_i K t k iL ex L B;obtain⟨p,f⟩:=cr d;subst p;have f:k=l:=f;subst f;obtain⟨S',k1,k2,k3,M⟩:=wK u B;obtain⟨rfl,d⟩:=M n x m;rcases d with⟨rfl,rfl⟩|⟨i,mid,post,cap,rfl,N,A,q⟩
   .exact .inl ⟨rfl,.inl rfl⟩
   obtain⟨j,b1,b2⟩:=k2.fz i _ N;refine .inr ⟨i,[],mid,post,cap,rfl,by show n9 E i=_;rw[row i j b1,b2];rfl,?_,q⟩;exact A.mono λx c=>CR.mono (λi cs hi=>by
    obtain⟨j,v,w⟩:=k2.fz i cs hi;show n9 E i=_;rw[row i j v,w]) t x c
  cases d
 .rename_i id off len O;split at d
  .rename_i K t k iL ex L B;split at d
   .rename_i P Q;cases d;obtain⟨p,f⟩:=cr Q;subst p;have f:k=P:=f;subst f;obtain⟨g1,⟨_,g,R,T⟩,U⟩:=u.row id _ B;cases m with
    |tc _ _ _ _ C c0 s0 hρ g' r V Nk =>
     rw[R]at r;cases r;rcases U with⟨_,D,_⟩|⟨i',cap,b,mid,post,q1,q2,q3,W,Y,q6,q7,q8,q9,zw⟩
     .rw[hρ]at D;cases D
     rw[hρ]at q1;cases q1;have hlen:((k.drop off).take len).length=len:=by simp;omega
     have:=SR.cut (cap:=O+off) (a:=(off:Int)) (b:=((off+len:Nat):Int)) (pre:=[]) (post:=post) (F:=n9 E) (i:=C) (λx c=>CR.length t x c) (by rw[row C b q2,W];rfl) (z Y) (by omega) (by omega) (by omega) (by omega);have Z:dZ k (off:Int) ((off+len:Nat):Int)=(k.drop off).take len:=by
      simp only[dZ,bf];congr 1;omega
     rw[Z]at this;simp only[bf,bK,cj,kY,Nat.add_sub_cancel]at this;exact this
   cases d
  cases d
 .rename_i s;exact absurd rfl (y s)
 cases d
theorem aih {S:Wo}{H:aH}{E:Mem}(c:Rel S H E){a b:AV}{x:Value}(h:SQ H a b)(d:VR S a x):VR ⟨n9 E,λ_=>none,λ_ _=>none⟩ b x:=by
 rcases h with h|⟨l,f,rfl,rfl,g,i⟩
 .exact SU c h d
 cases d with
 |agg _ m k n =>
  refine .agg f m (g.symm.trans k) λj y z hy o=>?_
  have p:=fM hy;have e:j<l.length:=by omega
  exact SU c (i j l[j] y (aR e) hy) (n j _ z (aR e) o)
theorem QF.ast {f:FuncId}{args c vs:aI}{B:aH}{rs:List gj}(h:QF X cf f args vs B)(o:uQ B [] vs rs){H:aH}(m:c.length=args.length)(G:∀(j:Nat) a b,c[j]? = some a->args[j]? = some b->SQ H a b) :
 KL X cf f c H (tf (nL rs H).1) (nL rs H).2:=by
 intro S E C l I p;have v:∀i cs,S.F i=some cs->n9 E i=some cs:=λi cs hi=>by
  obtain⟨V,e,k⟩:=l.fz i cs hi;show (alive E i).map (·.cells)=_
  rw[e];simp[k]
 have J:Rel ⟨n9 E,λ_=>none,λ_ _=>none⟩ aH.empty E:=CW _ E (λi cs hi=>by
  have hi:(alive E i).map (·.cells)=some cs:=hi
  simp only[aO]at hi;obtain⟨b,e,k⟩:=hi;exact⟨b,e,k⟩) l.ID
 have w:LV ⟨n9 E,λ_=>none,λ_ _=>none⟩ args C:=⟨by rw[<-m];exact p.1,λj b x u K=>by
  have L:=fM u;have k:j<c.length:=by omega
  exact aih l (G j c[j] b (aR k) u) (p.2 j _ x (aR k) K)⟩
 obtain⟨S1,W,E',a1,⟨xs,rfl,a2⟩,M,n⟩:=h _ E C J (I.mono' v) w;have j6:∀i,¬Own ⟨n9 E,λ_=>none,λ_ _=>none⟩ aH.empty i:=λi ⟨id,r,x,e,_⟩=>by rw[rO]at e;cases e
 have g:∀i,i<E.size->E'.get i=E.get i:=λi hi=>n.keep i hi (j6 i)
 have A:=l.grow n.sz n.lk g;obtain⟨S',b1,b2,b3,b4,b5,N,O,s,P⟩:=CV (E:=E) M (λid r y e k t=>by
  by_cases hy:y.1<E.size
  .exact absurd (n.own y.1 ⟨id,r,y,e,k,t,rfl⟩ hy) (j6 _)
  .omega) (by rw[n.lk];exact l.ID) o a2 A (λi hi=>by
  cases D:S.F i with
  |none=>exact absurd D hi
  |some cs=>obtain⟨b,e,_⟩:=l.fz i cs D;exact mI e) (λid q z Q R=>.inl (by obtain⟨b,u⟩:=l.old Q R;exact Mem.fM u))
 refine⟨S',Ev.xH xs,E',a1,b1,KW b2,b3,⟨n.sz,n.lk,N,O,b1.F,λi T hi=>?_,λi hi=>.inl (by rw[b4]at hi;exact hi),λi hi _=>g i hi,λid d=>(s id (cU d l.Nf)).2,b5,λid d p=>by rw[(s id d).1]at p;exact p,λid d U=>by rw[(s id d).2];exact U⟩⟩;obtain⟨id,q,y,e,k,t,rfl⟩:=T;by_cases d:id<H.next
 .rw[(s id d).1]at e;rw[(s id d).2]at t;exact⟨id,q,y,e,k,t,rfl⟩
 have:=P id q y (by omega) e t;omega
theorem acT {kn:Ev.fZ}{id:FuncId}(e:∀args,kn id args=none){call:∀ β,dz β}(a:∀ β,dO X (eM X kn) (call β)){an:fe}{rounds:Nat}{args vs:aI}{d:aH}
 (h:aT X (call (AV×aH)) an rounds id args aH.empty (λv H=>some (v,H))=some (tf vs,d)):∀(S:Wo) (E:Mem) (b:aW),Rel S aH.empty E->gi X S->LV S args b ->
 ∃S' c E',(∃N,∀n:Nat×Nat,N<=n.1/\N<=n.2->eM X kn n id b E=some (c,E'))/\VR S' (tf vs) c/\Rel S' d E'/\CS S aH.empty E S' d E':=by
 obtain⟨v',o,f,g⟩:=mH (nf:=false) (a _) (λh=>by cases h) h;cases f;intro S E b i j k;obtain⟨S',c,E',a1,a2,l,m,_⟩:=g S E b i j k;exact⟨S',c,E',iy e a1,a2,l,m⟩
end
end Go.Tv

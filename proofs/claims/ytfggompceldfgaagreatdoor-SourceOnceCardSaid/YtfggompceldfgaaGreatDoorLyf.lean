/- All operations of the layer, steps, regions. Steps, regions and code of the layer beside the evaluator's. Regions, notes, loops, code of the layer beside the evaluator's. Frames and memories made alike; loops, code, functions. Code and functions of the layer beside the evaluator's. Contracts of functions that are handed plain data and hand back plain data. -/
import Derived.Test.YtfggompceldfgaaGreatDoorLye
set_option linter.unusedVariables false
set_option linter.unusedSimpArgs false

namespace Go.Tv
open Go.Ev (Tr ah iD Mem jz alive av dD bF gC jl aY cD orElse)
def fm (X:gU)(S:Wo):Prop:=∀g,g<X.G->X.gv g≠[]->∃cs,S.F g=some cs/\∀T:Wo,(∀i x,S.F i=some x->T.F i=some x)->LV T (X.gv g) cs
theorem fm.mono' {X:gU}{S S':Wo}(h:fm X S)(hle:∀i x,S.F i=some x->S'.F i=some x):fm X S':=λg hg he=>let ⟨cs,h1,h2⟩:=h g hg he;⟨cs,hle _ _ h1,λT hT=>h2 T λi x hx=>hT i x (hle i x hx)⟩
theorem fm.mono {X:gU}{S S':Wo}(h:fm X S)(hle:S.le S'):fm X S':=h.mono' hle.F
def IC (X:gU)(cf:Nat×Nat->Ev.cH)(f:FuncId)(args:List AV)(H:aH)(v:AV)(H':aH):Prop :=
 ∀(S:Wo) (E:Mem) (bM:List Value),Rel S H E->fm X S->LV S args bM ->
  ∃S' vE E',(∃N,∀n:Nat×Nat,N<=n.1/\N<=n.2->cf n f bM E=some (vE,E'))/\S.le S'/\VR S' v vE/\Rel S' H' E'/\St S H E S' H' E'
def cT (X:gU)(cf:Nat×Nat->Ev.cH){β:Type}(call:cI β):Prop :=
 ∀f args H k (r:β),call f args H k=some r->∃v H',k v H'=some r/\IC X cf f args H v H'
def Ec (X:gU)(cf:Nat×Nat->Ev.cH)(o:Oper)(ev:Operand->AV)(H:aH)(v:AV)(H':aH):Prop :=
 ∀(S:Wo) (E:Mem) (bA:Operand->Value),Rel S H E->fm X S->(∀x∈o.op.operands,VR S (ev x) (bA x)) ->
  ∃S' vE E',(∃N,∀n:Nat×Nat,N<=n.1/\N<=n.2->jl X.P (cf n) bA o E=some (vE,E'))/\S.le S'/\VR S' v vE/\Rel S' H' E'/\St S H E S' H' E'
theorem eM.jm {X:gU}{cf:Nat×Nat->Ev.cH}{o:Oper}{ev:Operand->AV}{H H':aH}{v:AV}(h:eM X cf o ev H v H'):Ec X cf o ev H v H':=λS E bA hr _ cj=>h S E bA hr cj
section
variable {X:gU} {cf:Nat×Nat->Ev.cH} {o:Oper} {ev:Operand->AV} {H:aH} {β:Type} {r:β}
theorem K4 {x:Operand}(h:o.op = .move x\/o.op = .assign x):eM X cf o ev H (ev x) H:=.quiet λS E bA hr cj=>by
 rcases h with h|h
 .rw[h]at cj;exact⟨bA x,λcall=>by unfold jl;rw[h],cj x (by simp[Op.operands])⟩
 rw[h]at cj;exact⟨bA x,λcall=>by unfold jl;rw[h],cj x (by simp[Op.operands])⟩
theorem UL {c a b:Operand}{t:Bool}(h:o.op = .pick c a b)(hc:ev c = .bool t):eM X cf o ev H (ah t (ev a) (ev b)) H:=.quiet λS E bA hr cj=>by
 rw[h]at cj;have h1:=cj c (by simp[Op.operands]);rw[hc]at h1;refine⟨ah t (bA a) (bA b),λcall=>?_,?_⟩
 .unfold jl;rw[h];show Ev.Du (bA c) (bA a) (bA b) E=_;rw[h1.mg];rfl
 cases t
 .exact cj b (by simp[Op.operands])
 exact cj a (by simp[Op.operands])
theorem C4 {x:Operand}{v:AV}(h:o.op = .nilCheck x)(hv:ev x=v)(hk:(∃id off,v = .ptr id off)\/(∃id n,v = .D1 id n)\/(∃cs,v = .yG cs)\/∃f a b,v = .fn f a b):eM X cf o ev H v H:=.quiet λS E bA hr cj=>by
 rw[h]at cj;have h1:=cj x (by simp[Op.operands]);refine⟨bA x,λcall=>?_,by rw[<-hv];exact h1⟩;unfold jl;rw[h];show Ev.r8 (bA x) E=_;rw[hv]at h1;rcases hk with⟨id,off,rfl⟩|⟨id,n,rfl⟩|⟨cs,rfl⟩|⟨f,a,b,rfl⟩<;>(generalize bA x=A at h1;cases h1;rfl)
theorem K5 {x:Operand}{i:Nat}{vs:List AV}{v:AV}(h:o.op = .extract x i)(hx:ev x = .fH vs)(hv:vs[i]? = some v):eM X cf o ev H v H:=.quiet λS E bA hr cj=>by
 rw[h]at cj;have h1:=cj x (by simp[Op.operands]);rw[hx]at h1;generalize hA:bA x=A at h1;cases h1 with
 |fH _ m hl hm =>
  obtain⟨y,hy,hvy⟩:=LV.get (S:=S) ⟨hl,hm⟩ hv;refine⟨y,λcall=>?_,hvy⟩;unfold jl;rw[h];show Ev.rR (bA x) i E=_;rw[hA];simp only[Ev.rR,hy];rfl
theorem ID {f:FuncId}{first captured:Array Operand}(h:o.op = .makeFunc (.func f) first captured):eM X cf o ev H (.fn f (first.toList.map ev) (captured.toList.map ev)) H:=.quiet λS E bA hr cj=>by
 rw[h]at cj;refine⟨.func (.func f) (first.map bA) (captured.map bA),λcall=>by unfold jl;rw[h],?_⟩;have e1:first.map bA=(first.toList.map bA).toArray:=by apply kB.1;rw[Array.toList_map]
 have e2:captured.map bA=(captured.toList.map bA).toArray:=by apply kB.1;rw[Array.toList_map]
 rw[e1,e2];have l1:=LV.map (S:=S) (f:=ev) (g:=bA) first.toList λx hx=>cj x (by show x∈first++captured;rw[Array.mem_append];exact .inl (by simpa using hx))
 have l2:=LV.map (S:=S) (f:=ev) (g:=bA) captured.toList λx hx=>cj x (by show x∈first++captured;rw[Array.mem_append];exact .inr (by simpa using hx))
 exact .fn f _ _ _ _ l1.1 l2.1 l1.2 l2.2
theorem Zf {c:Call}{x y:Operand}{a b:Int}{ka kb:IntKind}(hop:o.op = .call c)(hc:c.callee = .builtin .max)(h0:c.args = #[x,y])(hx:ev x = .int ka a)(hy:ev y = .int kb b) :
 eM X cf o ev H (.int ka (ah (Ev.bB a b) b a)) H:=.quiet λS E bA hr cj=>by
 rw[hop]at cj;have hx':=cj x (by simp[Op.operands,Call.operands,hc,h0]);have hy':=cj y (by simp[Op.operands,Call.operands,hc,h0]);rw[hx]at hx';rw[hy]at hy';generalize hA:bA x=A at hx';generalize hB:bA y=B at hy';cases hx';cases hy';refine⟨.int ka (ah (Ev.bB a b) b a),λcall=>?_,.int _ _⟩;unfold jl;rw[hop];show Ev.eo X.P call bA o c E=_;unfold Ev.eo;rw[hc];show cD E (gC X.P bA o)=_;have hp:gC X.P bA o=some (.int ka (ah (Ev.bB a b) b a)):=by
  refine wE (λcs b=>by rw[hop];simp) ?_ ?_ rfl
  .unfold Ev.cZ;rw[hop];simp[Op.operands,Call.operands,hc,h0,hA,hB,aY]
  rw[av,Ev.cB];simp[execOp,hop,resolve,invoke,builtin,hc,h0,hA,hB,Builtin.max_,Builtin.max2];rfl
 rw[hp];rfl
theorem Zg {c:Call}{x:Operand}{t te:TypeId}{id off len cap:Nat}{t':TypeId}{e:Ty}{l:List e.den}{gu:Nat}{ro:Bool}(hop:o.op = .call c)(hc:c.callee = .builtin .cap)(h0:c.args[0]? = some x)(h1:c.argTypes[0]? = some t)(hu:X.P.underlying t=some (.slice te))(hx:ev x = .rH id off len cap)(hg:H.get id=some (.list t' e l gu true ro)) :
 eM X cf o ev H (.int .i64 cap) H:=.quiet λS E bA hr cj=>by
 rw[hop]at cj;have hx':=cj x (by
  have:=aX h0;simp only[Op.operands,Call.operands,hc];simpa using this)
 rw[hx]at hx';obtain⟨g1,⟨g0,g,g2,g2'⟩,g3⟩:=hr.row id _ hg;generalize hA:bA x=A at hx';cases hx' with
 |rH _ _ _ _ i0 c0 s0 hρ g' hg' hcc KU =>
  rcases g3 with⟨_,g5,_⟩|⟨i',cap',b,mid,post,q1,q2,q3,q4,q5,q6,q7,q8,q9,xV⟩
  .rw[hρ]at g5;cases g5
  rw[hρ]at q1;cases q1;refine⟨goInt cap,λcall=>?_,.int _ _⟩;unfold jl;rw[hop];show Ev.eo X.P call bA o c E=_;unfold Ev.eo;rw[hc];show Ev.tR X.P bA c.args c.argTypes E=_;unfold Ev.tR;rw[h0,h1];show cD E (Ev.Cw X.P E t (bA x))=_;rw[hA];simp only[Ev.Cw,hu,q2,(q9 rfl).1];rfl
theorem K6 {c:Call}{x:Operand}{t te:TypeId}{id n:Nat}{t':TypeId}{e:Ty}{l:List e.den}{gu:Nat}{ro:Bool}(hop:o.op = .call c)(hc:c.callee = .builtin .cap)(h0:c.args[0]? = some x)(h1:c.argTypes[0]? = some t)(hu:X.P.underlying t=some (.slice te))(hx:ev x = .own id n)(hg:H.get id=some (.list t' e l gu true ro)) :
 eM X cf o ev H (.int .i64 n) H:=.quiet λS E bA hr cj=>by
 rw[hop]at cj;have hx':=cj x (by
  have:=aX h0;simp only[Op.operands,Call.operands,hc];simpa using this)
 rw[hx]at hx';obtain⟨g1,⟨g0,g,g2,g2'⟩,g3⟩:=hr.row id _ hg;generalize hA:bA x=A at hx';cases hx' with
 |own _ _ i0 c0 s0 hρ g' hg' hn =>
  rcases g3 with⟨_,g5,_⟩|⟨i',cap',b,mid,post,q1,q2,q3,q4,q5,q6,q7,q8,q9,xV⟩
  .rw[hρ]at g5;cases g5
  rw[hρ]at q1;cases q1;rw[g2]at hg';cases hg';have hcn:c0=n:=by have:=(q9 rfl).2.2;omega
  subst hcn;refine⟨goInt c0,λcall=>?_,.int _ _⟩;unfold jl;rw[hop];show Ev.eo X.P call bA o c E=_;unfold Ev.eo;rw[hc];show Ev.tR X.P bA c.args c.argTypes E=_;unfold Ev.tR;rw[h0,h1];show cD E (Ev.Cw X.P E t (bA x))=_;rw[hA];simp only[Ev.Cw,hu,q2,(q9 rfl).1];rfl
 |fY _ g' hg' hn =>
  refine⟨goInt 0,λcall=>?_,.int _ _⟩;unfold jl;rw[hop];show Ev.eo X.P call bA o c E=_;unfold Ev.eo;rw[hc];show Ev.tR X.P bA c.args c.argTypes E=_;unfold Ev.tR;rw[h0,h1];show cD E (Ev.Cw X.P E t (bA x))=_;rw[hA];simp only[Ev.Cw,hu];rfl
theorem K7 {c:Call}{x:Operand}{t te:TypeId}(hop:o.op = .call c)(hc:c.callee = .builtin .cap)(h0:c.args[0]? = some x)(h1:c.argTypes[0]? = some t)(hu:X.P.underlying t=some (.slice te))(hx:ev x = .dg) :
 eM X cf o ev H (.int .i64 0) H:=.quiet λS E bA hr cj=>by
 rw[hop]at cj;have hx':=cj x (by
  have:=aX h0;simp only[Op.operands,Call.operands,hc];simpa using this)
 rw[hx]at hx';generalize hA:bA x=A at hx';cases hx' with
 |dg =>
  refine⟨goInt 0,λcall=>?_,.int _ _⟩;unfold jl;rw[hop];show Ev.eo X.P call bA o c E=_;unfold Ev.eo;rw[hc];show Ev.tR X.P bA c.args c.argTypes E=_;unfold Ev.tR;rw[h0,h1];show cD E (Ev.Cw X.P E t (bA x))=_;rw[hA];simp only[Ev.Cw,hu];rfl
theorem UM {c:Call}{fo:Operand}{id:FuncId}{a b:List AV}{fn:Func}{cd:Code}{v:AV}{H':aH}(hop:o.op = .call c)(hc:c.callee = .value fo)(hf:ev fo = .fn id a b)(hfn:X.P.funcs[id]? = some fn)(hbody:fn.body=some cd)(h:IC X cf id (a++(c.args.toList.map ev++b)) H v H'):Ec X cf o ev H v H':=by
 intro S E bA hr hg cj;rw[hop]at cj;have h1:=cj fo (by simp[Op.operands,Call.operands,hc]);rw[hf]at h1;have h2:=LV.map (S:=S) (f:=ev) (g:=bA) c.args.toList λx hx=>cj x (by simp[Op.operands,Call.operands,hc];exact .inr (by simpa using hx))
 generalize hA:bA fo=A at h1;cases h1 with
 |fn _ _ _ a' b' ha hb va vb =>
  obtain⟨S',vE,E',⟨N,k1⟩,k2,k3,k4,k5⟩:=h S E (a'++(c.args.toList.map bA++b')) hr hg ((show LV S a a' from ⟨ha,va⟩).append (h2.append ⟨hb,vb⟩));refine⟨S',vE,E',⟨N,λn hn=>?_⟩,k2,k3,k4,k5⟩;unfold jl;rw[hop];show Ev.eo X.P (cf n) bA o c E=_;unfold Ev.eo;rw[hc];simp only[hA];have:Ev.pV X.P (cf n) (.func (.func id) a'.toArray b'.toArray) (c.args.toList.map bA) E=some (vE,E'):=by
   simp only[Ev.pV,hfn,hbody,Option.isSome_some];exact k1 n hn
  rw[this]
theorem IE {P:Program}{id:FuncId}(h:s7 P id=true):∃fn cd,P.funcs[id]? = some fn/\fn.body=some cd:=by
 unfold s7 at h;split at h
 .rename_i fn hfn;obtain⟨cd,hcd⟩:=bV.1 h;exact⟨fn,cd,hfn,hcd⟩
 cases h
theorem UN {S:Wo}{a:AV}{v x:Value}(h:toV a=some v)(hx:VR S a x):x=v/\aY v=true:=by
 unfold toV at h;split at h
 .cases h;exact⟨hx.fR,rfl⟩
 .cases h;exact⟨hx.mg,rfl⟩
 .cases h;exact⟨hx.jo,rfl⟩
 .cases h;cases hx;exact⟨rfl,rfl⟩
 .cases h;cases hx with
  |fn _ _ _ a' b' ha hb va vb =>
   have:a'=[]:=aQ.1 ha.symm;subst this;have:b'=[]:=aQ.1 hb.symm;subst this;exact⟨rfl,rfl⟩
 .rw[av]at h;split at h
  .rename_i hf;cases h;cases hx;exact⟨rfl,hf⟩
  cases h
 cases h
theorem IG {S:Wo}{v:Value}(h:aY v=true):VR S (ofR v) v:=by
 unfold ofR;split
 .rename_i cs;have hc:∀v∈cs.toList,aY v=true:=by
   have h:Ev.mw cs=true:=h;obtain⟨l⟩:=cs;exact Bf h
  have e:Value.tuple cs = .tuple (cs.toList).toArray:=by simp
  rw[e];have:=LV.map (S:=S) (f:=Nv) (g:=λv=>v) cs.toList λv hv=>yP (hc v hv)
  rw[List.map_id'']at this
  .exact .fH _ _ this.1 this.2
  intro x;rfl
 rename_i hn;unfold ofV;split
 .rename_i cs;have hc:=yQ h;have e:Value.agg cs = .agg (cs.toList).toArray:=by simp
  rw[e];have:=LV.map (S:=S) (f:=Nv) (g:=λv=>v) cs.toList λv hv=>yP (hc v (by simpa[Value.cells] using hv))
  rw[List.map_id'']at this
  .exact .agg _ _ this.1 this.2
  intro x;rfl
 exact yP h
theorem Cg {c:Call}{fo:Operand}{id:FuncId}{bA:Operand->Value}{a' b':List Value}(hop:o.op = .call c)(hc:c.callee = .value fo)(hA:bA fo = .func (.func id) a'.toArray b'.toArray)(hb:s7 X.P id=false)(call:Ev.cH)(E:Mem) :
 jl X.P call bA o E=Ev.Dv X.P bA o (bA fo) (c.args.toList.map bA) E:=by
 unfold jl;rw[hop];show Ev.eo X.P call bA o c E=_;unfold Ev.eo;rw[hc];have:Ev.pV X.P call (bA fo) (c.args.toList.map bA) E=none:=by
  rw[hA];unfold s7 at hb;simp only[Ev.pV];cases hfn:X.P.funcs[id]? with
  |none=>rfl
  |some fn =>
   rw[hfn]at hb;simp only at hb;simp only[hb]
 simp only[this]
theorem zX (hsel:∀cs b,o.op ≠ .select cs b){k:AV->Option β}(h:CD X ev o k=some r):∃v,k (ofR v)=some r/\aY v=true/\∀(S:Wo) (bA:Operand->Value),(∀x∈o.op.operands,VR S (ev x) (bA x))->gC X.P bA o=some v:=by
 unfold CD at h;rw[av]at h;split at h;case isFalse=>cases h
 rename_i hall;split at h;case h_2=>cases h
 rename_i v hv;rw[av]at h;split at h;case isFalse=>cases h
 rename_i hfree;refine⟨v,h,hfree,λS bA cj=>?_⟩;have heq:∀x∈o.op.operands,bA x=PM (toV (ev x))/\aY (bA x)=true:=λx hx=>by
  have h1:=aP.1 hall x (by simpa using hx);obtain⟨y,hy⟩:=bV.1 h1;obtain⟨e1,e2⟩:=UN hy (cj x hx);rw[hy];exact⟨e1,by rw[e1];exact e2⟩
 refine wE hsel ?_ ?_ hfree
 .unfold Ev.cZ;exact aP.2 λx hx=>(heq x (by simpa using hx)).2
 rw[execOp_congr o hsel (λx hx=>(heq x hx).1)];exact hv
theorem Zh {op:BinOp}{t t':TypeId}{x y:Operand}(hop:o.op = .binOp op t x y t')(hx:aiO (ev x)=true){k:AV->Option β}(h:CD X ev o k=some r):∃v,k v=some r/\eM X cf o ev H v H:=by
 obtain⟨v,h1,hfree,h2⟩:=zX (λcs b=>by rw[hop];simp) h;refine⟨_,h1,.quiet λS E bA hr cj=>⟨v,λcall=>?_,IG hfree⟩⟩;have hp:=h2 S bA cj;have hvx:=cj x (by rw[hop];simp[Op.operands]);unfold jl;rw[hop];show Ev.vQ X.P bA o op t (bA x) (bA y) E=_;cases hA:ev x with
 |pZ n =>
  rw[hA]at hvx;generalize bA x=z at hvx;cases hvx;unfold Ev.vQ;rw[hp];have e1:Ev.Ds op (.float .f64 n) (bA y)=none:=by cases bA y<;>rfl
  have e2:Ev.tQ X.P op t (.float .f64 n) (bA y)=none:=by
   unfold Ev.tQ;split<;>first|rfl|(rename_i h1 h2 h3;cases h2)|rfl
  rw[e1,e2];rfl
 |_=>rw[hA]at hx;cases hx
theorem RW {s d:TypeId}{x:Operand}(hop:o.op = .convert s d x)(hd:adV X.P d=true){k:AV->Option β}(h:CD X ev o k=some r):∃v,k v=some r/\eM X cf o ev H v H:=by
 obtain⟨v,h1,hfree,h2⟩:=zX (λcs b=>by rw[hop];simp) h;refine⟨_,h1,.quiet λS E bA hr cj=>⟨v,λcall=>?_,IG hfree⟩⟩;have hp:=h2 S bA cj;unfold jl;rw[hop];show Ev.kN X.P bA o s d (bA x) E=_;unfold Ev.kN;have e1:Ev.nS X.P d (bA x)=none:=by
  unfold adV at hd;unfold Ev.nS;split at hd
  .rename_i q hq;rw[hq]
  cases hd
 rw[e1,hp];cases X.P.underlying s<;>rfl
theorem Ed {c:Call}{b:Builtin}(hop:o.op = .call c)(hc:c.callee = .builtin b)(hb:b = .complex\/b = .real\/b = .imag){k:AV->Option β}(h:CD X ev o k=some r):∃v,k v=some r/\eM X cf o ev H v H:=by
 obtain⟨v,h1,hfree,h2⟩:=zX (λcs b=>by rw[hop];simp) h;refine⟨_,h1,.quiet λS E bA hr cj=>⟨v,λcall=>?_,IG hfree⟩⟩;have hp:=h2 S bA cj;unfold jl;rw[hop];show Ev.eo X.P call bA o c E=_;unfold Ev.eo;rw[hc];rcases hb with rfl|rfl|rfl;all_goals
  show cD E (gC X.P bA o)=_;rw[hp];rfl
theorem Zi {c:Call}{fo:Operand}{id:FuncId}{a b:List AV}(hop:o.op = .call c)(hc:c.callee = .value fo)(hf:ev fo = .fn id a b)(hb:s7 X.P id=false)(hsame:Ij X.P id=false){k:AV->Option β}(h:CD X ev o k=some r):∃v,k v=some r/\eM X cf o ev H v H:=by
 obtain⟨v,h0,hfree,h2⟩:=zX (λcs b=>by rw[hop];simp) h;refine⟨_,h0,.quiet λS E bA hr cj=>⟨v,λcall=>?_,IG hfree⟩⟩;have hp:=h2 S bA cj;have h1:=cj fo (by rw[hop];simp[Op.operands,Call.operands,hc]);rw[hf]at h1;generalize hA:bA fo=A at h1;cases h1 with
 |fn _ _ _ a' b' ha hbb va vb =>
  rw[Cg hop hc hA hb];have hno:Ev.vS X.P (bA fo)=false:=by
   rw[hA];unfold Ev.vS;split
   .rename_i id' heq';cases heq';exact hsame
   rfl
  unfold Ev.Dv;split
  .rw[hno,hp];rfl
  rw[hp];rfl
theorem RX {c:Call}{fo x:Operand}{id:FuncId}(hop:o.op = .call c)(hc:c.callee = .value fo)(hf:ev fo = .fn id [] [])(hb:s7 X.P id=false)(hsame:Ij X.P id=true)(hx:c.args.toList=[x]):eM X cf o ev H (ev x) H:=.quiet λS E bA hr cj=>by
 have h1:=cj fo (by rw[hop];simp[Op.operands,Call.operands,hc]);have h2:=cj x (by rw[hop];simp[Op.operands,Call.operands,hc];exact .inr (by rw[<-fu,hx];simp));refine⟨bA x,λcall=>?_,h2⟩;rw[hf]at h1;generalize hA:bA fo=A at h1;cases h1 with
 |fn _ _ _ a' b' ha hbb va vb =>
  have:a'=[]:=aQ.1 ha.symm;subst this;have:b'=[]:=aQ.1 hbb.symm;subst this;rw[Cg hop hc hA hb,hx];have hyes:Ev.vS X.P (bA fo)=true:=by rw[hA];exact hsame
  simp only[cu,ot,Ev.Dv,hyes]
theorem yS {P:Program}{t:TypeId}{d:TypeDesc}{z:Value}(h:Cc P t=some (d,z)):∃kt e,P.underlying t=some (.map kt e)/\P.underlying kt=some d/\Ev.l7 P e=some z/\Ev.sX d=true/\Ev.aY z=true:=by
 unfold Cc at h;split at h
 .rename_i kt e hu;split at h
  .rename_i d' z' h1 h2;rw[av]at h;split at h
   .rename_i hc;rw[ak,ak]at hc;cases h;exact⟨kt,e,hu,h1,h2,hc.1,hc.2.1⟩
   cases h
  cases h
 cases h
theorem II {t:TypeId}(hop:o.op = .makeMap t none)(hd:(Cc X.P t).isSome=true):eM X cf o ev H (.ye H.next) (H.push (.mf t [])):=by
 intro S E bA hr cj;obtain⟨⟨d,z⟩,hz⟩:=bV.1 hd;obtain⟨kt,e,hu,_⟩:=yS hz;obtain⟨E',hE⟩:=Mem.lU E ⟨[],t,false,true⟩;obtain⟨q1,q2,q3⟩:=Mem.dL hE;obtain⟨k1,k2,k3⟩:=hr.add (r:=.mf t []) (x:=some (E.size,0,0)) (g:=none) (by omega) q2 (λi hi=>by rw[q3,aa (by omega)]) (λr' hr'=>by
  cases hr';exact⟨E.size,0,0,⟨[],t,false,true⟩,ag rfl,by rw[q3,ag rfl],rfl,rfl,rfl⟩) (λy hy=>by cases hy;exact aG _) rfl
 refine⟨_,.map (some E.size),E',⟨0,λ_ _=>?_⟩,k1,.ye _ E.size 0 0 (ag rfl),k2,k3⟩;unfold jl;rw[hop];show Ev.nB X.P t none E=_;unfold Ev.nB;rw[hu];simp only[hE]
theorem yT {S:Wo}{d:TypeDesc}{a b:AV}{x y:Value}{r:Bool}(h:Gg d a b=some r)(ha:VR S a x)(hb:VR S b y):Ev.JT d x y=some r:=by
 unfold Gg at h;split at h
 .rename_i s q;have hx:=ha.jo;have hy:=hb.jo;subst hx;subst hy;cases h;show some (Ev.oy s.toArray.toList q.toArray.toList)=_;rw[Ev.lQ]
 .have hx:=ha.fR;have hy:=hb.fR;subst hx;subst hy;exact h
 cases h
theorem K8 {S:Wo}{d:TypeDesc}{a:AV}{x:Value}(h:Ba d a=true)(ha:VR S a x):Ev.aY x=true:=by
 unfold Ba at h;split at h
 .have hx:=ha.jo;subst hx;rfl
 .have hx:=ha.fR;subst hx;rfl
 cases h
theorem Gq {β:Type}{d:TypeDesc}{s:AV}{z:AV}{k:AV->Bool->Option β}{r:β}:∀{ks:List (AV×AV)},Up d s z k ks=some r ->
 ∃v b,k v b=some r/\∀(S:Wo) (xs:Value) (cs:List Value) (i:Nat),VR S s xs->MC S ks cs->(b=false/\v=z/\Ev.se d xs cs i=some none)\/(b=true/\∃j x,Ev.se d xs cs i=some (some (j,x))/\VR S v x)
 |[],h=>⟨z,false,h,λS xs cs i hs hc=>by
  have hc:cs=[]:=hc;subst hc;exact .inl ⟨rfl,rfl,rfl⟩⟩
 |q::ks,h=>by
  unfold Up at h;split at h;case h_2=>cases h
  rename_i b0 hb0;rw[av]at h;split at h
  .rename_i he;subst he;refine⟨q.2,true,h,λS xs cs i hs hc=>?_⟩;obtain⟨y,x,r',rfl,h0,h2,h3⟩:=hc;refine .inr ⟨rfl,i,x,?_,h2⟩;unfold Ev.se;rw[yT hb0 hs h0]
  rename_i he;have he:b0=false:=by simpa using he
  subst he;obtain⟨v,b,h1,h2⟩:=Gq h;refine⟨v,b,h1,λS xs cs i hs hc=>?_⟩;obtain⟨y,x,r',rfl,h0,h3,h4⟩:=hc;have:=h2 S xs r' (i+1) hs h4;unfold Ev.se;rw[yT hb0 hs h0];exact this
theorem RY {t:TypeId}{x q:Operand}{ok:Bool}(hop:o.op = .lookup t x q ok){id:Nat}(hx:ev x = .ye id){t':TypeId}{ks:List (AV×AV)}(hg:H.get id=some (.mf t' ks)){d:TypeDesc}{z:Value}(hz0:Cc X.P t=some (d,z)){k:AV->Option β}
 (h:ah (Nat.beq t' t&&ok&&Ba d (ev q)) (Up d (ev q) (.zR z) (λv b=>k (.fH [v,.bool b])) ks) none=some r):∃v,k v=some r/\eM X cf o ev H v H:=by
 rw[av]at h;split at h;case isFalse=>cases h
 rename_i hc;rw[ak,ak,aN]at hc;obtain⟨⟨rfl,rfl⟩,hfit⟩:=hc;obtain⟨kt,e,hu,hks,hz,Pz,hfree⟩:=yS hz0;obtain⟨v,b,h1,h2⟩:=Gq h;refine⟨_,h1,.quiet λS E bA hr cj=>?_⟩;have e1:=cj x (by rw[hop];simp[Op.operands]);have e2:=cj q (by rw[hop];simp[Op.operands]);rw[hx]at e1;obtain⟨i,c,s0,b0,r1,r2,r3,r4,r5⟩:=hr.row id _ hg;generalize hA:bA x=A at e1;cases e1 with
 |ye _ i' c' s' hρ =>
  rw[r1]at hρ;cases hρ;have hm:Ev.mapOf E i=some b0:=by unfold Ev.mapOf;rw[r2];simp only[r3,Ev.lP]
  have go:∀(y:Value),Ev.vt X.P E t' (bA x) (bA q) true=some y->∀call,jl X.P call bA o E=some (y,E):=λy hy call=>by
   unfold jl;rw[hop];show cD E (Ev.vt X.P E t' (bA x) (bA q) true)=_;rw[hy];rfl
  rcases h2 S (bA q) b0.cells 0 e2 r4 with⟨rfl,rfl,hf⟩|⟨rfl,j,y,hf,hy⟩
  .refine ⟨.tuple #[z,.bool false],go _ ?_,.fH _ [z,.bool false] rfl (LV.cons (.zR z hfree) (LV.cons (.bool _) LV.nil)).2⟩;unfold Ev.vt;rw[hu,hA];simp only[hks,hz,Ev.o8,hm,hf,Pz,Ev.lP]
  refine⟨.tuple #[y,.bool true],go _ ?_,.fH _ [y,.bool true] rfl (LV.cons hy (LV.cons (.bool _) LV.nil)).2⟩;unfold Ev.vt;rw[hu,hA];simp only[hks,hz,Ev.o8,hm,hf,Pz,Ev.lP]
theorem Gr {S:Wo}{d:TypeDesc}{s:AV}{xs:Value}(hs:VR S s xs):∀{ks:List (AV×AV)} {cs:List Value} (i:Nat),(ks.all λp=>Gg d s p.1==some false)=true->MC S ks cs->Ev.se d xs cs i=some none
 |[],cs,i,_,h=>by
  have h:cs=[]:=h;subst h;rfl
 |q::ks,cs,i,ha,⟨y,x,r,h1,h0,h2,h3⟩=>by
  subst h1;simp only[bY,ak,eI]at ha;unfold Ev.se;rw[yT ha.1 hs h0];exact Gr hs (i+1) ha.2 h3
structure Gs (X:gU)(o:Oper)(t:TypeId)(m q x:Operand):Prop where
 m1:m∈o.op.operands
 q1:q∈o.op.operands
 x1:x∈o.op.operands
 go:∀call bA E,jl X.P call bA o E=Ev.o9 X.P t (bA m) (bA q) (bA x) E
theorem Gs.upd {t:TypeId}{m q x:Operand}(hop:o.op = .mapUpdate t m q x):Gs X o t m q x :=
 ⟨by rw[hop];simp[Op.operands],by rw[hop];simp[Op.operands],by rw[hop];simp[Op.operands],λcall bA E=>by unfold jl;rw[hop]⟩
theorem Gs.ins {t:TypeId}{m q x:Operand}(hop:o.op = .insert t m q x):Gs X o t m q x :=
 ⟨by rw[hop];simp[Op.operands],by rw[hop];simp[Op.operands],by rw[hop];simp[Op.operands],λcall bA E=>by unfold jl;rw[hop]⟩
theorem K9 {t:TypeId}{m q x:Operand}(hop:Gs X o t m q x){id:Nat}(hm:ev m = .ye id){t':TypeId}{ks:List (AV×AV)}(hg:H.get id=some (.mf t' ks)){d:TypeDesc}{z:Value}(hz0:Cc X.P t=some (d,z)){k:AV->aH->Option β}
 (h:ah (Nat.beq t' t&&H.nH id&&sq (ev x)&&Ba d (ev q)&&ks.all λp=>Gg d (ev q) p.1==some false) (k .jZ (H.put id (.mf t' (ks++[(ev q,ev x)])))) none=some r):∃v H',k v H'=some r/\eM X cf o ev H v H':=by
 rw[av]at h;split at h;case isFalse=>cases h
 rename_i hc;rw[ak,ak,ak,ak,aN]at hc;obtain⟨⟨⟨⟨rfl,hmay⟩,_⟩,hfit⟩,hall⟩:=hc;obtain⟨kt,e,hu,hks,hz,Pz,_⟩:=yS hz0;refine⟨_,_,h,λS E bA hr cj=>?_⟩;have h1:=cj m hop.m1;have h2:=cj q hop.q1;have h3:=cj x hop.x1;rw[hm]at h1;obtain⟨i,c,s0,b0,r1,r2,r3,r4,r5⟩:=hr.row id _ hg;generalize hA:bA m=A at h1;cases h1 with
 |ye _ i' c' s' hρ =>
  rw[r1]at hρ;cases hρ;have hmo:Ev.mapOf E i=some b0:=by unfold Ev.mapOf;rw[r2];simp only[r3,Ev.lP]
  have hmay':H.lk<=id:=by simpa[aH.nH,br] using hmay
  have hlk:=hr.lk id _ _ hg hmay' r1;obtain⟨E',hE⟩:=Mem.iS (b:={ b0 with cells:=b0.cells++[bA q,bA x] }) (Mem.eJ r2) hlk;obtain⟨z1,z2,z3,z4,z5⟩:=Mem.kP hE;obtain⟨m1,m2⟩:=hr.mod (S':=S) (E':=E') (r':=.mf t' (ks++[(ev q,ev x)])) hg rfl S.le_refl rfl (λ_ _ _=>rfl) z3 z4 (λj hj=>by rw[z5,aa (hj _ r1)]) (λj cs h=>.inl h) (λq' hq=>by
   cases hq;exact⟨i,c,s0,{ b0 with cells:=b0.cells++[bA q,bA x] },r1,by rw[z5,ag rfl],r3,r4.snoc h2 h3,r5⟩)
  refine⟨S,undef,E',⟨0,λ_ _=>?_⟩,S.le_refl,.jZ _,m1,m2⟩;rw[hop.go];unfold Ev.o9;rw[hu,hA];simp only[hks,hmo,Pz,K8 hfit h2,nA,Ev.lP,Gr h2 0 hall r4,hE]
theorem Bj {P:Program}{t:TypeId}(h:Ry P t=true):∃kt e,P.underlying t=some (.map kt e)/\P.underlying kt=some .string/\Ev.l7 P e=some (.int .i64 0):=by
 unfold Ry at h;split at h
 .rename_i kt e hu;split at h
  .rename_i h1 h2 h3;exact⟨kt,e,hu,h1,h3⟩
  cases h
 cases h
theorem Bl (s:List UInt8)(n:Int):∀(ks:List (List UInt8×Int)) (i:Nat),
 (iA ks s=true/\∃j,Ev.se .string (.string ⟨s.toArray⟩) (je ks) i=some (some (i+j,.int .i64 (iz ks s)))/\(je ks).set (2*j+1) (.int .i64 n)=je (fk ks s n)) \/
 (iA ks s=false/\Ev.se .string (.string ⟨s.toArray⟩) (je ks) i=some none/\iz ks s=0/\je ks++[.string ⟨s.toArray⟩,.int .i64 n]=je (fk ks s n))
 |[],i=>.inr ⟨rfl,rfl,rfl,rfl⟩
 |(q,m)::ks,i=>by
  have e1:Ev.JT .string (.string ⟨s.toArray⟩) (.string ⟨q.toArray⟩)=some (decide (s=q)):=by
   show some (Ev.oy s.toArray.toList q.toArray.toList)=_;rw[Ev.lQ]
  unfold iA iz fk je Ev.se;rw[e1];by_cases h:s=q
  .subst h;left
   rw[bf rfl];refine⟨rfl,0,rfl,rfl⟩
  rw[aU h];rcases Bl s n ks (i+1) with⟨h1,j,h2,h3⟩|⟨h1,h2,h3,h4⟩
  .left
   refine⟨h1,j+1,?_,?_⟩
   .show Ev.se .string _ (je ks) (i+1)=_;rw[h2,show i+1+j=i+(j+1) by omega]
   show (Value.string ⟨q.toArray⟩::Value.int .i64 m::je ks).set (2*(j+1)+1) _=Value.string ⟨q.toArray⟩::Value.int .i64 m::je (fk ks s n);rw[show 2*(j+1)+1=(2*j+1)+1+1 by omega,jW,jW,h3]
  right
  refine⟨h1,h2,h3,?_⟩;show Value.string ⟨q.toArray⟩::Value.int .i64 m::(je ks++_)=Value.string ⟨q.toArray⟩::Value.int .i64 m::je (fk ks s n);rw[h4]
theorem La {t:TypeId}(hop:o.op = .makeMap t none)(hd:Ry X.P t=true):eM X cf o ev H (.ye H.next) (H.push (.mp t [])):=by
 intro S E bA hr cj;obtain⟨kt,e,hu,_,_⟩:=Bj hd;obtain⟨E',hE⟩:=Mem.lU E ⟨[],t,false,true⟩;obtain⟨q1,q2,q3⟩:=Mem.dL hE;obtain⟨k1,k2,k3⟩:=hr.add (r:=.mp t []) (x:=some (E.size,0,0)) (g:=none) (by omega) q2 (λi hi=>by rw[q3,aa (by omega)]) (λr' hr'=>by
  cases hr';exact⟨E.size,0,0,⟨[],t,false,true⟩,ag rfl,by rw[q3,ag rfl],rfl,rfl,rfl⟩) (λy hy=>by cases hy;exact aG _) rfl
 refine⟨_,.map (some E.size),E',⟨0,λ_ _=>?_⟩,k1,.ye _ E.size 0 0 (ag rfl),k2,k3⟩;unfold jl;rw[hop];show Ev.nB X.P t none E=_;unfold Ev.nB;rw[hu];simp only[hE]
theorem UO {t:TypeId}{x q:Operand}{ok:Bool}(hop:o.op = .lookup t x q ok){k:AV->Option β}(h:Uq X H t (ev x) (ev q) ok k=some r):∃v,k v=some r/\eM X cf o ev H v H:=by
 unfold Uq at h;split at h;case h_2=>cases h
 rename_i id hx;split at h;case h_3=>cases h
 case h_2 =>
  rename_i t' ks hg;split at h
  .rename_i d z hz0;exact RY hop hx hg hz0 h
  cases h
 rename_i t' ks hg;split at h;case h_2=>cases h
 rename_i s hq;rw[av]at h;split at h;case isFalse=>cases h
 rename_i hc;rw[ak,aN]at hc;obtain⟨hd,rfl⟩:=hc;obtain⟨kt,e,hu,hks,hz⟩:=Bj hd;have main:∀(S:Wo) (E:Mem) (bA:Operand->Value),Rel S H E->(∀x∈o.op.operands,VR S (ev x) (bA x))->∀call,jl X.P call bA o E=some (ah ok (.tuple #[.int .i64 (iz ks s),.bool (iA ks s)]) (.int .i64 (iz ks s)),E):=by
  intro S E bA hr cj call;have h1:=cj x (by rw[hop];simp[Op.operands]);have h2:=cj q (by rw[hop];simp[Op.operands]);rw[hx]at h1;rw[hq]at h2;have h2:=h2.jo;obtain⟨i,c,s0,b,r1,r2,r3,r4,r5⟩:=hr.row id _ hg;generalize hA:bA x=A at h1;cases h1 with
  |ye _ i' c' s' hρ =>
   rw[r1]at hρ;cases hρ;have hm:Ev.mapOf E i=some b:=by unfold Ev.mapOf;rw[r2];simp only[r3,Ev.lP]
   unfold jl;rw[hop];show cD E (Ev.vt X.P E t' (bA x) (bA q) ok)=_;have:Ev.vt X.P E t' (bA x) (bA q) ok=some (ah ok (.tuple #[.int .i64 (iz ks s),.bool (iA ks s)]) (.int .i64 (iz ks s))):=by
    unfold Ev.vt;rw[hu,hA,h2];simp only[hks,hz,Ev.o8,hm,r4];rcases Bl s 0 ks 0 with⟨g1,j,g2,_⟩|⟨g1,g2,g3,_⟩
    .rw[g2,g1];rfl
    rw[g2,g1,g3];rfl
   rw[this];rfl
 cases ok with
 |true=>exact⟨_,h,.quiet λS E bA hr cj=>⟨_,main S E bA hr cj,.fH _ [.int .i64 (iz ks s),.bool (iA ks s)] rfl (LV.cons (.int _ _) (LV.cons (.bool _) LV.nil)).2⟩⟩
 |false=>exact⟨_,h,.quiet λS E bA hr cj=>⟨_,main S E bA hr cj,.int _ _⟩⟩
theorem Ee {t:TypeId}{m q x:Operand}(hop:Gs X o t m q x){k:AV->aH->Option β}(h:CY X H t (ev m) (ev q) (ev x) (λH'=>k .jZ H')=some r):∃v H',k v H'=some r/\eM X cf o ev H v H':=by
 unfold CY at h;split at h;case h_2=>cases h
 rename_i id hm;split at h;case h_3=>cases h
 case h_2 =>
  rename_i t' ks hg;split at h
  .rename_i d z hz0;exact K9 hop hm hg hz0 h
  cases h
 rename_i t' ks hg;split at h;case h_2=>cases h
 rename_i s n hq hx;rw[av]at h;split at h;case isFalse=>cases h
 rename_i hc;rw[ak,ak,aN]at hc;obtain⟨⟨hd,rfl⟩,hmay⟩:=hc;obtain⟨kt,e,hu,hks,hz⟩:=Bj hd;refine⟨_,_,h,λS E bA hr cj=>?_⟩;have h1:=cj m hop.m1;have h2:=cj q hop.q1;have h3:=cj x hop.x1;rw[hm]at h1;rw[hq]at h2;rw[hx]at h3;have h2:=h2.jo;have h3:=h3.fR;obtain⟨i,c,s0,b,r1,r2,r3,r4,r5⟩:=hr.row id _ hg;generalize hA:bA m=A at h1;cases h1 with
 |ye _ i' c' s' hρ =>
  rw[r1]at hρ;cases hρ;have hmo:Ev.mapOf E i=some b:=by unfold Ev.mapOf;rw[r2];simp only[r3,Ev.lP]
  have hmay':H.lk<=id:=by simpa[aH.nH,br] using hmay
  have hlk:=hr.lk id _ _ hg hmay' r1;obtain⟨E',hE⟩:=Mem.iS (b:={ b with cells:=je (fk ks s n) }) (Mem.eJ r2) hlk;obtain⟨z1,z2,z3,z4,z5⟩:=Mem.kP hE;obtain⟨m1,m2⟩:=hr.mod (S':=S) (E':=E') (r':=.mp t' (fk ks s n)) hg rfl S.le_refl rfl (λ_ _ _=>rfl) z3 z4 (λj hj=>by rw[z5,aa (hj _ r1)]) (λj cs h=>.inl h) (λq hq=>by
   cases hq;exact⟨i,c,s0,{ b with cells:=je (fk ks s n) },r1,by rw[z5,ag rfl],r3,rfl,r5⟩)
  refine⟨S,undef,E',⟨0,λ_ _=>?_⟩,S.le_refl,.jZ _,m1,m2⟩;rw[hop.go];unfold Ev.o9;rw[hu,hA,h2,h3];simp only[hks,hmo,r4];show ah (Ev.sX .string&&Ev.aY (.string ⟨s.toArray⟩)) _ none=_;rw[show (Ev.sX .string&&Ev.aY (.string ⟨s.toArray⟩))=true from rfl,Ev.lP];rcases Bl s n ks 0 with⟨_,j,g2,g3⟩|⟨_,g2,_,g4⟩
  .rw[g2];simp only[bW,g3,hE]
  rw[g2];simp only[g4,hE]
theorem ad8 {call:cI β}(hcall:cT X cf call){tr:List Tmp}{k:AV->aH->Option β}(h:Tt X call tr ev o H k=some r):∃v H',k v H'=some r/\Ec X cf o ev H v H':=by
 have q1:∀{v:AV},(∃v,k v H=some r/\eM X cf o ev H v H)->∃v H',k v H'=some r/\Ec X cf o ev H v H':=λ⟨v,h1,h2⟩=>⟨v,H,h1,h2.jm⟩
 have q2:(∃v H',k v H'=some r/\eM X cf o ev H v H')->∃v H',k v H'=some r/\Ec X cf o ev H v H':=λ⟨v,H',h1,h2⟩=>⟨v,H',h1,h2.jm⟩
 unfold Tt at h;split at h
 .rename_i x hop;exact⟨_,_,h,(K4 (.inl hop)).jm⟩
 .rename_i x hop;exact⟨_,_,h,(K4 (.inr hop)).jm⟩
 .rename_i c a b hop;split at h
  .rename_i t hc;refine⟨ah t (ev a) (ev b),H,?_,(UL hop hc).jm⟩;cases t<;>exact h
  cases h
 .rename_i hop;rw[av]at h;split at h
  .rename_i hx;exact q1 (v:=.jZ) (Zh hop hx h)
  exact q1 (v:=.jZ) (RI hop h)
 .rename_i hop;exact q1 (v:=.jZ) (ad1 hop h)
 .rename_i t hop;rw[av]at h;split at h
  .exact q2 (RR hop h)
  split at h
  .rename_i z hz;exact⟨_,_,h,(RQ hop hz).jm⟩
  cases h
 .rename_i t x hop;split at h
  .rename_i n cs hn hc;exact⟨_,_,h,(Zd hop hn hc).jm⟩
  cases h
 .rename_i hop;exact q1 (v:=.jZ) (RU hop h)
 .rename_i hop;exact q2 (Eb hop h)
 .rename_i hop;exact q1 (v:=.jZ) (Uy hop h)
 .rename_i hop;exact q2 (RO hop h)
 .rename_i x hop;split at h
  .rename_i id off hx;exact⟨_,_,h,(C4 hop hx (.inl ⟨_,_,rfl⟩)).jm⟩
  .rename_i id n hx;exact⟨_,_,h,(C4 hop hx (.inr (.inl ⟨_,_,rfl⟩))).jm⟩
  .rename_i cs hx;exact⟨_,_,h,(C4 hop hx (.inr (.inr (.inl ⟨_,rfl⟩)))).jm⟩
  .rename_i f a b hx;exact⟨_,_,h,(C4 hop hx (.inr (.inr (.inr ⟨_,_,_,rfl⟩)))).jm⟩
  cases h
 .rename_i hop;exact q1 (v:=.jZ) (RM hop h)
 .rename_i hop;exact q1 (v:=.jZ) (Za hop h)
 .rename_i x i hop;split at h
  .rename_i vs hx;split at h
   .rename_i v hv;exact⟨_,_,h,(K5 hop hx hv).jm⟩
   cases h
  cases h
 .rename_i hop;exact q2 (UH hop h)
 .rename_i hop;exact⟨_,_,h,(ID hop).jm⟩
 .rename_i t x lo hi hop;split at h
  .rename_i d y _;rw[av]at h;split at h
   .exact q2 (RP hop h)
   exact q2 (Bd hop h)
  exact q2 (Bd hop h)
 .rename_i t x f hop;split at h
  .rename_i fs cs hu hx;split at h
   .rename_i fd TQ;exact q1 (v:=.jZ) (NJ hop hu hx TQ h)
   cases h
  cases h
 .rename_i hop;exact q1 (v:=.jZ) (RN hop h)
 .rename_i hop;rw[av]at h;split at h
  .rename_i hd;exact q1 (v:=.jZ) (RW hop hd h)
  exact q2 (UJ hop h)
 .rename_i c hop;split at h
  .rename_i f hc;split at h
   .rename_i id a b hf;rw[av]at h;split at h
    .rename_i hb;obtain⟨fn,cd,hfn,hcd⟩:=IE hb;obtain⟨v,H',h1,h2⟩:=hcall _ _ _ _ _ h;exact⟨v,H',h1,UM hop hc hf hfn hcd h2⟩
    rename_i hb;have hb:s7 X.P id=false:=by simpa using hb
    rw[av]at h;split at h
    .rename_i hsame;split at h
     .rename_i x hx;exact⟨_,_,h,(RX hop hc hf hb hsame hx).jm⟩
     cases h
    rename_i hsame;exact q1 (v:=.jZ) (Zi hop hc hf hb (by simpa using hsame) h)
   cases h
  .rename_i hc;split at h
   .rename_i x t h0 h1;exact q1 (v:=.jZ) (Zb hop hc h0 h1 h)
   cases h
  .rename_i hc;split at h
   .rename_i s x st xt h0 h1 h2 h3;exact q2 (NK hop hc h0 h1 h2 h3 h)
   cases h
  .rename_i hc;split at h
   .rename_i d x dt h0 h1 h2;exact q2 (UF hop hc h0 h1 h2 h)
   cases h
  .rename_i hc;split at h
   .rename_i x h0;obtain⟨v,h1,h2⟩:=FK hop hc h0 h;exact⟨v,_,h1,h2.jm⟩
   cases h
  .rename_i hc;split at h
   .rename_i p n pt it h0 h1;exact q2 (UK hop hc h0 h1 h)
   cases h
  .rename_i hc;split at h
   .rename_i x y h0;split at h
    .rename_i ka a kb b hx hy;exact⟨_,_,h,(Zf hop hc (kB.1 h0) hx hy).jm⟩
    cases h
   cases h
  .rename_i hc;split at h
   .rename_i x t h0 h1;split at h
    .rename_i te id off len cap hu hx;split at h
     .rename_i t' e l gu ro hg;exact⟨_,_,h,(Zg hop hc h0 h1 hu hx hg).jm⟩
     cases h
    .rename_i te id n hu hx;split at h
     .rename_i t' e l gu ro hg;exact⟨_,_,h,(K6 hop hc h0 h1 hu hx hg).jm⟩
     cases h
    .rename_i te hu hx;exact⟨_,_,h,(K7 hop hc h0 h1 hu hx).jm⟩
    cases h
   cases h
  .rename_i hc;exact q1 (v:=.jZ) (Ed hop hc (.inl rfl) h)
  .rename_i hc;exact q1 (v:=.jZ) (Ed hop hc (.inr (.inl rfl)) h)
  .rename_i hc;exact q1 (v:=.jZ) (Ed hop hc (.inr (.inr rfl)) h)
  cases h
 .rename_i hop;rw[av]at h;split at h
  .rename_i hd;exact⟨_,_,h,(La hop hd).jm⟩
  rw[av]at h;split at h
  .rename_i hd;exact⟨_,_,h,(II hop hd).jm⟩
  cases h
 .rename_i hop;exact q1 (v:=.jZ) (UO hop h)
 .rename_i hop;exact q2 (Ee (.upd hop) h)
 .rename_i hop;exact q2 (Ee (.ins hop) h)
 cases h
end
end Go.Tv
namespace Go.Tv
open Go.Ev (Tr ah iD Mem jz alive av dD jl Fr)
structure mh (S:Wo)(f:fF)(fE:Fr):Prop where
 n:f.n=fE.n
 v:∀i,VR S (f.get i) (fE.get i)
theorem mh.mono {S S':Wo}{f:fF}{fE:Fr}(h:mh S f fE)(hle:S.le S'):mh S' f fE:=⟨h.n,λi=>(h.v i).mono hle⟩
theorem fF.IJ (f:fF)(d:Tmp)(v:AV):(f.put (some d) v).n=f.n/\∀i,(f.put (some d) v).get i=if i=d/\d<f.n then v else f.get i:=by
 have e:f.put (some d) v=ah (Nat.ble (Nat.succ d) f.n) (Option.rec (motive:=λ_=>fF) f (λt=>⟨f.n,t⟩) (f.t.set d v)) f:=rfl;rw[e,av,Ev.mX];simp only[aV];by_cases hd:d<f.n
 .rw[ag hd];obtain⟨t',ht⟩:=Tr.iS v f.t d;rw[ht];refine⟨rfl,λi=>?_⟩;show (Option.rec (motive:=λ_=>AV) .jZ (λv=>v) (t'.get i))=_;rw[Tr.xu ht];by_cases hi:i=d
  .rw[ag hi,ag ⟨hi,hd⟩]
  rw[aa hi,aa (λh=>hi h.1)];rfl
 rw[aa hd];exact⟨rfl,λi=>by rw[aa (λh=>hd h.2)]⟩
theorem Fr.oW (f:Fr)(dst:Option Tmp)(v:Value):∃f',f.put dst v=some f':=by
 cases dst with
 |none=>exact⟨f,rfl⟩
 |some d =>
  have e:f.put (some d) v=ah (Nat.ble (Nat.succ d) f.n) (Option.rec (motive:=λ_=>Option Fr) none (λt=>some ⟨f.n,t⟩) (f.t.set d v)) (some f):=rfl;rw[e,av];split
  .obtain ⟨t',ht⟩:=Tr.iS v f.t d;rw[ht];exact⟨_,rfl⟩
  exact⟨_,rfl⟩
theorem mh.put {S:Wo}{f:fF}{fE fE':Fr}(h:mh S f fE){dst:Option Tmp}{v:AV}{x:Value}(hv:VR S v x)(hp:fE.put dst x=some fE'):mh S (f.put dst v) fE':=by
 obtain⟨e1,e2⟩:=Ev.Fr.gq hp;cases dst with
 |none=>exact⟨h.n.trans e1.symm,λi=>by rw[e2,aa (by simp)];exact h.v i⟩
 |some d =>
  obtain⟨g1,g2⟩:=fF.IJ f d v;refine⟨by rw[g1,e1,h.n],λi=>?_⟩;rw[g2,e2];by_cases hi:i=d/\d<f.n
  .obtain ⟨rfl,hd⟩:=hi;rw[ag ⟨rfl,hd⟩,ag ⟨rfl,by rw[<-h.n];exact hd⟩];exact hv
  rw[aa hi,aa (λhh=>hi ⟨by have:=hh.1;simp at this;exact this.symm,by have:=hh.1;simp at this;subst this;rw[h.n];exact hh.2⟩)];exact h.v i
theorem mh.know {S:Wo}{f:fF}{fE:Fr}(h:mh S f fE){d:Tmp}{v:AV}(hv:VR S v (fE.get d)):mh S (f.put (some d) v) fE:=by
 obtain⟨g1,g2⟩:=fF.IJ f d v;refine⟨by rw[g1,h.n],λi=>?_⟩;rw[g2];by_cases hi:i=d/\d<f.n
 .obtain ⟨rfl,_⟩:=hi;rw[ag ⟨rfl,by assumption⟩];exact hv
 rw[aa hi];exact h.v i
theorem ad9 {S:Wo}{v:Value}(h:Ev.aY v=true):VR S (ofV v) v:=by
 unfold ofV;split
 .rename_i cs;have hc:=yQ h;have e:Value.agg cs = .agg (cs.toList).toArray:=by simp
  rw[e];have:=LV.map (S:=S) (f:=Nv) (g:=λv=>v) cs.toList λv hv=>yP (hc v (by simpa[Value.cells] using hv))
  rw[List.map_id'']at this
  .exact .agg _ _ this.1 this.2
  intro x;rfl
 exact yP h
theorem qH {X:gU}{S:Wo}{f:fF}{fE:Fr}(h:mh S f fE)(hg:fm X S){x:Operand}(hx:Ev.dS X.G x=true):VR S (f.eval X x) (fE.eval x):=by
 cases x with
 |tmp t=>exact h.v t
 |const v=>exact ad9 hx
 |global g =>
  have hlt:g<X.G:=by simpa[Ev.dS,Nat.blt_eq] using hx
  show VR S (ab8 (X.gv g)) _;have hg:=hg g hlt;revert hg;generalize X.gv g=gs;intro hg;cases gs with
  |nil=>exact .jZ _
  |cons c l =>
   obtain⟨cs,h1,h2⟩:=hg (by simp);have h2:=h2 S λ_ _ h=>h
   exact .yG (c::l) g [] cs [] (by simpa using h1) h2.1 h2.2
 |func f=>exact .fn f [] [] [] [] rfl rfl (λj x y hx=>by simp at hx) (λj x y hx=>by simp at hx)
section
variable {X:gU} {cf:Nat×Nat->Ev.cH} {β:Type} {r:β}
def IK (X:gU)(run:Nat×Nat->Fr->Mem->Option (Fr×Mem))(f:fF)(H:aH)(f':fF)(H':aH):Prop :=
 ∀(S:Wo) (E:Mem) (fE:Fr),Rel S H E->fm X S->mh S f fE ->
  ∃S' fE' E',(∃N,∀n:Nat×Nat,N<=n.1/\N<=n.2->run n fE E=some (fE',E'))/\S.le S'/\mh S' f' fE'/\Rel S' H' E'/\St S H E S' H' E'
theorem zY {call:cI β}(hcall:cT X cf call){tr:List Tmp}{ops:List Oper}{o:Oper}(hok:∀x∈o.op.operands,Ev.dS X.G x=true){f:fF}{H:aH}{k:fF->aH->Option β}(h:stepT X call tr ops o f H k=some r) :
 ∃f' H',k f' H'=some r/\IK X (λn fE E=>Ev.ig X.P (cf n) ops o fE E) f H f' H':=by
 -- the operation is done
 have run:∀(f1:fF) (k1:AV->aH->Option β),Tt X call tr (f1.eval X) o H k1=some r->∃v H',k1 v H'=some r/\∀(S:Wo) (E:Mem) (fE:Fr),Rel S H E->fm X S->mh S f1 fE->Ev.nC o ops fE=true ->
  ∃S' fE' E',(∃N,∀n:Nat×Nat,N<=n.1/\N<=n.2->Ev.ig X.P (cf n) ops o fE E=some (fE',E'))/\S.le S'/\mh S' (f1.put o.dst v) fE'/\Rel S' H' E'/\St S H E S' H' E':=by
  intro f1 k1 h1;obtain⟨v,H',e1,e2⟩:=ad8 hcall h1;refine⟨v,H',e1,λS E fE hr hg hf hw=>?_⟩;obtain⟨S',vE,E',⟨N,k1⟩,k2,k3,k4,k5⟩:=e2 S E fE.eval hr hg λx hx=>qH hf hg (hok x hx)
  obtain⟨fE',hp⟩:=Fr.oW fE o.dst vE;refine⟨S',fE',E',⟨N,λn hn=>?_⟩,k2,(hf.mono k2).put k3 hp,k4,k5⟩;unfold Ev.ig;rw[hw,k1 n hn];show Ev.tU fE o.dst (some (vE,E'))=_;simp only[Ev.tU,hp]
 -- it is not
 have skip:∀(f1:fF) (S:Wo) (E:Mem) (fE:Fr),Rel S H E->mh S f1 fE->Ev.nC o ops fE=false ->
  ∃S' fE' E',(∃N,∀n:Nat×Nat,N<=n.1/\N<=n.2->Ev.ig X.P (cf n) ops o fE E=some (fE',E'))/\S.le S'/\mh S' (f1.put o.dst (.fH [])) fE'/\Rel S' H E'/\St S H E S' H E':=by
  intro f1 S E fE hr hf hw;obtain⟨fE',hp⟩:=Fr.oW fE o.dst undef;refine⟨S,fE',E,⟨0,λn _=>?_⟩,S.le_refl,hf.put (.fH [] [] rfl λj x y hx=>by simp at hx) hp,hr,St.refl _ _ _⟩;unfold Ev.ig;rw[hw];show Ev.tU fE o.dst (some (undef,E))=_;simp only[Ev.tU,hp]
 unfold stepT at h;split at h
 .rename_i hgd;obtain⟨v,H',h1,h2⟩:=run f _ h;exact⟨_,H',h1,λS E fE hr hg hf=>h2 S E fE hr hg hf (by simp[Ev.nC,hgd])⟩
 rename_i j want hgd;split at h
 .rename_i d hd;split at h
  .rename_i b hb;have aiX:∃oj,ops[j]? = some oj/\oj.dst=some d:=by
    unfold NG at hd;split at hd
    .rename_i oj yC;exact⟨oj,yC,hd⟩
    cases hd
   obtain⟨oj,yC,hdj⟩:=aiX;have hwant:∀S fE,mh S f fE->Ev.nC o ops fE=ah b want (!want)/\fE.get d = .bool b:=λS fE hf=>by
    have h1:=hf.v d;rw[hb]at h1;have h2:=h1.mg;refine⟨?_,h2⟩;unfold Ev.nC Ev.vU;simp only[hgd,yC,hdj,h2]
   have known:∀S fE,mh S f fE->mh S (f.put (some d) (.bool b)) fE:=λS fE hf=>hf.know (by rw[(hwant S fE hf).2];exact .bool b)
   cases b with
   |true =>
    cases want with
    |true =>
     have h:Tt X call tr ((f.put (some d) (.bool true)).eval X) o H (λv H'=>k ((f.put (some d) (.bool true)).put o.dst v) H')=some r:=h;obtain⟨v,H',h1,h2⟩:=run _ _ h;exact⟨_,H',h1,λS E fE hr hg hf=>h2 S E fE hr hg (known S fE hf) (hwant S fE hf).1⟩
    |false=>exact⟨_,H,h,λS E fE hr hg hf=>skip _ S E fE hr (known S fE hf) (hwant S fE hf).1⟩
   |false =>
    cases want with
    |true=>exact⟨_,H,h,λS E fE hr hg hf=>skip _ S E fE hr (known S fE hf) (by rw[(hwant S fE hf).1];rfl)⟩
    |false =>
     have h:Tt X call tr ((f.put (some d) (.bool false)).eval X) o H (λv H'=>k ((f.put (some d) (.bool false)).put o.dst v) H')=some r:=h;obtain⟨v,H',h1,h2⟩:=run _ _ h;exact⟨_,H',h1,λS E fE hr hg hf=>h2 S E fE hr hg (known S fE hf) (by rw[(hwant S fE hf).1];rfl)⟩
  .rename_i l hl;refine⟨_,H,h,λS E fE hr hg hf=>skip _ S E fE hr hf ?_⟩;have yC:∃oj,ops[j]? = some oj/\oj.dst=some d:=by
    unfold NG at hd;split at hd
    .rename_i oj yC;exact⟨oj,yC,hd⟩
    cases hd
   obtain⟨oj,yC,hdj⟩:=yC;have h1:=hf.v d;rw[hl]at h1;obtain⟨m,hm⟩:∃m,fE.get d = .tuple m:=by
    generalize fE.get d=x at h1 ⊢;cases h1;exact⟨_,rfl⟩
   unfold Ev.nC Ev.vU;simp only[hgd,yC,hdj,hm]
  cases h
 cases h
theorem UP (a:Option Nat):Ev.Cy (Ev.MP a)=some a:=by cases a<;>rfl
theorem UQ (a b:Option Nat):Ev.HK (Ev.cxV a b)=some (a,b):=by
 have code:Ev.HK (.chan (some (Ev.tS (Ev.Dx a) (Ev.Dx b)+2)))=some (a,b):=by
  show some (Ev.uL (Ev.vu _ _).1,Ev.uL (Ev.vu _ _).2)=_;rw[Ev.yA,Ev.zD,Ev.zD]
 cases a with
 |none=>exact code
 |some a=>cases b with
  |none=>exact code
  |some b=>rfl
theorem C5 {S:Wo}{a:AV}{q:Option Nat}{x:Value}(h:toF a=some q)(hx:VR S a x):Ev.Cy x=some q:=by
 unfold toF at h;split at h
 .cases h;cases hx;rfl
 .cases h;cases hx with|fl a v h=>rw[h];exact UP _
 cases h
theorem PV {S:Wo}{a:AV}{q:Option Nat×Option Nat}{x:Value}(h:ML a=some q)(hx:VR S a x):Ev.HK x=some q:=by
 unfold ML at h;split at h
 .cases h;cases hx;rfl
 .cases h;cases hx with|cx a b v h=>rw[h];exact UQ _ _
 cases h
theorem UR {S:Wo}{ev:Operand->AV}{bA:Operand->Value}{o:Oper}{v:AV}(h:adW X ev o=some v)(cj:∀x∈o.op.operands,VR S (ev x) (bA x)):∃vE,Ev.FC X.P bA o=some vE/\VR S v vE:=by
 unfold adW at h;rw[av]at h;split at h;case isFalse=>cases h
 unfold Ev.FC;split at h
 .rename_i op t x y yt hop;rw[hop];have hx:=cj x (by simp[hop,Op.operands]);have hy:=cj y (by simp[hop,Op.operands]);unfold PN at h;split at h;case h_2=>cases h
  rename_i a b ha hb;simp only;unfold Ev.HJ;rw[C5 ha hx,C5 hb hy];simp only;split at h
  .cases h;exact⟨_,rfl,.fl _ _ rfl⟩
  .cases h;exact⟨_,rfl,.fl _ _ rfl⟩
  .cases h;exact⟨_,rfl,.fl _ _ rfl⟩
  .cases a<;>cases b<;>first|(cases h;done)|(cases h;exact⟨_,rfl,.bool true⟩)
  cases h
 .rename_i cl hop;obtain⟨callee,args,ats⟩:=cl;rw[hop];have oa:∀x∈args,VR S (ev x) (bA x):=λx hx=>cj x (by simp[hop,Op.operands,Call.operands];exact .inr hx)
  have one:∀{v:AV},args.toList.map ev=[v]->∃p,args = #[p]/\ev p=v:=λh=>by
   obtain⟨l⟩:=args
   match l,h with
   |[p],h=>exact⟨p,rfl,by simpa using h⟩
  have two:∀{v u:AV},args.toList.map ev=[v,u]->∃p q,args = #[p,q]/\ev p=v/\ev q=u:=λh=>by
   obtain⟨l⟩:=args
   match l,h with
   |[p,q],h=>exact⟨p,q,rfl,by simpa using h⟩
  simp only at h ⊢;split at h
  .rename_i x y hl;obtain⟨p,q,rfl,rfl,rfl⟩:=two hl;split at h
   .rename_i a b ha hb;cases h;refine⟨Ev.cxV a b,?_,.cx a b _ rfl⟩;simp only[cu,ot,C5 ha (oa p (by simp)),C5 hb (oa q (by simp))]
   cases h
  .rename_i x hl;obtain⟨p,rfl,rfl⟩:=one hl;split at h
   .rename_i q hq;cases h;refine⟨Ev.MP q.1,?_,.fl _ _ rfl⟩;simp only[cu,ot,PV hq (oa p (by simp))]
   cases h
  .rename_i x hl;obtain⟨p,rfl,rfl⟩:=one hl;split at h
   .rename_i q hq;cases h;refine⟨Ev.MP q.2,?_,.fl _ _ rfl⟩;simp only[cu,ot,PV hq (oa p (by simp))]
   cases h
  .rename_i f x hl;obtain⟨p,rfl,hp⟩:=one hl;split at h
   .rename_i id hf;rw[av]at h;split at h
    .rename_i hb;split at h
     .rename_i x;cases h;have hx:=oa p (by simp);rw[hp]at hx;have hfE:=cj f (by simp[hop,Op.operands,Call.operands]);rw[hf]at hfE;generalize hq:bA p=x at hx;generalize hg:bA f=g at hfE;obtain rfl:x = .chan (some 1):=by cases hx with|fl a v h=>exact h
      cases hfE with
      |fn f a b a' b' ha hb' va vb =>
       obtain rfl:a'=[]:=aQ.1 (by simpa using ha.symm);obtain rfl:b'=[]:=aQ.1 (by simpa using hb'.symm);refine⟨.chan none,?_,.jZ _⟩;have e1:[p].map bA=[.chan (some 1)]:=by simp[hq,Ev.MP]
       show (match Callee.value f,[p].map bA with|_,_=>_)=_;simp only[e1,hg];rw[show (Ev.HL X.P (.func (.func id) ([]:List Value).toArray ([]:List Value).toArray))=true from hb]
     cases h
    cases h
   cases h
  cases h
 cases h
theorem US {P:Program}{call:Ev.cH}{l:List Oper}{o:Oper}{f:Fr}{E:Mem}{r:Fr×Mem}(h:Ev.ig P call l o f E=some r):Ev.tV P call l o f E=some r:=by
 unfold Ev.tV;rw[h]
theorem RZ {P:Program}{call:Ev.cH}{l:List Oper}{o:Oper}{f f':Fr}{E:Mem}{v:Value}(hw:Ev.nC o l f=true)(h:Ev.FC P f.eval o=some v)(hp:f.put o.dst v=some f'):Ev.tV P call l o f E=some (f',E):=by
 unfold Ev.tV;cases hs:Ev.ig P call l o f E with
 |none =>
  rw[hw,h];show Ev.tU f o.dst (some (v,E))=_;simp only[Ev.tU,hp]
 |some r =>
  unfold Ev.ig at hs;rw[hw]at hs;have hs:Ev.tU f o.dst (jl P call f.eval o E)=some r:=hs;cases ho:jl P call f.eval o E with
  |none=>rw[ho]at hs;cases hs
  |some q =>
   obtain⟨u,E'⟩:=q;obtain⟨rfl,rfl⟩:=Ev.adt h ho;rw[ho]at hs;simp only[Ev.tU,hp]at hs;exact hs.symm
theorem R2 {call:cI β}(hcall:cT X cf call){tr:List Tmp}{ops:List Oper}{o:Oper}(hok:∀x∈o.op.operands,Ev.dS X.G x=true){f:fF}{H:aH}{k:fF->aH->Option β}(h:Ik X call tr ops o f H k=some r) :
 ∃f' H',k f' H'=some r/\IK X (λn fE E=>Ev.tV X.P (cf n) ops o fE E) f H f' H':=by
 unfold Ik at h;split at h
 .rename_i v hv hgd;refine⟨_,H,h,λS E fE hr hg hf=>?_⟩;obtain⟨vE,h1,h2⟩:=UR hv λx hx=>qH hf hg (hok x hx)
  obtain⟨fE',hp⟩:=Fr.oW fE o.dst vE;exact⟨S,fE',E,⟨0,λn _=>RZ (by simp[Ev.nC,hgd]) h1 hp⟩,S.le_refl,hf.put h2 hp,hr,St.refl _ _ _⟩
 obtain⟨f',H',h1,h2⟩:=zY hcall hok h;refine⟨f',H',h1,λS E fE hr hg hf=>?_⟩;obtain⟨S',fE',E',⟨N,a1⟩,a2⟩:=h2 S E fE hr hg hf;exact⟨S',fE',E',⟨N,λn hn=>US (a1 n hn)⟩,a2⟩
def wG (S:Wo)(RT RE:Option (List Nat)):Prop :=
 match RT with
 |none=>True
 |some lT=>∃lE,RE=some lE/\∀j∈lE,(∃cs,S.F j=some cs)\/∃id∈lT,∃x,S.ρ id=some x/\x.1=j
theorem wG.mono {S S':Wo}{RT RE:Option (List Nat)}(h:wG S RT RE)(hle:S.le S'):wG S' RT RE:=by
 cases RT with
 |none=>trivial
 |some lT =>
  obtain⟨lE,e,h⟩:=h;refine⟨lE,e,λj hj=>(h j hj).imp (λ⟨cs,h1⟩=>⟨cs,hle.F _ _ h1⟩) λ⟨id,h1,x,h2,h3⟩=>⟨id,h1,x,hle.ρ _ _ h2,h3⟩⟩
theorem R3 {S:Wo}{RT RE:Option (List Nat)}(h:wG S RT RE){ev:Operand->AV}{bA:Operand->Value}{o:Oper}(hv:∀x∈o.op.operands,VR S (ev x) (bA x)):wG S (Il ev o RT) (Ev.pW bA o RE):=by
 unfold Il;split
 .rename_i t x hop;have hx:=hv x (by simp[hop,Op.operands]);unfold Ev.pW;rw[hop];split
  .rename_i l id off he;obtain⟨lE,rfl,h⟩:=h;rw[he]at hx;generalize hA:bA x=y at hx;cases hx with
   |ptr _ _ i c s hρ =>
    refine⟨i::lE,by simp only[hA],λj hj=>?_⟩;rcases bw.1 hj with rfl|hj
    .exact .inr ⟨id,by simp,_,hρ,rfl⟩
    exact(h j hj).imp_right λ⟨id',h1,h2⟩=>⟨id',by simp[h1],h2⟩
  .rename_i l id j0 fo gu cur he;obtain⟨lE,rfl,h⟩:=h;rw[he]at hx;generalize hA:bA x=y at hx;cases hx with
   |CX _ _ _ _ _ i c e l2 y2 hρ _ _ _ =>
    refine⟨i::lE,by simp only[hA],λj hj=>?_⟩;rcases bw.1 hj with rfl|hj
    .exact .inr ⟨id,by simp,_,hρ,rfl⟩
    exact(h j hj).imp_right λ⟨id',h1,h2⟩=>⟨id',by simp[h1],h2⟩
  .rename_i l cs he;obtain⟨lE,rfl,h⟩:=h;rw[he]at hx;generalize hA:bA x=y at hx;cases hx with
   |yG _ i pre mid post hF _ _ =>
    refine⟨i::lE,by simp only[hA],λj hj=>?_⟩;rcases bw.1 hj with rfl|hj
    .exact .inl ⟨_,hF⟩
    exact h j hj
  trivial
 rename_i hno;unfold Ev.pW;split
 .rename_i t x hop;exact absurd hop (hno t x)
 rw[av,av];split
 .trivial
 exact h
theorem Gt {S:Wo}{H:aH}{E:Mem}(hr:Rel S H E){RT RE:Option (List Nat)}(h:wG S RT RE){s:AV}{sE:Value}(hs:VR S s sE)(hc:Bb H RT s=true):Ev.tG RE sE=true:=by
 have own:∀{id:Nat} {l:List Nat} {i cap s0 off n c:Nat} {lE:List Nat},RE=some lE->(∀j∈lE,(∃cs,S.F j=some cs)\/∃id∈l,∃x,S.ρ id=some x/\x.1=j)->S.ρ id=some (i,cap,s0) ->
  ((match H.get id with|some (.list _ _ _ _ _ false)=>true|_=>false)&&l.all λj => !Nat.beq j id&&(H.get j).isSome)=true->Ev.tG RE (.slice (some ⟨i,off,none⟩) n c)=true:=by
  intro id l i cap s0 off n c lE hE hl hρ hb;simp only[ak]at hb;obtain⟨xS,JK⟩:=hb;split at xS;case h_2=>cases xS
  rename_i t e ll gu ex hg;subst hE;show (lE.all λj => !Nat.beq j i)=true;rw[aP];intro j hj;have hne:j≠i:=by
   intro e;subst e;rcases hl j hj with⟨cs,hF⟩|⟨id',hid,x,hx,hx1⟩
   .have:=hr.sep id _ _ hg rfl hρ;rw[hF]at this;cases this
   have:=aP.1 JK id' hid;simp only[ak,aS]at this;obtain⟨t1,t2⟩:=this;obtain⟨r',hr'⟩:=bV.1 t2;have:=hr.inj id' id _ _ _ _ hr' hg hx hρ hx1;subst this;rw[ov]at t1;cases t1
  rw[aS,<-ez,aN];exact hne
 unfold Bb at hc;split at hc
 .cases hs;rfl
 .rename_i id n l;obtain⟨lE,e,h⟩:=h;cases hs with
  |own _ _ i cap s0 hρ g hg hn=>exact own e h hρ hc
  |fY _ g hg hn=>rfl
 .rename_i id off n c l;obtain⟨lE,e,h⟩:=h;cases hs with
  |rH _ _ _ _ i c s0 hρ g hg hc' hl=>exact own e h hρ hc
 .rename_i id off l;obtain⟨lE,e,h⟩:=h;cases hs with
  |ptr _ _ i c s0 hρ =>
   simp only[ak]at hc;obtain⟨xS,JK⟩:=hc;split at xS;case h_2=>cases xS
   rename_i t cs hg;subst e;show (lE.all λj => !Nat.beq j i)=true;rw[aP];intro j hj;have hne:j≠i:=by
    intro e;subst e;rcases h j hj with⟨cs,hF⟩|⟨id',hid,x,hx,hx1⟩
    .have:=hr.sep id _ _ hg rfl hρ;rw[hF]at this;cases this
    have:=aP.1 JK id' hid;simp only[ak,aS]at this;obtain⟨t1,t2⟩:=this;obtain⟨r',hr'⟩:=bV.1 t2;have:=hr.inj id' id _ _ _ _ hr' hg hx hρ hx1;subst this;rw[ov]at t1;cases t1
   rw[aS,<-ez,aN];exact hne
 cases hc
theorem UT {call:cI β}(hcall:cT X cf call){tr:List Tmp}{ops:List Oper}{o:Oper}(hok:∀x∈o.op.operands,Ev.dS X.G x=true){R:Option (List Nat)}{lk:Bool}{f:fF}{H:aH}{k:fF->aH->Option β}(h:Im X call tr ops R lk o f H k=some r) :
 ∃f' H',k f' H'=some r/\∀(S:Wo) (E:Mem) (fE:Fr) (RE:Option (List Nat)),Rel S H E->fm X S->mh S f fE->wG S R RE ->
  ∃S' fE' E',(∃N,∀n:Nat×Nat,N<=n.1/\N<=n.2->Ev.qy X.P (cf n) ops RE lk o fE E=some (fE',E'))/\S.le S'/\mh S' f' fE'/\Rel S' H' E'/\St S H E S' H' E':=by
 unfold Im at h;cases lk with
 |false =>
  obtain⟨f',H',h1,h2⟩:=zY hcall hok h;exact⟨f',H',h1,λS E fE RE hr hg hf _=>h2 S E fE hr hg hf⟩
 |true =>
  cases hb:Ev.kE o.op with
  |some s =>
   have h:(match Ev.kE o.op with
    |some s=>ah (Bb H R (f.eval X s)) (stepT X call tr ops o f H k) none
    |none=>ah (qE H R (f.eval X) o) (stepT X call tr ops o f H k) (stepT X call tr ops o f { H with lk:=H.next } λf' H'=>k f' { H' with lk:=H.lk }))=some r:=h
   rw[hb]at h;simp only[av]at h;split at h
   .rename_i hc;obtain⟨f',H',h1,h2⟩:=zY hcall hok h;refine⟨f',H',h1,λS E fE RE hr hg hf hR=>?_⟩;obtain⟨S',fE',E',⟨N,k1⟩,k2⟩:=h2 S E fE hr hg hf;refine⟨S',fE',E',⟨N,λn hn=>?_⟩,k2⟩;have nY:=Gt hr hR (qH hf hg (hok s (Ev.B3 hb))) hc;show (match Ev.kE o.op with
     |some s=>ah (Ev.tG RE (fE.eval s)) (Ev.ig X.P (cf n) ops o fE E) none
     |none=>ah (Ev.iy RE fE.eval o) (Ev.ig X.P (cf n) ops o fE E)
      (match Ev.ig X.P (cf n) ops o fE { E with lk:=E.size } with
       |some (f',H')=>some (f',{ H' with lk:=E.lk })
       |none=>none))=_
    rw[hb];simp only[nY];exact k1 n hn
   cases h
  |none =>
   have h:(match Ev.kE o.op with
    |some s=>ah (Bb H R (f.eval X s)) (stepT X call tr ops o f H k) none
    |none=>ah (qE H R (f.eval X) o) (stepT X call tr ops o f H k) (stepT X call tr ops o f { H with lk:=H.next } λf' H'=>k f' { H' with lk:=H.lk }))=some r:=h
   rw[hb]at h;simp only[av (qE H R (f.eval X) o)]at h;split at h
   .rename_i hc;unfold qE at hc;split at hc;case h_2=>cases hc
    rename_i s hsb;obtain⟨f',H',h1,h2⟩:=zY hcall hok h;refine⟨f',H',h1,λS E fE RE hr hg hf hR=>?_⟩;obtain⟨S',fE',E',⟨N,k1⟩,k2⟩:=h2 S E fE hr hg hf;refine⟨S',fE',E',⟨N,λn hn=>?_⟩,k2⟩;have hsm:s∈o.op.operands:=by
     unfold Ev.mz at hsb;split at hsb
     .rename_i t a x hop;cases hsb;rw[hop];simp[Op.operands]
     cases hsb
    have nY:Ev.iy RE fE.eval o=true:=by
     unfold Ev.iy;rw[hsb];exact Gt hr hR (qH hf hg (hok s hsm)) hc
    show (match Ev.kE o.op with
     |some s=>ah (Ev.tG RE (fE.eval s)) (Ev.ig X.P (cf n) ops o fE E) none
     |none=>ah (Ev.iy RE fE.eval o) (Ev.ig X.P (cf n) ops o fE E)
      (match Ev.ig X.P (cf n) ops o fE { E with lk:=E.size } with
       |some (f',H')=>some (f',{ H' with lk:=E.lk })
       |none=>none))=_
    rw[hb];simp only[nY];exact k1 n hn
   have h:stepT X call tr ops o f { H with lk:=H.next } (λf' H'=>k f' { H' with lk:=H.lk })=some r:=h;obtain⟨f',H',h1,h2⟩:=zY hcall hok h;refine⟨f',{ H' with lk:=H.lk },h1,λS E fE RE hr hg hf _=>?_⟩;have gH:∀(M:aH) n j,({ M with lk:=n }:aH).get j=M.get j:=λM n j=>rfl
   have gE:∀(M:Mem) n j,({ M with lk:=n }:Mem).get j=M.get j:=λM n j=>rfl
   have aE:∀(M:Mem) n j,alive ({ M with lk:=n }:Mem) j=alive M j:=λM n j=>rfl
   have aiY:∀S (M:Mem) n id r,oS S ({ M with lk:=n }:Mem) id r↔oS S M id r:=λS M n id r=>by cases r<;>exact Iff.rfl
   have Ef:Rel S { H with lk:=H.next } { E with lk:=E.size } :=
    ⟨hr.fz,hr.dom,hr.CE,λid q hq=>(aiY _ _ _ _ _).2 (hr.row id q hq),hr.inj,hr.sep,λid q x hq hl _=>absurd (aH.eJ hq) (by have hl':H.next<=id:=hl;show ¬id<H.next;omega),aG _,hr.KM,aG _⟩
   obtain⟨S',fE',E',⟨N,k1⟩,k2,k3,k4,k5⟩:=h2 S { E with lk:=E.size } fE Ef hg hf;refine⟨S',fE',{ E' with lk:=E.lk },⟨N,λn hn=>?_⟩,k2,k3,?_,?_⟩
   .show (match Ev.kE o.op with
     |some s=>ah (Ev.tG RE (fE.eval s)) (Ev.ig X.P (cf n) ops o fE E) none
     |none=>ah (Ev.iy RE fE.eval o) (Ev.ig X.P (cf n) ops o fE E)
      (match Ev.ig X.P (cf n) ops o fE { E with lk:=E.size } with
       |some (f',H')=>some (f',{ H' with lk:=E.lk })
       |none=>none))=_
    rw[hb];have:=k1 n hn;simp only at this ⊢;cases hsc:Ev.iy RE fE.eval o with
    |false=>rw[Ev.JW,this]
    |true =>
     unfold Ev.iy at hsc;split at hsc
     .rename_i s hsb;obtain⟨w2,w3⟩:=Ev.T7 hsb this;subst w3;rw[Ev.lP,w2]
     cases hsc
   .refine ⟨k4.fz,k4.dom,k4.CE,λid q hq=>(aiY _ _ _ _ _).2 (k4.row id q hq),k4.inj,k4.sep,λid q x hq hl hx=>?_,?_,?_,?_⟩
    .show E.lk<=x.1;by_cases hid:id<H.next
     .have aiZ:H.get id≠none:=k5.live id hid (by
       have:H'.get id=some q:=hq;rw[this];simp)
      cases hq0:H.get id with
      |none=>exact absurd hq0 aiZ
      |some q0 =>
       cases hx0:S.ρ id with
       |none =>
        rw[k5.rn id hid hx0]at hx;cases hx
       |some x0 =>
        have e:=k2.ρ id x0 hx0;rw[hx]at e;have e:=bL e;subst e;exact hr.lk id q0 x hq0 hl hx0
     have:=k4.lk id q x hq (by rw[k5.Rz];show H.next<=id;omega) hx;have h5:=k5.lk;have:E.size<=x.1:=by rw[h5]at this;exact this
     have:=hr.Gh;omega
    .show H.lk<=H'.next
     have:=k5.nx;have:=hr.zi;have:H.next<=H'.next:=k5.nx
     omega
    .exact k4.KM
    show E.lk<=E'.size;have:=k5.sz;have:=hr.Gh;have:E.size<=E'.size:=k5.sz;omega
   exact⟨k5.sz,rfl,rfl,k5.yK,k5.F,k5.own,k5.JL,k5.keep,k5.par,k5.nx,k5.live,k5.rn⟩
end
structure Bm (S:Wo)(H:aH)(HE:Mem)(S':Wo)(H':aH)(HE':Mem):Prop where
 sz:HE.size<=HE'.size
 lk:HE'.lk=HE.lk
 Rz:H'.lk=H.lk
 yK:H'.par=H.par
 F:∀i x,S.F i=some x->S'.F i=some x
 own:∀i,Own S' H' i->i<HE.size->Own S H i
 JL:∀i,S'.F i≠none->S.F i≠none\/Own S H i\/HE.size<=i
 keep:∀i,i<HE.size->¬Own S H i->HE'.get i=HE.get i
 par:∀id,id<H.par->S'.ρ id=S.ρ id
theorem St.ML {S S':Wo}{H H':aH}{E E':Mem}(h:St S H E S' H' E'):Bm S H E S' H' E':=⟨h.sz,h.lk,h.Rz,h.yK,h.F,h.own,h.JL,h.keep,h.par⟩
theorem Bm.refl (S:Wo)(H:aH)(E:Mem):Bm S H E S H E:=(St.refl S H E).ML
theorem Bm.trans {S S1 S2:Wo}{H H1 H2:aH}{E E1 E2:Mem}(h:Bm S H E S1 H1 E1)(k:Bm S1 H1 E1 S2 H2 E2):Bm S H E S2 H2 E2:=by
 refine⟨bz h.sz k.sz,k.lk.trans h.lk,k.Rz.trans h.Rz,k.yK.trans h.yK,λi x hx=>k.F i x (h.F i x hx),λi ho hi=>h.own i (k.own i ho (cw hi h.sz)) hi,λi hf=>?_,λi hi ho=>?_,λid hid=>(k.par id (by rw[h.yK];exact hid)).trans (h.par id hid)⟩
 .rcases k.JL i hf with h1|h1|h1
  .exact h.JL i h1
  .by_cases hi:i<E.size
   .exact .inr (.inl (h.own i h1 hi))
   exact .inr (.inr (by omega))
  exact .inr (.inr (bz h.sz h1))
 exact(k.keep i (cw hi h.sz) λh1=>ho (h.own i h1 hi)).trans (h.keep i hi ho)
def wH {α:Type}(X:gU)(nf:Bool)(run:Nat×Nat->Fr->Mem->Option (α×Fr×Mem))(a:α)(f:fF)(H:aH)(f':fF)(H':aH):Prop :=
 ∀(S:Wo) (E:Mem) (fE:Fr),Rel S H E->fm X S->mh S f fE ->
  ∃S' fE' E',(∃N,∀n:Nat×Nat,N<=n.1/\N<=n.2->run n fE E=some (a,fE',E'))/\mh S' f' fE'/\Rel S' H' E'/\Bm S H E S' H' E'/\(nf=true->S.le S'/\St S H E S' H' E')
theorem UU {P:Program}{ops:Array Oper}{l:List (Oper×Bool)}(h:Ev.plan P ops=some l):∀q∈l,q.1∈ops.toList:=by
 unfold Ev.plan Ev.MT at h;rw[av]at h;split at h
 .have hpos:=Ev.ab3 (P:=P) (ops:=ops);have key:∀n L l,Ev.vz (Ev.tD P ops ops.toList 0 []).reverse n L=some l->∀q∈l,q.1∈ops.toList:=by
   intro n;have mem:∀p∈(Ev.tD P ops ops.toList 0 []).reverse,p.o∈ops.toList:=λp hp=>by
    have:=aX (hpos.each p hp).o;simpa using this
   induction n with
   |zero =>
    intro L l h;unfold Ev.vz at h;split at h
    .cases h;simp
    cases h
   |succ n ih =>
    intro L l h;unfold Ev.vz at h;split at h
    .rename_i p hp;have hm:=iX hp;rw[av]at h;split at h
     .split at h
      .rename_i l' hl';cases h;intro q hq;rcases bw.1 hq with rfl|hq
       .exact mem p hm
       exact ih _ _ hl' q hq
      cases h
     cases h
    split at h
    .cases h;simp
    rename_i q0 r0 hp;split at h;case h_2=>cases h
    rename_i p ms hch;have hm:p∈(Ev.tD P ops ops.toList 0 []).reverse:=by
     have:=(Ev.uR hch).1;rw[<-hp]at this;exact(cK.1 this).1
    rw[av]at h;split at h;case isFalse=>cases h
    split at h
    .rename_i l' hl';cases h;intro q hq;rcases bw.1 hq with rfl|hq
     .exact mem p hm
     exact ih _ _ hl' q hq
    cases h
  exact key _ _ _ h
 cases h
section
variable {X:gU} {cf:Nat×Nat->Ev.cH} {β:Type} {r:β}
theorem UW {call:cI β}(hcall:cT X cf call){tr:List Tmp}{ops:List Oper}:∀(l:List (Oper×Bool)),(∀q∈l,∀x∈q.1.op.operands,Ev.dS X.G x=true)->∀{R:Option (List Nat)} {f:fF} {H:aH} {k:fF->aH->Option β},Y7 X call tr ops l k R f H=some r ->
 ∃f' H',k f' H'=some r/\∀(S:Wo) (E:Mem) (fE:Fr) (RE:Option (List Nat)),Rel S H E->fm X S->mh S f fE->wG S R RE ->
  ∃S' fE' E',(∃N,∀n:Nat×Nat,N<=n.1/\N<=n.2->Ev.x8 X.P (cf n) ops l RE fE E=some (fE',E'))/\S.le S'/\mh S' f' fE'/\Rel S' H' E'/\St S H E S' H' E'
 |[],_,R,f,H,k,h=>⟨f,H,h,λS E fE RE hr hg hf _=>⟨S,fE,E,⟨0,λ_ _=>rfl⟩,S.le_refl,hf,hr,St.refl _ _ _⟩⟩
 |q::l,hok,R,f,H,k,h=>by
  have h:Im X call tr ops R q.2 q.1 f H (Y7 X call tr ops l k (Il (f.eval X) q.1 R))=some r:=h;obtain⟨f1,H1,h1,h2⟩:=UT hcall (hok q (by simp)) h;obtain⟨f2,H2,h3,h4⟩:=UW hcall l (λq hq=>hok q (by simp[hq])) h1;refine⟨f2,H2,h3,λS E fE RE hr hg hf hR=>?_⟩;obtain⟨S1,xW,E1,⟨N1,a1⟩,a2,a3,a4,a5⟩:=h2 S E fE RE hr hg hf hR;obtain⟨S2,CF,E2,⟨N2,b1⟩,b2,b3,b4,b5⟩:=h4 S1 E1 xW (Ev.pW fE.eval q.1 RE) a4 (hg.mono a2) a3 ((R3 hR λx hx=>qH hf hg (hok q (by simp) x hx)).mono a2);refine⟨S2,CF,E2,⟨max N1 N2,λn hn=>?_⟩,Wo.le_trans a2 b2,b3,b4,a5.trans b5⟩
  have c1:=a1 n ⟨by omega,by omega⟩;have c2:=b1 n ⟨by omega,by omega⟩;show Option.rec (motive:=λ_=>Option (Fr×Mem)) none (λr=>Ev.x8 X.P (cf n) ops l (Ev.pW fE.eval q.1 RE) r.1 r.2) (Ev.qy X.P (cf n) ops RE q.2 q.1 fE E)=_;rw[c1];exact c2
theorem PW {call:cI β}(hcall:cT X cf call){tr:List Tmp}{ops:List Oper}:∀(l:List Oper),(∀o∈l,∀x∈o.op.operands,Ev.dS X.G x=true)->∀{f:fF} {H:aH} {k:fF->aH->Option β},adX X call tr ops l k f H=some r ->
 ∃f' H',k f' H'=some r/\IK X (λn fE E=>Ev.JU X.P (cf n) ops l fE E) f H f' H'
 |[],_,f,H,k,h=>⟨f,H,h,λS E fE hr hg hf=>⟨S,fE,E,⟨0,λ_ _=>rfl⟩,S.le_refl,hf,hr,St.refl _ _ _⟩⟩
 |o::l,hok,f,H,k,h=>by
  have h:Ik X call tr ops o f H (adX X call tr ops l k)=some r:=h;obtain⟨f1,H1,h1,h2⟩:=R2 hcall (hok o (by simp)) h;obtain⟨f2,H2,h3,h4⟩:=PW hcall l (λq hq=>hok q (by simp[hq])) h1;refine⟨f2,H2,h3,λS E fE hr hg hf=>?_⟩;obtain⟨S1,xW,E1,⟨N1,a1⟩,a2,a3,a4,a5⟩:=h2 S E fE hr hg hf;obtain⟨S2,CF,E2,⟨N2,b1⟩,b2,b3,b4,b5⟩:=h4 S1 E1 xW a4 (hg.mono a2) a3;refine⟨S2,CF,E2,⟨max N1 N2,λn hn=>?_⟩,Wo.le_trans a2 b2,b3,b4,a5.trans b5⟩;have c1:Ev.tV X.P (cf n) ops o fE E=some (xW,E1):=a1 n ⟨by omega,by omega⟩
  have c2:=b1 n ⟨by omega,by omega⟩;show Option.rec (motive:=λ_=>Option (Fr×Mem)) none (λr=>Ev.JU X.P (cf n) ops l r.1 r.2) (Ev.tV X.P (cf n) ops o fE E)=_;rw[c1];exact c2
theorem xA {call:cI β}(hcall:cT X cf call){tr:List Tmp}{ops:Array Oper}{draw:Bool}{f:fF}{H:aH}{k:fF->aH->Option β}(h:zS X call tr ops draw f H k=some r) :
 ∃f' H',k f' H'=some r/\wH X true (λn fE E=>Ev.ql X.P X.G (cf n) ops draw fE E) .normal f H f' H':=by
 unfold zS at h;rw[av]at h;split at h;case isFalse=>cases h
 rename_i hok;have ai0:∀o∈ops.toList,∀x∈o.op.operands,Ev.dS X.G x=true:=λo ho x hx=>by
  have:=aP.1 hok o ho;exact aP.1 this x (by simpa using hx)
 have fin:∀(l:List (Oper×Bool)),(∀q∈l,q.1∈ops.toList)->Y7 X call tr ops.toList l k (some []) f H=some r->(∀n fE E,Ev.ql X.P X.G (cf n) ops draw fE E=Ev.atEnd (Ev.x8 X.P (cf n) ops.toList l (some []) fE E)) ->
  ∃f' H',k f' H'=some r/\wH X true (λn fE E=>Ev.ql X.P X.G (cf n) ops draw fE E) .normal f H f' H':=by
  intro l hl hr heq;obtain⟨f',H',h1,h2⟩:=UW hcall l (λq hq=>ai0 q.1 (hl q hq)) hr;refine⟨f',H',h1,λS E fE hrel hg hf=>?_⟩;obtain⟨S',fE',E',⟨N,a1⟩,a2,a3,a4,a5⟩:=h2 S E fE (some []) hrel hg hf ⟨[],rfl,λj hj=>by cases hj⟩;refine⟨S',fE',E',⟨N,λn hn=>?_⟩,a3,a4,a5.ML,λ_=>⟨a2,a5⟩⟩;have:=a1 n hn;simp only at this ⊢;rw[heq,this];rfl
 rw[av]at h;split at h
 .rename_i hd;obtain⟨l,hl,h1⟩:=rT h;refine fin l (UU hl) h1 λn fE E=>?_
  unfold Ev.ql;rw[hok,hd,hl]
 rename_i hd;obtain⟨f',H',h1,h2⟩:=PW hcall ops.toList ai0 h;refine⟨f',H',h1,λS E fE hrel hg hf=>?_⟩;obtain⟨S',fE',E',⟨N,a1⟩,a2,a3,a4,a5⟩:=h2 S E fE hrel hg hf;refine⟨S',fE',E',⟨N,λn hn=>?_⟩,a3,a4,a5.ML,λ_=>⟨a2,a5⟩⟩;have:=a1 n hn;have hd':draw=false:=by simpa using hd
 simp only at this ⊢;unfold Ev.ql;rw[hok,hd',this];rfl
end
theorem zZ:∀(l:List Nat) (id n i:Nat),placeOf id l n=some i->n<=i/\l[i-n]? = some id
 |[],id,n,i,h=>by cases h
 |x::l,id,n,i,h=>by
  unfold placeOf at h;rw[av]at h;split at h
  .rename_i hx;cases h;have:x=id:=by simpa[aN] using hx
   subst this;simp
  obtain⟨h1,h2⟩:=zZ l id (n+1) i h;refine⟨by omega,?_⟩;have:i-n=(i-(n+1))+1:=by omega
  rw[this];simpa using h2
theorem td:∀{l:List Nat},nodupB l=true->∀(i j:Nat) x,l[i]? = some x->l[j]? = some x->i=j
 |[],_,i,j,x,h,_=>by simp at h
 |y::l,h,i,j,x,hi,hj=>by
  simp only[nodupB,ak,aS]at h;have hy:y ∉ l:=λhm=>by
   have:l.any (Nat.beq y)=true:=jb.2 ⟨y,hm,by simp[aN]⟩;rw[this]at h;cases h.1
  cases i with
  |zero =>
   cases j with
   |zero=>rfl
   |succ j =>
    simp at hi hj;subst hi;exact absurd (bg hj) hy
  |succ i =>
   cases j with
   |zero =>
    simp at hi hj;subst hj;exact absurd (bg hi) hy
   |succ j=>rw[td h.2 i j x (by simpa using hi) (by simpa using hj)]
noncomputable def Wo.wJ (S:Wo)(H:aH)(ids:List Nat):Wo :=
 ⟨S.F,λj=>(ids[j]?).bind S.ρ,λj v=>if v=0 then (ids[j]?).bind λid=>match H.get id with
  |some (.list _ e l _ _ _)=>some ⟨e,l⟩
  |_=>S.Γ id 0 else none⟩
section
variable {S:Wo} {H:aH} {ids:List Nat}
theorem C6 {E:Mem}(hr:Rel S H E){id i:Nat}(hi:ids[i]? = some id){g:Sigma λe:Ty=>List e.den}(hg:S.Γ id 0=some g):∃g',(S.wJ H ids).Γ i 0=some g'/\g'.2.length=g.2.length:=by
 show ∃g',(if 0=0 then (ids[i]?).bind _ else none)=some g'/\_;rw[ag rfl,hi];simp only[aW];split
 .rename_i t e l gu ex ro hrow;obtain⟨_,⟨_,g0,h1,h2⟩,_⟩:=hr.row id _ hrow;rw[hg]at h1;cases h1;exact⟨_,rfl,h2.symm⟩
 exact⟨g,hg,rfl⟩
theorem VR.wJ {E:Mem}(hr:Rel S H E){v:AV}{x:Value}(h:VR S v x):VR (S.wJ H ids) (me ids v) x:=by
 have dW:∀{l:List AV} {m:List Value},(∀(j:Nat) a b,l[j]? = some a->m[j]? = some b->VR (S.wJ H ids) (me ids a) b)->(∀(j:Nat) a b,(xT ids l)[j]? = some a->m[j]? = some b->VR (S.wJ H ids) a b)/\(xT ids l).length=l.length:=by
  intro l;induction l with
  |nil=>intro m h;exact⟨λj a b ha=>by simp[xT]at ha,rfl⟩
  |cons v l ih =>
   intro m h;cases m with
   |nil=>exact⟨λj a b ha hb=>by simp at hb,by have:=(ih (m:=[]) (λj a b _ hb=>by simp at hb)).2;simp[xT,this]⟩
   |cons y m =>
    obtain⟨h1,h2⟩:=ih (m:=m) λj a b ha hb=>h (j+1) a b (by simpa using ha) (by simpa using hb)
    refine⟨λj a b ha hb=>?_,by simp[xT,h2]⟩;cases j with
    |zero=>simp[xT]at ha hb;subst ha;subst hb;exact h 0 v y rfl rfl
    |succ j=>exact h1 j a b (by simpa[xT] using ha) (by simpa using hb)
 have ρi:∀{id i:Nat} {y},ids[i]? = some id->S.ρ id=some y->(S.wJ H ids).ρ i=some y:=λhi hy=>by
  show (ids[_]?).bind S.ρ=_;rw[hi];exact hy
 have Zj:∀{id i:Nat},placeOf id ids 0=some i->ids[i]? = some id:=λh=>by simpa using (zZ ids _ 0 _ h).2
 induction h with
 |int=>unfold me;exact .int _ _
 |bool=>unfold me;exact .bool _
 |str=>unfold me;exact .str _
 |pZ=>unfold me;exact .pZ _
 |dW e l v h=>unfold me;exact .dW e l v h
 |dg=>unfold me;exact .dg
 |own id n i cap s h g hg hn =>
  unfold me;split
  .rename_i j hj;obtain⟨g',h1,h2⟩:=C6 hr (Zj hj) hg;exact .own j n i cap s (ρi (Zj hj) h) g' h1 (by omega)
  exact .jZ _
 |fY id g hg hn =>
  unfold me;split
  .rename_i j hj;obtain⟨g',h1,h2⟩:=C6 hr (Zj hj) hg;exact .fY j g' h1 (by omega)
  exact .jZ _
 |rH id off len cap i c s h g hg hc hl =>
  unfold me;split
  .rename_i j hj;obtain⟨g',h1,h2⟩:=C6 hr (Zj hj) hg;exact .rH j off len cap i c s (ρi (Zj hj) h) g' h1 (by omega) hl
  exact .jZ _
 |ptr id off i c s h =>
  unfold me;split
  .rename_i j hj;exact .ptr j off i c s (ρi (Zj hj) h)
  exact .jZ _
 |CX=>unfold me;exact .jZ _
 |ye id i c s h =>
  unfold me;split
  .rename_i j hj;exact .ye j i c s (ρi (Zj hj) h)
  exact .jZ _
 |dat=>unfold me;exact .jZ _
 |D1 id n i c s h g hg hn =>
  unfold me;split
  .rename_i j hj;obtain⟨g',h1,h2⟩:=C6 hr (Zj hj) hg;exact .D1 j n i c s (ρi (Zj hj) h) g' h1 (by omega)
  exact .jZ _
 |yG cs i pre mid post h hl _ ih =>
  unfold me;obtain⟨l1,l2⟩:=dW ih;exact .yG _ i pre mid post h (by omega) l1
 |nX=>unfold me;exact .nX
 |fn f a b a' b' ha hb _ _ TE TG =>
  unfold me;obtain⟨l1,l2⟩:=dW TE;obtain⟨m1,m2⟩:=dW TG;exact .fn f _ _ a' b' (by omega) (by omega) l1 m1
 |agg l m hl _ ih =>
  unfold me;obtain⟨l1,l2⟩:=dW ih;exact .agg _ m (by omega) l1
 |fH l m hl _ ih =>
  unfold me;obtain⟨l1,l2⟩:=dW ih;exact .fH _ m (by omega) l1
 |zR v h=>unfold me;exact .zR v h
 |fl a v h=>unfold me;exact .fl a v h
 |cx a b v h=>unfold me;exact .cx a b v h
 |jZ v=>unfold me;exact .jZ v
theorem LV.wJ {E:Mem}(hr:Rel S H E):∀{l:List AV} {m:List Value},LV S l m->LV (S.wJ H ids) (xT ids l) m
 |[],m,h=>by rw[h.jq];exact LV.nil
 |v::l,m,h=>by
  obtain⟨x,m',rfl,h1,h2⟩:=h.cons_inv;exact LV.cons (h1.wJ hr) (LV.wJ hr h2)
theorem C7 (r:Row):(Io ids r).AJ=r.AJ:=by cases r<;>rfl
theorem Lb (H:aH)(ids:List Nat):∀(l:List Nat) (M:aH),(l.foldl (λM id=>M.push (rI H ids id)) M).next=M.next+l.length /\
 (l.foldl (λM id=>M.push (rI H ids id)) M).lk=M.lk/\(l.foldl (λM id=>M.push (rI H ids id)) M).par=M.par /\
 ∀j,(l.foldl (λM id=>M.push (rI H ids id)) M).get j=if j<M.next then M.get j else ((l[j-M.next]?).bind H.get).map (Io ids)
 |[],M=>by
  refine⟨rfl,rfl,rfl,λj=>?_⟩;show M.get j=_;by_cases hj:j<M.next
  .rw[ag hj]
  rw[aa hj];simp;cases h:M.get j with
  |none=>rfl
  |some r=>exact absurd (aH.eJ h) hj
 |id::l,M=>by
  rw[gk];obtain⟨h1,h2,h3,h4⟩:=Lb H ids l (M.push (rI H ids id));obtain⟨p1,p2,p3,p4⟩:=aH.dL M (rI H ids id);refine⟨by rw[h1,p1];simp;omega,by rw[h2,p2],by rw[h3,p3],λj=>?_⟩;rw[h4,p1,p4];by_cases hj:j<M.next
  .rw[ag (by omega),aa (by omega),ag hj]
  rw[aa hj];by_cases hj2:j=M.next
  .subst hj2;rw[ag (by omega),ag rfl];simp only[ow,List.getElem?_cons_zero,aW];unfold rI;cases hg:H.get id with
   |none=>rfl
   |some r=>cases r<;>first|rfl|exact absurd hg aH.Iu
  rw[aa (by omega)];have:j-M.next=(j-(M.next+1))+1:=by omega
  rw[this];rfl
theorem Lc (ids:List Nat)(f:fF)(n:Nat):∀(keep:List Tmp) (g:fF),g.n=n->((keep.foldl (λg t=>g.put (some t) (me ids (f.get t))) g).n=n/\∀i,(keep.foldl (λg t=>g.put (some t) (me ids (f.get t))) g).get i=g.get i\/(keep.foldl (λg t=>g.put (some t) (me ids (f.get t))) g).get i=me ids (f.get i))
 |[],g,hg=>⟨hg,λi=>.inl rfl⟩
 |t::keep,g,hg=>by
  rw[gk];obtain⟨e1,e2⟩:=fF.IJ g t (me ids (f.get t));obtain⟨h1,h2⟩:=Lc ids f n keep (g.put (some t) (me ids (f.get t))) (by rw[e1,hg]);refine⟨h1,λi=>?_⟩;rcases h2 i with h|h
  .rw[h,e2];by_cases hi:i=t/\t<g.n
   .rw[ag hi,hi.1];exact .inr rfl
   rw[aa hi];exact .inl rfl
  exact .inr h
theorem MC.wJ {S:Wo}{E:Mem}(hr:Rel S H E){ids:List Nat}:∀{l:List (AV×AV)} {cs:List Value},MC S l cs->MC (S.wJ H ids) (l.map λq=>(me ids q.1,me ids q.2)) cs
 |[],cs,h=>h
 |q::l,cs,⟨y,x,r,h1,h0,h2,h3⟩=>⟨y,x,r,h1,h0.wJ hr,h2.wJ hr,MC.wJ hr h3⟩
variable {β:Type} {r:β}
theorem Zk {keep:List Tmp}{f:fF}{k:fF->aH->Option β}(h:Us keep f H k=some r):∃f' H',k f' H'=some r/\∀(S:Wo) (E:Mem) (fE:Fr),Rel S H E->mh S f fE->∃S',mh S' f' fE/\Rel S' H' E/\Bm S H E S' H' E:=by
 unfold Us at h;simp only at h;generalize aqK:wB H 3 (keep.foldl (λacc t=>KK acc (f.get t)) (List.range H.par))=ids at h;rw[av]at h;split at h;case isFalse=>cases h
 rename_i hc;simp only[ak,aN]at hc;obtain⟨⟨hnd,hpar⟩,hlk⟩:=hc;have hpar:ids.take H.par=List.range H.par:=by simpa using hpar
 refine⟨_,_,h,λS E fE hr hf=>⟨S.wJ H ids,?_,?_,?_⟩⟩;all_goals
  obtain⟨k1,k2⟩:=Lc ids f f.n keep ⟨f.n,.e⟩ rfl;obtain⟨p1,p2,p3,p4⟩:=Lb H ids ids ⟨0,0,H.par,.e⟩
 .refine ⟨by rw[k1,hf.n],λi=>?_⟩;rcases k2 i with e|e
  .rw[e];exact .jZ _
  rw[e];exact(hf.v i).wJ hr
 all_goals
  have CG:∀j q,(ids.foldl (λM id=>M.push (rI H ids id)) (⟨0,0,H.par,.e⟩:aH)).get j=some q->∃id r,ids[j]? = some id/\H.get id=some r/\q=Io ids r:=λj q hj=>by
   rw[p4,aa (by simp)]at hj;simp only[Nat.sub_zero,aK,dN]at hj;obtain⟨r,⟨id,h1,h2⟩,rfl⟩:=hj;exact⟨id,r,h1,h2,rfl⟩
  have ρj:∀{j id},ids[j]? = some id->(S.wJ H ids).ρ j=S.ρ id:=λ{j id} hj=>by
   show (ids[j]?).bind S.ρ=_;rw[hj];rfl
  have aeb:H.par<=ids.length:=by
   have:=cn List.length hpar;simp at this;omega
 .refine ⟨hr.fz,λj x hx=>?_,λj v hj=>?_,λj q hj=>?_,λj j' q q' y y' hj hj' hy hy' he=>?_,λj q y hj hb hy=>?_,λj q y hj _ hy=>?_,by rw[p1,p2];simp,by rw[p1,p3];simpa using aeb,hr.Gh⟩
  .rw[p1];have hx:(ids[j]?).bind S.ρ=some x:=hx;cases hi:ids[j]? with
   |none=>rw[hi]at hx;cases hx
   |some id=>have:=eJ hi;simpa using this
  .rw[p1]at hj;show (if v=0 then (ids[j]?).bind _ else none)=none;rw[dI (by simpa using hj)];split<;>rfl
  .obtain ⟨id,r,h1,h2,rfl⟩:=CG j q hj;have hrow:=hr.row id r h2;cases r with
   |dead=>trivial
   |cells t cs =>
    obtain⟨i,c,s,b,a1,a2,a3,a4⟩:=hrow;exact⟨i,c,s,b,by rw[ρj h1];exact a1,a2,a3.wJ hr,a4⟩
   |mp t ks =>
    obtain⟨i,c,s,b,a1,a2⟩:=hrow;exact⟨i,c,s,b,by rw[ρj h1];exact a1,a2⟩
   |mf t ks =>
    obtain⟨i,c,s,b,a1,a2,a3,a4,a5⟩:=hrow;exact⟨i,c,s,b,by rw[ρj h1];exact a1,a2,a3,a4.wJ hr,a5⟩
   |list t e l gu ex ro =>
    obtain⟨a1,⟨a2,g,a3,a4⟩,a5⟩:=hrow;have hΓ:(S.wJ H ids).Γ j 0=some ⟨e,l⟩:=by
     show (if 0=0 then (ids[j]?).bind _ else none)=_;rw[ag rfl,h1];simp only[aW,h2]
    refine⟨hΓ,⟨λv hv=>aa (by omega),⟨e,l⟩,hΓ,rfl⟩,?_⟩;rcases a5 with⟨b1,b2,b3⟩|⟨i,cap,b,mid,post,q1,q2⟩
    .exact .inl ⟨b1,by rw[ρj h1];exact b2,b3⟩
    exact .inr ⟨i,cap,b,mid,post,by rw[ρj h1];exact q1,q2⟩
  .obtain ⟨id,r,h1,h2,rfl⟩:=CG j q hj;obtain⟨id',r',h1',h2',rfl⟩:=CG j' q' hj';rw[ρj h1]at hy;rw[ρj h1']at hy';have:=hr.inj id id' r r' y y' h2 h2' hy hy' he;subst this;exact td hnd j j' id h1 h1'
  .obtain ⟨id,r,h1,h2,rfl⟩:=CG j q hj;rw[ρj h1]at hy;rw[C7]at hb;exact hr.sep id r y h2 hb hy
  obtain⟨id,r,h1,h2,rfl⟩:=CG j q hj;rw[ρj h1]at hy;exact hr.lk id r y h2 (by omega) hy
 refine⟨aG _,rfl,by rw[p2,hlk],p3,λ_ _ h=>h,λi ho _=>?_,λi hi=>.inl hi,λ_ _ _=>rfl,λid hid=>?_⟩
 .obtain ⟨j,q,y,hj,hb,hy,rfl⟩:=ho;obtain⟨id,r,h1,h2,rfl⟩:=CG j q hj;rw[ρj h1]at hy;rw[C7]at hb;exact⟨id,r,y,h2,hb,hy,rfl⟩
 refine ρj ?_;have:(ids.take H.par)[id]? = some id:=by rw[hpar];simp[hid]
 rw[dB,ag hid]at this;exact this
end
def mQ.sw:mQ->Bool
 |.none=>true
 |.node k a b=>k.isNone&&a.sw&&b.sw
theorem mQ.kZ {a:mQ}(h:a.sw=true):a.keep=Option.none:=by
 cases a with
 |none=>rfl
 |node k a b =>
  simp only[mQ.sw,ak]at h;show k=Option.none;exact Option.isNone_iff_eq_none.1 h.1.1
theorem mQ.Bn {a:mQ}(h:a.sw=true):a.l.sw=true:=by
 cases a with
 |none=>rfl
 |node k a b=>simp only[mQ.sw,ak]at h;exact h.1.2
theorem mQ.UX {a:mQ}(h:a.sw=true):a.r.sw=true:=by
 cases a with
 |none=>rfl
 |node k a b=>simp only[mQ.sw,ak]at h;exact h.2
section
variable {X:gU} {cf:Nat×Nat->Ev.cH} {β:Type} {r:β} {nf:Bool}
def UY (nf:Bool)(f:fF)(H:aH)(f':fF)(H':aH):Prop :=
 ∀(S:Wo) (E:Mem) (fE:Fr),Rel S H E->mh S f fE->∃S',mh S' f' fE/\Rel S' H' E/\Bm S H E S' H' E/\(nf=true->S.le S'/\St S H E S' H' E)
theorem PY {a:mQ}(hn:nf=true->a.keep=none){f:fF}{H:aH}{k:fF->aH->Option β}(h:Cd a f H k=some r):∃f' H',k f' H'=some r/\UY nf f H f' H':=by
 unfold Cd at h;split at h
 .exact ⟨f,H,h,λS E fE hr hf=>⟨S,hf,hr,Bm.refl _ _ _,λ_=>⟨S.le_refl,St.refl _ _ _⟩⟩⟩
 rename_i l hl;obtain⟨f',H',h1,h2⟩:=Zk h;refine⟨f',H',h1,λS E fE hr hf=>?_⟩;obtain⟨S',a1,a2,a3⟩:=h2 S E fE hr hf;exact⟨S',a1,a2,a3,λhnf=>by rw[hn hnf]at hl;cases hl⟩
theorem UY.then {α:Type}{run:Nat×Nat->Fr->Mem->Option (α×Fr×Mem)}{a:α}{f f1 f2:fF}{H H1 H2:aH}(h:UY nf f H f1 H1)(k:wH X nf run a f1 H1 f2 H2):wH X nf run a f H f2 H2:=by
 intro S E fE hr hg hf;obtain⟨S1,a1,a2,a3,a4⟩:=h S E fE hr hf;obtain⟨S2,CF,E2,b1,b2,b3,b4,b5⟩:=k S1 E fE a2 (hg.mono' a3.F) a1;exact⟨S2,CF,E2,b1,b2,b3,a3.trans b4,λhnf=>⟨Wo.le_trans (a4 hnf).1 (b5 hnf).1,(a4 hnf).2.trans (b5 hnf).2⟩⟩
theorem wH.then {f f1 f2:fF}{H H1 H2:aH}{UZ ai1 run:Nat×Nat->Fr->Mem->Option (iD×Fr×Mem)}{lv lv':iD}(h:wH X nf UZ lv f H f1 H1)(k:wH X nf ai1 lv' f1 H1 f2 H2)
 (hrun:∃N0,∀n fE E xW E1 CF E2,N0<=n.1->UZ n fE E=some (lv,xW,E1)->ai1 n xW E1=some (lv',CF,E2)->run n fE E=some (lv',CF,E2)):wH X nf run lv' f H f2 H2:=by
 intro S E fE hr hg hf;obtain⟨N0,hrun⟩:=hrun;obtain⟨S1,xW,E1,⟨N1,a1⟩,a2,a3,a4,a5⟩:=h S E fE hr hg hf;obtain⟨S2,CF,E2,⟨N2,b1⟩,b2,b3,b4,b5⟩:=k S1 E1 xW a3 (hg.mono' a4.F) a2;refine⟨S2,CF,E2,⟨max N0 (max N1 N2),λn hn=>?_⟩,b2,b3,a4.trans b4,λhnf=>⟨Wo.le_trans (a5 hnf).1 (b5 hnf).1,(a5 hnf).2.trans (b5 hnf).2⟩⟩;exact hrun n fE E xW E1 CF E2 (by omega) (a1 n ⟨by omega,by omega⟩) (b1 n ⟨by omega,by omega⟩)
theorem wH.same {f f1:fF}{H H1:aH}{UZ run:Nat×Nat->Fr->Mem->Option (iD×Fr×Mem)}{lv lv':iD}(h:wH X nf UZ lv f H f1 H1)
 (hrun:∃N0,∀n fE E xW E1,N0<=n.1->UZ n fE E=some (lv,xW,E1)->run n fE E=some (lv',xW,E1)):wH X nf run lv' f H f1 H1:=by
 intro S E fE hr hg hf;obtain⟨N0,hrun⟩:=hrun;obtain⟨S1,xW,E1,⟨N1,a1⟩,a2⟩:=h S E fE hr hg hf;exact⟨S1,xW,E1,⟨max N0 N1,λn hn=>hrun n fE E xW E1 (by omega) (a1 n ⟨by omega,by omega⟩)⟩,a2⟩
theorem wH.here {run:Nat×Nat->Fr->Mem->Option (iD×Fr×Mem)}{lv:iD}{f:fF}{H:aH}(h:∀n fE E,run n fE E=some (lv,fE,E)):wH X nf run lv f H f H :=
 λS E fE hr hg hf=>⟨S,fE,E,⟨0,λn _=>h n fE E⟩,hf,hr,Bm.refl _ _ _,λ_=>⟨S.le_refl,St.refl _ _ _⟩⟩
def lW (X:gU)(nf:Bool)(β:Type)(g:fF->aH->KT β->Option β)(run:Nat×Nat->Fr->Mem->Option (iD×Fr×Mem)):Prop :=
 ∀f H k (r:β),g f H k=some r->∃lv f' H',k lv f' H'=some r/\wH X nf run lv f H f' H'
def u9 (X:gU)(nf:Bool){β:Type}(J:s8 β)(JE:Nat×Nat->Ev.tX):Prop :=
 ∀c rest,lW X nf β (J c rest) (λn fE E=>JE n c rest fE E)
theorem Bo {y:fF->aH->Option β}{k:KT β}{lv:iD}{f:fF}{H:aH}(h:xU y k lv f H=some r):(lv = .normal/\y f H=some r)\/(lv ≠ .normal/\k lv f H=some r):=by
 unfold xU at h;split at h
 .exact .inl ⟨rfl,h⟩
 .exact .inr ⟨by simp,h⟩
 .exact .inr ⟨by simp,h⟩
 exact .inr ⟨by simp,h⟩
theorem tK {lv:iD}(h:lv ≠ .normal)(fE:Fr)(E:Mem)(k:Fr->Mem->Ev.Out):Ev.andThen (some (lv,fE,E)) k=some (lv,fE,E):=by
 cases lv<;>first|rfl|exact absurd rfl h
theorem xB {a:mQ}(hn:nf=true->a.keep=none){body:fF->aH->KT β->Option β}{Ld:Nat×Nat->Fr->Mem->Option (iD×Fr×Mem)}(hb:lW X nf β body Ld):∀(m d:Nat) (f:fF) (H:aH) (k:KT β),KL a body k m f H=some r ->
 ∃lv f' H',k lv f' H'=some r/\wH X nf (λn fE E=>Ev.x9 (Ld n) (n.1-d) fE E) lv f H f' H'
 |0,d,f,H,k,h=>by cases h
 |m+1,d,f,H,k,h=>by
  have h:body f H (xU (λf H=>Cd a f H (KL a body k m)) k)=some r:=h;obtain⟨lv,f2,H2,h3,h4⟩:=hb _ _ _ _ h;have hstep:∀(q:Nat) (n:Nat×Nat) fE E,Ev.x9 (Ld n) (q+1) fE E=Ev.andThen (Ld n fE E) (Ev.x9 (Ld n) q):=λq n fE E=>rfl
  rcases Bo h3 with⟨rfl,h5⟩|⟨hne,h5⟩
  .obtain ⟨f1,H1,h1,h2⟩:=PY hn h5;obtain⟨lv',f3,H3,h6,h7⟩:=xB hn hb m (d+1) f1 H1 k h1;refine⟨lv',f3,H3,h6,h4.then (h2.then h7) ⟨d+1,λn fE E xW E1 CF E2 hn' e1 e2=>?_⟩⟩;have:n.1-d=(n.1-(d+1))+1:=by omega
   rw[this,hstep,e1];exact e2
  refine⟨lv,f2,H2,h5,h4.same ⟨d+1,λn fE E xW E1 hn' e1=>?_⟩⟩;have:n.1-d=(n.1-(d+1))+1:=by omega
  rw[this,hstep,e1];exact tK hne _ _ _
theorem Le {id:Nat}{g:fF->aH->KT β->Option β}{run:Nat×Nat->Fr->Mem->Option (iD×Fr×Mem)}(hg:lW X nf β g run):lW X nf β (λf H k=>g f H (D6 id k)) (λn fE E=>Ev.mW id (run n fE E)):=by
 intro f H k r h;obtain⟨lv,f',H',h1,h2⟩:=hg _ _ _ _ h;unfold D6 at h1;split at h1
 .rename_i id';rw[av]at h1;split at h1
  .rename_i hid;refine⟨_,f',H',h1,h2.same ⟨0,λn fE E xW E1 _ e1=>?_⟩⟩;rw[e1];simp[Ev.mW,hid]
  rename_i hid;refine⟨_,f',H',h1,h2.same ⟨0,λn fE E xW E1 _ e1=>?_⟩⟩;rw[e1];have:Nat.beq id' id=false:=by
   cases hb:Nat.beq id' id with
   |true=>exact absurd hb hid
   |false=>rfl
  simp[Ev.mW,this]
 .exact ⟨_,f',H',h1,h2.same ⟨0,λn fE E xW E1 _ e1=>by rw[e1];rfl⟩⟩
 .exact ⟨_,f',H',h1,h2.same ⟨0,λn fE E xW E1 _ e1=>by rw[e1];rfl⟩⟩
 exact⟨_,f',H',h1,h2.same ⟨0,λn fE E xW E1 _ e1=>by rw[e1];rfl⟩⟩
theorem Lf {c:Code}{J:s8 β}{JE:Nat×Nat->Ev.tX}(hJ:u9 X nf J JE){g:fF->aH->KT β->Option β}{run:Nat×Nat->Fr->Mem->Option (iD×Fr×Mem)}(hg:lW X nf β g run):lW X nf β (λf H k=>g f H (Bc c J k)) (λn fE E=>Ev.lJ c (JE n) (run n fE E)):=by
 intro f H k r h;obtain⟨lv,f',H',h1,h2⟩:=hg _ _ _ _ h;unfold Bc at h1;split at h1
 .rename_i l;split at h1
  .rename_i rest hl;obtain⟨lv',f2,H2,h3,h4⟩:=hJ c rest _ _ _ _ h1;refine⟨lv',f2,H2,h3,h2.then h4 ⟨0,λn fE E xW E1 CF E2 _ e1 e2=>?_⟩⟩;rw[e1];simp only[Ev.lJ,hl];exact e2
  rename_i hl;exact⟨_,f',H',h1,h2.same ⟨0,λn fE E xW E1 _ e1=>by rw[e1];simp only[Ev.lJ,hl]⟩⟩
 .exact ⟨_,f',H',h1,h2.same ⟨0,λn fE E xW E1 _ e1=>by rw[e1];rfl⟩⟩
 .exact ⟨_,f',H',h1,h2.same ⟨0,λn fE E xW E1 _ e1=>by rw[e1];rfl⟩⟩
 exact⟨_,f',H',h1,h2.same ⟨0,λn fE E xW E1 _ e1=>by rw[e1];rfl⟩⟩
theorem vc {a:mQ}(hn:nf=true->a.keep=none){g:fF->aH->KT β->Option β}{run:Nat×Nat->Fr->Mem->Option (iD×Fr×Mem)}(hg:lW X nf β g run):lW X nf β (λf H k=>Cd a f H λf H=>g f H k) run:=by
 intro f H k r h;obtain⟨f1,H1,h1,h2⟩:=PY hn h;obtain⟨lv,f2,H2,h3,h4⟩:=hg _ _ _ _ h1;exact⟨lv,f2,H2,h3,h2.then h4⟩
theorem Lg {call:cI β}(hcall:cT X cf call){tr:List Tmp}{J:s8 β}{JE:Nat×Nat->Ev.tX}(rounds:Nat)(c:Code):Ev.nT c=true->lW X true β (gY X call tr J rounds c .none) (λn fE E=>Ev.jK X.P X.G (cf n) (JE n) n.1 c fE E):=by
 induction c with
 |skip=>intro _ f H k r h;exact⟨_,f,H,h,.here λ_ _ _=>rfl⟩
 |region id ops draw =>
  intro _ f H k r h;obtain⟨f',H',h1,h2⟩:=xA hcall (show zS X call tr ops draw f H (λf H=>k .normal f H)=some r from h);refine⟨_,f',H',h1,λS E fE hr hg hf=>?_⟩;obtain⟨S',fE',E',a1,a2,a3,a4,a5⟩:=h2 S E fE hr hg hf;exact⟨S',fE',E',a1,a2,a3,a4,λ_=>a5 rfl⟩
 |seq x y Nn Np =>
  intro hp f H k r h;have hp:(Ev.nT x&&Ev.nT y)=true:=hp;rw[ak]at hp;obtain⟨lv,f1,H1,h1,h2⟩:=Nn hp.1 _ _ _ _ (show gY X call tr J rounds x .none f H (xU (λf H=>gY X call tr J rounds y .none f H k) k)=some r from h);have hs:∀n fE E,Ev.jK X.P X.G (cf n) (JE n) n.1 (.seq x y) fE E=Ev.andThen (Ev.jK X.P X.G (cf n) (JE n) n.1 x fE E) (Ev.jK X.P X.G (cf n) (JE n) n.1 y):=λn fE E=>rfl
  rcases Bo h1 with⟨rfl,h3⟩|⟨hne,h3⟩
  .obtain ⟨lv',f2,H2,h4,h5⟩:=Np hp.2 _ _ _ _ h3;exact⟨lv',f2,H2,h4,h2.then h5 ⟨0,λn fE E xW E1 CF E2 _ e1 e2=>by rw[hs,e1];exact e2⟩⟩
  exact⟨lv,f1,H1,h3,h2.same ⟨0,λn fE E xW E1 _ e1=>by rw[hs,e1];exact tK hne _ _ _⟩⟩
 |cond c x y Nn Np =>
  intro hp f H k r h;have hp:(Ev.nT x&&Ev.nT y)=true:=hp;rw[ak]at hp;have h:ah (Ev.dS X.G c) (match f.eval X c with
   |.bool b=>ah b (gY X call tr J rounds x .none f H k) (gY X call tr J rounds y .none f H k)
   |_=>none) none=some r:=h
  rw[av]at h;split at h;case isFalse=>cases h
  rename_i hok;split at h
  .rename_i b hb;have hs:∀n fE E,Ev.jK X.P X.G (cf n) (JE n) n.1 (.cond c x y) fE E=ah (Ev.dS X.G c) (Ev.Dz (fE.eval c) (Ev.jK X.P X.G (cf n) (JE n) n.1 x) (Ev.jK X.P X.G (cf n) (JE n) n.1 y) fE E) none:=λn fE E=>rfl
   have both:∃lv f' H',k lv f' H'=some r/\wH X true (λn fE E=>ah b (Ev.jK X.P X.G (cf n) (JE n) n.1 x fE E) (Ev.jK X.P X.G (cf n) (JE n) n.1 y fE E)) lv f H f' H':=by
    cases b with
    |true=>exact Nn hp.1 _ _ _ _ h
    |false=>exact Np hp.2 _ _ _ _ h
   obtain⟨lv,f',H',h1,h2⟩:=both;refine⟨lv,f',H',h1,λS E fE hr hg hf=>?_⟩;obtain⟨S',fE',E',⟨N,a1⟩,a2⟩:=h2 S E fE hr hg hf;refine⟨S',fE',E',⟨N,λn hn'=>?_⟩,a2⟩;have hv:=qH hf hg hok;rw[hb]at hv;have a1:=a1 n hn';simp only at a1 ⊢;rw[hs,hok,hv.mg];exact a1
  cases h
 |block id b ih=>intro hp;exact Le (ih hp)
 |loop b ih =>
  intro hp f H k r h;exact xB (a:=.none) (λ_=>rfl) (ih hp) rounds 0 f H k h
 |rangeFunc g params assign body _ _=>intro hp;cases hp
 |exit id=>intro _ f H k r h;exact⟨_,f,H,h,.here λ_ _ _=>rfl⟩
 |scope b ih=>intro hp;cases hp
 |label l=>intro _ f H k r h;exact⟨_,f,H,h,.here λ_ _ _=>rfl⟩
 |goto l=>intro _ f H k r h;exact⟨_,f,H,h,.here λ_ _ _=>rfl⟩
 |ret=>intro _ f H k r h;exact⟨_,f,H,h,.here λ_ _ _=>rfl⟩
 |refuse w=>intro _ f H k r h;cases h
def NM (l:List AV)(lE:List Value):Prop:=l.length=lE.length/\∀(j:Nat) s y,l[j]? = some (.str s)->lE[j]? = some y->y = .string ⟨s.toArray⟩
theorem NM.of {S:Wo}{l:List AV}{lE:List Value}(h:LV S l lE):NM l lE:=⟨h.1,λj s y hx hy=>(h.2 j _ y hx hy).jo⟩
theorem NM.cons_inv {v:AV}{l:List AV}{lE:List Value}(h:NM (v::l) lE):∃x m,lE=x::m/\(∀s,v = .str s->x = .string ⟨s.toArray⟩)/\NM l m:=by
 obtain⟨h1,h2⟩:=h;cases lE with
 |nil=>simp at h1
 |cons x m=>exact⟨x,m,rfl,λs hs=>h2 0 s x (by rw[hs];rfl) rfl,by simpa using h1,λj s y hx hy=>h2 (j+1) s y (by simpa using hx) (by simpa using hy)⟩
theorem Gu {a:mQ}(hn:nf=true->a.keep=none){p:Tmp}{x y:fF->aH->KT β->Option β}{xE yE:Nat×Nat->Fr->Mem->Option (iD×Fr×Mem)}(hx:lW X true β x xE)(hy:lW X true β y yE){k:KT β}:∀(l:List AV) (f:fF) (H:aH),CZ a p x y k l f H=some r ->
 ∃lv f' H',k lv f' H'=some r/\∀(S:Wo) (E:Mem) (fE:Fr) (lE:List Value),Rel S H E->fm X S->mh S f fE->NM l lE ->
  ∃S' fE' E',(∃N,∀n:Nat×Nat,N<=n.1/\N<=n.2->Ev.rD p (xE n) (yE n) fE lE E=some (lv,fE',E'))/\mh S' f' fE'/\Rel S' H' E'/\Bm S H E S' H' E'/\(nf=true->S.le S'/\St S H E S' H' E')
 |[],f,H,h=>⟨.normal,f,H,h,λS E fE lE hr hg hf hl=>by
  have hl:lE=[]:=aQ.1 (by have:=hl.1;simpa using this.symm);rw[hl];exact⟨S,fE,E,⟨0,λn _=>rfl⟩,hf,hr,Bm.refl _ _ _,λ_=>⟨S.le_refl,St.refl _ _ _⟩⟩⟩
 |v::l,f,H,h=>by
  replace h:(match (generalizing:=false) v with
   |.str s=>x (f.put (some p) (.str s)) H (λlv f2 H2=>match lv with
    |.normal=>y f2 H2 λlv _ H3=>match lv with
     |.normal=>Cd a f H3 (CZ a p x y k l)
     |.ret=>k .ret f H3
     |_=>none
    |_=>none)
   |_=>none)=some r:=h
  split at h;case h_2=>cases h
  rename_i s;obtain⟨lv1,f2,H2,h1,h2⟩:=hx _ _ _ _ h;split at h1;case h_2=>cases h1
  obtain⟨lv2,f3,H3,h3,h4⟩:=hy _ _ _ _ h1;have hstep:∀(n:Nat×Nat) (v:Value) (lE:List Value) (fE:Fr) (E:Mem),Ev.rD p (xE n) (yE n) fE (v::lE) E=match fE.put (some p) v with
   |some f1=>match xE n f1 E with
    |some (.normal,f2,H2)=>match yE n f2 H2 with
     |some (.normal,_,H3)=>Ev.rD p (xE n) (yE n) fE lE H3
     |some (.ret,_,H3)=>some (.ret,fE,H3)
     |_=>none
    |_=>none
   |none=>none:=λ_ _ _ _ _=>rfl
  have both:∀(S:Wo) (E:Mem) (fE:Fr),Rel S H E->fm X S->mh S f fE->∃S3 f1 CF E2 fE3 E3,fE.put (some p) (.string ⟨s.toArray⟩)=some f1/\(∃N,∀n:Nat×Nat,N<=n.1/\N<=n.2->xE n f1 E=some (.normal,CF,E2)/\yE n CF E2=some (lv2,fE3,E3))/\Rel S3 H3 E3/\S.le S3/\St S H E S3 H3 E3:=λS E fE hr hg hf=>by
   obtain⟨f1,hf1⟩:=Fr.oW fE (some p) (.string ⟨s.toArray⟩);obtain⟨S2,CF,E2,⟨N1,a1⟩,a2,a3,a4,a5⟩:=h2 S E f1 hr hg (hf.put (.str s) hf1);obtain⟨S3,fE3,E3,⟨N2,b1⟩,b2,b3,b4,b5⟩:=h4 S2 E2 CF a3 (hg.mono' a4.F) a2;exact⟨S3,f1,CF,E2,fE3,E3,hf1,⟨max N1 N2,λn hn=>⟨a1 n ⟨by omega,by omega⟩,b1 n ⟨by omega,by omega⟩⟩⟩,b3,Wo.le_trans (a5 rfl).1 (b5 rfl).1,(a5 rfl).2.trans (b5 rfl).2⟩
  split at h3
  .obtain ⟨f4,H4,h5,h6⟩:=PY hn h3;obtain⟨lv',f5,H5,h7,h8⟩:=Gu hn hx hy l f4 H4 h5;refine⟨lv',f5,H5,h7,λS E fE lE hr hg hf hl=>?_⟩;obtain⟨v1,lE,rfl,hv,CA⟩:=hl.cons_inv;obtain rfl:=hv s rfl;obtain⟨S3,f1,CF,E2,fE3,E3,c1,⟨N1,c2⟩,c3,c4,c5⟩:=both S E fE hr hg hf;obtain⟨S4,d1,d2,d3,d4⟩:=h6 S3 E3 fE c3 (hf.mono c4);obtain⟨S5,fE5,E5,⟨N2,e1⟩,e2,e3,e4,e5⟩:=h8 S4 E3 fE lE d2 ((hg.mono' c5.F).mono' d3.F) d1 CA;refine⟨S5,fE5,E5,⟨max N1 N2,λn hn=>?_⟩,e2,e3,(c5.ML.trans d3).trans e4,λhnf=>⟨Wo.le_trans c4 (Wo.le_trans (d4 hnf).1 (e5 hnf).1),(c5.trans (d4 hnf).2).trans (e5 hnf).2⟩⟩
   obtain⟨g1,g2⟩:=c2 n ⟨by omega,by omega⟩;rw[hstep,c1];simp only[g1,g2];exact e1 n ⟨by omega,by omega⟩
  .refine ⟨.ret,f,H3,h3,λS E fE lE hr hg hf hl=>?_⟩;obtain⟨v1,lE,rfl,hv,CA⟩:=hl.cons_inv;obtain rfl:=hv s rfl;obtain⟨S3,f1,CF,E2,fE3,E3,c1,⟨N1,c2⟩,c3,c4,c5⟩:=both S E fE hr hg hf;refine⟨S3,fE,E3,⟨N1,λn hn=>?_⟩,hf.mono c4,c3,c5.ML,λ_=>⟨c4,c5⟩⟩;obtain⟨e1,e2⟩:=c2 n hn;rw[hstep,c1];simp only[e1,e2]
  cases h3
theorem DZ {call:cI β}(hcall:cT X cf call){a:mQ}(hn:nf=true->a.keep=none){g:Operand}{ps:List Tmp}{plain:Bool}{x y:fF->aH->KT β->Option β}{xE yE:Nat×Nat->Fr->Mem->Option (iD×Fr×Mem)}(hx:plain=true->lW X true β x xE)(hy:plain=true->lW X true β y yE) :
 lW X nf β (Iq X call g ps plain a x y) (λn fE E=>Ev.AO X.P X.G (cf n) g ps plain (xE n) (yE n) fE E):=by
 intro f H k r h;unfold Iq at h;rw[av]at h;split at h;case isFalse=>cases h
 rename_i hc;rw[ak]at hc;obtain⟨hok,hp⟩:=hc;split at h;case h_2=>cases h
 rename_i p fid id cj;split at h;case h_2=>cases h
 rename_i hfn;obtain⟨v,H1,h1,h2⟩:=hcall _ _ _ _ _ h;split at h1;case h_2=>cases h1
 rename_i u l;obtain⟨lv,f',H',h3,h4⟩:=Gu hn (hx hp) (hy hp) l f H1 h1;refine⟨lv,f',H',h3,λS E fE hr hg hf=>?_⟩;have hv:=qH hf hg hok;rw[cj]at hv;generalize hq:fE.eval g=q at hv;cases hv with
 |fn _ _ _ a' b' ha hb va vb =>
  have ha:a'=[]:=aQ.1 (by simpa using ha.symm);subst ha;obtain⟨z,rfl⟩:∃z,b'=[z]:=by
   cases b' with
   |nil=>simp at hb
   |cons z m=>cases m with
    |nil=>exact⟨z,rfl⟩
    |cons _ _=>simp at hb
  have hz:=vb 0 _ z rfl rfl;cases hz with
  |ptr _ _ i c s hρ =>
   obtain⟨S1,vE,E1,⟨N1,a1⟩,a2,a3,a4,a5⟩:=h2 S E [.pointer (some ⟨i,0,none⟩)] hr hg (LV.cons (.ptr id 0 i c s hρ) LV.nil);cases a3 with
   |fH _ m hl hm =>
    obtain⟨u',m',rfl,_,hm2⟩:=(show LV S1 (u::l) m from ⟨hl,hm⟩).cons_inv;obtain⟨S2,CF,E2,⟨N2,b1⟩,b2,b3,b4,b5⟩:=h4 S1 E1 fE m' a4 (hg.mono' a5.F) (hf.mono a2) (NM.of hm2);refine⟨S2,CF,E2,⟨max N1 N2,λn hn'=>?_⟩,b2,b3,a5.ML.trans b4,λhnf=>⟨Wo.le_trans a2 (b5 hnf).1,a5.trans (b5 hnf).2⟩⟩;show Ev.AO X.P X.G (cf n) g [p] plain (xE n) (yE n) fE E=_;unfold Ev.AO;rw[hok,hp,hq];simp only[hfn,a1 n ⟨by omega,by omega⟩];exact b1 n ⟨by omega,by omega⟩
theorem IL {call:cI β}(hcall:cT X cf call){tr:List Tmp}{J:s8 β}{JE:Nat×Nat->Ev.tX}(hJ:u9 X nf J JE)(rounds:Nat)(c:Code):∀(a:mQ),(nf=true->a.sw=true)->lW X nf β (gY X call tr J rounds c a) (λn fE E=>Ev.jK X.P X.G (cf n) (JE n) n.1 c fE E):=by
 induction c with
 |skip=>intro a _ f H k r h;exact⟨_,f,H,h,.here λ_ _ _=>rfl⟩
 |region id ops draw =>
  intro a hn;refine vc (g:=λf H k=>zS X call tr ops draw f H λf H=>k .normal f H) (λh=>mQ.kZ (hn h)) λf H k r h=>?_
  obtain⟨f',H',h1,h2⟩:=xA hcall h;refine⟨_,f',H',h1,λS E fE hr hg hf=>?_⟩;obtain⟨S',fE',E',a1,a2,a3,a4,a5⟩:=h2 S E fE hr hg hf;exact⟨S',fE',E',a1,a2,a3,a4,λ_=>a5 rfl⟩
 |seq x y Nn Np =>
  intro a hn;refine vc (g:=λf H k=>gY X call tr J rounds x a.l f H (xU (λf H=>gY X call tr J rounds y a.r f H k) k)) (λh=>mQ.kZ (hn h)) λf H k r h=>?_
  obtain⟨lv,f1,H1,h1,h2⟩:=Nn a.l (λh=>mQ.Bn (hn h)) _ _ _ _ h;have hs:∀n fE E,Ev.jK X.P X.G (cf n) (JE n) n.1 (.seq x y) fE E=Ev.andThen (Ev.jK X.P X.G (cf n) (JE n) n.1 x fE E) (Ev.jK X.P X.G (cf n) (JE n) n.1 y):=λn fE E=>rfl
  rcases Bo h1 with⟨rfl,h3⟩|⟨hne,h3⟩
  .obtain ⟨lv',f2,H2,h4,h5⟩:=Np a.r (λh=>mQ.UX (hn h)) _ _ _ _ h3;exact⟨lv',f2,H2,h4,h2.then h5 ⟨0,λn fE E xW E1 CF E2 _ e1 e2=>by rw[hs,e1];exact e2⟩⟩
  exact⟨lv,f1,H1,h3,h2.same ⟨0,λn fE E xW E1 _ e1=>by rw[hs,e1];exact tK hne _ _ _⟩⟩
 |cond c x y Nn Np =>
  intro a hn;refine vc (g:=λf H k=>ah (Ev.dS X.G c) (match f.eval X c with
   |.bool b=>ah b (gY X call tr J rounds x a.l f H k) (gY X call tr J rounds y a.r f H k)
   |_=>none) none) (λh=>mQ.kZ (hn h)) λf H k r h=>?_
  simp only at h;rw[av]at h;split at h;case isFalse=>cases h
  rename_i hok;split at h
  .rename_i b hb;have hs:∀n fE E,Ev.jK X.P X.G (cf n) (JE n) n.1 (.cond c x y) fE E=ah (Ev.dS X.G c) (Ev.Dz (fE.eval c) (Ev.jK X.P X.G (cf n) (JE n) n.1 x) (Ev.jK X.P X.G (cf n) (JE n) n.1 y) fE E) none:=λn fE E=>rfl
   have both:∃lv f' H',k lv f' H'=some r/\wH X nf (λn fE E=>ah b (Ev.jK X.P X.G (cf n) (JE n) n.1 x fE E) (Ev.jK X.P X.G (cf n) (JE n) n.1 y fE E)) lv f H f' H':=by
    cases b with
    |true=>exact Nn a.l (λh=>mQ.Bn (hn h)) _ _ _ _ h
    |false=>exact Np a.r (λh=>mQ.UX (hn h)) _ _ _ _ h
   obtain⟨lv,f',H',h1,h2⟩:=both;refine⟨lv,f',H',h1,λS E fE hr hg hf=>?_⟩;obtain⟨S',fE',E',⟨N,a1⟩,a2⟩:=h2 S E fE hr hg hf;refine⟨S',fE',E',⟨N,λn hn'=>?_⟩,a2⟩;have hv:=qH hf hg hok;rw[hb]at hv;have a1:=a1 n hn';simp only at a1 ⊢;rw[hs,hok,hv.mg];exact a1
  cases h
 |block id b ih =>
  intro a hn;exact vc (g:=λf H k=>gY X call tr J rounds b a.l f H (D6 id k)) (λh=>mQ.kZ (hn h)) (Le (ih a.l λh=>mQ.Bn (hn h)))
 |loop b ih =>
  intro a hn f H k r h;obtain⟨f1,H1,h1,h2⟩:=PY (λh=>mQ.kZ (hn h)) h;obtain⟨lv,f',H',h3,h4⟩:=xB (λh=>mQ.kZ (hn h)) (ih a.l λh=>mQ.Bn (hn h)) rounds 0 f1 H1 k h1;exact⟨lv,f',H',h3,h2.then h4⟩
 |rangeFunc g params assign body _ _ =>
  intro a hn;exact vc (g:=λf H k=>Iq X call g params.toList (Ev.nT assign&&Ev.nT body) a (gY X call tr J rounds assign .none) (gY X call tr J rounds body .none) f H k) (λh=>mQ.kZ (hn h))
   (DZ hcall (λh=>mQ.kZ (hn h)) (λh=>Lg (JE:=JE) hcall rounds assign (by rw[ak]at h;exact h.1)) (λh=>Lg (JE:=JE) hcall rounds body (by rw[ak]at h;exact h.2)))
 |exit id=>intro a _ f H k r h;exact⟨_,f,H,h,.here λ_ _ _=>rfl⟩
 |scope b ih =>
  intro a hn;exact vc (g:=λf H k=>gY X call tr J rounds b a.l f H (Bc b J k)) (λh=>mQ.kZ (hn h)) (Lf hJ (ih a.l λh=>mQ.Bn (hn h)))
 |label l=>intro a _ f H k r h;exact⟨_,f,H,h,.here λ_ _ _=>rfl⟩
 |goto l=>intro a _ f H k r h;exact⟨_,f,H,h,.here λ_ _ _=>rfl⟩
 |ret=>intro a _ f H k r h;exact⟨_,f,H,h,.here λ_ _ _=>rfl⟩
 |refuse w=>intro a _ f H k r h;cases h
theorem PZ {ja:mQ}(hn:nf=true->ja.keep=none){J:s8 β}{JE:Nat×Nat->Ev.tX}(hJ:u9 X nf J JE):u9 X nf (λc rest f H k=>Cd ja f H λf H=>J c rest f H k) JE :=
 λc rest=>vc (g:=J c rest) hn (hJ c rest)
theorem Gv {call:cI β}(hcall:cT X cf call){tr:List Tmp}{ja:mQ}(hn:nf=true->ja.sw=true)(rounds:Nat):∀(m d:Nat),u9 X nf (NH X call tr ja rounds m) (λn=>Ev.uM X.P X.G (cf n) n.1 (n.1-d))
 |0,d=>λc rest f H k r h=>by cases h
 |m+1,d=>λc rest=>by
  have ih:=PZ (λh=>mQ.kZ (hn h)) (Gv (tr:=tr) hcall hn rounds m (d+1));have key:=Lf (c:=c) ih (IL (tr:=tr) hcall ih rounds rest ja.l λh=>mQ.Bn (hn h));intro f H k r h;obtain⟨lv,f',H',h1,h2⟩:=key f H k r h;refine⟨lv,f',H',h1,h2.same ⟨d+1,λn fE E xW E1 hn' e1=>?_⟩⟩;have:n.1-d=(n.1-(d+1))+1:=by omega
  show Ev.uM X.P X.G (cf n) n.1 (n.1-d) c rest fE E=_;rw[this];exact e1
theorem U0 {call:cI β}(hcall:cT X cf call){tr:List Tmp}{ja:mQ}(hn:nf=true->ja.sw=true)(rounds:Nat)(m d:Nat):u9 X nf (ng X call tr ja rounds m) (λn=>Ev.uM X.P X.G (cf n) n.1 (n.1-d)) :=
 PZ (λh=>mQ.kZ (hn h)) (Gv hcall hn rounds m d)
theorem A7 {H:aH}{f:fF}{rv:ResultVar}{k:AV->Option β}(h:Ir X H f rv k=some r):∃v,k v=some r/\∀S E fE,Rel S H E->mh S f fE->∃x,Ev.zn X.P E fE rv=some x/\VR S v x:=by
 unfold Ir at h;split at h
 .rename_i t;exact⟨_,h,λS E fE hr hf=>⟨fE.get t,rfl,hf.v t⟩⟩
 rename_i x t;obtain⟨v,h1,h2⟩:=KR h;exact⟨v,h1,λS E fE hr hf=>h2 S E _ hr (hf.v x)⟩
theorem uT {H:aH}{f:fF}:∀{l:List ResultVar} {k:List AV->Option β},wC X H f k l=some r->∃vs,k vs=some r/\∀S E fE,Rel S H E->mh S f fE->∃xs,Ev.ke X.P E fE l=some xs/\LV S vs xs
 |[],k,h=>⟨[],h,λS E fE hr hf=>⟨[],rfl,LV.nil⟩⟩
 |rv::l,k,h=>by
  obtain⟨v,h1,h2⟩:=A7 h;obtain⟨vs,h3,h4⟩:=uT h1;refine⟨v::vs,h3,λS E fE hr hf=>?_⟩;obtain⟨x,e1,e2⟩:=h2 S E fE hr hf;obtain⟨xs,e3,e4⟩:=h4 S E fE hr hf;exact⟨x::xs,by simp only[Ev.ke,e1,e3],LV.cons e2 e4⟩
theorem IM {S:Wo}{vs:List AV}{xs:List Value}(h:LV S vs xs):VR S (rJ vs) (Ev.vV xs):=by
 match vs,xs,h with
 |[],xs,h=>rw[h.jq];exact .fH [] [] rfl (λj x y hx=>by simp at hx)
 |[v],xs,h =>
  obtain⟨x,m,rfl,h1,h2⟩:=h.cons_inv;rw[h2.jq];exact h1
 |v::w::vs,xs,h =>
  obtain⟨x,m,rfl,h1,h2⟩:=h.cons_inv;obtain⟨y,m',rfl,h3,h4⟩:=h2.cons_inv;exact .fH _ _ h.1 h.2
theorem yU:∀(l:List Value) (f:Fr) (i:Nat),∃f',f.fill i l=some f'
 |[],f,i=>⟨f,rfl⟩
 |v::l,f,i=>by
  obtain⟨f1,h1⟩:=Fr.oW f (some i) v;obtain⟨f2,h2⟩:=yU l f1 (i+1);exact⟨f2,by simp only[Ev.Fr.fill,h1,h2]⟩
theorem Eg {S:Wo}:∀{vs:List AV} {xs:List Value} {f:fF} {fE fE':Fr} {i:Nat},mh S f fE->LV S vs xs->fE.fill i xs=some fE'->mh S (f.fill i vs) fE'
 |[],xs,f,fE,fE',i,hf,hl,h=>by
  rw[hl.jq]at h;cases h;exact hf
 |v::vs,xs,f,fE,fE',i,hf,hl,h=>by
  obtain⟨x,m,rfl,h1,h2⟩:=hl.cons_inv;simp only[Ev.Fr.fill]at h;split at h
  .rename_i f1 hp;exact Eg (f:=f.put (some i) v) (hf.put h1 hp) h2 h
  cases h
theorem kV {call:cI β}(hcall:cT X cf call){an:eD}(hn:nf=true->an.C3.sw=true/\an.ja.sw=true){rounds:Nat}{id:FuncId}{args:List AV}{H:aH}{k:AV->aH->Option β}(h:aT X call an rounds id args H k=some r) :
 ∃v H',k v H'=some r/\∀(S:Wo) (E:Mem) (bM:List Value),Rel S H E->fm X S->LV S args bM ->
  ∃S' vE E',(∃N,∀n:Nat×Nat,N<=n.1/\N<=n.2->Ev.lK X.P X.G (cf n) n.1 id bM E=some (vE,E'))/\VR S' v vE/\Rel S' H' E'/\Bm S H E S' H' E'/\(nf=true->S.le S'/\St S H E S' H' E'):=by
 unfold aT at h;split at h;case h_2=>cases h
 rename_i fn hfn;split at h;case h_2=>cases h
 rename_i c hc;rw[av]at h;split at h;case isFalse=>cases h
 rename_i hlen;have hJ:=U0 (tr:=an.tr) hcall (λh=>(hn h).2) rounds rounds 0;obtain⟨lv,f',H',h1,h2⟩:=IL (tr:=an.tr) hcall hJ rounds c an.C3 (λh=>(hn h).1) _ _ _ _ h;have fin:(lv = .normal\/lv = .ret)->wC X H' f' (λvs=>k (rJ vs) H') fn.results.toList=some r->∃v H',k v H'=some r/\∀(S:Wo) (E:Mem) (bM:List Value),Rel S H E->fm X S->LV S args bM ->
  ∃S' vE E',(∃N,∀n:Nat×Nat,N<=n.1/\N<=n.2->Ev.lK X.P X.G (cf n) n.1 id bM E=some (vE,E'))/\VR S' v vE/\Rel S' H' E'/\Bm S H E S' H' E'/\(nf=true->S.le S'/\St S H E S' H' E'):=λhlv hres=>by
  obtain⟨vs,h3,h4⟩:=uT hres;refine⟨rJ vs,H',h3,λS E bM hr hg hl=>?_⟩;obtain⟨f0,hf0⟩:=yU bM (Fr.mk fn.ntmps (Tr.full (Ev.xm fn.ntmps))) 0;have ai3:mh S (fF.mk fn.ntmps .e) (Fr.mk fn.ntmps (Tr.full (Ev.xm fn.ntmps))):=⟨rfl,λi=>.jZ _⟩;obtain⟨S',fE',E',⟨N,a1⟩,a2,a3,a4,a5⟩:=h2 S E f0 hr hg (Eg ai3 hl hf0);obtain⟨xs,e1,e2⟩:=h4 S' E' fE' a3 a2;refine⟨S',Ev.vV xs,E',⟨N,λn hn'=>?_⟩,IM e2,a3,a4,a5⟩;unfold Ev.lK;have a1:=a1 n hn';simp only[Nat.sub_zero]at a1;simp only[hfn,hc,hf0]
  have hlen':Nat.ble bM.length fn.ntmps=true:=by rw[<-hl.1];exact hlen
  rw[hlen',a1];rcases hlv with rfl|rfl
  .show Ev.cD E' ((Ev.ke X.P E' fE' fn.results.toList).map Ev.vV)=_;rw[e1];rfl
  show Ev.cD E' ((Ev.ke X.P E' fE' fn.results.toList).map Ev.vV)=_;rw[e1];rfl
 unfold pn at h1;split at h1
 .exact fin (.inl rfl) h1
 .exact fin (.inr rfl) h1
 cases h1
noncomputable def dO (X:gU)(kn:Ev.fc):Nat×Nat->Ev.cH:=λn=>Ev.nK X.P X.G kn n.1 n.2
theorem fZ {kn:Ev.fc}{id:FuncId}(hk:∀args,kn id args=none){bM:List Value}{E E':Mem}{vE:Value}(h:∃N,∀n:Nat×Nat,N<=n.1/\N<=n.2->Ev.lK X.P X.G (dO X kn n) n.1 id bM E=some (vE,E')):∃N,∀n:Nat×Nat,N<=n.1/\N<=n.2->dO X kn n id bM E=some (vE,E'):=by
 obtain⟨N,h⟩:=h;refine⟨N+1,λn hn=>?_⟩;obtain⟨R,D⟩:=n;obtain⟨D',rfl⟩:∃D',D=D'+1:=⟨D-1,by have:=hn.2;simp only at this;omega⟩;have:=h (R,D') ⟨by have:=hn.1;simp only at this ⊢;omega,by have:=hn.2;simp only at this ⊢;omega⟩;show Ev.nK X.P X.G kn R (D'+1) id bM E=_;rw[Ev.lS,hk];show Ev.nD (Ev.oD X.P kn id bM E) _=_;rw[Ev.Ns (hk _)];show Ev.nD (Ev.lK X.P X.G (Ev.nK X.P X.G kn R D') R id bM E) _=_;have e:Ev.lK X.P X.G (Ev.nK X.P X.G kn R D') R id bM E=some (vE,E'):=this
 rw[e];rfl
end
inductive fN where
 |val (v:AV)
 |list (t:TypeId) (e:Ty) (l:List e.den)
 |room (t:TypeId) (e:Ty) (l:List e.den) (len:Nat)
noncomputable def mb:List fN->aH->List AV×aH
 |[],H=>([],H)
 |.val v::rs,H=>(v::(mb rs H).1,(mb rs H).2)
 |.list t e l::rs,H=>(.own H.next l.length::(mb rs (H.push (.list t e l 0 false false))).1,(mb rs (H.push (.list t e l 0 false false))).2)
 |.room t e l len::rs,H=>(.rH H.next 0 len l.length::(mb rs (H.push (.list t e l 0 true false))).1,(mb rs (H.push (.list t e l 0 true false))).2)
def ue:AV->Bool
 |.int _ _=>true
 |.bool _=>true
 |.str _=>true
 |.pZ _=>true
 |.dg=>true
 |.nX=>true
 |.agg l=>l.all λv=>match v with
  |.int _ _=>true
  |.bool _=>true
  |.str _=>true
  |.pZ _=>true
  |.dg=>true
  |.nX=>true
  |_=>false
 |_=>false
def tf (H:aH):List Nat->List AV->List fN->Prop
 |_,[],[]=>True
 |seen,v::vs,.val w::rs=>v=w/\ue w=true/\tf H seen vs rs
 |seen,v::vs,.list t e l::rs=>e.zQ=true/\((∃id gu ex,v = .own id l.length/\H.get id=some (.list t e l gu ex false)/\id ∉ seen/\tf H (id::seen) vs rs)\/(v = .dg/\l=[]/\tf H seen vs rs))
 |seen,v::vs,.room t e l len::rs=>e.zQ=true/\∃id gu,v = .rH id 0 len l.length/\H.get id=some (.list t e l gu true false)/\id ∉ seen/\tf H (id::seen) vs rs
 |_,_,_=>False
theorem CR.Gw {F F':Nat->Option (List Value)}:∀(e:Ty),e.zQ=true->∀(x:e.den) (cs:List Value),CR F e x cs->CR F' e x cs
 |.int _,_,_,_,h=>h
 |.bool,_,_,_,h=>h
 |.str,_,_,_,h=>h
 |.pZ,_,_,_,h=>h
 |.unit,_,_,_,h=>h
 |.sl _,h,_,_,_=>by cases h
 |.pair a b,h,_,_,⟨c1,c2,e,h1,h2⟩=>by
  simp only[Ty.zQ,ak]at h;exact⟨c1,c2,e,CR.Gw a h.1 _ _ h1,CR.Gw b h.2 _ _ h2⟩
theorem P0 {S S':Wo}{v:AV}{x:Value}(h:ue v=true)(hv:VR S v x):VR S' v x:=by
 cases hv with
 |int=>exact .int _ _
 |bool=>exact .bool _
 |str=>exact .str _
 |pZ=>exact .pZ _
 |dg=>exact .dg
 |nX=>exact .nX
 |agg l m hl hm =>
  refine .agg l m hl λj a b ha hb=>?_
  have h1:=hm j a b ha hb;have h2:=aP.1 h a (bg ha);cases h1<;>first|(cases h2;done)|constructor
 |_=>cases h
theorem Rel.grow {S:Wo}{H:aH}{E E':Mem}(h:Rel S H E)(hs:E.size<=E'.size)(hlk:E'.lk=E.lk)(hk:∀i,i<E.size->E'.get i=E.get i):Rel S H E':=by
 refine⟨λi cs hi=>?_,h.dom,h.CE,λid q hq=>?_,h.inj,h.sep,λid q x hq hl hx=>by rw[hlk];exact h.lk id q x hq hl hx,h.zi,h.KM,by rw[hlk];have:=h.Gh;omega⟩
 .obtain ⟨b,h1,h2⟩:=h.fz i cs hi;exact⟨b,by rw[oR (hk i (kW h1))];exact h1,h2⟩
 exact(h.row id q hq).keep S.le_refl (λh=>h) (λ_ h=>h) λx hx=>by
  obtain⟨b,hb⟩:=h.old hq hx;exact hk _ (Mem.eJ hb)
theorem Rel.yf {S:Wo}{H:aH}{E:Mem}(h:Rel S H E){r:Row}{x:Option (Nat×Nat×Nat)}{g:Option (Sigma λe:Ty=>List e.den)}
 (hr:∀r',r.live=some r'->oS (S.new H.next x g) E H.next r')
 (hx:∀y,x=some y->(∀id q z,H.get id=some q->S.ρ id=some z->z.1≠y.1)/\S.F y.1=none/\E.lk<=y.1) :
 S.le (S.new H.next x g)/\Rel (S.new H.next x g) (H.push r) E:=by
 have hle:=Wo.Iw h x g;obtain⟨p1,p2,p3,p4⟩:=aH.dL H r;have ρne:∀id,id≠H.next->(S.new H.next x g).ρ id=S.ρ id:=λid hid=>aa hid
 have ρeq:(S.new H.next x g).ρ H.next=x:=ag rfl
 have Γne:∀id v,id≠H.next->(S.new H.next x g).Γ id v=S.Γ id v:=λid v hid=>aa (by omega)
 have oH:∀id r',(H.push r).get id=some r'->(id=H.next/\r.live=some r')\/(id≠H.next/\H.get id=some r'):=λid r' hid=>by
  rw[p4]at hid;by_cases e:id=H.next
  .rw[ag e]at hid;exact .inl ⟨e,hid⟩
  rw[aa e]at hid;exact .inr ⟨e,hid⟩
 refine⟨hle,⟨h.fz,λid y hy=>?_,λid v hv=>?_,λid r' hg=>?_,λid id' r1 r2 y y' hg hg' hy hy' he=>?_,λid r' y hg hb hy=>?_,λid r' y hg hl hy=>?_,by rw[p1,p2];have:=h.zi;omega,by rw[p1,p3];have:=h.KM;omega,h.Gh⟩⟩
 .rw[p1];by_cases e:id=H.next
  .omega
  rw[ρne id e]at hy;have:=h.dom id y hy;omega
 .rw[p1]at hv;rw[Γne id v (by omega)];exact h.CE id v (by omega)
 .rcases oH id r' hg with⟨rfl,hr'⟩|⟨e,hg'⟩
  .exact hr r' hr'
  exact(h.row id r' hg').keep hle (λhn=>by rw[ρne id e];exact hn) (λv hv=>by rw[Γne id v e];exact hv) λy hy=>rfl
 .rcases oH id r1 hg with⟨rfl,h1⟩|⟨e1,h1⟩<;>rcases oH id' r2 hg' with⟨rfl,h2⟩|⟨e2,h2⟩
  .rfl
  .rw[ρeq]at hy;rw[ρne id' e2]at hy';exact absurd he.symm ((hx y hy).1 id' r2 y' h2 hy')
  .rw[ρeq]at hy';rw[ρne id e1]at hy;exact absurd he ((hx y' hy').1 id r1 y h1 hy)
  rw[ρne id e1]at hy;rw[ρne id' e2]at hy';exact h.inj id id' r1 r2 y y' h1 h2 hy hy' he
 .rcases oH id r' hg with⟨rfl,h1⟩|⟨e1,h1⟩
  .rw[ρeq]at hy;exact(hx y hy).2.1
  rw[ρne id e1]at hy;exact h.sep id r' y h1 hb hy
 rw[p2]at hl;rcases oH id r' hg with⟨rfl,h1⟩|⟨e1,h1⟩
 .rw[ρeq]at hy;exact(hx y hy).2.2
 rw[ρne id e1]at hy;exact h.lk id r' y h1 hl hy
def Eh (S:Wo)(H:aH)(E E':Mem)(rs:List fN)(xs:List Value):Prop :=
 ∃S',S.le S'/\LV S' (mb rs H).1 xs/\Rel S' (mb rs H).2 E'/\S'.F=S.F/\H.next<=(mb rs H).2.next/\(mb rs H).2.lk=H.lk/\(mb rs H).2.par=H.par /\
  (∀id,id<H.next->(mb rs H).2.get id=H.get id/\S'.ρ id=S.ρ id)/\(∀id q z,H.next<=id->(mb rs H).2.get id=some q->S'.ρ id=some z->E.size<=z.1)
theorem Bq {S1:Wo}{H1:aH}{E E':Mem}(Ef:Rel S1 H1 E')(hnew:∀id r y,H1.get id=some r->r.AJ=false->S1.ρ id=some y->E.size<=y.1)(hlk:E'.lk<=E.size):∀{vs:List AV} {rs:List fN} {seen:List Nat} {xs:List Value} {S:Wo} {H:aH},tf H1 seen vs rs->LV S1 vs xs->Rel S H E' ->
 (∀i,S.F i≠none->i<E.size)->(∀id q z,H.get id=some q->S.ρ id=some z->z.1<E.size\/∃CH y,CH∈seen/\S1.ρ CH=some y/\y.1=z.1/\H1.get CH≠none) ->
 Eh S H E E' rs xs
 |[],[],seen,xs,S,H,_,hl,hr,hF,hown=>by
  rw[hl.jq];exact⟨S,S.le_refl,LV.nil,hr,rfl,aG _,rfl,rfl,λ_ _=>⟨rfl,rfl⟩,λid q z hid hq _=>absurd (aH.eJ hq) (by show ¬id<H.next;omega)⟩
 |v::vs,r0::rs,seen,xs,S,H,h,hl,hr,hF,hown=>by
  obtain⟨x,xs',rfl,h1,h2⟩:=hl.cons_inv;have od:∀v,S.Γ H.next v=none:=λv=>hr.CE _ _ (aG _)
  -- how to go on behind a row more
  have go:∀(t:TypeId) (e:Ty) (l:List e.den) (ex:Bool) (vv:AV) (seen':List Nat) (y:Option (Nat×Nat×Nat)),(mb (r0::rs) H=(vv::(mb rs (H.push (.list t e l 0 ex false))).1,(mb rs (H.push (.list t e l 0 ex false))).2))->tf H1 seen' vs rs->S.le (S.new H.next y (some ⟨e,l⟩))->Rel (S.new H.next y (some ⟨e,l⟩)) (H.push (.list t e l 0 ex false)) E'->VR (S.new H.next y (some ⟨e,l⟩)) vv x ->
   (∀z,y=some z->E.size<=z.1/\∃CH y1,CH∈seen'/\S1.ρ CH=some y1/\y1.1=z.1/\H1.get CH≠none)->(∀id,id∈seen->id∈seen')->Eh S H E E' (r0::rs) (x::xs'):=λt e l ex vv seen' y heq hres hle hrel Ze hy hsub=>by
   obtain⟨p1,p2,p3,p4⟩:=aH.dL H (.list t e l 0 ex false);have hown':∀id q z,(H.push (.list t e l 0 ex false)).get id=some q->(S.new H.next y (some ⟨e,l⟩)).ρ id=some z->z.1<E.size\/∃CH y,CH∈seen'/\S1.ρ CH=some y/\y.1=z.1/\H1.get CH≠none:=λid q z hq hz=>by
    rw[p4]at hq;by_cases hid:id=H.next
    .subst hid;have hz:y=some z:=by rw[<-hz];exact(ag rfl).symm
     exact .inr (hy z hz).2
    rw[aa hid]at hq;have hz:S.ρ id=some z:=by rw[<-hz];exact(aa hid).symm
    rcases hown id q z hq hz with h|⟨CH,y1,k1,k2⟩
    .exact .inl h
    exact .inr ⟨CH,y1,hsub _ k1,k2⟩
   obtain⟨S',a1,a2,a3,a4,a5,a6,a7,a8,a9⟩:=Bq Ef hnew hlk hres h2 hrel hF hown';rw[p1]at a5 a8 a9;rw[p2]at a6;rw[p3]at a7;unfold Eh;rw[heq];exact
    ⟨S',Wo.le_trans hle a1,LV.cons (Ze.mono a1) a2,a3,a4,by show H.next<=_;exact bz (fC _) a5,a6,a7,λid hid=>by
     obtain⟨b1,b2⟩:=a8 id (by omega);refine⟨b1.trans (by rw[p4,aa (by omega)]),b2.trans (aa (by omega))⟩,λid q z hid hq hz=>by
     by_cases hid':id=H.next
     .subst hid';have:S'.ρ H.next=(S.new H.next y (some ⟨e,l⟩)).ρ H.next:=(a8 H.next (by omega)).2
      rw[this]at hz;have hz:y=some z:=by rw[<-hz];exact(ag rfl).symm
      exact(hy z hz).1
     exact a9 id q z (by omega) hq hz⟩
  -- a row that is nobody's
  have nobody:∀{id:Nat} {q0:Row} {i0 p5 s0:Nat},H1.get id=some q0->q0.AJ=false->S1.ρ id=some (i0,p5,s0)->id ∉ seen->E.size<=i0/\((∀C8 q z,H.get C8=some q->S.ρ C8=some z->z.1≠i0)/\S.F i0=none/\E'.lk<=i0):=λ{id q0 i0 p5 s0} hg hro hρ hns=>by
   have hsz:=hnew id _ _ hg hro hρ;simp only at hsz;refine⟨hsz,λC8 q z hq hz he=>?_,?_,by omega⟩
   .rcases hown C8 q z hq hz with h3|⟨CH,y1,k1,k2,k3,k4⟩
    .omega
    cases hq1:H1.get CH with
    |none=>exact absurd hq1 k4
    |some r1 =>
     have:=Ef.inj CH id r1 _ y1 _ hq1 hg k2 hρ (by simp only;omega);subst this;exact hns k1
   cases hFi:S.F i0 with
   |none=>rfl
   |some cs=>have:=hF i0 (by rw[hFi];simp);omega
  cases r0 with
  |val w =>
   obtain⟨rfl,hs,h⟩:=h;obtain⟨S',a1,a2,a3⟩:=Bq Ef hnew hlk h h2 hr hF hown;exact⟨S',a1,LV.cons (P0 hs h1) a2,a3⟩
  |room t e l len =>
   obtain⟨Lh,id,gu,rfl,hg,hns,h⟩:=h;obtain⟨g1,⟨g0,g,g2,g2'⟩,g3⟩:=Ef.row id _ hg;generalize KU:l.length=n at h1;generalize hlz:(0:Nat)=zz at h1;cases h1 with
   |rH _ _ _ _ i0 c0 s0 hρ g' hg' hcc am6 =>
    subst hlz;subst KU;rcases g3 with⟨_,g5,_⟩|⟨i',cap,b,mid,post,q1,q2,q3,q4,q5,q6,q7,q8,q9,xV⟩
    .rw[hρ]at g5;cases g5
    rw[hρ]at q1;cases q1;obtain⟨hsz,hno⟩:=nobody hg rfl hρ hns;obtain⟨b1,b2⟩:=hr.yf (r:=.list t e l 0 true false) (x:=some (i0,c0,e.size)) (g:=some ⟨e,l⟩) (λr' hr'=>by
     cases hr';exact kX od q2 q3 q4 (q5.mono λx c=>CR.Gw e Lh x c) q6 q7 q8 (λ_=>q9 rfl) (xV.2.imp λl2 h=>h.mono λx c=>CR.Gw e Lh x c)) (λy hy=>by cases hy;exact hno)
    refine go t e l true _ (id::seen) _ rfl h b1 b2 (.rH _ 0 len l.length i0 c0 e.size (ag rfl) ⟨e,l⟩ (ag ⟨rfl,rfl⟩) (by simp) am6) (λz hz=>?_) (λid hid=>bE _ hid);cases hz;exact⟨hsz,id,_,cE,hρ,rfl,by rw[hg];simp⟩
  |list t e l =>
   obtain⟨Lh,h⟩:=h;rcases h with⟨id,gu,ex,rfl,hg,hns,h⟩|⟨rfl,rfl,h⟩
   .obtain ⟨g1,⟨g0,g,g2,g2'⟩,g3⟩:=Ef.row id _ hg;have hCR:∀{mid:List Value},mM (CR S1.F e) l mid->mM (CR S.F e) l mid:=λhC=>hC.mono λx c=>CR.Gw e Lh x c
    generalize KU:l.length=n at h1;cases h1 with
    |own _ _ i0 p5 s0 hρ g' hg' hn' =>
     rcases g3 with⟨_,g5,_⟩|⟨i',cap,b,mid,post,q1,q2,q3,q4,q5,q6,q7,q8,q9,xV⟩
     .rw[hρ]at g5;cases g5
     rw[hρ]at q1;cases q1;subst KU;obtain⟨hsz,hno⟩:=nobody hg rfl hρ hns;obtain⟨b1,b2⟩:=hr.yf (r:=.list t e l 0 false false) (x:=some (i0,p5,e.size)) (g:=some ⟨e,l⟩) (λr' hr'=>by
      cases hr';exact kX od q2 q3 q4 (hCR q5) q6 q7 q8 (λh=>by cases h) (xV.2.imp λl2 h=>h.mono λx c=>CR.Gw e Lh x c)) (λy hy=>by cases hy;exact hno)
     refine go t e l false _ (id::seen) _ rfl h b1 b2 (.own _ _ i0 p5 e.size (ag rfl) ⟨e,l⟩ (ag ⟨rfl,rfl⟩) rfl) (λz hz=>?_) (λid hid=>bE _ hid);cases hz;exact⟨hsz,id,_,cE,hρ,rfl,by rw[hg];simp⟩
    |fY _ g' hg' hn' =>
     have hl0:l=[]:=aQ.1 KU;subst hl0;obtain⟨b1,b2⟩:=hr.yf (r:=.list t e [] 0 false false) (x:=none) (g:=some ⟨e,[]⟩) (λr' hr'=>by cases hr';exact kY od) (λy hy=>by cases hy);exact go t e [] false _ (id::seen) none rfl h b1 b2 (.fY _ ⟨e,[]⟩ (ag ⟨rfl,rfl⟩) rfl) (λz hz=>by cases hz) (λid hid=>bE _ hid)
   cases h1;obtain⟨b1,b2⟩:=hr.yf (r:=.list t e [] 0 false false) (x:=none) (g:=some ⟨e,[]⟩) (λr' hr'=>by cases hr';exact kY od) (λy hy=>by cases hy);exact go t e [] false _ seen none rfl h b1 b2 (.fY _ ⟨e,[]⟩ (ag ⟨rfl,rfl⟩) rfl) (λz hz=>by cases hz) (λid hid=>hid)
def P4:AV->Bool
 |.fl _=>true
 |a=>ue a
theorem U1 {S S':Wo}{v:AV}{x:Value}(h:P4 v=true)(hv:VR S v x):VR S' v x:=by
 cases v with
 |fl a=>cases hv with|fl _ _ h=>exact .fl _ _ h
 |_=>exact P0 h hv
def Ei (H:aH)(a b:AV):Prop:=(a=b/\P4 a=true)\/(∃e l,b = .dW e l/\Ca H e a=some l/\∀s,a ≠ .str s)
def P5 (H:aH)(a b:AV):Prop:=Ei H a b\/∃l l',a = .agg l/\b = .agg l'/\l.length=l'.length/\∀(j:Nat) x y,l[j]? = some x->l'[j]? = some y->Ei H x y
section
variable {X:gU} {cf:Nat×Nat->Ev.cH}
def NN (X:gU)(cf:Nat×Nat->Ev.cH)(f:FuncId)(args:List AV)(vs:List AV)(H':aH):Prop :=
 ∀(S:Wo) (E:Mem) (bM:List Value),Rel S aH.empty E->fm X S->LV S args bM ->
  ∃S' vE E',(∃N,∀n:Nat×Nat,N<=n.1/\N<=n.2->cf n f bM E=some (vE,E'))/\(∃xs,vE=Ev.vV xs/\LV S' vs xs)/\Rel S' H' E'/\Bm S aH.empty E S' H' E'
theorem p7 (j:Nat):aH.empty.get j=none:=by
 rw[aH.get_eq];simp[aH.empty]
theorem Br (F:Nat->Option (List Value))(E:Mem)(hF:∀i cs,F i=some cs->∃b,alive E i=some b/\b.cells=cs)(he:E.lk<=E.size):Rel ⟨F,λ_=>none,λ_ _=>none⟩ aH.empty E :=
 ⟨hF,λ_ _ h=>(by cases h),λ_ _ _=>rfl,λid r h=>(by rw[p7]at h;cases h),λid id' r r' x x' h=>(by rw[p7]at h;cases h),λid r x h=>(by rw[p7]at h;cases h),λid r x h=>(by rw[p7]at h;cases h),aG _,aG _,he⟩
noncomputable def oJ (E:Mem):Nat->Option (List Value):=λi=>(alive E i).map (·.cells)
theorem P6 {S:Wo}{H:aH}{E:Mem}(hr:Rel S H E){a b:AV}{x:Value}(h:Ei H a b)(hx:VR S a x):VR ⟨oJ E,λ_=>none,λ_ _=>none⟩ b x:=by
 have hle:∀i cs,S.F i=some cs->oJ E i=some cs:=λi cs hi=>by
  obtain⟨bk,h1,h2⟩:=hr.fz i cs hi;show (alive E i).map (·.cells)=_
  rw[h1];simp[h2]
 rcases h with⟨rfl,hs⟩|⟨e,l,rfl,hv,hns⟩
 .exact U1 hs hx
 refine .dW e l x ?_;have hCR:∀{l:List e.den} {mid:List Value},mM (CR S.F e) l mid->mM (CR (oJ E) e) l mid:=λhC=>hC.mono λx c=>CR.mono hle e x c
 have row:∀(i:Nat) (bk:jz),alive E i=some bk->oJ E i=some bk.cells:=λi bk hb=>by show (alive E i).map (·.cells)=_;rw[hb];rfl
 unfold Ca at hv;split at hv
 .rename_i e' l';obtain⟨he,hc⟩:=bT hv;subst he;have hc:l'=l:=hc;subst hc;cases hx with
  |dW _ _ _ hS=>exact hS.mono hle
 .cases hv;cases hx;exact .inl ⟨rfl,.inl rfl⟩
 .rename_i id n;split at hv
  .rename_i t' e' l' gu ex ro hg;obtain⟨he,hc⟩:=bT hv;subst he;have hc:l'=l:=hc;subst hc;obtain⟨S',k1,k2,k3,k4⟩:=uZ hr hg;obtain⟨rfl,hv⟩:=k4 n x hx;rcases hv with⟨rfl,rfl⟩|⟨i,mid,post,cap,rfl,hF,hC,hcap⟩
   .exact .inl ⟨rfl,.inl rfl⟩
   obtain⟨bk,b1,b2⟩:=k2.fz i _ hF;refine .inr ⟨i,[],mid,post,cap,rfl,by show oJ E i=_;rw[row i bk b1,b2];rfl,?_,hcap⟩;exact hC.mono λx c=>CR.mono (λi cs hi=>by
    obtain⟨bk,h1,h2⟩:=k2.fz i cs hi;show oJ E i=_;rw[row i bk h1,h2]) e' x c
  cases hv
 .rename_i id off len KS;split at hv
  .rename_i t' e' l' gu ex ro hg;split at hv
   .rename_i l2 nY;cases hv;obtain⟨he,hc⟩:=bT nY;subst he;have hc:l'=l2:=hc;subst hc;obtain⟨g1,⟨_,g,g2,g2'⟩,g3⟩:=hr.row id _ hg;cases hx with
    |rH _ _ _ _ i0 c0 s0 hρ g' hg' hcc KU =>
     rw[g2]at hg';cases hg';rcases g3 with⟨_,g5,_⟩|⟨i',cap,b,mid,post,q1,q2,q3,q4,q5,q6,q7,q8,q9,xV⟩
     .rw[hρ]at g5;cases g5
     rw[hρ]at q1;cases q1;have hlen:((l'.drop off).take len).length=len:=by simp;omega
     have:=SR.cut (cap:=KS+off) (a:=(off:Int)) (b:=((off+len:Nat):Int)) (pre:=[]) (post:=post) (F:=oJ E) (i:=i0) (λx c=>CR.length e' x c) (by rw[row i0 b q2,q4];rfl) (hCR q5) (by omega) (by omega) (by omega) (by omega);have e1:eA l' (off:Int) ((off+len:Nat):Int)=(l'.drop off).take len:=by
      simp only[eA,bh];congr 1;omega
     rw[e1]at this;simp only[bh,bD,bW,Nat.add_sub_cancel_left,Nat.add_sub_cancel]at this;exact this
   cases hv
  cases hv
 .rename_i s;exact absurd rfl (hns s)
 cases hv
theorem aec {S:Wo}{H:aH}{E:Mem}(hr:Rel S H E){a b:AV}{x:Value}(h:P5 H a b)(hx:VR S a x):VR ⟨oJ E,λ_=>none,λ_ _=>none⟩ b x:=by
 rcases h with h|⟨l,l',rfl,rfl,hl,hf⟩
 .exact P6 hr h hx
 cases hx with
 |agg _ m hm hv =>
  refine .agg l' m (hl.symm.trans hm) λj y z hy hz=>?_
  have hlt:=eJ hy;have h2:j<l.length:=by omega
  exact P6 hr (hf j l[j] y (aO h2) hy) (hv j _ z (aO h2) hz)
theorem NN.am7 {f:FuncId}{args args2 vs:List AV}{H1:aH}{rs:List fN}(h:NN X cf f args vs H1)(hres:tf H1 [] vs rs){H:aH}(hargs:args2.length=args.length)(jw:∀(j:Nat) a b,args2[j]? = some a->args[j]? = some b->P5 H a b) :
 IC X cf f args2 H (rJ (mb rs H).1) (mb rs H).2:=by
 intro S E bM hr hg hl;have hle:∀i cs,S.F i=some cs->oJ E i=some cs:=λi cs hi=>by
  obtain⟨bk,h1,h2⟩:=hr.fz i cs hi;show (alive E i).map (·.cells)=_
  rw[h1];simp[h2]
 have Tn:Rel ⟨oJ E,λ_=>none,λ_ _=>none⟩ aH.empty E:=Br _ E (λi cs hi=>by
  have hi:(alive E i).map (·.cells)=some cs:=hi
  simp only[aK]at hi;obtain⟨b,h1,h2⟩:=hi;exact⟨b,h1,h2⟩) hr.Gh
 have hl0:LV ⟨oJ E,λ_=>none,λ_ _=>none⟩ args bM:=⟨by rw[<-hargs];exact hl.1,λj b x hb hx=>by
  have hlt:=eJ hb;have h2:j<args2.length:=by omega
  exact aec hr (jw j args2[j] b (aO h2) hb) (hl.2 j _ x (aO h2) hx)⟩
 obtain⟨S1,vE,E',a1,⟨xs,rfl,a2⟩,a3,a4⟩:=h _ E bM Tn (hg.mono' hle) hl0;have iT:∀i,¬Own ⟨oJ E,λ_=>none,λ_ _=>none⟩ aH.empty i:=λi ⟨id,r,x,h1,_⟩=>by rw[p7]at h1;cases h1
 have hkeep:∀i,i<E.size->E'.get i=E.get i:=λi hi=>a4.keep i hi (iT i)
 have hrE:=hr.grow a4.sz a4.lk hkeep;obtain⟨S',b1,b2,b3,b4,b5,b6,b7,b8,b9⟩:=Bq (E:=E) a3 (λid r y h1 h2 h3=>by
  by_cases hy:y.1<E.size
  .exact absurd (a4.own y.1 ⟨id,r,y,h1,h2,h3,rfl⟩ hy) (iT _)
  .omega) (by rw[a4.lk];exact hr.Gh) hres a2 hrE (λi hi=>by
  cases hF:S.F i with
  |none=>exact absurd hF hi
  |some cs=>obtain⟨b,h1,_⟩:=hr.fz i cs hF;exact kW h1) (λid q z hq hz=>.inl (by obtain⟨b,hb⟩:=hr.old hq hz;exact Mem.eJ hb))
 refine⟨S',Ev.vV xs,E',a1,b1,IM b2,b3,⟨a4.sz,a4.lk,b6,b7,b1.F,λi ho hi=>?_,λi hi=>.inl (by rw[b4]at hi;exact hi),λi hi _=>hkeep i hi,λid hid=>(b8 id (cw hid hr.KM)).2,b5,λid hid hl=>by rw[(b8 id hid).1]at hl;exact hl,λid hid hn=>by rw[(b8 id hid).2];exact hn⟩⟩;obtain⟨id,q,y,h1,h2,h3,rfl⟩:=ho;by_cases hid:id<H.next
 .rw[(b8 id hid).1]at h1;rw[(b8 id hid).2]at h3;exact⟨id,q,y,h1,h2,h3,rfl⟩
 have:=b9 id q y (by omega) h1 h3;omega
theorem Zl {kn:Ev.fc}{id:FuncId}(hk:∀args,kn id args=none){call:∀ β,cI β}(hcall:∀ β,cT X (dO X kn) (call β)){an:eD}{rounds:Nat}{args vs:List AV}{H':aH}
 (h:aT X (call (AV×aH)) an rounds id args aH.empty (λv H=>some (v,H))=some (rJ vs,H')):∀(S:Wo) (E:Mem) (bM:List Value),Rel S aH.empty E->fm X S->LV S args bM ->
 ∃S' vE E',(∃N,∀n:Nat×Nat,N<=n.1/\N<=n.2->dO X kn n id bM E=some (vE,E'))/\VR S' (rJ vs) vE/\Rel S' H' E'/\Bm S aH.empty E S' H' E':=by
 obtain⟨v',H1,h1,h2⟩:=kV (nf:=false) (hcall _) (λh=>by cases h) h;cases h1;intro S E bM hr hg hl;obtain⟨S',vE,E',a1,a2,a3,a4,_⟩:=h2 S E bM hr hg hl;exact⟨S',vE,E',fZ hk a1,a2,a3,a4⟩
end
end Go.Tv

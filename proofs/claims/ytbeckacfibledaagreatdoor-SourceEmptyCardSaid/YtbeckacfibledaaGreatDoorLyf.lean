/- All operations of the layer, steps, regions. Steps, regions and code of the layer beside the evaluator's. Regions, notes, loops, code of the layer beside the evaluator's. Frames and memories made alike; loops, code, functions. Code and functions of the layer beside the evaluator's. Contracts of functions that are handed plain data and hand back plain data. -/
import Derived.Test.YtbeckacfibledaaGreatDoorLye
set_option linter.unusedVariables false
set_option linter.unusedSimpArgs false

namespace Go.Tv
open Go.Ev (Tr ah iL Mem jJ alive ax dF bF gR jt aZ cE orElse)
def fm (X:ij)(S:Wo):Prop:=∀g,g<X.G->X.gv g≠[]->∃cs,S.F g=some cs/\∀T:Wo,(∀i x,S.F i=some x->T.F i=some x)->LV T (X.gv g) cs
theorem fm.mono' {X:ij}{S S':Wo}(h:fm X S)(hle:∀i x,S.F i=some x->S'.F i=some x):fm X S':=λg hg he=>let ⟨cs,h1,h2⟩:=h g hg he;⟨cs,hle _ _ h1,λT hT=>h2 T λi x hx=>hT i x (hle i x hx)⟩
theorem fm.mono {X:ij}{S S':Wo}(h:fm X S)(hle:S.le S'):fm X S':=h.mono' hle.F
def Jd (X:ij)(cf:Nat×Nat->Ev.cH)(f:FuncId)(args:List AV)(H:aG)(v:AV)(H':aG):Prop :=
 ∀(S:Wo) (E:Mem) (bJ:List Value),Rel S H E->fm X S->LV S args bJ ->
  ∃S' vE E',(∃N,∀n:Nat×Nat,N<=n.1/\N<=n.2->cf n f bJ E=some (vE,E'))/\S.le S'/\VR S' v vE/\Rel S' H' E'/\St S H E S' H' E'
def cX (X:ij)(cf:Nat×Nat->Ev.cH){β:Type}(call:cI β):Prop :=
 ∀f args H k (r:β),call f args H k=some r->∃v H',k v H'=some r/\Jd X cf f args H v H'
def Ew (X:ij)(cf:Nat×Nat->Ev.cH)(o:Oper)(ev:Operand->AV)(H:aG)(v:AV)(H':aG):Prop :=
 ∀(S:Wo) (E:Mem) (bz:Operand->Value),Rel S H E->fm X S->(∀x∈o.op.operands,VR S (ev x) (bz x)) ->
  ∃S' vE E',(∃N,∀n:Nat×Nat,N<=n.1/\N<=n.2->jt X.P (cf n) bz o E=some (vE,E'))/\S.le S'/\VR S' v vE/\Rel S' H' E'/\St S H E S' H' E'
theorem eO.ju {X:ij}{cf:Nat×Nat->Ev.cH}{o:Oper}{ev:Operand->AV}{H H':aG}{v:AV}(h:eO X cf o ev H v H'):Ew X cf o ev H v H':=λS E bz hr _ ck=>h S E bz hr ck
section
variable {X:ij} {cf:Nat×Nat->Ev.cH} {o:Oper} {ev:Operand->AV} {H:aG} {β:Type} {r:β}
theorem LC {x:Operand}(h:o.op = .move x\/o.op = .assign x):eO X cf o ev H (ev x) H:=.quiet λS E bz hr ck=>by
 rcases h with h|h
 .rw[h]at ck;exact⟨bz x,λcall=>by unfold jt;rw[h],ck x (by simp[Op.operands])⟩
 rw[h]at ck;exact⟨bz x,λcall=>by unfold jt;rw[h],ck x (by simp[Op.operands])⟩
theorem VB {c a b:Operand}{t:Bool}(h:o.op = .pick c a b)(hc:ev c = .bool t):eO X cf o ev H (ah t (ev a) (ev b)) H:=.quiet λS E bz hr ck=>by
 rw[h]at ck;have h1:=ck c (by simp[Op.operands]);rw[hc]at h1;refine⟨ah t (bz a) (bz b),λcall=>?_,?_⟩
 .unfold jt;rw[h];show Ev.DM (bz c) (bz a) (bz b) E=_;rw[h1.mq];rfl
 cases t
 .exact ck b (by simp[Op.operands])
 exact ck a (by simp[Op.operands])
theorem Dn {x:Operand}{v:AV}(h:o.op = .nilCheck x)(hv:ev x=v)(hk:(∃id off,v = .ptr id off)\/(∃id n,v = .Ej id n)\/(∃cs,v = .y4 cs)\/∃f a b,v = .fn f a b):eO X cf o ev H v H:=.quiet λS E bz hr ck=>by
 rw[h]at ck;have h1:=ck x (by simp[Op.operands]);refine⟨bz x,λcall=>?_,by rw[<-hv];exact h1⟩;unfold jt;rw[h];show Ev.sw (bz x) E=_;rw[hv]at h1;rcases hk with⟨id,off,rfl⟩|⟨id,n,rfl⟩|⟨cs,rfl⟩|⟨f,a,b,rfl⟩<;>(generalize bz x=A at h1;cases h1;rfl)
theorem LD {x:Operand}{i:Nat}{vs:List AV}{v:AV}(h:o.op = .extract x i)(hx:ev x = .fH vs)(hv:vs[i]? = some v):eO X cf o ev H v H:=.quiet λS E bz hr ck=>by
 rw[h]at ck;have h1:=ck x (by simp[Op.operands]);rw[hx]at h1;generalize hA:bz x=A at h1;cases h1 with
 |fH _ m hl hm =>
  obtain⟨y,hy,hvy⟩:=LV.get (S:=S) ⟨hl,hm⟩ hv;refine⟨y,λcall=>?_,hvy⟩;unfold jt;rw[h];show Ev.r7 (bz x) i E=_;rw[hA];simp only[Ev.r7,hy];rfl
theorem Je {f:FuncId}{first captured:Array Operand}(h:o.op = .makeFunc (.func f) first captured):eO X cf o ev H (.fn f (first.toList.map ev) (captured.toList.map ev)) H:=.quiet λS E bz hr ck=>by
 rw[h]at ck;refine⟨.func (.func f) (first.map bz) (captured.map bz),λcall=>by unfold jt;rw[h],?_⟩;have e1:first.map bz=(first.toList.map bz).toArray:=by apply kG.1;rw[Array.toList_map]
 have e2:captured.map bz=(captured.toList.map bz).toArray:=by apply kG.1;rw[Array.toList_map]
 rw[e1,e2];have l1:=LV.map (S:=S) (f:=ev) (g:=bz) first.toList λx hx=>ck x (by show x∈first++captured;rw[Array.mem_append];exact .inl (by simpa using hx))
 have l2:=LV.map (S:=S) (f:=ev) (g:=bz) captured.toList λx hx=>ck x (by show x∈first++captured;rw[Array.mem_append];exact .inr (by simpa using hx))
 exact .fn f _ _ _ _ l1.1 l2.1 l1.2 l2.2
theorem aad {c:Call}{x y:Operand}{a b:Int}{ka kb:IntKind}(hop:o.op = .call c)(hc:c.callee = .builtin .max)(h0:c.args = #[x,y])(hx:ev x = .int ka a)(hy:ev y = .int kb b) :
 eO X cf o ev H (.int ka (ah (Ev.bC a b) b a)) H:=.quiet λS E bz hr ck=>by
 rw[hop]at ck;have hx':=ck x (by simp[Op.operands,Call.operands,hc,h0]);have hy':=ck y (by simp[Op.operands,Call.operands,hc,h0]);rw[hx]at hx';rw[hy]at hy';generalize hA:bz x=A at hx';generalize hB:bz y=B at hy';cases hx';cases hy';refine⟨.int ka (ah (Ev.bC a b) b a),λcall=>?_,.int _ _⟩;unfold jt;rw[hop];show Ev.ez X.P call bz o c E=_;unfold Ev.ez;rw[hc];show cE E (gR X.P bz o)=_;have hp:gR X.P bz o=some (.int ka (ah (Ev.bC a b) b a)):=by
  refine wU (λcs b=>by rw[hop];simp) ?_ ?_ rfl
  .unfold Ev.dg;rw[hop];simp[Op.operands,Call.operands,hc,h0,hA,hB,aZ]
  rw[ax,Ev.cD];simp[execOp,hop,resolve,invoke,builtin,hc,h0,hA,hB,Builtin.max_,Builtin.max2];rfl
 rw[hp];rfl
theorem aae {c:Call}{x:Operand}{t te:TypeId}{id off len cap:Nat}{t':TypeId}{e:Ty}{l:List e.den}{gC:Nat}{ro:Bool}(hop:o.op = .call c)(hc:c.callee = .builtin .cap)(h0:c.args[0]? = some x)(h1:c.argTypes[0]? = some t)(hu:X.P.underlying t=some (.slice te))(hx:ev x = .rO id off len cap)(hg:H.get id=some (.list t' e l gC true ro)) :
 eO X cf o ev H (.int .i64 cap) H:=.quiet λS E bz hr ck=>by
 rw[hop]at ck;have hx':=ck x (by
  have:=aY h0;simp only[Op.operands,Call.operands,hc];simpa using this)
 rw[hx]at hx';obtain⟨g1,⟨g0,g,g2,g2'⟩,g3⟩:=hr.row id _ hg;generalize hA:bz x=A at hx';cases hx' with
 |rO _ _ _ _ i0 c0 s0 hρ g' hg' hcc Lw =>
  rcases g3 with⟨_,g5,_⟩|⟨i',cap',b,mid,post,q1,q2,q3,q4,q5,q6,q7,q8,q9,yq⟩
  .rw[hρ]at g5;cases g5
  rw[hρ]at q1;cases q1;refine⟨goInt cap,λcall=>?_,.int _ _⟩;unfold jt;rw[hop];show Ev.ez X.P call bz o c E=_;unfold Ev.ez;rw[hc];show Ev.uf X.P bz c.args c.argTypes E=_;unfold Ev.uf;rw[h0,h1];show cE E (Ev.CT X.P E t (bz x))=_;rw[hA];simp only[Ev.CT,hu,q2,(q9 rfl).1];rfl
theorem LF {c:Call}{x:Operand}{t te:TypeId}{id n:Nat}{t':TypeId}{e:Ty}{l:List e.den}{gC:Nat}{ro:Bool}(hop:o.op = .call c)(hc:c.callee = .builtin .cap)(h0:c.args[0]? = some x)(h1:c.argTypes[0]? = some t)(hu:X.P.underlying t=some (.slice te))(hx:ev x = .own id n)(hg:H.get id=some (.list t' e l gC true ro)) :
 eO X cf o ev H (.int .i64 n) H:=.quiet λS E bz hr ck=>by
 rw[hop]at ck;have hx':=ck x (by
  have:=aY h0;simp only[Op.operands,Call.operands,hc];simpa using this)
 rw[hx]at hx';obtain⟨g1,⟨g0,g,g2,g2'⟩,g3⟩:=hr.row id _ hg;generalize hA:bz x=A at hx';cases hx' with
 |own _ _ i0 c0 s0 hρ g' hg' hn =>
  rcases g3 with⟨_,g5,_⟩|⟨i',cap',b,mid,post,q1,q2,q3,q4,q5,q6,q7,q8,q9,yq⟩
  .rw[hρ]at g5;cases g5
  rw[hρ]at q1;cases q1;rw[g2]at hg';cases hg';have hcn:c0=n:=by have:=(q9 rfl).2.2;omega
  subst hcn;refine⟨goInt c0,λcall=>?_,.int _ _⟩;unfold jt;rw[hop];show Ev.ez X.P call bz o c E=_;unfold Ev.ez;rw[hc];show Ev.uf X.P bz c.args c.argTypes E=_;unfold Ev.uf;rw[h0,h1];show cE E (Ev.CT X.P E t (bz x))=_;rw[hA];simp only[Ev.CT,hu,q2,(q9 rfl).1];rfl
 |gh _ g' hg' hn =>
  refine⟨goInt 0,λcall=>?_,.int _ _⟩;unfold jt;rw[hop];show Ev.ez X.P call bz o c E=_;unfold Ev.ez;rw[hc];show Ev.uf X.P bz c.args c.argTypes E=_;unfold Ev.uf;rw[h0,h1];show cE E (Ev.CT X.P E t (bz x))=_;rw[hA];simp only[Ev.CT,hu];rfl
theorem LG {c:Call}{x:Operand}{t te:TypeId}(hop:o.op = .call c)(hc:c.callee = .builtin .cap)(h0:c.args[0]? = some x)(h1:c.argTypes[0]? = some t)(hu:X.P.underlying t=some (.slice te))(hx:ev x = .dG) :
 eO X cf o ev H (.int .i64 0) H:=.quiet λS E bz hr ck=>by
 rw[hop]at ck;have hx':=ck x (by
  have:=aY h0;simp only[Op.operands,Call.operands,hc];simpa using this)
 rw[hx]at hx';generalize hA:bz x=A at hx';cases hx' with
 |dG =>
  refine⟨goInt 0,λcall=>?_,.int _ _⟩;unfold jt;rw[hop];show Ev.ez X.P call bz o c E=_;unfold Ev.ez;rw[hc];show Ev.uf X.P bz c.args c.argTypes E=_;unfold Ev.uf;rw[h0,h1];show cE E (Ev.CT X.P E t (bz x))=_;rw[hA];simp only[Ev.CT,hu];rfl
theorem VC {c:Call}{fo:Operand}{id:FuncId}{a b:List AV}{fn:Func}{cd:Code}{v:AV}{H':aG}(hop:o.op = .call c)(hc:c.callee = .value fo)(hf:ev fo = .fn id a b)(hfn:X.P.funcs[id]? = some fn)(hbody:fn.body=some cd)(h:Jd X cf id (a++(c.args.toList.map ev++b)) H v H'):Ew X cf o ev H v H':=by
 intro S E bz hr hg ck;rw[hop]at ck;have h1:=ck fo (by simp[Op.operands,Call.operands,hc]);rw[hf]at h1;have h2:=LV.map (S:=S) (f:=ev) (g:=bz) c.args.toList λx hx=>ck x (by simp[Op.operands,Call.operands,hc];exact .inr (by simpa using hx))
 generalize hA:bz fo=A at h1;cases h1 with
 |fn _ _ _ a' b' ha hb va vb =>
  obtain⟨S',vE,E',⟨N,k1⟩,k2,k3,k4,k5⟩:=h S E (a'++(c.args.toList.map bz++b')) hr hg ((show LV S a a' from ⟨ha,va⟩).append (h2.append ⟨hb,vb⟩));refine⟨S',vE,E',⟨N,λn hn=>?_⟩,k2,k3,k4,k5⟩;unfold jt;rw[hop];show Ev.ez X.P (cf n) bz o c E=_;unfold Ev.ez;rw[hc];simp only[hA];have:Ev.qc X.P (cf n) (.func (.func id) a'.toArray b'.toArray) (c.args.toList.map bz) E=some (vE,E'):=by
   simp only[Ev.qc,hfn,hbody,Option.isSome_some];exact k1 n hn
  rw[this]
theorem Jf {P:Program}{id:FuncId}(h:tw P id=true):∃fn cd,P.funcs[id]? = some fn/\fn.body=some cd:=by
 unfold tw at h;split at h
 .rename_i fn hfn;obtain⟨cd,hcd⟩:=bV.1 h;exact⟨fn,cd,hfn,hcd⟩
 cases h
theorem VD {S:Wo}{a:AV}{v x:Value}(h:toV a=some v)(hx:VR S a x):x=v/\aZ v=true:=by
 unfold toV at h;split at h
 .cases h;exact⟨hx.fT,rfl⟩
 .cases h;exact⟨hx.mq,rfl⟩
 .cases h;exact⟨hx.jw,rfl⟩
 .cases h;cases hx;exact⟨rfl,rfl⟩
 .cases h;cases hx with
  |fn _ _ _ a' b' ha hb va vb =>
   have:a'=[]:=aQ.1 ha.symm;subst this;have:b'=[]:=aQ.1 hb.symm;subst this;exact⟨rfl,rfl⟩
 .rw[ax]at h;split at h
  .rename_i hf;cases h;cases hx;exact⟨rfl,hf⟩
  cases h
 cases h
theorem Jg {S:Wo}{v:Value}(h:aZ v=true):VR S (ofR v) v:=by
 unfold ofR;split
 .rename_i cs;have hc:∀v∈cs.toList,aZ v=true:=by
   have h:Ev.mF cs=true:=h;obtain⟨l⟩:=cs;exact BB h
  have e:Value.tuple cs = .tuple (cs.toList).toArray:=by simp
  rw[e];have:=LV.map (S:=S) (f:=Ow) (g:=λv=>v) cs.toList λv hv=>zf (hc v hv)
  rw[List.map_id'']at this
  .exact .fH _ _ this.1 this.2
  intro x;rfl
 rename_i hn;unfold ofV;split
 .rename_i cs;have hc:=zg h;have e:Value.agg cs = .agg (cs.toList).toArray:=by simp
  rw[e];have:=LV.map (S:=S) (f:=Ow) (g:=λv=>v) cs.toList λv hv=>zf (hc v (by simpa[Value.cells] using hv))
  rw[List.map_id'']at this
  .exact .agg _ _ this.1 this.2
  intro x;rfl
 exact zf h
theorem CB {c:Call}{fo:Operand}{id:FuncId}{bz:Operand->Value}{a' b':List Value}(hop:o.op = .call c)(hc:c.callee = .value fo)(hA:bz fo = .func (.func id) a'.toArray b'.toArray)(hb:tw X.P id=false)(call:Ev.cH)(E:Mem) :
 jt X.P call bz o E=Ev.DN X.P bz o (bz fo) (c.args.toList.map bz) E:=by
 unfold jt;rw[hop];show Ev.ez X.P call bz o c E=_;unfold Ev.ez;rw[hc];have:Ev.qc X.P call (bz fo) (c.args.toList.map bz) E=none:=by
  rw[hA];unfold tw at hb;simp only[Ev.qc];cases hfn:X.P.funcs[id]? with
  |none=>rfl
  |some fn =>
   rw[hfn]at hb;simp only at hb;simp only[hb]
 simp only[this]
theorem Am (hsel:∀cs b,o.op ≠ .select cs b){k:AV->Option β}(h:CY X ev o k=some r):∃v,k (ofR v)=some r/\aZ v=true/\∀(S:Wo) (bz:Operand->Value),(∀x∈o.op.operands,VR S (ev x) (bz x))->gR X.P bz o=some v:=by
 unfold CY at h;rw[ax]at h;split at h;case isFalse=>cases h
 rename_i hall;split at h;case h_2=>cases h
 rename_i v hv;rw[ax]at h;split at h;case isFalse=>cases h
 rename_i hfree;refine⟨v,h,hfree,λS bz ck=>?_⟩;have heq:∀x∈o.op.operands,bz x=QC (toV (ev x))/\aZ (bz x)=true:=λx hx=>by
  have h1:=aK.1 hall x (by simpa using hx);obtain⟨y,hy⟩:=bV.1 h1;obtain⟨e1,e2⟩:=VD hy (ck x hx);rw[hy];exact⟨e1,by rw[e1];exact e2⟩
 refine wU hsel ?_ ?_ hfree
 .unfold Ev.dg;exact aK.2 λx hx=>(heq x (by simpa using hx)).2
 rw[execOp_congr o hsel (λx hx=>(heq x hx).1)];exact hv
theorem aaf {op:BinOp}{t t':TypeId}{x y:Operand}(hop:o.op = .binOp op t x y t')(hx:ake (ev x)=true){k:AV->Option β}(h:CY X ev o k=some r):∃v,k v=some r/\eO X cf o ev H v H:=by
 obtain⟨v,h1,hfree,h2⟩:=Am (λcs b=>by rw[hop];simp) h;refine⟨_,h1,.quiet λS E bz hr ck=>⟨v,λcall=>?_,Jg hfree⟩⟩;have hp:=h2 S bz ck;have hvx:=ck x (by rw[hop];simp[Op.operands]);unfold jt;rw[hop];show Ev.wk X.P bz o op t (bz x) (bz y) E=_;cases hA:ev x with
 |qg n =>
  rw[hA]at hvx;generalize bz x=z at hvx;cases hvx;unfold Ev.wk;rw[hp];have e1:Ev.DL op (.float .f64 n) (bz y)=none:=by cases bz y<;>rfl
  have e2:Ev.ue X.P op t (.float .f64 n) (bz y)=none:=by
   unfold Ev.ue;split<;>first|rfl|(rename_i h1 h2 h3;cases h2)|rfl
  rw[e1,e2];rfl
 |_=>rw[hA]at hx;cases hx
theorem SJ {s d:TypeId}{x:Operand}(hop:o.op = .convert s d x)(hd:afd X.P d=true){k:AV->Option β}(h:CY X ev o k=some r):∃v,k v=some r/\eO X cf o ev H v H:=by
 obtain⟨v,h1,hfree,h2⟩:=Am (λcs b=>by rw[hop];simp) h;refine⟨_,h1,.quiet λS E bz hr ck=>⟨v,λcall=>?_,Jg hfree⟩⟩;have hp:=h2 S bz ck;unfold jt;rw[hop];show Ev.kW X.P bz o s d (bz x) E=_;unfold Ev.kW;have e1:Ev.nZ X.P d (bz x)=none:=by
  unfold afd at hd;unfold Ev.nZ;split at hd
  .rename_i q hq;rw[hq]
  cases hd
 rw[e1,hp];cases X.P.underlying s<;>rfl
theorem Ex {c:Call}{b:Builtin}(hop:o.op = .call c)(hc:c.callee = .builtin b)(hb:b = .complex\/b = .real\/b = .imag){k:AV->Option β}(h:CY X ev o k=some r):∃v,k v=some r/\eO X cf o ev H v H:=by
 obtain⟨v,h1,hfree,h2⟩:=Am (λcs b=>by rw[hop];simp) h;refine⟨_,h1,.quiet λS E bz hr ck=>⟨v,λcall=>?_,Jg hfree⟩⟩;have hp:=h2 S bz ck;unfold jt;rw[hop];show Ev.ez X.P call bz o c E=_;unfold Ev.ez;rw[hc];rcases hb with rfl|rfl|rfl;all_goals
  show cE E (gR X.P bz o)=_;rw[hp];rfl
theorem aag {c:Call}{fo:Operand}{id:FuncId}{a b:List AV}(hop:o.op = .call c)(hc:c.callee = .value fo)(hf:ev fo = .fn id a b)(hb:tw X.P id=false)(hsame:IY X.P id=false){k:AV->Option β}(h:CY X ev o k=some r):∃v,k v=some r/\eO X cf o ev H v H:=by
 obtain⟨v,h0,hfree,h2⟩:=Am (λcs b=>by rw[hop];simp) h;refine⟨_,h0,.quiet λS E bz hr ck=>⟨v,λcall=>?_,Jg hfree⟩⟩;have hp:=h2 S bz ck;have h1:=ck fo (by rw[hop];simp[Op.operands,Call.operands,hc]);rw[hf]at h1;generalize hA:bz fo=A at h1;cases h1 with
 |fn _ _ _ a' b' ha hbb va vb =>
  rw[CB hop hc hA hb];have hno:Ev.wo X.P (bz fo)=false:=by
   rw[hA];unfold Ev.wo;split
   .rename_i id' heq';cases heq';exact hsame
   rfl
  unfold Ev.DN;split
  .rw[hno,hp];rfl
  rw[hp];rfl
theorem SK {c:Call}{fo x:Operand}{id:FuncId}(hop:o.op = .call c)(hc:c.callee = .value fo)(hf:ev fo = .fn id [] [])(hb:tw X.P id=false)(hsame:IY X.P id=true)(hx:c.args.toList=[x]):eO X cf o ev H (ev x) H:=.quiet λS E bz hr ck=>by
 have h1:=ck fo (by rw[hop];simp[Op.operands,Call.operands,hc]);have h2:=ck x (by rw[hop];simp[Op.operands,Call.operands,hc];exact .inr (by rw[<-fq,hx];simp));refine⟨bz x,λcall=>?_,h2⟩;rw[hf]at h1;generalize hA:bz fo=A at h1;cases h1 with
 |fn _ _ _ a' b' ha hbb va vb =>
  have:a'=[]:=aQ.1 ha.symm;subst this;have:b'=[]:=aQ.1 hbb.symm;subst this;rw[CB hop hc hA hb,hx];have hyes:Ev.wo X.P (bz fo)=true:=by rw[hA];exact hsame
  simp only[cP,oD,Ev.DN,hyes]
theorem zi {P:Program}{t:TypeId}{d:TypeDesc}{z:Value}(h:Cy P t=some (d,z)):∃kt e,P.underlying t=some (.map kt e)/\P.underlying kt=some d/\Ev.mc P e=some z/\Ev.tn d=true/\Ev.aZ z=true:=by
 unfold Cy at h;split at h
 .rename_i kt e hu;split at h
  .rename_i d' z' h1 h2;rw[ax]at h;split at h
   .rename_i hc;rw[ak,ak]at hc;cases h;exact⟨kt,e,hu,h1,h2,hc.1,hc.2.1⟩
   cases h
  cases h
 cases h
theorem Jh {t:TypeId}(hop:o.op = .makeMap t none)(hd:(Cy X.P t).isSome=true):eO X cf o ev H (.yG H.next) (H.push (.mf t [])):=by
 intro S E bz hr ck;obtain⟨⟨d,z⟩,hz⟩:=bV.1 hd;obtain⟨kt,e,hu,_⟩:=zi hz;obtain⟨E',hE⟩:=Mem.lY E ⟨[],t,false,true⟩;obtain⟨q1,q2,q3⟩:=Mem.dN hE;obtain⟨k1,k2,k3⟩:=hr.add (r:=.mf t []) (x:=some (E.size,0,0)) (g:=none) (by omega) q2 (λi hi=>by rw[q3,aa (by omega)]) (λr' hr'=>by
  cases hr';exact⟨E.size,0,0,⟨[],t,false,true⟩,ag rfl,by rw[q3,ag rfl],rfl,rfl,rfl⟩) (λy hy=>by cases hy;exact aC _) rfl
 refine⟨_,.map (some E.size),E',⟨0,λ_ _=>?_⟩,k1,.yG _ E.size 0 0 (ag rfl),k2,k3⟩;unfold jt;rw[hop];show Ev.nI X.P t none E=_;unfold Ev.nI;rw[hu];simp only[hE]
theorem zj {S:Wo}{d:TypeDesc}{a b:AV}{x y:Value}{r:Bool}(h:GK d a b=some r)(ha:VR S a x)(hb:VR S b y):Ev.Ks d x y=some r:=by
 unfold GK at h;split at h
 .rename_i s q;have hx:=ha.jw;have hy:=hb.jw;subst hx;subst hy;cases h;show some (Ev.oI s.toArray.toList q.toArray.toList)=_;rw[Ev.lV]
 .have hx:=ha.fT;have hy:=hb.fT;subst hx;subst hy;exact h
 cases h
theorem LH {S:Wo}{d:TypeDesc}{a:AV}{x:Value}(h:Bu d a=true)(ha:VR S a x):Ev.aZ x=true:=by
 unfold Bu at h;split at h
 .have hx:=ha.jw;subst hx;rfl
 .have hx:=ha.fT;subst hx;rfl
 cases h
theorem GV {β:Type}{d:TypeDesc}{s:AV}{z:AV}{k:AV->Bool->Option β}{r:β}:∀{ks:List (AV×AV)},Vf d s z k ks=some r ->
 ∃v b,k v b=some r/\∀(S:Wo) (xs:Value) (cs:List Value) (i:Nat),VR S s xs->MC S ks cs->(b=false/\v=z/\Ev.sy d xs cs i=some none)\/(b=true/\∃j x,Ev.sy d xs cs i=some (some (j,x))/\VR S v x)
 |[],h=>⟨z,false,h,λS xs cs i hs hc=>by
  have hc:cs=[]:=hc;subst hc;exact .inl ⟨rfl,rfl,rfl⟩⟩
 |q::ks,h=>by
  unfold Vf at h;split at h;case h_2=>cases h
  rename_i b0 hb0;rw[ax]at h;split at h
  .rename_i he;subst he;refine⟨q.2,true,h,λS xs cs i hs hc=>?_⟩;obtain⟨y,x,r',rfl,h0,h2,h3⟩:=hc;refine .inr ⟨rfl,i,x,?_,h2⟩;unfold Ev.sy;rw[zj hb0 hs h0]
  rename_i he;have he:b0=false:=by simpa using he
  subst he;obtain⟨v,b,h1,h2⟩:=GV h;refine⟨v,b,h1,λS xs cs i hs hc=>?_⟩;obtain⟨y,x,r',rfl,h0,h3,h4⟩:=hc;have:=h2 S xs r' (i+1) hs h4;unfold Ev.sy;rw[zj hb0 hs h0];exact this
theorem SL {t:TypeId}{x q:Operand}{ok:Bool}(hop:o.op = .lookup t x q ok){id:Nat}(hx:ev x = .yG id){t':TypeId}{ks:List (AV×AV)}(hg:H.get id=some (.mf t' ks)){d:TypeDesc}{z:Value}(hz0:Cy X.P t=some (d,z)){k:AV->Option β}
 (h:ah (Nat.beq t' t&&ok&&Bu d (ev q)) (Vf d (ev q) (.Ad z) (λv b=>k (.fH [v,.bool b])) ks) none=some r):∃v,k v=some r/\eO X cf o ev H v H:=by
 rw[ax]at h;split at h;case isFalse=>cases h
 rename_i hc;rw[ak,ak,aO]at hc;obtain⟨⟨rfl,rfl⟩,hfit⟩:=hc;obtain⟨kt,e,hu,hks,hz,Qr,hfree⟩:=zi hz0;obtain⟨v,b,h1,h2⟩:=GV h;refine⟨_,h1,.quiet λS E bz hr ck=>?_⟩;have e1:=ck x (by rw[hop];simp[Op.operands]);have e2:=ck q (by rw[hop];simp[Op.operands]);rw[hx]at e1;obtain⟨i,c,s0,b0,r1,r2,r3,r4,r5⟩:=hr.row id _ hg;generalize hA:bz x=A at e1;cases e1 with
 |yG _ i' c' s' hρ =>
  rw[r1]at hρ;cases hρ;have hm:Ev.mapOf E i=some b0:=by unfold Ev.mapOf;rw[r2];simp only[r3,Ev.lU]
  have go:∀(y:Value),Ev.vN X.P E t' (bz x) (bz q) true=some y->∀call,jt X.P call bz o E=some (y,E):=λy hy call=>by
   unfold jt;rw[hop];show cE E (Ev.vN X.P E t' (bz x) (bz q) true)=_;rw[hy];rfl
  rcases h2 S (bz q) b0.cells 0 e2 r4 with⟨rfl,rfl,hf⟩|⟨rfl,j,y,hf,hy⟩
  .refine ⟨.tuple #[z,.bool false],go _ ?_,.fH _ [z,.bool false] rfl (LV.cons (.Ad z hfree) (LV.cons (.bool _) LV.nil)).2⟩;unfold Ev.vN;rw[hu,hA];simp only[hks,hz,Ev.pK,hm,hf,Qr,Ev.lU]
  refine⟨.tuple #[y,.bool true],go _ ?_,.fH _ [y,.bool true] rfl (LV.cons hy (LV.cons (.bool _) LV.nil)).2⟩;unfold Ev.vN;rw[hu,hA];simp only[hks,hz,Ev.pK,hm,hf,Qr,Ev.lU]
theorem GW {S:Wo}{d:TypeDesc}{s:AV}{xs:Value}(hs:VR S s xs):∀{ks:List (AV×AV)} {cs:List Value} (i:Nat),(ks.all λp=>GK d s p.1==some false)=true->MC S ks cs->Ev.sy d xs cs i=some none
 |[],cs,i,_,h=>by
  have h:cs=[]:=h;subst h;rfl
 |q::ks,cs,i,ha,⟨y,x,r,h1,h0,h2,h3⟩=>by
  subst h1;simp only[bY,ak,eK]at ha;unfold Ev.sy;rw[zj ha.1 hs h0];exact GW hs (i+1) ha.2 h3
structure GX (X:ij)(o:Oper)(t:TypeId)(m q x:Operand):Prop where
 m1:m∈o.op.operands
 q1:q∈o.op.operands
 x1:x∈o.op.operands
 go:∀call bz E,jt X.P call bz o E=Ev.pL X.P t (bz m) (bz q) (bz x) E
theorem GX.upd {t:TypeId}{m q x:Operand}(hop:o.op = .mapUpdate t m q x):GX X o t m q x :=
 ⟨by rw[hop];simp[Op.operands],by rw[hop];simp[Op.operands],by rw[hop];simp[Op.operands],λcall bz E=>by unfold jt;rw[hop]⟩
theorem GX.ins {t:TypeId}{m q x:Operand}(hop:o.op = .insert t m q x):GX X o t m q x :=
 ⟨by rw[hop];simp[Op.operands],by rw[hop];simp[Op.operands],by rw[hop];simp[Op.operands],λcall bz E=>by unfold jt;rw[hop]⟩
theorem LI {t:TypeId}{m q x:Operand}(hop:GX X o t m q x){id:Nat}(hm:ev m = .yG id){t':TypeId}{ks:List (AV×AV)}(hg:H.get id=some (.mf t' ks)){d:TypeDesc}{z:Value}(hz0:Cy X.P t=some (d,z)){k:AV->aG->Option β}
 (h:ah (Nat.beq t' t&&H.nO id&&sF (ev x)&&Bu d (ev q)&&ks.all λp=>GK d (ev q) p.1==some false) (k .j5 (H.put id (.mf t' (ks++[(ev q,ev x)])))) none=some r):∃v H',k v H'=some r/\eO X cf o ev H v H':=by
 rw[ax]at h;split at h;case isFalse=>cases h
 rename_i hc;rw[ak,ak,ak,ak,aO]at hc;obtain⟨⟨⟨⟨rfl,hmay⟩,_⟩,hfit⟩,hall⟩:=hc;obtain⟨kt,e,hu,hks,hz,Qr,_⟩:=zi hz0;refine⟨_,_,h,λS E bz hr ck=>?_⟩;have h1:=ck m hop.m1;have h2:=ck q hop.q1;have h3:=ck x hop.x1;rw[hm]at h1;obtain⟨i,c,s0,b0,r1,r2,r3,r4,r5⟩:=hr.row id _ hg;generalize hA:bz m=A at h1;cases h1 with
 |yG _ i' c' s' hρ =>
  rw[r1]at hρ;cases hρ;have hmo:Ev.mapOf E i=some b0:=by unfold Ev.mapOf;rw[r2];simp only[r3,Ev.lU]
  have hmay':H.lk<=id:=by simpa[aG.nO,bu] using hmay
  have hlk:=hr.lk id _ _ hg hmay' r1;obtain⟨E',hE⟩:=Mem.jc (b:={ b0 with cells:=b0.cells++[bz q,bz x] }) (Mem.eL r2) hlk;obtain⟨z1,z2,z3,z4,z5⟩:=Mem.kY hE;obtain⟨m1,m2⟩:=hr.mod (S':=S) (E':=E') (r':=.mf t' (ks++[(ev q,ev x)])) hg rfl S.le_refl rfl (λ_ _ _=>rfl) z3 z4 (λj hj=>by rw[z5,aa (hj _ r1)]) (λj cs h=>.inl h) (λq' hq=>by
   cases hq;exact⟨i,c,s0,{ b0 with cells:=b0.cells++[bz q,bz x] },r1,by rw[z5,ag rfl],r3,r4.snoc h2 h3,r5⟩)
  refine⟨S,undef,E',⟨0,λ_ _=>?_⟩,S.le_refl,.j5 _,m1,m2⟩;rw[hop.go];unfold Ev.pL;rw[hu,hA];simp only[hks,hmo,Qr,LH hfit h2,nH,Ev.lU,GW h2 0 hall r4,hE]
theorem BH {P:Program}{t:TypeId}(h:Sl P t=true):∃kt e,P.underlying t=some (.map kt e)/\P.underlying kt=some .string/\Ev.mc P e=some (.int .i64 0):=by
 unfold Sl at h;split at h
 .rename_i kt e hu;split at h
  .rename_i h1 h2 h3;exact⟨kt,e,hu,h1,h3⟩
  cases h
 cases h
theorem BI (s:List UInt8)(n:Int):∀(ks:List (List UInt8×Int)) (i:Nat),
 (ri ks s=true/\∃j,Ev.sy .string (.string ⟨s.toArray⟩) (jm ks) i=some (some (i+j,.int .i64 (iJ ks s)))/\(jm ks).set (2*j+1) (.int .i64 n)=jm (iw ks s n)) \/
 (ri ks s=false/\Ev.sy .string (.string ⟨s.toArray⟩) (jm ks) i=some none/\iJ ks s=0/\jm ks++[.string ⟨s.toArray⟩,.int .i64 n]=jm (iw ks s n))
 |[],i=>.inr ⟨rfl,rfl,rfl,rfl⟩
 |(q,m)::ks,i=>by
  have e1:Ev.Ks .string (.string ⟨s.toArray⟩) (.string ⟨q.toArray⟩)=some (decide (s=q)):=by
   show some (Ev.oI s.toArray.toList q.toArray.toList)=_;rw[Ev.lV]
  unfold ri iJ iw jm Ev.sy;rw[e1];by_cases h:s=q
  .subst h;left
   rw[aX rfl];refine⟨rfl,0,rfl,rfl⟩
  rw[aU h];rcases BI s n ks (i+1) with⟨h1,j,h2,h3⟩|⟨h1,h2,h3,h4⟩
  .left
   refine⟨h1,j+1,?_,?_⟩
   .show Ev.sy .string _ (jm ks) (i+1)=_;rw[h2,show i+1+j=i+(j+1) by omega]
   show (Value.string ⟨q.toArray⟩::Value.int .i64 m::jm ks).set (2*(j+1)+1) _=Value.string ⟨q.toArray⟩::Value.int .i64 m::jm (iw ks s n);rw[show 2*(j+1)+1=(2*j+1)+1+1 by omega,jY,jY,h3]
  right
  refine⟨h1,h2,h3,?_⟩;show Value.string ⟨q.toArray⟩::Value.int .i64 m::(jm ks++_)=Value.string ⟨q.toArray⟩::Value.int .i64 m::jm (iw ks s n);rw[h4]
theorem LJ {t:TypeId}(hop:o.op = .makeMap t none)(hd:Sl X.P t=true):eO X cf o ev H (.yG H.next) (H.push (.mp t [])):=by
 intro S E bz hr ck;obtain⟨kt,e,hu,_,_⟩:=BH hd;obtain⟨E',hE⟩:=Mem.lY E ⟨[],t,false,true⟩;obtain⟨q1,q2,q3⟩:=Mem.dN hE;obtain⟨k1,k2,k3⟩:=hr.add (r:=.mp t []) (x:=some (E.size,0,0)) (g:=none) (by omega) q2 (λi hi=>by rw[q3,aa (by omega)]) (λr' hr'=>by
  cases hr';exact⟨E.size,0,0,⟨[],t,false,true⟩,ag rfl,by rw[q3,ag rfl],rfl,rfl,rfl⟩) (λy hy=>by cases hy;exact aC _) rfl
 refine⟨_,.map (some E.size),E',⟨0,λ_ _=>?_⟩,k1,.yG _ E.size 0 0 (ag rfl),k2,k3⟩;unfold jt;rw[hop];show Ev.nI X.P t none E=_;unfold Ev.nI;rw[hu];simp only[hE]
theorem VE {t:TypeId}{x q:Operand}{ok:Bool}(hop:o.op = .lookup t x q ok){k:AV->Option β}(h:Vg X H t (ev x) (ev q) ok k=some r):∃v,k v=some r/\eO X cf o ev H v H:=by
 unfold Vg at h;split at h;case h_2=>cases h
 rename_i id hx;split at h;case h_3=>cases h
 case h_2 =>
  rename_i t' ks hg;split at h
  .rename_i d z hz0;exact SL hop hx hg hz0 h
  cases h
 rename_i t' ks hg;split at h;case h_2=>cases h
 rename_i s hq;rw[ax]at h;split at h;case isFalse=>cases h
 rename_i hc;rw[ak,aO]at hc;obtain⟨hd,rfl⟩:=hc;obtain⟨kt,e,hu,hks,hz⟩:=BH hd;have main:∀(S:Wo) (E:Mem) (bz:Operand->Value),Rel S H E->(∀x∈o.op.operands,VR S (ev x) (bz x))->∀call,jt X.P call bz o E=some (ah ok (.tuple #[.int .i64 (iJ ks s),.bool (ri ks s)]) (.int .i64 (iJ ks s)),E):=by
  intro S E bz hr ck call;have h1:=ck x (by rw[hop];simp[Op.operands]);have h2:=ck q (by rw[hop];simp[Op.operands]);rw[hx]at h1;rw[hq]at h2;have h2:=h2.jw;obtain⟨i,c,s0,b,r1,r2,r3,r4,r5⟩:=hr.row id _ hg;generalize hA:bz x=A at h1;cases h1 with
  |yG _ i' c' s' hρ =>
   rw[r1]at hρ;cases hρ;have hm:Ev.mapOf E i=some b:=by unfold Ev.mapOf;rw[r2];simp only[r3,Ev.lU]
   unfold jt;rw[hop];show cE E (Ev.vN X.P E t' (bz x) (bz q) ok)=_;have:Ev.vN X.P E t' (bz x) (bz q) ok=some (ah ok (.tuple #[.int .i64 (iJ ks s),.bool (ri ks s)]) (.int .i64 (iJ ks s))):=by
    unfold Ev.vN;rw[hu,hA,h2];simp only[hks,hz,Ev.pK,hm,r4];rcases BI s 0 ks 0 with⟨g1,j,g2,_⟩|⟨g1,g2,g3,_⟩
    .rw[g2,g1];rfl
    rw[g2,g1,g3];rfl
   rw[this];rfl
 cases ok with
 |true=>exact⟨_,h,.quiet λS E bz hr ck=>⟨_,main S E bz hr ck,.fH _ [.int .i64 (iJ ks s),.bool (ri ks s)] rfl (LV.cons (.int _ _) (LV.cons (.bool _) LV.nil)).2⟩⟩
 |false=>exact⟨_,h,.quiet λS E bz hr ck=>⟨_,main S E bz hr ck,.int _ _⟩⟩
theorem Ey {t:TypeId}{m q x:Operand}(hop:GX X o t m q x){k:AV->aG->Option β}(h:Dl X H t (ev m) (ev q) (ev x) (λH'=>k .j5 H')=some r):∃v H',k v H'=some r/\eO X cf o ev H v H':=by
 unfold Dl at h;split at h;case h_2=>cases h
 rename_i id hm;split at h;case h_3=>cases h
 case h_2 =>
  rename_i t' ks hg;split at h
  .rename_i d z hz0;exact LI hop hm hg hz0 h
  cases h
 rename_i t' ks hg;split at h;case h_2=>cases h
 rename_i s n hq hx;rw[ax]at h;split at h;case isFalse=>cases h
 rename_i hc;rw[ak,ak,aO]at hc;obtain⟨⟨hd,rfl⟩,hmay⟩:=hc;obtain⟨kt,e,hu,hks,hz⟩:=BH hd;refine⟨_,_,h,λS E bz hr ck=>?_⟩;have h1:=ck m hop.m1;have h2:=ck q hop.q1;have h3:=ck x hop.x1;rw[hm]at h1;rw[hq]at h2;rw[hx]at h3;have h2:=h2.jw;have h3:=h3.fT;obtain⟨i,c,s0,b,r1,r2,r3,r4,r5⟩:=hr.row id _ hg;generalize hA:bz m=A at h1;cases h1 with
 |yG _ i' c' s' hρ =>
  rw[r1]at hρ;cases hρ;have hmo:Ev.mapOf E i=some b:=by unfold Ev.mapOf;rw[r2];simp only[r3,Ev.lU]
  have hmay':H.lk<=id:=by simpa[aG.nO,bu] using hmay
  have hlk:=hr.lk id _ _ hg hmay' r1;obtain⟨E',hE⟩:=Mem.jc (b:={ b with cells:=jm (iw ks s n) }) (Mem.eL r2) hlk;obtain⟨z1,z2,z3,z4,z5⟩:=Mem.kY hE;obtain⟨m1,m2⟩:=hr.mod (S':=S) (E':=E') (r':=.mp t' (iw ks s n)) hg rfl S.le_refl rfl (λ_ _ _=>rfl) z3 z4 (λj hj=>by rw[z5,aa (hj _ r1)]) (λj cs h=>.inl h) (λq hq=>by
   cases hq;exact⟨i,c,s0,{ b with cells:=jm (iw ks s n) },r1,by rw[z5,ag rfl],r3,rfl,r5⟩)
  refine⟨S,undef,E',⟨0,λ_ _=>?_⟩,S.le_refl,.j5 _,m1,m2⟩;rw[hop.go];unfold Ev.pL;rw[hu,hA,h2,h3];simp only[hks,hmo,r4];show ah (Ev.tn .string&&Ev.aZ (.string ⟨s.toArray⟩)) _ none=_;rw[show (Ev.tn .string&&Ev.aZ (.string ⟨s.toArray⟩))=true from rfl,Ev.lU];rcases BI s n ks 0 with⟨_,j,g2,g3⟩|⟨_,g2,_,g4⟩
  .rw[g2];simp only[bX,g3,hE]
  rw[g2];simp only[g4,hE]
theorem afq {call:cI β}(hcall:cX X cf call){tr:List Tmp}{k:AV->aG->Option β}(h:Uo X call tr ev o H k=some r):∃v H',k v H'=some r/\Ew X cf o ev H v H':=by
 have q1:∀{v:AV},(∃v,k v H=some r/\eO X cf o ev H v H)->∃v H',k v H'=some r/\Ew X cf o ev H v H':=λ⟨v,h1,h2⟩=>⟨v,H,h1,h2.ju⟩
 have q2:(∃v H',k v H'=some r/\eO X cf o ev H v H')->∃v H',k v H'=some r/\Ew X cf o ev H v H':=λ⟨v,H',h1,h2⟩=>⟨v,H',h1,h2.ju⟩
 unfold Uo at h;split at h
 .rename_i x hop;exact⟨_,_,h,(LC (.inl hop)).ju⟩
 .rename_i x hop;exact⟨_,_,h,(LC (.inr hop)).ju⟩
 .rename_i c a b hop;split at h
  .rename_i t hc;refine⟨ah t (ev a) (ev b),H,?_,(VB hop hc).ju⟩;cases t<;>exact h
  cases h
 .rename_i hop;rw[ax]at h;split at h
  .rename_i hx;exact q1 (v:=.j5) (aaf hop hx h)
  exact q1 (v:=.j5) (Sx hop h)
 .rename_i hop;exact q1 (v:=.j5) (afj hop h)
 .rename_i t hop;rw[ax]at h;split at h
  .exact q2 (SG hop h)
  split at h
  .rename_i z hz;exact⟨_,_,h,(SF hop hz).ju⟩
  cases h
 .rename_i t x hop;split at h
  .rename_i n cs hn hc;exact⟨_,_,h,(aab hop hn hc).ju⟩
  cases h
 .rename_i hop;exact q1 (v:=.j5) (SH hop h)
 .rename_i hop;exact q2 (Eu hop h)
 .rename_i hop;exact q1 (v:=.j5) (Vo hop h)
 .rename_i hop;exact q2 (SD hop h)
 .rename_i x hop;split at h
  .rename_i id off hx;exact⟨_,_,h,(Dn hop hx (.inl ⟨_,_,rfl⟩)).ju⟩
  .rename_i id n hx;exact⟨_,_,h,(Dn hop hx (.inr (.inl ⟨_,_,rfl⟩))).ju⟩
  .rename_i cs hx;exact⟨_,_,h,(Dn hop hx (.inr (.inr (.inl ⟨_,rfl⟩)))).ju⟩
  .rename_i f a b hx;exact⟨_,_,h,(Dn hop hx (.inr (.inr (.inr ⟨_,_,_,rfl⟩)))).ju⟩
  cases h
 .rename_i hop;exact q1 (v:=.j5) (SB hop h)
 .rename_i hop;exact q1 (v:=.j5) (Z8 hop h)
 .rename_i x i hop;split at h
  .rename_i vs hx;split at h
   .rename_i v hv;exact⟨_,_,h,(LD hop hx hv).ju⟩
   cases h
  cases h
 .rename_i hop;exact q2 (Vx hop h)
 .rename_i hop;exact⟨_,_,h,(Je hop).ju⟩
 .rename_i t x lo hi hop;split at h
  .rename_i d y _;rw[ax]at h;split at h
   .exact q2 (SE hop h)
   exact q2 (Bz hop h)
  exact q2 (Bz hop h)
 .rename_i t x f hop;split at h
  .rename_i fs cs hu hx;split at h
   .rename_i fd UH;exact q1 (v:=.j5) (OI hop hu hx UH h)
   cases h
  cases h
 .rename_i hop;exact q1 (v:=.j5) (SC hop h)
 .rename_i hop;rw[ax]at h;split at h
  .rename_i hd;exact q1 (v:=.j5) (SJ hop hd h)
  exact q2 (Vz hop h)
 .rename_i c hop;split at h
  .rename_i f hc;split at h
   .rename_i id a b hf;rw[ax]at h;split at h
    .rename_i hb;obtain⟨fn,cd,hfn,hcd⟩:=Jf hb;obtain⟨v,H',h1,h2⟩:=hcall _ _ _ _ _ h;exact⟨v,H',h1,VC hop hc hf hfn hcd h2⟩
    rename_i hb;have hb:tw X.P id=false:=by simpa using hb
    rw[ax]at h;split at h
    .rename_i hsame;split at h
     .rename_i x hx;exact⟨_,_,h,(SK hop hc hf hb hsame hx).ju⟩
     cases h
    rename_i hsame;exact q1 (v:=.j5) (aag hop hc hf hb (by simpa using hsame) h)
   cases h
  .rename_i hc;split at h
   .rename_i x t h0 h1;exact q1 (v:=.j5) (Z9 hop hc h0 h1 h)
   cases h
  .rename_i hc;split at h
   .rename_i s x st xt h0 h1 h2 h3;exact q2 (OJ hop hc h0 h1 h2 h3 h)
   cases h
  .rename_i hc;split at h
   .rename_i d x dt h0 h1 h2;exact q2 (Vv hop hc h0 h1 h2 h)
   cases h
  .rename_i hc;split at h
   .rename_i x h0;obtain⟨v,h1,h2⟩:=Gf hop hc h0 h;exact⟨v,_,h1,h2.ju⟩
   cases h
  .rename_i hc;split at h
   .rename_i p n pt it h0 h1;exact q2 (VA hop hc h0 h1 h)
   cases h
  .rename_i hc;split at h
   .rename_i x y h0;split at h
    .rename_i ka a kb b hx hy;exact⟨_,_,h,(aad hop hc (kG.1 h0) hx hy).ju⟩
    cases h
   cases h
  .rename_i hc;split at h
   .rename_i x t h0 h1;split at h
    .rename_i te id off len cap hu hx;split at h
     .rename_i t' e l gC ro hg;exact⟨_,_,h,(aae hop hc h0 h1 hu hx hg).ju⟩
     cases h
    .rename_i te id n hu hx;split at h
     .rename_i t' e l gC ro hg;exact⟨_,_,h,(LF hop hc h0 h1 hu hx hg).ju⟩
     cases h
    .rename_i te hu hx;exact⟨_,_,h,(LG hop hc h0 h1 hu hx).ju⟩
    cases h
   cases h
  .rename_i hc;exact q1 (v:=.j5) (Ex hop hc (.inl rfl) h)
  .rename_i hc;exact q1 (v:=.j5) (Ex hop hc (.inr (.inl rfl)) h)
  .rename_i hc;exact q1 (v:=.j5) (Ex hop hc (.inr (.inr rfl)) h)
  cases h
 .rename_i hop;rw[ax]at h;split at h
  .rename_i hd;exact⟨_,_,h,(LJ hop hd).ju⟩
  rw[ax]at h;split at h
  .rename_i hd;exact⟨_,_,h,(Jh hop hd).ju⟩
  cases h
 .rename_i hop;exact q1 (v:=.j5) (VE hop h)
 .rename_i hop;exact q2 (Ey (.upd hop) h)
 .rename_i hop;exact q2 (Ey (.ins hop) h)
 cases h
end
end Go.Tv
namespace Go.Tv
open Go.Ev (Tr ah iL Mem jJ alive ax dF jt Fr)
structure mw (S:Wo)(f:fJ)(fE:Fr):Prop where
 n:f.n=fE.n
 v:∀i,VR S (f.get i) (fE.get i)
theorem mw.mono {S S':Wo}{f:fJ}{fE:Fr}(h:mw S f fE)(hle:S.le S'):mw S' f fE:=⟨h.n,λi=>(h.v i).mono hle⟩
theorem fJ.Ji (f:fJ)(d:Tmp)(v:AV):(f.put (some d) v).n=f.n/\∀i,(f.put (some d) v).get i=if i=d/\d<f.n then v else f.get i:=by
 have e:f.put (some d) v=ah (Nat.ble (Nat.succ d) f.n) (Option.rec (motive:=λ_=>fJ) f (λt=>⟨f.n,t⟩) (f.t.set d v)) f:=rfl;rw[e,ax,Ev.nj];simp only[aV];by_cases hd:d<f.n
 .rw[ag hd];obtain⟨t',ht⟩:=Tr.jc v f.t d;rw[ht];refine⟨rfl,λi=>?_⟩;show (Option.rec (motive:=λ_=>AV) .j5 (λv=>v) (t'.get i))=_;rw[Tr.xT ht];by_cases hi:i=d
  .rw[ag hi,ag ⟨hi,hd⟩]
  rw[aa hi,aa (λh=>hi h.1)];rfl
 rw[aa hd];exact⟨rfl,λi=>by rw[aa (λh=>hd h.2)]⟩
theorem Fr.pg (f:Fr)(dst:Option Tmp)(v:Value):∃f',f.put dst v=some f':=by
 cases dst with
 |none=>exact⟨f,rfl⟩
 |some d =>
  have e:f.put (some d) v=ah (Nat.ble (Nat.succ d) f.n) (Option.rec (motive:=λ_=>Option Fr) none (λt=>some ⟨f.n,t⟩) (f.t.set d v)) (some f):=rfl;rw[e,ax];split
  .obtain ⟨t',ht⟩:=Tr.jc v f.t d;rw[ht];exact⟨_,rfl⟩
  exact⟨_,rfl⟩
theorem mw.put {S:Wo}{f:fJ}{fE fE':Fr}(h:mw S f fE){dst:Option Tmp}{v:AV}{x:Value}(hv:VR S v x)(hp:fE.put dst x=some fE'):mw S (f.put dst v) fE':=by
 obtain⟨e1,e2⟩:=Ev.Fr.gB hp;cases dst with
 |none=>exact⟨h.n.trans e1.symm,λi=>by rw[e2,aa (by simp)];exact h.v i⟩
 |some d =>
  obtain⟨g1,g2⟩:=fJ.Ji f d v;refine⟨by rw[g1,e1,h.n],λi=>?_⟩;rw[g2,e2];by_cases hi:i=d/\d<f.n
  .obtain ⟨rfl,hd⟩:=hi;rw[ag ⟨rfl,hd⟩,ag ⟨rfl,by rw[<-h.n];exact hd⟩];exact hv
  rw[aa hi,aa (λhh=>hi ⟨by have:=hh.1;simp at this;exact this.symm,by have:=hh.1;simp at this;subst this;rw[h.n];exact hh.2⟩)];exact h.v i
theorem mw.know {S:Wo}{f:fJ}{fE:Fr}(h:mw S f fE){d:Tmp}{v:AV}(hv:VR S v (fE.get d)):mw S (f.put (some d) v) fE:=by
 obtain⟨g1,g2⟩:=fJ.Ji f d v;refine⟨by rw[g1,h.n],λi=>?_⟩;rw[g2];by_cases hi:i=d/\d<f.n
 .obtain ⟨rfl,_⟩:=hi;rw[ag ⟨rfl,by assumption⟩];exact hv
 rw[aa hi];exact h.v i
theorem afr {S:Wo}{v:Value}(h:Ev.aZ v=true):VR S (ofV v) v:=by
 unfold ofV;split
 .rename_i cs;have hc:=zg h;have e:Value.agg cs = .agg (cs.toList).toArray:=by simp
  rw[e];have:=LV.map (S:=S) (f:=Ow) (g:=λv=>v) cs.toList λv hv=>zf (hc v (by simpa[Value.cells] using hv))
  rw[List.map_id'']at this
  .exact .agg _ _ this.1 this.2
  intro x;rfl
 exact zf h
theorem qP {X:ij}{S:Wo}{f:fJ}{fE:Fr}(h:mw S f fE)(hg:fm X S){x:Operand}(hx:Ev.dW X.G x=true):VR S (f.eval X x) (fE.eval x):=by
 cases x with
 |tmp t=>exact h.v t
 |const v=>exact afr hx
 |global g =>
  have hlt:g<X.G:=by simpa[Ev.dW,Nat.blt_eq] using hx
  show VR S (adv (X.gv g)) _;have hg:=hg g hlt;revert hg;generalize X.gv g=gs;intro hg;cases gs with
  |nil=>exact .j5 _
  |cons c l =>
   obtain⟨cs,h1,h2⟩:=hg (by simp);have h2:=h2 S λ_ _ h=>h
   exact .y4 (c::l) g [] cs [] (by simpa using h1) h2.1 h2.2
 |func f=>exact .fn f [] [] [] [] rfl rfl (λj x y hx=>by simp at hx) (λj x y hx=>by simp at hx)
section
variable {X:ij} {cf:Nat×Nat->Ev.cH} {β:Type} {r:β}
def Jj (X:ij)(run:Nat×Nat->Fr->Mem->Option (Fr×Mem))(f:fJ)(H:aG)(f':fJ)(H':aG):Prop :=
 ∀(S:Wo) (E:Mem) (fE:Fr),Rel S H E->fm X S->mw S f fE ->
  ∃S' fE' E',(∃N,∀n:Nat×Nat,N<=n.1/\N<=n.2->run n fE E=some (fE',E'))/\S.le S'/\mw S' f' fE'/\Rel S' H' E'/\St S H E S' H' E'
theorem Ao {call:cI β}(hcall:cX X cf call){tr:List Tmp}{ops:List Oper}{o:Oper}(hok:∀x∈o.op.operands,Ev.dW X.G x=true){f:fJ}{H:aG}{k:fJ->aG->Option β}(h:stepT X call tr ops o f H k=some r) :
 ∃f' H',k f' H'=some r/\Jj X (λn fE E=>Ev.iA X.P (cf n) ops o fE E) f H f' H':=by
 -- the operation is done
 have run:∀(f1:fJ) (k1:AV->aG->Option β),Uo X call tr (f1.eval X) o H k1=some r->∃v H',k1 v H'=some r/\∀(S:Wo) (E:Mem) (fE:Fr),Rel S H E->fm X S->mw S f1 fE->Ev.nJ o ops fE=true ->
  ∃S' fE' E',(∃N,∀n:Nat×Nat,N<=n.1/\N<=n.2->Ev.iA X.P (cf n) ops o fE E=some (fE',E'))/\S.le S'/\mw S' (f1.put o.dst v) fE'/\Rel S' H' E'/\St S H E S' H' E':=by
  intro f1 k1 h1;obtain⟨v,H',e1,e2⟩:=afq hcall h1;refine⟨v,H',e1,λS E fE hr hg hf hw=>?_⟩;obtain⟨S',vE,E',⟨N,k1⟩,k2,k3,k4,k5⟩:=e2 S E fE.eval hr hg λx hx=>qP hf hg (hok x hx)
  obtain⟨fE',hp⟩:=Fr.pg fE o.dst vE;refine⟨S',fE',E',⟨N,λn hn=>?_⟩,k2,(hf.mono k2).put k3 hp,k4,k5⟩;unfold Ev.iA;rw[hw,k1 n hn];show Ev.uh fE o.dst (some (vE,E'))=_;simp only[Ev.uh,hp]
 -- it is not
 have skip:∀(f1:fJ) (S:Wo) (E:Mem) (fE:Fr),Rel S H E->mw S f1 fE->Ev.nJ o ops fE=false ->
  ∃S' fE' E',(∃N,∀n:Nat×Nat,N<=n.1/\N<=n.2->Ev.iA X.P (cf n) ops o fE E=some (fE',E'))/\S.le S'/\mw S' (f1.put o.dst (.fH [])) fE'/\Rel S' H E'/\St S H E S' H E':=by
  intro f1 S E fE hr hf hw;obtain⟨fE',hp⟩:=Fr.pg fE o.dst undef;refine⟨S,fE',E,⟨0,λn _=>?_⟩,S.le_refl,hf.put (.fH [] [] rfl λj x y hx=>by simp at hx) hp,hr,St.refl _ _ _⟩;unfold Ev.iA;rw[hw];show Ev.uh fE o.dst (some (undef,E))=_;simp only[Ev.uh,hp]
 unfold stepT at h;split at h
 .rename_i hgd;obtain⟨v,H',h1,h2⟩:=run f _ h;exact⟨_,H',h1,λS E fE hr hg hf=>h2 S E fE hr hg hf (by simp[Ev.nJ,hgd])⟩
 rename_i j want hgd;split at h
 .rename_i d hd;split at h
  .rename_i b hb;have akn:∃oj,ops[j]? = some oj/\oj.dst=some d:=by
    unfold OD at hd;split at hd
    .rename_i oj yX;exact⟨oj,yX,hd⟩
    cases hd
   obtain⟨oj,yX,hdj⟩:=akn;have hwant:∀S fE,mw S f fE->Ev.nJ o ops fE=ah b want (!want)/\fE.get d = .bool b:=λS fE hf=>by
    have h1:=hf.v d;rw[hb]at h1;have h2:=h1.mq;refine⟨?_,h2⟩;unfold Ev.nJ Ev.wu;simp only[hgd,yX,hdj,h2]
   have known:∀S fE,mw S f fE->mw S (f.put (some d) (.bool b)) fE:=λS fE hf=>hf.know (by rw[(hwant S fE hf).2];exact .bool b)
   cases b with
   |true =>
    cases want with
    |true =>
     have h:Uo X call tr ((f.put (some d) (.bool true)).eval X) o H (λv H'=>k ((f.put (some d) (.bool true)).put o.dst v) H')=some r:=h;obtain⟨v,H',h1,h2⟩:=run _ _ h;exact⟨_,H',h1,λS E fE hr hg hf=>h2 S E fE hr hg (known S fE hf) (hwant S fE hf).1⟩
    |false=>exact⟨_,H,h,λS E fE hr hg hf=>skip _ S E fE hr (known S fE hf) (hwant S fE hf).1⟩
   |false =>
    cases want with
    |true=>exact⟨_,H,h,λS E fE hr hg hf=>skip _ S E fE hr (known S fE hf) (by rw[(hwant S fE hf).1];rfl)⟩
    |false =>
     have h:Uo X call tr ((f.put (some d) (.bool false)).eval X) o H (λv H'=>k ((f.put (some d) (.bool false)).put o.dst v) H')=some r:=h;obtain⟨v,H',h1,h2⟩:=run _ _ h;exact⟨_,H',h1,λS E fE hr hg hf=>h2 S E fE hr hg (known S fE hf) (by rw[(hwant S fE hf).1];rfl)⟩
  .rename_i l hl;refine⟨_,H,h,λS E fE hr hg hf=>skip _ S E fE hr hf ?_⟩;have yX:∃oj,ops[j]? = some oj/\oj.dst=some d:=by
    unfold OD at hd;split at hd
    .rename_i oj yX;exact⟨oj,yX,hd⟩
    cases hd
   obtain⟨oj,yX,hdj⟩:=yX;have h1:=hf.v d;rw[hl]at h1;obtain⟨m,hm⟩:∃m,fE.get d = .tuple m:=by
    generalize fE.get d=x at h1 ⊢;cases h1;exact⟨_,rfl⟩
   unfold Ev.nJ Ev.wu;simp only[hgd,yX,hdj,hm]
  cases h
 cases h
theorem VF (a:Option Nat):Ev.CU (Ev.NN a)=some a:=by cases a<;>rfl
theorem VG (a b:Option Nat):Ev.Il (Ev.cxV a b)=some (a,b):=by
 have code:Ev.Il (.chan (some (Ev.ug (Ev.DQ a) (Ev.DQ b)+2)))=some (a,b):=by
  show some (Ev.uY (Ev.vO _ _).1,Ev.uY (Ev.vO _ _).2)=_;rw[Ev.yU,Ev.zU,Ev.zU]
 cases a with
 |none=>exact code
 |some a=>cases b with
  |none=>exact code
  |some b=>rfl
theorem Dp {S:Wo}{a:AV}{q:Option Nat}{x:Value}(h:toF a=some q)(hx:VR S a x):Ev.CU x=some q:=by
 unfold toF at h;split at h
 .cases h;cases hx;rfl
 .cases h;cases hx with|fl a v h=>rw[h];exact VF _
 cases h
theorem QI {S:Wo}{a:AV}{q:Option Nat×Option Nat}{x:Value}(h:NH a=some q)(hx:VR S a x):Ev.Il x=some q:=by
 unfold NH at h;split at h
 .cases h;cases hx;rfl
 .cases h;cases hx with|cx a b v h=>rw[h];exact VG _ _
 cases h
theorem VH {S:Wo}{ev:Operand->AV}{bz:Operand->Value}{o:Oper}{v:AV}(h:afe X ev o=some v)(ck:∀x∈o.op.operands,VR S (ev x) (bz x)):∃vE,Ev.F7 X.P bz o=some vE/\VR S v vE:=by
 unfold afe at h;rw[ax]at h;split at h;case isFalse=>cases h
 unfold Ev.F7;split at h
 .rename_i op t x y yt hop;rw[hop];have hx:=ck x (by simp[hop,Op.operands]);have hy:=ck y (by simp[hop,Op.operands]);unfold QD at h;split at h;case h_2=>cases h
  rename_i a b ha hb;simp only;unfold Ev.Ik;rw[Dp ha hx,Dp hb hy];simp only;split at h
  .cases h;exact⟨_,rfl,.fl _ _ rfl⟩
  .cases h;exact⟨_,rfl,.fl _ _ rfl⟩
  .cases h;exact⟨_,rfl,.fl _ _ rfl⟩
  .cases a<;>cases b<;>first|(cases h;done)|(cases h;exact⟨_,rfl,.bool true⟩)
  cases h
 .rename_i cl hop;obtain⟨callee,args,ats⟩:=cl;rw[hop];have ow:∀x∈args,VR S (ev x) (bz x):=λx hx=>ck x (by simp[hop,Op.operands,Call.operands];exact .inr hx)
  have one:∀{v:AV},args.toList.map ev=[v]->∃p,args = #[p]/\ev p=v:=λh=>by
   obtain⟨l⟩:=args
   match l,h with
   |[p],h=>exact⟨p,rfl,by simpa using h⟩
  have two:∀{v u:AV},args.toList.map ev=[v,u]->∃p q,args = #[p,q]/\ev p=v/\ev q=u:=λh=>by
   obtain⟨l⟩:=args
   match l,h with
   |[p,q],h=>exact⟨p,q,rfl,by simpa using h⟩
  simp only at h ⊢;split at h
  .rename_i x y hl;obtain⟨p,q,rfl,rfl,rfl⟩:=two hl;split at h
   .rename_i a b ha hb;cases h;refine⟨Ev.cxV a b,?_,.cx a b _ rfl⟩;simp only[cP,oD,Dp ha (ow p (by simp)),Dp hb (ow q (by simp))]
   cases h
  .rename_i x hl;obtain⟨p,rfl,rfl⟩:=one hl;split at h
   .rename_i q hq;cases h;refine⟨Ev.NN q.1,?_,.fl _ _ rfl⟩;simp only[cP,oD,QI hq (ow p (by simp))]
   cases h
  .rename_i x hl;obtain⟨p,rfl,rfl⟩:=one hl;split at h
   .rename_i q hq;cases h;refine⟨Ev.NN q.2,?_,.fl _ _ rfl⟩;simp only[cP,oD,QI hq (ow p (by simp))]
   cases h
  .rename_i f x hl;obtain⟨p,rfl,hp⟩:=one hl;split at h
   .rename_i id hf;rw[ax]at h;split at h
    .rename_i hb;split at h
     .rename_i x;cases h;have hx:=ow p (by simp);rw[hp]at hx;have hfE:=ck f (by simp[hop,Op.operands,Call.operands]);rw[hf]at hfE;generalize hq:bz p=x at hx;generalize hg:bz f=g at hfE;obtain rfl:x = .chan (some 1):=by cases hx with|fl a v h=>exact h
      cases hfE with
      |fn f a b a' b' ha hb' va vb =>
       obtain rfl:a'=[]:=aQ.1 (by simpa using ha.symm);obtain rfl:b'=[]:=aQ.1 (by simpa using hb'.symm);refine⟨.chan none,?_,.j5 _⟩;have e1:[p].map bz=[.chan (some 1)]:=by simp[hq,Ev.NN]
       show (match Callee.value f,[p].map bz with|_,_=>_)=_;simp only[e1,hg];rw[show (Ev.Im X.P (.func (.func id) ([]:List Value).toArray ([]:List Value).toArray))=true from hb]
     cases h
    cases h
   cases h
  cases h
 cases h
theorem VI {P:Program}{call:Ev.cH}{l:List Oper}{o:Oper}{f:Fr}{E:Mem}{r:Fr×Mem}(h:Ev.iA P call l o f E=some r):Ev.uj P call l o f E=some r:=by
 unfold Ev.uj;rw[h]
theorem SM {P:Program}{call:Ev.cH}{l:List Oper}{o:Oper}{f f':Fr}{E:Mem}{v:Value}(hw:Ev.nJ o l f=true)(h:Ev.F7 P f.eval o=some v)(hp:f.put o.dst v=some f'):Ev.uj P call l o f E=some (f',E):=by
 unfold Ev.uj;cases hs:Ev.iA P call l o f E with
 |none =>
  rw[hw,h];show Ev.uh f o.dst (some (v,E))=_;simp only[Ev.uh,hp]
 |some r =>
  unfold Ev.iA at hs;rw[hw]at hs;have hs:Ev.uh f o.dst (jt P call f.eval o E)=some r:=hs;cases ho:jt P call f.eval o E with
  |none=>rw[ho]at hs;cases hs
  |some q =>
   obtain⟨u,E'⟩:=q;obtain⟨rfl,rfl⟩:=Ev.aeL h ho;rw[ho]at hs;simp only[Ev.uh,hp]at hs;exact hs.symm
theorem SN {call:cI β}(hcall:cX X cf call){tr:List Tmp}{ops:List Oper}{o:Oper}(hok:∀x∈o.op.operands,Ev.dW X.G x=true){f:fJ}{H:aG}{k:fJ->aG->Option β}(h:IZ X call tr ops o f H k=some r) :
 ∃f' H',k f' H'=some r/\Jj X (λn fE E=>Ev.uj X.P (cf n) ops o fE E) f H f' H':=by
 unfold IZ at h;split at h
 .rename_i v hv hgd;refine⟨_,H,h,λS E fE hr hg hf=>?_⟩;obtain⟨vE,h1,h2⟩:=VH hv λx hx=>qP hf hg (hok x hx)
  obtain⟨fE',hp⟩:=Fr.pg fE o.dst vE;exact⟨S,fE',E,⟨0,λn _=>SM (by simp[Ev.nJ,hgd]) h1 hp⟩,S.le_refl,hf.put h2 hp,hr,St.refl _ _ _⟩
 obtain⟨f',H',h1,h2⟩:=Ao hcall hok h;refine⟨f',H',h1,λS E fE hr hg hf=>?_⟩;obtain⟨S',fE',E',⟨N,a1⟩,a2⟩:=h2 S E fE hr hg hf;exact⟨S',fE',E',⟨N,λn hn=>VI (a1 n hn)⟩,a2⟩
def wW (S:Wo)(RT RE:Option (List Nat)):Prop :=
 match RT with
 |none=>True
 |some lT=>∃lE,RE=some lE/\∀j∈lE,(∃cs,S.F j=some cs)\/∃id∈lT,∃x,S.ρ id=some x/\x.1=j
theorem wW.mono {S S':Wo}{RT RE:Option (List Nat)}(h:wW S RT RE)(hle:S.le S'):wW S' RT RE:=by
 cases RT with
 |none=>trivial
 |some lT =>
  obtain⟨lE,e,h⟩:=h;refine⟨lE,e,λj hj=>(h j hj).imp (λ⟨cs,h1⟩=>⟨cs,hle.F _ _ h1⟩) λ⟨id,h1,x,h2,h3⟩=>⟨id,h1,x,hle.ρ _ _ h2,h3⟩⟩
theorem SP {S:Wo}{RT RE:Option (List Nat)}(h:wW S RT RE){ev:Operand->AV}{bz:Operand->Value}{o:Oper}(hv:∀x∈o.op.operands,VR S (ev x) (bz x)):wW S (I0 ev o RT) (Ev.qd bz o RE):=by
 unfold I0;split
 .rename_i t x hop;have hx:=hv x (by simp[hop,Op.operands]);unfold Ev.qd;rw[hop];split
  .rename_i l id off he;obtain⟨lE,rfl,h⟩:=h;rw[he]at hx;generalize hA:bz x=y at hx;cases hx with
   |ptr _ _ i c s hρ =>
    refine⟨i::lE,by simp only[hA],λj hj=>?_⟩;rcases bt.1 hj with rfl|hj
    .exact .inr ⟨id,by simp,_,hρ,rfl⟩
    exact(h j hj).imp_right λ⟨id',h1,h2⟩=>⟨id',by simp[h1],h2⟩
  .rename_i l id j0 fo gC cur he;obtain⟨lE,rfl,h⟩:=h;rw[he]at hx;generalize hA:bz x=y at hx;cases hx with
   |Dk _ _ _ _ _ i c e l2 y2 hρ _ _ _ =>
    refine⟨i::lE,by simp only[hA],λj hj=>?_⟩;rcases bt.1 hj with rfl|hj
    .exact .inr ⟨id,by simp,_,hρ,rfl⟩
    exact(h j hj).imp_right λ⟨id',h1,h2⟩=>⟨id',by simp[h1],h2⟩
  .rename_i l cs he;obtain⟨lE,rfl,h⟩:=h;rw[he]at hx;generalize hA:bz x=y at hx;cases hx with
   |y4 _ i pre mid post hF _ _ =>
    refine⟨i::lE,by simp only[hA],λj hj=>?_⟩;rcases bt.1 hj with rfl|hj
    .exact .inl ⟨_,hF⟩
    exact h j hj
  trivial
 rename_i hno;unfold Ev.qd;split
 .rename_i t x hop;exact absurd hop (hno t x)
 rw[ax,ax];split
 .trivial
 exact h
theorem GY {S:Wo}{H:aG}{E:Mem}(hr:Rel S H E){RT RE:Option (List Nat)}(h:wW S RT RE){s:AV}{sE:Value}(hs:VR S s sE)(hc:Bw H RT s=true):Ev.tV RE sE=true:=by
 have own:∀{id:Nat} {l:List Nat} {i cap s0 off n c:Nat} {lE:List Nat},RE=some lE->(∀j∈lE,(∃cs,S.F j=some cs)\/∃id∈l,∃x,S.ρ id=some x/\x.1=j)->S.ρ id=some (i,cap,s0) ->
  ((match H.get id with|some (.list _ _ _ _ _ false)=>true|_=>false)&&l.all λj => !Nat.beq j id&&(H.get j).isSome)=true->Ev.tV RE (.slice (some ⟨i,off,none⟩) n c)=true:=by
  intro id l i cap s0 off n c lE hE hl hρ hb;simp only[ak]at hb;obtain⟨yo,Kk⟩:=hb;split at yo;case h_2=>cases yo
  rename_i t e ll gC ex hg;subst hE;show (lE.all λj => !Nat.beq j i)=true;rw[aK];intro j hj;have hne:j≠i:=by
   intro e;subst e;rcases hl j hj with⟨cs,hF⟩|⟨id',hid,x,hx,hx1⟩
   .have:=hr.sep id _ _ hg rfl hρ;rw[hF]at this;cases this
   have:=aK.1 Kk id' hid;simp only[ak,aS]at this;obtain⟨t1,t2⟩:=this;obtain⟨r',hr'⟩:=bV.1 t2;have:=hr.inj id' id _ _ _ _ hr' hg hx hρ hx1;subst this;rw[oF]at t1;cases t1
  rw[aS,<-eB,aO];exact hne
 unfold Bw at hc;split at hc
 .cases hs;rfl
 .rename_i id n l;obtain⟨lE,e,h⟩:=h;cases hs with
  |own _ _ i cap s0 hρ g hg hn=>exact own e h hρ hc
  |gh _ g hg hn=>rfl
 .rename_i id off n c l;obtain⟨lE,e,h⟩:=h;cases hs with
  |rO _ _ _ _ i c s0 hρ g hg hc' hl=>exact own e h hρ hc
 .rename_i id off l;obtain⟨lE,e,h⟩:=h;cases hs with
  |ptr _ _ i c s0 hρ =>
   simp only[ak]at hc;obtain⟨yo,Kk⟩:=hc;split at yo;case h_2=>cases yo
   rename_i t cs hg;subst e;show (lE.all λj => !Nat.beq j i)=true;rw[aK];intro j hj;have hne:j≠i:=by
    intro e;subst e;rcases h j hj with⟨cs,hF⟩|⟨id',hid,x,hx,hx1⟩
    .have:=hr.sep id _ _ hg rfl hρ;rw[hF]at this;cases this
    have:=aK.1 Kk id' hid;simp only[ak,aS]at this;obtain⟨t1,t2⟩:=this;obtain⟨r',hr'⟩:=bV.1 t2;have:=hr.inj id' id _ _ _ _ hr' hg hx hρ hx1;subst this;rw[oF]at t1;cases t1
   rw[aS,<-eB,aO];exact hne
 cases hc
theorem VJ {call:cI β}(hcall:cX X cf call){tr:List Tmp}{ops:List Oper}{o:Oper}(hok:∀x∈o.op.operands,Ev.dW X.G x=true){R:Option (List Nat)}{lk:Bool}{f:fJ}{H:aG}{k:fJ->aG->Option β}(h:I1 X call tr ops R lk o f H k=some r) :
 ∃f' H',k f' H'=some r/\∀(S:Wo) (E:Mem) (fE:Fr) (RE:Option (List Nat)),Rel S H E->fm X S->mw S f fE->wW S R RE ->
  ∃S' fE' E',(∃N,∀n:Nat×Nat,N<=n.1/\N<=n.2->Ev.qG X.P (cf n) ops RE lk o fE E=some (fE',E'))/\S.le S'/\mw S' f' fE'/\Rel S' H' E'/\St S H E S' H' E':=by
 unfold I1 at h;cases lk with
 |false =>
  obtain⟨f',H',h1,h2⟩:=Ao hcall hok h;exact⟨f',H',h1,λS E fE RE hr hg hf _=>h2 S E fE hr hg hf⟩
 |true =>
  cases hb:Ev.kJ o.op with
  |some s =>
   have h:(match Ev.kJ o.op with
    |some s=>ah (Bw H R (f.eval X s)) (stepT X call tr ops o f H k) none
    |none=>ah (qM H R (f.eval X) o) (stepT X call tr ops o f H k) (stepT X call tr ops o f { H with lk:=H.next } λf' H'=>k f' { H' with lk:=H.lk }))=some r:=h
   rw[hb]at h;simp only[ax]at h;split at h
   .rename_i hc;obtain⟨f',H',h1,h2⟩:=Ao hcall hok h;refine⟨f',H',h1,λS E fE RE hr hg hf hR=>?_⟩;obtain⟨S',fE',E',⟨N,k1⟩,k2⟩:=h2 S E fE hr hg hf;refine⟨S',fE',E',⟨N,λn hn=>?_⟩,k2⟩;have ot:=GY hr hR (qP hf hg (hok s (Ev.Cp hb))) hc;show (match Ev.kJ o.op with
     |some s=>ah (Ev.tV RE (fE.eval s)) (Ev.iA X.P (cf n) ops o fE E) none
     |none=>ah (Ev.iI RE fE.eval o) (Ev.iA X.P (cf n) ops o fE E)
      (match Ev.iA X.P (cf n) ops o fE { E with lk:=E.size } with
       |some (f',H')=>some (f',{ H' with lk:=E.lk })
       |none=>none))=_
    rw[hb];simp only[ot];exact k1 n hn
   cases h
  |none =>
   have h:(match Ev.kJ o.op with
    |some s=>ah (Bw H R (f.eval X s)) (stepT X call tr ops o f H k) none
    |none=>ah (qM H R (f.eval X) o) (stepT X call tr ops o f H k) (stepT X call tr ops o f { H with lk:=H.next } λf' H'=>k f' { H' with lk:=H.lk }))=some r:=h
   rw[hb]at h;simp only[ax (qM H R (f.eval X) o)]at h;split at h
   .rename_i hc;unfold qM at hc;split at hc;case h_2=>cases hc
    rename_i s hsb;obtain⟨f',H',h1,h2⟩:=Ao hcall hok h;refine⟨f',H',h1,λS E fE RE hr hg hf hR=>?_⟩;obtain⟨S',fE',E',⟨N,k1⟩,k2⟩:=h2 S E fE hr hg hf;refine⟨S',fE',E',⟨N,λn hn=>?_⟩,k2⟩;have hsm:s∈o.op.operands:=by
     unfold Ev.mG at hsb;split at hsb
     .rename_i t a x hop;cases hsb;rw[hop];simp[Op.operands]
     cases hsb
    have ot:Ev.iI RE fE.eval o=true:=by
     unfold Ev.iI;rw[hsb];exact GY hr hR (qP hf hg (hok s hsm)) hc
    show (match Ev.kJ o.op with
     |some s=>ah (Ev.tV RE (fE.eval s)) (Ev.iA X.P (cf n) ops o fE E) none
     |none=>ah (Ev.iI RE fE.eval o) (Ev.iA X.P (cf n) ops o fE E)
      (match Ev.iA X.P (cf n) ops o fE { E with lk:=E.size } with
       |some (f',H')=>some (f',{ H' with lk:=E.lk })
       |none=>none))=_
    rw[hb];simp only[ot];exact k1 n hn
   have h:stepT X call tr ops o f { H with lk:=H.next } (λf' H'=>k f' { H' with lk:=H.lk })=some r:=h;obtain⟨f',H',h1,h2⟩:=Ao hcall hok h;refine⟨f',{ H' with lk:=H.lk },h1,λS E fE RE hr hg hf _=>?_⟩;have gH:∀(M:aG) n j,({ M with lk:=n }:aG).get j=M.get j:=λM n j=>rfl
   have gE:∀(M:Mem) n j,({ M with lk:=n }:Mem).get j=M.get j:=λM n j=>rfl
   have aE:∀(M:Mem) n j,alive ({ M with lk:=n }:Mem) j=alive M j:=λM n j=>rfl
   have ako:∀S (M:Mem) n id r,o6 S ({ M with lk:=n }:Mem) id r↔o6 S M id r:=λS M n id r=>by cases r<;>exact Iff.rfl
   have Ez:Rel S { H with lk:=H.next } { E with lk:=E.size } :=
    ⟨hr.fz,hr.dom,hr.C3,λid q hq=>(ako _ _ _ _ _).2 (hr.row id q hq),hr.inj,hr.sep,λid q x hq hl _=>absurd (aG.eL hq) (by have hl':H.next<=id:=hl;show ¬id<H.next;omega),aC _,hr.Lq,aC _⟩
   obtain⟨S',fE',E',⟨N,k1⟩,k2,k3,k4,k5⟩:=h2 S { E with lk:=E.size } fE Ez hg hf;refine⟨S',fE',{ E' with lk:=E.lk },⟨N,λn hn=>?_⟩,k2,k3,?_,?_⟩
   .show (match Ev.kJ o.op with
     |some s=>ah (Ev.tV RE (fE.eval s)) (Ev.iA X.P (cf n) ops o fE E) none
     |none=>ah (Ev.iI RE fE.eval o) (Ev.iA X.P (cf n) ops o fE E)
      (match Ev.iA X.P (cf n) ops o fE { E with lk:=E.size } with
       |some (f',H')=>some (f',{ H' with lk:=E.lk })
       |none=>none))=_
    rw[hb];have:=k1 n hn;simp only at this ⊢;cases hsc:Ev.iI RE fE.eval o with
    |false=>rw[Ev.Kv,this]
    |true =>
     unfold Ev.iI at hsc;split at hsc
     .rename_i s hsb;obtain⟨w2,w3⟩:=Ev.UX hsb this;subst w3;rw[Ev.lU,w2]
     cases hsc
   .refine ⟨k4.fz,k4.dom,k4.C3,λid q hq=>(ako _ _ _ _ _).2 (k4.row id q hq),k4.inj,k4.sep,λid q x hq hl hx=>?_,?_,?_,?_⟩
    .show E.lk<=x.1;by_cases hid:id<H.next
     .have akp:H.get id≠none:=k5.live id hid (by
       have:H'.get id=some q:=hq;rw[this];simp)
      cases hq0:H.get id with
      |none=>exact absurd hq0 akp
      |some q0 =>
       cases hx0:S.ρ id with
       |none =>
        rw[k5.rn id hid hx0]at hx;cases hx
       |some x0 =>
        have e:=k2.ρ id x0 hx0;rw[hx]at e;have e:=bL e;subst e;exact hr.lk id q0 x hq0 hl hx0
     have:=k4.lk id q x hq (by rw[k5.Sm];show H.next<=id;omega) hx;have h5:=k5.lk;have:E.size<=x.1:=by rw[h5]at this;exact this
     have:=hr.GL;omega
    .show H.lk<=H'.next
     have:=k5.nx;have:=hr.zF;have:H.next<=H'.next:=k5.nx
     omega
    .exact k4.Lq
    show E.lk<=E'.size;have:=k5.sz;have:=hr.GL;have:E.size<=E'.size:=k5.sz;omega
   exact⟨k5.sz,rfl,rfl,k5.y9,k5.F,k5.own,k5.Kl,k5.keep,k5.par,k5.nx,k5.live,k5.rn⟩
end
structure BJ (S:Wo)(H:aG)(HE:Mem)(S':Wo)(H':aG)(HE':Mem):Prop where
 sz:HE.size<=HE'.size
 lk:HE'.lk=HE.lk
 Sm:H'.lk=H.lk
 y9:H'.par=H.par
 F:∀i x,S.F i=some x->S'.F i=some x
 own:∀i,Own S' H' i->i<HE.size->Own S H i
 Kl:∀i,S'.F i≠none->S.F i≠none\/Own S H i\/HE.size<=i
 keep:∀i,i<HE.size->¬Own S H i->HE'.get i=HE.get i
 par:∀id,id<H.par->S'.ρ id=S.ρ id
theorem St.NH {S S':Wo}{H H':aG}{E E':Mem}(h:St S H E S' H' E'):BJ S H E S' H' E':=⟨h.sz,h.lk,h.Sm,h.y9,h.F,h.own,h.Kl,h.keep,h.par⟩
theorem BJ.refl (S:Wo)(H:aG)(E:Mem):BJ S H E S H E:=(St.refl S H E).NH
theorem BJ.trans {S S1 S2:Wo}{H H1 H2:aG}{E E1 E2:Mem}(h:BJ S H E S1 H1 E1)(k:BJ S1 H1 E1 S2 H2 E2):BJ S H E S2 H2 E2:=by
 refine⟨br h.sz k.sz,k.lk.trans h.lk,k.Sm.trans h.Sm,k.y9.trans h.y9,λi x hx=>k.F i x (h.F i x hx),λi ho hi=>h.own i (k.own i ho (cw hi h.sz)) hi,λi hf=>?_,λi hi ho=>?_,λid hid=>(k.par id (by rw[h.y9];exact hid)).trans (h.par id hid)⟩
 .rcases k.Kl i hf with h1|h1|h1
  .exact h.Kl i h1
  .by_cases hi:i<E.size
   .exact .inr (.inl (h.own i h1 hi))
   exact .inr (.inr (by omega))
  exact .inr (.inr (br h.sz h1))
 exact(k.keep i (cw hi h.sz) λh1=>ho (h.own i h1 hi)).trans (h.keep i hi ho)
def wX {α:Type}(X:ij)(nf:Bool)(run:Nat×Nat->Fr->Mem->Option (α×Fr×Mem))(a:α)(f:fJ)(H:aG)(f':fJ)(H':aG):Prop :=
 ∀(S:Wo) (E:Mem) (fE:Fr),Rel S H E->fm X S->mw S f fE ->
  ∃S' fE' E',(∃N,∀n:Nat×Nat,N<=n.1/\N<=n.2->run n fE E=some (a,fE',E'))/\mw S' f' fE'/\Rel S' H' E'/\BJ S H E S' H' E'/\(nf=true->S.le S'/\St S H E S' H' E')
theorem VK {P:Program}{ops:Array Oper}{l:List (Oper×Bool)}(h:Ev.plan P ops=some l):∀q∈l,q.1∈ops.toList:=by
 unfold Ev.plan Ev.NW at h;rw[ax]at h;split at h
 .have hpos:=Ev.adq (P:=P) (ops:=ops);have key:∀n L l,Ev.vP (Ev.tS P ops ops.toList 0 []).reverse n L=some l->∀q∈l,q.1∈ops.toList:=by
   intro n;have mem:∀p∈(Ev.tS P ops ops.toList 0 []).reverse,p.o∈ops.toList:=λp hp=>by
    have:=aY (hpos.each p hp).o;simpa using this
   induction n with
   |zero =>
    intro L l h;unfold Ev.vP at h;split at h
    .cases h;simp
    cases h
   |succ n ih =>
    intro L l h;unfold Ev.vP at h;split at h
    .rename_i p hp;have hm:=jg hp;rw[ax]at h;split at h
     .split at h
      .rename_i l' hl';cases h;intro q hq;rcases bt.1 hq with rfl|hq
       .exact mem p hm
       exact ih _ _ hl' q hq
      cases h
     cases h
    split at h
    .cases h;simp
    rename_i q0 r0 hp;split at h;case h_2=>cases h
    rename_i p ms hch;have hm:p∈(Ev.tS P ops ops.toList 0 []).reverse:=by
     have:=(Ev.vf hch).1;rw[<-hp]at this;exact(cK.1 this).1
    rw[ax]at h;split at h;case isFalse=>cases h
    split at h
    .rename_i l' hl';cases h;intro q hq;rcases bt.1 hq with rfl|hq
     .exact mem p hm
     exact ih _ _ hl' q hq
    cases h
  exact key _ _ _ h
 cases h
section
variable {X:ij} {cf:Nat×Nat->Ev.cH} {β:Type} {r:β}
theorem VL {call:cI β}(hcall:cX X cf call){tr:List Tmp}{ops:List Oper}:∀(l:List (Oper×Bool)),(∀q∈l,∀x∈q.1.op.operands,Ev.dW X.G x=true)->∀{R:Option (List Nat)} {f:fJ} {H:aG} {k:fJ->aG->Option β},Z5 X call tr ops l k R f H=some r ->
 ∃f' H',k f' H'=some r/\∀(S:Wo) (E:Mem) (fE:Fr) (RE:Option (List Nat)),Rel S H E->fm X S->mw S f fE->wW S R RE ->
  ∃S' fE' E',(∃N,∀n:Nat×Nat,N<=n.1/\N<=n.2->Ev.yz X.P (cf n) ops l RE fE E=some (fE',E'))/\S.le S'/\mw S' f' fE'/\Rel S' H' E'/\St S H E S' H' E'
 |[],_,R,f,H,k,h=>⟨f,H,h,λS E fE RE hr hg hf _=>⟨S,fE,E,⟨0,λ_ _=>rfl⟩,S.le_refl,hf,hr,St.refl _ _ _⟩⟩
 |q::l,hok,R,f,H,k,h=>by
  have h:I1 X call tr ops R q.2 q.1 f H (Z5 X call tr ops l k (I0 (f.eval X) q.1 R))=some r:=h;obtain⟨f1,H1,h1,h2⟩:=VJ hcall (hok q (by simp)) h;obtain⟨f2,H2,h3,h4⟩:=VL hcall l (λq hq=>hok q (by simp[hq])) h1;refine⟨f2,H2,h3,λS E fE RE hr hg hf hR=>?_⟩;obtain⟨S1,wY,E1,⟨N1,a1⟩,a2,a3,a4,a5⟩:=h2 S E fE RE hr hg hf hR;obtain⟨S2,BK,E2,⟨N2,b1⟩,b2,b3,b4,b5⟩:=h4 S1 E1 wY (Ev.qd fE.eval q.1 RE) a4 (hg.mono a2) a3 ((SP hR λx hx=>qP hf hg (hok q (by simp) x hx)).mono a2);refine⟨S2,BK,E2,⟨max N1 N2,λn hn=>?_⟩,Wo.le_trans a2 b2,b3,b4,a5.trans b5⟩
  have c1:=a1 n ⟨by omega,by omega⟩;have c2:=b1 n ⟨by omega,by omega⟩;show Option.rec (motive:=λ_=>Option (Fr×Mem)) none (λr=>Ev.yz X.P (cf n) ops l (Ev.qd fE.eval q.1 RE) r.1 r.2) (Ev.qG X.P (cf n) ops RE q.2 q.1 fE E)=_;rw[c1];exact c2
theorem QJ {call:cI β}(hcall:cX X cf call){tr:List Tmp}{ops:List Oper}:∀(l:List Oper),(∀o∈l,∀x∈o.op.operands,Ev.dW X.G x=true)->∀{f:fJ} {H:aG} {k:fJ->aG->Option β},aff X call tr ops l k f H=some r ->
 ∃f' H',k f' H'=some r/\Jj X (λn fE E=>Ev.Kt X.P (cf n) ops l fE E) f H f' H'
 |[],_,f,H,k,h=>⟨f,H,h,λS E fE hr hg hf=>⟨S,fE,E,⟨0,λ_ _=>rfl⟩,S.le_refl,hf,hr,St.refl _ _ _⟩⟩
 |o::l,hok,f,H,k,h=>by
  have h:IZ X call tr ops o f H (aff X call tr ops l k)=some r:=h;obtain⟨f1,H1,h1,h2⟩:=SN hcall (hok o (by simp)) h;obtain⟨f2,H2,h3,h4⟩:=QJ hcall l (λq hq=>hok q (by simp[hq])) h1;refine⟨f2,H2,h3,λS E fE hr hg hf=>?_⟩;obtain⟨S1,wY,E1,⟨N1,a1⟩,a2,a3,a4,a5⟩:=h2 S E fE hr hg hf;obtain⟨S2,BK,E2,⟨N2,b1⟩,b2,b3,b4,b5⟩:=h4 S1 E1 wY a4 (hg.mono a2) a3;refine⟨S2,BK,E2,⟨max N1 N2,λn hn=>?_⟩,Wo.le_trans a2 b2,b3,b4,a5.trans b5⟩;have c1:Ev.uj X.P (cf n) ops o fE E=some (wY,E1):=a1 n ⟨by omega,by omega⟩
  have c2:=b1 n ⟨by omega,by omega⟩;show Option.rec (motive:=λ_=>Option (Fr×Mem)) none (λr=>Ev.Kt X.P (cf n) ops l r.1 r.2) (Ev.uj X.P (cf n) ops o fE E)=_;rw[c1];exact c2
theorem xX {call:cI β}(hcall:cX X cf call){tr:List Tmp}{ops:Array Oper}{draw:Bool}{f:fJ}{H:aG}{k:fJ->aG->Option β}(h:Ae X call tr ops draw f H k=some r) :
 ∃f' H',k f' H'=some r/\wX X true (λn fE E=>Ev.qu X.P X.G (cf n) ops draw fE E) .normal f H f' H':=by
 unfold Ae at h;rw[ax]at h;split at h;case isFalse=>cases h
 rename_i hok;have akq:∀o∈ops.toList,∀x∈o.op.operands,Ev.dW X.G x=true:=λo ho x hx=>by
  have:=aK.1 hok o ho;exact aK.1 this x (by simpa using hx)
 have fin:∀(l:List (Oper×Bool)),(∀q∈l,q.1∈ops.toList)->Z5 X call tr ops.toList l k (some []) f H=some r->(∀n fE E,Ev.qu X.P X.G (cf n) ops draw fE E=Ev.atEnd (Ev.yz X.P (cf n) ops.toList l (some []) fE E)) ->
  ∃f' H',k f' H'=some r/\wX X true (λn fE E=>Ev.qu X.P X.G (cf n) ops draw fE E) .normal f H f' H':=by
  intro l hl hr heq;obtain⟨f',H',h1,h2⟩:=VL hcall l (λq hq=>akq q.1 (hl q hq)) hr;refine⟨f',H',h1,λS E fE hrel hg hf=>?_⟩;obtain⟨S',fE',E',⟨N,a1⟩,a2,a3,a4,a5⟩:=h2 S E fE (some []) hrel hg hf ⟨[],rfl,λj hj=>by cases hj⟩;refine⟨S',fE',E',⟨N,λn hn=>?_⟩,a3,a4,a5.NH,λ_=>⟨a2,a5⟩⟩;have:=a1 n hn;simp only at this ⊢;rw[heq,this];rfl
 rw[ax]at h;split at h
 .rename_i hd;obtain⟨l,hl,h1⟩:=r9 h;refine fin l (VK hl) h1 λn fE E=>?_
  unfold Ev.qu;rw[hok,hd,hl]
 rename_i hd;obtain⟨f',H',h1,h2⟩:=QJ hcall ops.toList akq h;refine⟨f',H',h1,λS E fE hrel hg hf=>?_⟩;obtain⟨S',fE',E',⟨N,a1⟩,a2,a3,a4,a5⟩:=h2 S E fE hrel hg hf;refine⟨S',fE',E',⟨N,λn hn=>?_⟩,a3,a4,a5.NH,λ_=>⟨a2,a5⟩⟩;have:=a1 n hn;have hd':draw=false:=by simpa using hd
 simp only at this ⊢;unfold Ev.qu;rw[hok,hd',this];rfl
end
theorem Ap:∀(l:List Nat) (id n i:Nat),placeOf id l n=some i->n<=i/\l[i-n]? = some id
 |[],id,n,i,h=>by cases h
 |x::l,id,n,i,h=>by
  unfold placeOf at h;rw[ax]at h;split at h
  .rename_i hx;cases h;have:x=id:=by simpa[aO] using hx
   subst this;simp
  obtain⟨h1,h2⟩:=Ap l id (n+1) i h;refine⟨by omega,?_⟩;have:i-n=(i-(n+1))+1:=by omega
  rw[this];simpa using h2
theorem tD:∀{l:List Nat},nodupB l=true->∀(i j:Nat) x,l[i]? = some x->l[j]? = some x->i=j
 |[],_,i,j,x,h,_=>by simp at h
 |y::l,h,i,j,x,hi,hj=>by
  simp only[nodupB,ak,aS]at h;have hy:y ∉ l:=λhm=>by
   have:l.any (Nat.beq y)=true:=ji.2 ⟨y,hm,by simp[aO]⟩;rw[this]at h;cases h.1
  cases i with
  |zero =>
   cases j with
   |zero=>rfl
   |succ j =>
    simp at hi hj;subst hi;exact absurd (bh hj) hy
  |succ i =>
   cases j with
   |zero =>
    simp at hi hj;subst hj;exact absurd (bh hi) hy
   |succ j=>rw[tD h.2 i j x (by simpa using hi) (by simpa using hj)]
noncomputable def Wo.wZ (S:Wo)(H:aG)(ids:List Nat):Wo :=
 ⟨S.F,λj=>(ids[j]?).bind S.ρ,λj v=>if v=0 then (ids[j]?).bind λid=>match H.get id with
  |some (.list _ e l _ _ _)=>some ⟨e,l⟩
  |_=>S.Γ id 0 else none⟩
section
variable {S:Wo} {H:aG} {ids:List Nat}
theorem Dq {E:Mem}(hr:Rel S H E){id i:Nat}(hi:ids[i]? = some id){g:Sigma λe:Ty=>List e.den}(hg:S.Γ id 0=some g):∃g',(S.wZ H ids).Γ i 0=some g'/\g'.2.length=g.2.length:=by
 show ∃g',(if 0=0 then (ids[i]?).bind _ else none)=some g'/\_;rw[ag rfl,hi];simp only[aW];split
 .rename_i t e l gC ex ro hrow;obtain⟨_,⟨_,g0,h1,h2⟩,_⟩:=hr.row id _ hrow;rw[hg]at h1;cases h1;exact⟨_,rfl,h2.symm⟩
 exact⟨g,hg,rfl⟩
theorem VR.wZ {E:Mem}(hr:Rel S H E){v:AV}{x:Value}(h:VR S v x):VR (S.wZ H ids) (mo ids v) x:=by
 have dH:∀{l:List AV} {m:List Value},(∀(j:Nat) a b,l[j]? = some a->m[j]? = some b->VR (S.wZ H ids) (mo ids a) b)->(∀(j:Nat) a b,(yp ids l)[j]? = some a->m[j]? = some b->VR (S.wZ H ids) a b)/\(yp ids l).length=l.length:=by
  intro l;induction l with
  |nil=>intro m h;exact⟨λj a b ha=>by simp[yp]at ha,rfl⟩
  |cons v l ih =>
   intro m h;cases m with
   |nil=>exact⟨λj a b ha hb=>by simp at hb,by have:=(ih (m:=[]) (λj a b _ hb=>by simp at hb)).2;simp[yp,this]⟩
   |cons y m =>
    obtain⟨h1,h2⟩:=ih (m:=m) λj a b ha hb=>h (j+1) a b (by simpa using ha) (by simpa using hb)
    refine⟨λj a b ha hb=>?_,by simp[yp,h2]⟩;cases j with
    |zero=>simp[yp]at ha hb;subst ha;subst hb;exact h 0 v y rfl rfl
    |succ j=>exact h1 j a b (by simpa[yp] using ha) (by simpa using hb)
 have ρi:∀{id i:Nat} {y},ids[i]? = some id->S.ρ id=some y->(S.wZ H ids).ρ i=some y:=λhi hy=>by
  show (ids[_]?).bind S.ρ=_;rw[hi];exact hy
 have plc:∀{id i:Nat},placeOf id ids 0=some i->ids[i]? = some id:=λh=>by simpa using (Ap ids _ 0 _ h).2
 induction h with
 |int=>unfold mo;exact .int _ _
 |bool=>unfold mo;exact .bool _
 |str=>unfold mo;exact .str _
 |qg=>unfold mo;exact .qg _
 |dH e l v h=>unfold mo;exact .dH e l v h
 |dG=>unfold mo;exact .dG
 |own id n i cap s h g hg hn =>
  unfold mo;split
  .rename_i j hj;obtain⟨g',h1,h2⟩:=Dq hr (plc hj) hg;exact .own j n i cap s (ρi (plc hj) h) g' h1 (by omega)
  exact .j5 _
 |gh id g hg hn =>
  unfold mo;split
  .rename_i j hj;obtain⟨g',h1,h2⟩:=Dq hr (plc hj) hg;exact .gh j g' h1 (by omega)
  exact .j5 _
 |rO id off len cap i c s h g hg hc hl =>
  unfold mo;split
  .rename_i j hj;obtain⟨g',h1,h2⟩:=Dq hr (plc hj) hg;exact .rO j off len cap i c s (ρi (plc hj) h) g' h1 (by omega) hl
  exact .j5 _
 |ptr id off i c s h =>
  unfold mo;split
  .rename_i j hj;exact .ptr j off i c s (ρi (plc hj) h)
  exact .j5 _
 |Dk=>unfold mo;exact .j5 _
 |yG id i c s h =>
  unfold mo;split
  .rename_i j hj;exact .yG j i c s (ρi (plc hj) h)
  exact .j5 _
 |dat=>unfold mo;exact .j5 _
 |Ej id n i c s h g hg hn =>
  unfold mo;split
  .rename_i j hj;obtain⟨g',h1,h2⟩:=Dq hr (plc hj) hg;exact .Ej j n i c s (ρi (plc hj) h) g' h1 (by omega)
  exact .j5 _
 |y4 cs i pre mid post h hl _ ih =>
  unfold mo;obtain⟨l1,l2⟩:=dH ih;exact .y4 _ i pre mid post h (by omega) l1
 |oh=>unfold mo;exact .oh
 |fn f a b a' b' ha hb _ _ Uw Ux =>
  unfold mo;obtain⟨l1,l2⟩:=dH Uw;obtain⟨m1,m2⟩:=dH Ux;exact .fn f _ _ a' b' (by omega) (by omega) l1 m1
 |agg l m hl _ ih =>
  unfold mo;obtain⟨l1,l2⟩:=dH ih;exact .agg _ m (by omega) l1
 |fH l m hl _ ih =>
  unfold mo;obtain⟨l1,l2⟩:=dH ih;exact .fH _ m (by omega) l1
 |Ad v h=>unfold mo;exact .Ad v h
 |fl a v h=>unfold mo;exact .fl a v h
 |cx a b v h=>unfold mo;exact .cx a b v h
 |j5 v=>unfold mo;exact .j5 v
theorem LV.wZ {E:Mem}(hr:Rel S H E):∀{l:List AV} {m:List Value},LV S l m->LV (S.wZ H ids) (yp ids l) m
 |[],m,h=>by rw[h.jx];exact LV.nil
 |v::l,m,h=>by
  obtain⟨x,m',rfl,h1,h2⟩:=h.cons_inv;exact LV.cons (h1.wZ hr) (LV.wZ hr h2)
theorem Dr (r:Row):(I2 ids r).A8=r.A8:=by cases r<;>rfl
theorem LK (H:aG)(ids:List Nat):∀(l:List Nat) (M:aG),(l.foldl (λM id=>M.push (rP H ids id)) M).next=M.next+l.length /\
 (l.foldl (λM id=>M.push (rP H ids id)) M).lk=M.lk/\(l.foldl (λM id=>M.push (rP H ids id)) M).par=M.par /\
 ∀j,(l.foldl (λM id=>M.push (rP H ids id)) M).get j=if j<M.next then M.get j else ((l[j-M.next]?).bind H.get).map (I2 ids)
 |[],M=>by
  refine⟨rfl,rfl,rfl,λj=>?_⟩;show M.get j=_;by_cases hj:j<M.next
  .rw[ag hj]
  rw[aa hj];simp;cases h:M.get j with
  |none=>rfl
  |some r=>exact absurd (aG.eL h) hj
 |id::l,M=>by
  rw[gw];obtain⟨h1,h2,h3,h4⟩:=LK H ids l (M.push (rP H ids id));obtain⟨p1,p2,p3,p4⟩:=aG.dN M (rP H ids id);refine⟨by rw[h1,p1];simp;omega,by rw[h2,p2],by rw[h3,p3],λj=>?_⟩;rw[h4,p1,p4];by_cases hj:j<M.next
  .rw[ag (by omega),aa (by omega),ag hj]
  rw[aa hj];by_cases hj2:j=M.next
  .subst hj2;rw[ag (by omega),ag rfl];simp only[mb,List.getElem?_cons_zero,aW];unfold rP;cases hg:H.get id with
   |none=>rfl
   |some r=>cases r<;>first|rfl|exact absurd hg aG.I7
  rw[aa (by omega)];have:j-M.next=(j-(M.next+1))+1:=by omega
  rw[this];rfl
theorem LL (ids:List Nat)(f:fJ)(n:Nat):∀(keep:List Tmp) (g:fJ),g.n=n->((keep.foldl (λg t=>g.put (some t) (mo ids (f.get t))) g).n=n/\∀i,(keep.foldl (λg t=>g.put (some t) (mo ids (f.get t))) g).get i=g.get i\/(keep.foldl (λg t=>g.put (some t) (mo ids (f.get t))) g).get i=mo ids (f.get i))
 |[],g,hg=>⟨hg,λi=>.inl rfl⟩
 |t::keep,g,hg=>by
  rw[gw];obtain⟨e1,e2⟩:=fJ.Ji g t (mo ids (f.get t));obtain⟨h1,h2⟩:=LL ids f n keep (g.put (some t) (mo ids (f.get t))) (by rw[e1,hg]);refine⟨h1,λi=>?_⟩;rcases h2 i with h|h
  .rw[h,e2];by_cases hi:i=t/\t<g.n
   .rw[ag hi,hi.1];exact .inr rfl
   rw[aa hi];exact .inl rfl
  exact .inr h
theorem MC.wZ {S:Wo}{E:Mem}(hr:Rel S H E){ids:List Nat}:∀{l:List (AV×AV)} {cs:List Value},MC S l cs->MC (S.wZ H ids) (l.map λq=>(mo ids q.1,mo ids q.2)) cs
 |[],cs,h=>h
 |q::l,cs,⟨y,x,r,h1,h0,h2,h3⟩=>⟨y,x,r,h1,h0.wZ hr,h2.wZ hr,MC.wZ hr h3⟩
variable {β:Type} {r:β}
theorem aai {keep:List Tmp}{f:fJ}{k:fJ->aG->Option β}(h:Vi keep f H k=some r):∃f' H',k f' H'=some r/\∀(S:Wo) (E:Mem) (fE:Fr),Rel S H E->mw S f fE->∃S',mw S' f' fE/\Rel S' H' E/\BJ S H E S' H' E:=by
 unfold Vi at h;simp only at h;generalize asw:wR H 3 (keep.foldl (λacc t=>Lp acc (f.get t)) (List.range H.par))=ids at h;rw[ax]at h;split at h;case isFalse=>cases h
 rename_i hc;simp only[ak,aO]at hc;obtain⟨⟨hnd,hpar⟩,hlk⟩:=hc;have hpar:ids.take H.par=List.range H.par:=by simpa using hpar
 refine⟨_,_,h,λS E fE hr hf=>⟨S.wZ H ids,?_,?_,?_⟩⟩;all_goals
  obtain⟨k1,k2⟩:=LL ids f f.n keep ⟨f.n,.e⟩ rfl;obtain⟨p1,p2,p3,p4⟩:=LK H ids ids ⟨0,0,H.par,.e⟩
 .refine ⟨by rw[k1,hf.n],λi=>?_⟩;rcases k2 i with e|e
  .rw[e];exact .j5 _
  rw[e];exact(hf.v i).wZ hr
 all_goals
  have C4:∀j q,(ids.foldl (λM id=>M.push (rP H ids id)) (⟨0,0,H.par,.e⟩:aG)).get j=some q->∃id r,ids[j]? = some id/\H.get id=some r/\q=I2 ids r:=λj q hj=>by
   rw[p4,aa (by simp)]at hj;simp only[Nat.sub_zero,aL,dP]at hj;obtain⟨r,⟨id,h1,h2⟩,rfl⟩:=hj;exact⟨id,r,h1,h2,rfl⟩
  have ρj:∀{j id},ids[j]? = some id->(S.wZ H ids).ρ j=S.ρ id:=λ{j id} hj=>by
   show (ids[j]?).bind S.ρ=_;rw[hj];rfl
  have aft:H.par<=ids.length:=by
   have:=cr List.length hpar;simp at this;omega
 .refine ⟨hr.fz,λj x hx=>?_,λj v hj=>?_,λj q hj=>?_,λj j' q q' y y' hj hj' hy hy' he=>?_,λj q y hj hb hy=>?_,λj q y hj _ hy=>?_,by rw[p1,p2];simp,by rw[p1,p3];simpa using aft,hr.GL⟩
  .rw[p1];have hx:(ids[j]?).bind S.ρ=some x:=hx;cases hi:ids[j]? with
   |none=>rw[hi]at hx;cases hx
   |some id=>have:=eL hi;simpa using this
  .rw[p1]at hj;show (if v=0 then (ids[j]?).bind _ else none)=none;rw[dK (by simpa using hj)];split<;>rfl
  .obtain ⟨id,r,h1,h2,rfl⟩:=C4 j q hj;have hrow:=hr.row id r h2;cases r with
   |dead=>trivial
   |cells t cs =>
    obtain⟨i,c,s,b,a1,a2,a3,a4⟩:=hrow;exact⟨i,c,s,b,by rw[ρj h1];exact a1,a2,a3.wZ hr,a4⟩
   |mp t ks =>
    obtain⟨i,c,s,b,a1,a2⟩:=hrow;exact⟨i,c,s,b,by rw[ρj h1];exact a1,a2⟩
   |mf t ks =>
    obtain⟨i,c,s,b,a1,a2,a3,a4,a5⟩:=hrow;exact⟨i,c,s,b,by rw[ρj h1];exact a1,a2,a3,a4.wZ hr,a5⟩
   |list t e l gC ex ro =>
    obtain⟨a1,⟨a2,g,a3,a4⟩,a5⟩:=hrow;have hΓ:(S.wZ H ids).Γ j 0=some ⟨e,l⟩:=by
     show (if 0=0 then (ids[j]?).bind _ else none)=_;rw[ag rfl,h1];simp only[aW,h2]
    refine⟨hΓ,⟨λv hv=>aa (by omega),⟨e,l⟩,hΓ,rfl⟩,?_⟩;rcases a5 with⟨b1,b2,b3⟩|⟨i,cap,b,mid,post,q1,q2⟩
    .exact .inl ⟨b1,by rw[ρj h1];exact b2,b3⟩
    exact .inr ⟨i,cap,b,mid,post,by rw[ρj h1];exact q1,q2⟩
  .obtain ⟨id,r,h1,h2,rfl⟩:=C4 j q hj;obtain⟨id',r',h1',h2',rfl⟩:=C4 j' q' hj';rw[ρj h1]at hy;rw[ρj h1']at hy';have:=hr.inj id id' r r' y y' h2 h2' hy hy' he;subst this;exact tD hnd j j' id h1 h1'
  .obtain ⟨id,r,h1,h2,rfl⟩:=C4 j q hj;rw[ρj h1]at hy;rw[Dr]at hb;exact hr.sep id r y h2 hb hy
  obtain⟨id,r,h1,h2,rfl⟩:=C4 j q hj;rw[ρj h1]at hy;exact hr.lk id r y h2 (by omega) hy
 refine⟨aC _,rfl,by rw[p2,hlk],p3,λ_ _ h=>h,λi ho _=>?_,λi hi=>.inl hi,λ_ _ _=>rfl,λid hid=>?_⟩
 .obtain ⟨j,q,y,hj,hb,hy,rfl⟩:=ho;obtain⟨id,r,h1,h2,rfl⟩:=C4 j q hj;rw[ρj h1]at hy;rw[Dr]at hb;exact⟨id,r,y,h2,hb,hy,rfl⟩
 refine ρj ?_;have:(ids.take H.par)[id]? = some id:=by rw[hpar];simp[hid]
 rw[dD,ag hid]at this;exact this
end
def mY.sI:mY->Bool
 |.none=>true
 |.node k a b=>k.isNone&&a.sI&&b.sI
theorem mY.lA {a:mY}(h:a.sI=true):a.keep=Option.none:=by
 cases a with
 |none=>rfl
 |node k a b =>
  simp only[mY.sI,ak]at h;show k=Option.none;exact Option.isNone_iff_eq_none.1 h.1.1
theorem mY.BL {a:mY}(h:a.sI=true):a.l.sI=true:=by
 cases a with
 |none=>rfl
 |node k a b=>simp only[mY.sI,ak]at h;exact h.1.2
theorem mY.VM {a:mY}(h:a.sI=true):a.r.sI=true:=by
 cases a with
 |none=>rfl
 |node k a b=>simp only[mY.sI,ak]at h;exact h.2
section
variable {X:ij} {cf:Nat×Nat->Ev.cH} {β:Type} {r:β} {nf:Bool}
def VN (nf:Bool)(f:fJ)(H:aG)(f':fJ)(H':aG):Prop :=
 ∀(S:Wo) (E:Mem) (fE:Fr),Rel S H E->mw S f fE->∃S',mw S' f' fE/\Rel S' H' E/\BJ S H E S' H' E/\(nf=true->S.le S'/\St S H E S' H' E)
theorem QK {a:mY}(hn:nf=true->a.keep=none){f:fJ}{H:aG}{k:fJ->aG->Option β}(h:CZ a f H k=some r):∃f' H',k f' H'=some r/\VN nf f H f' H':=by
 unfold CZ at h;split at h
 .exact ⟨f,H,h,λS E fE hr hf=>⟨S,hf,hr,BJ.refl _ _ _,λ_=>⟨S.le_refl,St.refl _ _ _⟩⟩⟩
 rename_i l hl;obtain⟨f',H',h1,h2⟩:=aai h;refine⟨f',H',h1,λS E fE hr hf=>?_⟩;obtain⟨S',a1,a2,a3⟩:=h2 S E fE hr hf;exact⟨S',a1,a2,a3,λhnf=>by rw[hn hnf]at hl;cases hl⟩
theorem VN.then {α:Type}{run:Nat×Nat->Fr->Mem->Option (α×Fr×Mem)}{a:α}{f f1 f2:fJ}{H H1 H2:aG}(h:VN nf f H f1 H1)(k:wX X nf run a f1 H1 f2 H2):wX X nf run a f H f2 H2:=by
 intro S E fE hr hg hf;obtain⟨S1,a1,a2,a3,a4⟩:=h S E fE hr hf;obtain⟨S2,BK,E2,b1,b2,b3,b4,b5⟩:=k S1 E fE a2 (hg.mono' a3.F) a1;exact⟨S2,BK,E2,b1,b2,b3,a3.trans b4,λhnf=>⟨Wo.le_trans (a4 hnf).1 (b5 hnf).1,(a4 hnf).2.trans (b5 hnf).2⟩⟩
theorem wX.then {f f1 f2:fJ}{H H1 H2:aG}{VO akr run:Nat×Nat->Fr->Mem->Option (iL×Fr×Mem)}{lv lv':iL}(h:wX X nf VO lv f H f1 H1)(k:wX X nf akr lv' f1 H1 f2 H2)
 (hrun:∃N0,∀n fE E wY E1 BK E2,N0<=n.1->VO n fE E=some (lv,wY,E1)->akr n wY E1=some (lv',BK,E2)->run n fE E=some (lv',BK,E2)):wX X nf run lv' f H f2 H2:=by
 intro S E fE hr hg hf;obtain⟨N0,hrun⟩:=hrun;obtain⟨S1,wY,E1,⟨N1,a1⟩,a2,a3,a4,a5⟩:=h S E fE hr hg hf;obtain⟨S2,BK,E2,⟨N2,b1⟩,b2,b3,b4,b5⟩:=k S1 E1 wY a3 (hg.mono' a4.F) a2;refine⟨S2,BK,E2,⟨max N0 (max N1 N2),λn hn=>?_⟩,b2,b3,a4.trans b4,λhnf=>⟨Wo.le_trans (a5 hnf).1 (b5 hnf).1,(a5 hnf).2.trans (b5 hnf).2⟩⟩;exact hrun n fE E wY E1 BK E2 (by omega) (a1 n ⟨by omega,by omega⟩) (b1 n ⟨by omega,by omega⟩)
theorem wX.same {f f1:fJ}{H H1:aG}{VO run:Nat×Nat->Fr->Mem->Option (iL×Fr×Mem)}{lv lv':iL}(h:wX X nf VO lv f H f1 H1)
 (hrun:∃N0,∀n fE E wY E1,N0<=n.1->VO n fE E=some (lv,wY,E1)->run n fE E=some (lv',wY,E1)):wX X nf run lv' f H f1 H1:=by
 intro S E fE hr hg hf;obtain⟨N0,hrun⟩:=hrun;obtain⟨S1,wY,E1,⟨N1,a1⟩,a2⟩:=h S E fE hr hg hf;exact⟨S1,wY,E1,⟨max N0 N1,λn hn=>hrun n fE E wY E1 (by omega) (a1 n ⟨by omega,by omega⟩)⟩,a2⟩
theorem wX.here {run:Nat×Nat->Fr->Mem->Option (iL×Fr×Mem)}{lv:iL}{f:fJ}{H:aG}(h:∀n fE E,run n fE E=some (lv,fE,E)):wX X nf run lv f H f H :=
 λS E fE hr hg hf=>⟨S,fE,E,⟨0,λn _=>h n fE E⟩,hf,hr,BJ.refl _ _ _,λ_=>⟨S.le_refl,St.refl _ _ _⟩⟩
def l5 (X:ij)(nf:Bool)(β:Type)(g:fJ->aG->KT β->Option β)(run:Nat×Nat->Fr->Mem->Option (iL×Fr×Mem)):Prop :=
 ∀f H k (r:β),g f H k=some r->∃lv f' H',k lv f' H'=some r/\wX X nf run lv f H f' H'
def vq (X:ij)(nf:Bool){β:Type}(J:tA β)(JE:Nat×Nat->Ev.um):Prop :=
 ∀c rest,l5 X nf β (J c rest) (λn fE E=>JE n c rest fE E)
theorem BM {y:fJ->aG->Option β}{k:KT β}{lv:iL}{f:fJ}{H:aG}(h:y8 y k lv f H=some r):(lv = .normal/\y f H=some r)\/(lv ≠ .normal/\k lv f H=some r):=by
 unfold y8 at h;split at h
 .exact .inl ⟨rfl,h⟩
 .exact .inr ⟨by simp,h⟩
 .exact .inr ⟨by simp,h⟩
 exact .inr ⟨by simp,h⟩
theorem tZ {lv:iL}(h:lv ≠ .normal)(fE:Fr)(E:Mem)(k:Fr->Mem->Ev.Out):Ev.andThen (some (lv,fE,E)) k=some (lv,fE,E):=by
 cases lv<;>first|rfl|exact absurd rfl h
theorem xY {a:mY}(hn:nf=true->a.keep=none){body:fJ->aG->KT β->Option β}{LM:Nat×Nat->Fr->Mem->Option (iL×Fr×Mem)}(hb:l5 X nf β body LM):∀(m d:Nat) (f:fJ) (H:aG) (k:KT β),QE a body k m f H=some r ->
 ∃lv f' H',k lv f' H'=some r/\wX X nf (λn fE E=>Ev.yA (LM n) (n.1-d) fE E) lv f H f' H'
 |0,d,f,H,k,h=>by cases h
 |m+1,d,f,H,k,h=>by
  have h:body f H (y8 (λf H=>CZ a f H (QE a body k m)) k)=some r:=h;obtain⟨lv,f2,H2,h3,h4⟩:=hb _ _ _ _ h;have hstep:∀(q:Nat) (n:Nat×Nat) fE E,Ev.yA (LM n) (q+1) fE E=Ev.andThen (LM n fE E) (Ev.yA (LM n) q):=λq n fE E=>rfl
  rcases BM h3 with⟨rfl,h5⟩|⟨hne,h5⟩
  .obtain ⟨f1,H1,h1,h2⟩:=QK hn h5;obtain⟨lv',f3,H3,h6,h7⟩:=xY hn hb m (d+1) f1 H1 k h1;refine⟨lv',f3,H3,h6,h4.then (h2.then h7) ⟨d+1,λn fE E wY E1 BK E2 hn' e1 e2=>?_⟩⟩;have:n.1-d=(n.1-(d+1))+1:=by omega
   rw[this,hstep,e1];exact e2
  refine⟨lv,f2,H2,h5,h4.same ⟨d+1,λn fE E wY E1 hn' e1=>?_⟩⟩;have:n.1-d=(n.1-(d+1))+1:=by omega
  rw[this,hstep,e1];exact tZ hne _ _ _
theorem LN {id:Nat}{g:fJ->aG->KT β->Option β}{run:Nat×Nat->Fr->Mem->Option (iL×Fr×Mem)}(hg:l5 X nf β g run):l5 X nf β (λf H k=>g f H (Eo id k)) (λn fE E=>Ev.ni id (run n fE E)):=by
 intro f H k r h;obtain⟨lv,f',H',h1,h2⟩:=hg _ _ _ _ h;unfold Eo at h1;split at h1
 .rename_i id';rw[ax]at h1;split at h1
  .rename_i hid;refine⟨_,f',H',h1,h2.same ⟨0,λn fE E wY E1 _ e1=>?_⟩⟩;rw[e1];simp[Ev.ni,hid]
  rename_i hid;refine⟨_,f',H',h1,h2.same ⟨0,λn fE E wY E1 _ e1=>?_⟩⟩;rw[e1];have:Nat.beq id' id=false:=by
   cases hb:Nat.beq id' id with
   |true=>exact absurd hb hid
   |false=>rfl
  simp[Ev.ni,this]
 .exact ⟨_,f',H',h1,h2.same ⟨0,λn fE E wY E1 _ e1=>by rw[e1];rfl⟩⟩
 .exact ⟨_,f',H',h1,h2.same ⟨0,λn fE E wY E1 _ e1=>by rw[e1];rfl⟩⟩
 exact⟨_,f',H',h1,h2.same ⟨0,λn fE E wY E1 _ e1=>by rw[e1];rfl⟩⟩
theorem LO {c:Code}{J:tA β}{JE:Nat×Nat->Ev.um}(hJ:vq X nf J JE){g:fJ->aG->KT β->Option β}{run:Nat×Nat->Fr->Mem->Option (iL×Fr×Mem)}(hg:l5 X nf β g run):l5 X nf β (λf H k=>g f H (Bx c J k)) (λn fE E=>Ev.lQ c (JE n) (run n fE E)):=by
 intro f H k r h;obtain⟨lv,f',H',h1,h2⟩:=hg _ _ _ _ h;unfold Bx at h1;split at h1
 .rename_i l;split at h1
  .rename_i rest hl;obtain⟨lv',f2,H2,h3,h4⟩:=hJ c rest _ _ _ _ h1;refine⟨lv',f2,H2,h3,h2.then h4 ⟨0,λn fE E wY E1 BK E2 _ e1 e2=>?_⟩⟩;rw[e1];simp only[Ev.lQ,hl];exact e2
  rename_i hl;exact⟨_,f',H',h1,h2.same ⟨0,λn fE E wY E1 _ e1=>by rw[e1];simp only[Ev.lQ,hl]⟩⟩
 .exact ⟨_,f',H',h1,h2.same ⟨0,λn fE E wY E1 _ e1=>by rw[e1];rfl⟩⟩
 .exact ⟨_,f',H',h1,h2.same ⟨0,λn fE E wY E1 _ e1=>by rw[e1];rfl⟩⟩
 exact⟨_,f',H',h1,h2.same ⟨0,λn fE E wY E1 _ e1=>by rw[e1];rfl⟩⟩
theorem vr {a:mY}(hn:nf=true->a.keep=none){g:fJ->aG->KT β->Option β}{run:Nat×Nat->Fr->Mem->Option (iL×Fr×Mem)}(hg:l5 X nf β g run):l5 X nf β (λf H k=>CZ a f H λf H=>g f H k) run:=by
 intro f H k r h;obtain⟨f1,H1,h1,h2⟩:=QK hn h;obtain⟨lv,f2,H2,h3,h4⟩:=hg _ _ _ _ h1;exact⟨lv,f2,H2,h3,h2.then h4⟩
theorem LP {call:cI β}(hcall:cX X cf call){tr:List Tmp}{J:tA β}{JE:Nat×Nat->Ev.um}(rounds:Nat)(c:Code):Ev.n9 c=true->l5 X true β (iD X call tr J rounds c .none) (λn fE E=>Ev.jQ X.P X.G (cf n) (JE n) n.1 c fE E):=by
 induction c with
 |skip=>intro _ f H k r h;exact⟨_,f,H,h,.here λ_ _ _=>rfl⟩
 |region id ops draw =>
  intro _ f H k r h;obtain⟨f',H',h1,h2⟩:=xX hcall (show Ae X call tr ops draw f H (λf H=>k .normal f H)=some r from h);refine⟨_,f',H',h1,λS E fE hr hg hf=>?_⟩;obtain⟨S',fE',E',a1,a2,a3,a4,a5⟩:=h2 S E fE hr hg hf;exact⟨S',fE',E',a1,a2,a3,a4,λ_=>a5 rfl⟩
 |seq x y Om On =>
  intro hp f H k r h;have hp:(Ev.n9 x&&Ev.n9 y)=true:=hp;rw[ak]at hp;obtain⟨lv,f1,H1,h1,h2⟩:=Om hp.1 _ _ _ _ (show iD X call tr J rounds x .none f H (y8 (λf H=>iD X call tr J rounds y .none f H k) k)=some r from h);have hs:∀n fE E,Ev.jQ X.P X.G (cf n) (JE n) n.1 (.seq x y) fE E=Ev.andThen (Ev.jQ X.P X.G (cf n) (JE n) n.1 x fE E) (Ev.jQ X.P X.G (cf n) (JE n) n.1 y):=λn fE E=>rfl
  rcases BM h1 with⟨rfl,h3⟩|⟨hne,h3⟩
  .obtain ⟨lv',f2,H2,h4,h5⟩:=On hp.2 _ _ _ _ h3;exact⟨lv',f2,H2,h4,h2.then h5 ⟨0,λn fE E wY E1 BK E2 _ e1 e2=>by rw[hs,e1];exact e2⟩⟩
  exact⟨lv,f1,H1,h3,h2.same ⟨0,λn fE E wY E1 _ e1=>by rw[hs,e1];exact tZ hne _ _ _⟩⟩
 |cond c x y Om On =>
  intro hp f H k r h;have hp:(Ev.n9 x&&Ev.n9 y)=true:=hp;rw[ak]at hp;have h:ah (Ev.dW X.G c) (match f.eval X c with
   |.bool b=>ah b (iD X call tr J rounds x .none f H k) (iD X call tr J rounds y .none f H k)
   |_=>none) none=some r:=h
  rw[ax]at h;split at h;case isFalse=>cases h
  rename_i hok;split at h
  .rename_i b hb;have hs:∀n fE E,Ev.jQ X.P X.G (cf n) (JE n) n.1 (.cond c x y) fE E=ah (Ev.dW X.G c) (Ev.DS (fE.eval c) (Ev.jQ X.P X.G (cf n) (JE n) n.1 x) (Ev.jQ X.P X.G (cf n) (JE n) n.1 y) fE E) none:=λn fE E=>rfl
   have both:∃lv f' H',k lv f' H'=some r/\wX X true (λn fE E=>ah b (Ev.jQ X.P X.G (cf n) (JE n) n.1 x fE E) (Ev.jQ X.P X.G (cf n) (JE n) n.1 y fE E)) lv f H f' H':=by
    cases b with
    |true=>exact Om hp.1 _ _ _ _ h
    |false=>exact On hp.2 _ _ _ _ h
   obtain⟨lv,f',H',h1,h2⟩:=both;refine⟨lv,f',H',h1,λS E fE hr hg hf=>?_⟩;obtain⟨S',fE',E',⟨N,a1⟩,a2⟩:=h2 S E fE hr hg hf;refine⟨S',fE',E',⟨N,λn hn'=>?_⟩,a2⟩;have hv:=qP hf hg hok;rw[hb]at hv;have a1:=a1 n hn';simp only at a1 ⊢;rw[hs,hok,hv.mq];exact a1
  cases h
 |block id b ih=>intro hp;exact LN (ih hp)
 |loop b ih =>
  intro hp f H k r h;exact xY (a:=.none) (λ_=>rfl) (ih hp) rounds 0 f H k h
 |rangeFunc g params assign body _ _=>intro hp;cases hp
 |exit id=>intro _ f H k r h;exact⟨_,f,H,h,.here λ_ _ _=>rfl⟩
 |scope b ih=>intro hp;cases hp
 |label l=>intro _ f H k r h;exact⟨_,f,H,h,.here λ_ _ _=>rfl⟩
 |goto l=>intro _ f H k r h;exact⟨_,f,H,h,.here λ_ _ _=>rfl⟩
 |ret=>intro _ f H k r h;exact⟨_,f,H,h,.here λ_ _ _=>rfl⟩
 |refuse w=>intro _ f H k r h;cases h
def OK (l:List AV)(lE:List Value):Prop:=l.length=lE.length/\∀(j:Nat) s y,l[j]? = some (.str s)->lE[j]? = some y->y = .string ⟨s.toArray⟩
theorem OK.of {S:Wo}{l:List AV}{lE:List Value}(h:LV S l lE):OK l lE:=⟨h.1,λj s y hx hy=>(h.2 j _ y hx hy).jw⟩
theorem OK.cons_inv {v:AV}{l:List AV}{lE:List Value}(h:OK (v::l) lE):∃x m,lE=x::m/\(∀s,v = .str s->x = .string ⟨s.toArray⟩)/\OK l m:=by
 obtain⟨h1,h2⟩:=h;cases lE with
 |nil=>simp at h1
 |cons x m=>exact⟨x,m,rfl,λs hs=>h2 0 s x (by rw[hs];rfl) rfl,by simpa using h1,λj s y hx hy=>h2 (j+1) s y (by simpa using hx) (by simpa using hy)⟩
theorem GZ {a:mY}(hn:nf=true->a.keep=none){p:Tmp}{x y:fJ->aG->KT β->Option β}{xE yE:Nat×Nat->Fr->Mem->Option (iL×Fr×Mem)}(hx:l5 X true β x xE)(hy:l5 X true β y yE){k:KT β}:∀(l:List AV) (f:fJ) (H:aG),Dm a p x y k l f H=some r ->
 ∃lv f' H',k lv f' H'=some r/\∀(S:Wo) (E:Mem) (fE:Fr) (lE:List Value),Rel S H E->fm X S->mw S f fE->OK l lE ->
  ∃S' fE' E',(∃N,∀n:Nat×Nat,N<=n.1/\N<=n.2->Ev.rK p (xE n) (yE n) fE lE E=some (lv,fE',E'))/\mw S' f' fE'/\Rel S' H' E'/\BJ S H E S' H' E'/\(nf=true->S.le S'/\St S H E S' H' E')
 |[],f,H,h=>⟨.normal,f,H,h,λS E fE lE hr hg hf hl=>by
  have hl:lE=[]:=aQ.1 (by have:=hl.1;simpa using this.symm);rw[hl];exact⟨S,fE,E,⟨0,λn _=>rfl⟩,hf,hr,BJ.refl _ _ _,λ_=>⟨S.le_refl,St.refl _ _ _⟩⟩⟩
 |v::l,f,H,h=>by
  replace h:(match (generalizing:=false) v with
   |.str s=>x (f.put (some p) (.str s)) H (λlv f2 H2=>match lv with
    |.normal=>y f2 H2 λlv _ H3=>match lv with
     |.normal=>CZ a f H3 (Dm a p x y k l)
     |.ret=>k .ret f H3
     |_=>none
    |_=>none)
   |_=>none)=some r:=h
  split at h;case h_2=>cases h
  rename_i s;obtain⟨lv1,f2,H2,h1,h2⟩:=hx _ _ _ _ h;split at h1;case h_2=>cases h1
  obtain⟨lv2,f3,H3,h3,h4⟩:=hy _ _ _ _ h1;have hstep:∀(n:Nat×Nat) (v:Value) (lE:List Value) (fE:Fr) (E:Mem),Ev.rK p (xE n) (yE n) fE (v::lE) E=match fE.put (some p) v with
   |some f1=>match xE n f1 E with
    |some (.normal,f2,H2)=>match yE n f2 H2 with
     |some (.normal,_,H3)=>Ev.rK p (xE n) (yE n) fE lE H3
     |some (.ret,_,H3)=>some (.ret,fE,H3)
     |_=>none
    |_=>none
   |none=>none:=λ_ _ _ _ _=>rfl
  have both:∀(S:Wo) (E:Mem) (fE:Fr),Rel S H E->fm X S->mw S f fE->∃S3 f1 BK E2 fE3 E3,fE.put (some p) (.string ⟨s.toArray⟩)=some f1/\(∃N,∀n:Nat×Nat,N<=n.1/\N<=n.2->xE n f1 E=some (.normal,BK,E2)/\yE n BK E2=some (lv2,fE3,E3))/\Rel S3 H3 E3/\S.le S3/\St S H E S3 H3 E3:=λS E fE hr hg hf=>by
   obtain⟨f1,hf1⟩:=Fr.pg fE (some p) (.string ⟨s.toArray⟩);obtain⟨S2,BK,E2,⟨N1,a1⟩,a2,a3,a4,a5⟩:=h2 S E f1 hr hg (hf.put (.str s) hf1);obtain⟨S3,fE3,E3,⟨N2,b1⟩,b2,b3,b4,b5⟩:=h4 S2 E2 BK a3 (hg.mono' a4.F) a2;exact⟨S3,f1,BK,E2,fE3,E3,hf1,⟨max N1 N2,λn hn=>⟨a1 n ⟨by omega,by omega⟩,b1 n ⟨by omega,by omega⟩⟩⟩,b3,Wo.le_trans (a5 rfl).1 (b5 rfl).1,(a5 rfl).2.trans (b5 rfl).2⟩
  split at h3
  .obtain ⟨f4,H4,h5,h6⟩:=QK hn h3;obtain⟨lv',f5,H5,h7,h8⟩:=GZ hn hx hy l f4 H4 h5;refine⟨lv',f5,H5,h7,λS E fE lE hr hg hf hl=>?_⟩;obtain⟨v1,lE,rfl,hv,A6⟩:=hl.cons_inv;obtain rfl:=hv s rfl;obtain⟨S3,f1,BK,E2,fE3,E3,c1,⟨N1,c2⟩,c3,c4,c5⟩:=both S E fE hr hg hf;obtain⟨S4,d1,d2,d3,d4⟩:=h6 S3 E3 fE c3 (hf.mono c4);obtain⟨S5,fE5,E5,⟨N2,e1⟩,e2,e3,e4,e5⟩:=h8 S4 E3 fE lE d2 ((hg.mono' c5.F).mono' d3.F) d1 A6;refine⟨S5,fE5,E5,⟨max N1 N2,λn hn=>?_⟩,e2,e3,(c5.NH.trans d3).trans e4,λhnf=>⟨Wo.le_trans c4 (Wo.le_trans (d4 hnf).1 (e5 hnf).1),(c5.trans (d4 hnf).2).trans (e5 hnf).2⟩⟩
   obtain⟨g1,g2⟩:=c2 n ⟨by omega,by omega⟩;rw[hstep,c1];simp only[g1,g2];exact e1 n ⟨by omega,by omega⟩
  .refine ⟨.ret,f,H3,h3,λS E fE lE hr hg hf hl=>?_⟩;obtain⟨v1,lE,rfl,hv,A6⟩:=hl.cons_inv;obtain rfl:=hv s rfl;obtain⟨S3,f1,BK,E2,fE3,E3,c1,⟨N1,c2⟩,c3,c4,c5⟩:=both S E fE hr hg hf;refine⟨S3,fE,E3,⟨N1,λn hn=>?_⟩,hf.mono c4,c3,c5.NH,λ_=>⟨c4,c5⟩⟩;obtain⟨e1,e2⟩:=c2 n hn;rw[hstep,c1];simp only[e1,e2]
  cases h3
theorem Eh {call:cI β}(hcall:cX X cf call){a:mY}(hn:nf=true->a.keep=none){g:Operand}{ps:List Tmp}{plain:Bool}{x y:fJ->aG->KT β->Option β}{xE yE:Nat×Nat->Fr->Mem->Option (iL×Fr×Mem)}(hx:plain=true->l5 X true β x xE)(hy:plain=true->l5 X true β y yE) :
 l5 X nf β (I4 X call g ps plain a x y) (λn fE E=>Ev.Bb X.P X.G (cf n) g ps plain (xE n) (yE n) fE E):=by
 intro f H k r h;unfold I4 at h;rw[ax]at h;split at h;case isFalse=>cases h
 rename_i hc;rw[ak]at hc;obtain⟨hok,hp⟩:=hc;split at h;case h_2=>cases h
 rename_i p fid id ck;split at h;case h_2=>cases h
 rename_i hfn;obtain⟨v,H1,h1,h2⟩:=hcall _ _ _ _ _ h;split at h1;case h_2=>cases h1
 rename_i u l;obtain⟨lv,f',H',h3,h4⟩:=GZ hn (hx hp) (hy hp) l f H1 h1;refine⟨lv,f',H',h3,λS E fE hr hg hf=>?_⟩;have hv:=qP hf hg hok;rw[ck]at hv;generalize hq:fE.eval g=q at hv;cases hv with
 |fn _ _ _ a' b' ha hb va vb =>
  have ha:a'=[]:=aQ.1 (by simpa using ha.symm);subst ha;obtain⟨z,rfl⟩:∃z,b'=[z]:=by
   cases b' with
   |nil=>simp at hb
   |cons z m=>cases m with
    |nil=>exact⟨z,rfl⟩
    |cons _ _=>simp at hb
  have hz:=vb 0 _ z rfl rfl;cases hz with
  |ptr _ _ i c s hρ =>
   obtain⟨S1,vE,E1,⟨N1,a1⟩,a2,a3,a4,a5⟩:=h2 S E [.pointer (some ⟨i,0,none⟩)] hr hg (LV.cons (.ptr id 0 i c s hρ) LV.nil);cases a3 with
   |fH _ m hl hm =>
    obtain⟨u',m',rfl,_,hm2⟩:=(show LV S1 (u::l) m from ⟨hl,hm⟩).cons_inv;obtain⟨S2,BK,E2,⟨N2,b1⟩,b2,b3,b4,b5⟩:=h4 S1 E1 fE m' a4 (hg.mono' a5.F) (hf.mono a2) (OK.of hm2);refine⟨S2,BK,E2,⟨max N1 N2,λn hn'=>?_⟩,b2,b3,a5.NH.trans b4,λhnf=>⟨Wo.le_trans a2 (b5 hnf).1,a5.trans (b5 hnf).2⟩⟩;show Ev.Bb X.P X.G (cf n) g [p] plain (xE n) (yE n) fE E=_;unfold Ev.Bb;rw[hok,hp,hq];simp only[hfn,a1 n ⟨by omega,by omega⟩];exact b1 n ⟨by omega,by omega⟩
theorem Jk {call:cI β}(hcall:cX X cf call){tr:List Tmp}{J:tA β}{JE:Nat×Nat->Ev.um}(hJ:vq X nf J JE)(rounds:Nat)(c:Code):∀(a:mY),(nf=true->a.sI=true)->l5 X nf β (iD X call tr J rounds c a) (λn fE E=>Ev.jQ X.P X.G (cf n) (JE n) n.1 c fE E):=by
 induction c with
 |skip=>intro a _ f H k r h;exact⟨_,f,H,h,.here λ_ _ _=>rfl⟩
 |region id ops draw =>
  intro a hn;refine vr (g:=λf H k=>Ae X call tr ops draw f H λf H=>k .normal f H) (λh=>mY.lA (hn h)) λf H k r h=>?_
  obtain⟨f',H',h1,h2⟩:=xX hcall h;refine⟨_,f',H',h1,λS E fE hr hg hf=>?_⟩;obtain⟨S',fE',E',a1,a2,a3,a4,a5⟩:=h2 S E fE hr hg hf;exact⟨S',fE',E',a1,a2,a3,a4,λ_=>a5 rfl⟩
 |seq x y Om On =>
  intro a hn;refine vr (g:=λf H k=>iD X call tr J rounds x a.l f H (y8 (λf H=>iD X call tr J rounds y a.r f H k) k)) (λh=>mY.lA (hn h)) λf H k r h=>?_
  obtain⟨lv,f1,H1,h1,h2⟩:=Om a.l (λh=>mY.BL (hn h)) _ _ _ _ h;have hs:∀n fE E,Ev.jQ X.P X.G (cf n) (JE n) n.1 (.seq x y) fE E=Ev.andThen (Ev.jQ X.P X.G (cf n) (JE n) n.1 x fE E) (Ev.jQ X.P X.G (cf n) (JE n) n.1 y):=λn fE E=>rfl
  rcases BM h1 with⟨rfl,h3⟩|⟨hne,h3⟩
  .obtain ⟨lv',f2,H2,h4,h5⟩:=On a.r (λh=>mY.VM (hn h)) _ _ _ _ h3;exact⟨lv',f2,H2,h4,h2.then h5 ⟨0,λn fE E wY E1 BK E2 _ e1 e2=>by rw[hs,e1];exact e2⟩⟩
  exact⟨lv,f1,H1,h3,h2.same ⟨0,λn fE E wY E1 _ e1=>by rw[hs,e1];exact tZ hne _ _ _⟩⟩
 |cond c x y Om On =>
  intro a hn;refine vr (g:=λf H k=>ah (Ev.dW X.G c) (match f.eval X c with
   |.bool b=>ah b (iD X call tr J rounds x a.l f H k) (iD X call tr J rounds y a.r f H k)
   |_=>none) none) (λh=>mY.lA (hn h)) λf H k r h=>?_
  simp only at h;rw[ax]at h;split at h;case isFalse=>cases h
  rename_i hok;split at h
  .rename_i b hb;have hs:∀n fE E,Ev.jQ X.P X.G (cf n) (JE n) n.1 (.cond c x y) fE E=ah (Ev.dW X.G c) (Ev.DS (fE.eval c) (Ev.jQ X.P X.G (cf n) (JE n) n.1 x) (Ev.jQ X.P X.G (cf n) (JE n) n.1 y) fE E) none:=λn fE E=>rfl
   have both:∃lv f' H',k lv f' H'=some r/\wX X nf (λn fE E=>ah b (Ev.jQ X.P X.G (cf n) (JE n) n.1 x fE E) (Ev.jQ X.P X.G (cf n) (JE n) n.1 y fE E)) lv f H f' H':=by
    cases b with
    |true=>exact Om a.l (λh=>mY.BL (hn h)) _ _ _ _ h
    |false=>exact On a.r (λh=>mY.VM (hn h)) _ _ _ _ h
   obtain⟨lv,f',H',h1,h2⟩:=both;refine⟨lv,f',H',h1,λS E fE hr hg hf=>?_⟩;obtain⟨S',fE',E',⟨N,a1⟩,a2⟩:=h2 S E fE hr hg hf;refine⟨S',fE',E',⟨N,λn hn'=>?_⟩,a2⟩;have hv:=qP hf hg hok;rw[hb]at hv;have a1:=a1 n hn';simp only at a1 ⊢;rw[hs,hok,hv.mq];exact a1
  cases h
 |block id b ih =>
  intro a hn;exact vr (g:=λf H k=>iD X call tr J rounds b a.l f H (Eo id k)) (λh=>mY.lA (hn h)) (LN (ih a.l λh=>mY.BL (hn h)))
 |loop b ih =>
  intro a hn f H k r h;obtain⟨f1,H1,h1,h2⟩:=QK (λh=>mY.lA (hn h)) h;obtain⟨lv,f',H',h3,h4⟩:=xY (λh=>mY.lA (hn h)) (ih a.l λh=>mY.BL (hn h)) rounds 0 f1 H1 k h1;exact⟨lv,f',H',h3,h2.then h4⟩
 |rangeFunc g params assign body _ _ =>
  intro a hn;exact vr (g:=λf H k=>I4 X call g params.toList (Ev.n9 assign&&Ev.n9 body) a (iD X call tr J rounds assign .none) (iD X call tr J rounds body .none) f H k) (λh=>mY.lA (hn h))
   (Eh hcall (λh=>mY.lA (hn h)) (λh=>LP (JE:=JE) hcall rounds assign (by rw[ak]at h;exact h.1)) (λh=>LP (JE:=JE) hcall rounds body (by rw[ak]at h;exact h.2)))
 |exit id=>intro a _ f H k r h;exact⟨_,f,H,h,.here λ_ _ _=>rfl⟩
 |scope b ih =>
  intro a hn;exact vr (g:=λf H k=>iD X call tr J rounds b a.l f H (Bx b J k)) (λh=>mY.lA (hn h)) (LO hJ (ih a.l λh=>mY.BL (hn h)))
 |label l=>intro a _ f H k r h;exact⟨_,f,H,h,.here λ_ _ _=>rfl⟩
 |goto l=>intro a _ f H k r h;exact⟨_,f,H,h,.here λ_ _ _=>rfl⟩
 |ret=>intro a _ f H k r h;exact⟨_,f,H,h,.here λ_ _ _=>rfl⟩
 |refuse w=>intro a _ f H k r h;cases h
theorem QL {ja:mY}(hn:nf=true->ja.keep=none){J:tA β}{JE:Nat×Nat->Ev.um}(hJ:vq X nf J JE):vq X nf (λc rest f H k=>CZ ja f H λf H=>J c rest f H k) JE :=
 λc rest=>vr (g:=J c rest) hn (hJ c rest)
theorem G0 {call:cI β}(hcall:cX X cf call){tr:List Tmp}{ja:mY}(hn:nf=true->ja.sI=true)(rounds:Nat):∀(m d:Nat),vq X nf (OE X call tr ja rounds m) (λn=>Ev.uZ X.P X.G (cf n) n.1 (n.1-d))
 |0,d=>λc rest f H k r h=>by cases h
 |m+1,d=>λc rest=>by
  have ih:=QL (λh=>mY.lA (hn h)) (G0 (tr:=tr) hcall hn rounds m (d+1));have key:=LO (c:=c) ih (Jk (tr:=tr) hcall ih rounds rest ja.l λh=>mY.BL (hn h));intro f H k r h;obtain⟨lv,f',H',h1,h2⟩:=key f H k r h;refine⟨lv,f',H',h1,h2.same ⟨d+1,λn fE E wY E1 hn' e1=>?_⟩⟩;have:n.1-d=(n.1-(d+1))+1:=by omega
  show Ev.uZ X.P X.G (cf n) n.1 (n.1-d) c rest fE E=_;rw[this];exact e1
theorem VP {call:cI β}(hcall:cX X cf call){tr:List Tmp}{ja:mY}(hn:nf=true->ja.sI=true)(rounds:Nat)(m d:Nat):vq X nf (pN X call tr ja rounds m) (λn=>Ev.uZ X.P X.G (cf n) n.1 (n.1-d)) :=
 QL (λh=>mY.lA (hn h)) (G0 hcall hn rounds m d)
theorem Bq {H:aG}{f:fJ}{rv:ResultVar}{k:AV->Option β}(h:I5 X H f rv k=some r):∃v,k v=some r/\∀S E fE,Rel S H E->mw S f fE->∃x,Ev.zK X.P E fE rv=some x/\VR S v x:=by
 unfold I5 at h;split at h
 .rename_i t;exact⟨_,h,λS E fE hr hf=>⟨fE.get t,rfl,hf.v t⟩⟩
 rename_i x t;obtain⟨v,h1,h2⟩:=Lu h;exact⟨v,h1,λS E fE hr hf=>h2 S E _ hr (hf.v x)⟩
theorem vh {H:aG}{f:fJ}:∀{l:List ResultVar} {k:List AV->Option β},wS X H f k l=some r->∃vs,k vs=some r/\∀S E fE,Rel S H E->mw S f fE->∃xs,Ev.ko X.P E fE l=some xs/\LV S vs xs
 |[],k,h=>⟨[],h,λS E fE hr hf=>⟨[],rfl,LV.nil⟩⟩
 |rv::l,k,h=>by
  obtain⟨v,h1,h2⟩:=Bq h;obtain⟨vs,h3,h4⟩:=vh h1;refine⟨v::vs,h3,λS E fE hr hf=>?_⟩;obtain⟨x,e1,e2⟩:=h2 S E fE hr hf;obtain⟨xs,e3,e4⟩:=h4 S E fE hr hf;exact⟨x::xs,by simp only[Ev.ko,e1,e3],LV.cons e2 e4⟩
theorem Jl {S:Wo}{vs:List AV}{xs:List Value}(h:LV S vs xs):VR S (rQ vs) (Ev.wz xs):=by
 match vs,xs,h with
 |[],xs,h=>rw[h.jx];exact .fH [] [] rfl (λj x y hx=>by simp at hx)
 |[v],xs,h =>
  obtain⟨x,m,rfl,h1,h2⟩:=h.cons_inv;rw[h2.jx];exact h1
 |v::w::vs,xs,h =>
  obtain⟨x,m,rfl,h1,h2⟩:=h.cons_inv;obtain⟨y,m',rfl,h3,h4⟩:=h2.cons_inv;exact .fH _ _ h.1 h.2
theorem zk:∀(l:List Value) (f:Fr) (i:Nat),∃f',f.fill i l=some f'
 |[],f,i=>⟨f,rfl⟩
 |v::l,f,i=>by
  obtain⟨f1,h1⟩:=Fr.pg f (some i) v;obtain⟨f2,h2⟩:=zk l f1 (i+1);exact⟨f2,by simp only[Ev.Fr.fill,h1,h2]⟩
theorem EA {S:Wo}:∀{vs:List AV} {xs:List Value} {f:fJ} {fE fE':Fr} {i:Nat},mw S f fE->LV S vs xs->fE.fill i xs=some fE'->mw S (f.fill i vs) fE'
 |[],xs,f,fE,fE',i,hf,hl,h=>by
  rw[hl.jx]at h;cases h;exact hf
 |v::vs,xs,f,fE,fE',i,hf,hl,h=>by
  obtain⟨x,m,rfl,h1,h2⟩:=hl.cons_inv;simp only[Ev.Fr.fill]at h;split at h
  .rename_i f1 hp;exact EA (f:=f.put (some i) v) (hf.put h1 hp) h2 h
  cases h
theorem lp {call:cI β}(hcall:cX X cf call){an:ei}(hn:nf=true->an.I6.sI=true/\an.ja.sI=true){rounds:Nat}{id:FuncId}{args:List AV}{H:aG}{k:AV->aG->Option β}(h:aT X call an rounds id args H k=some r) :
 ∃v H',k v H'=some r/\∀(S:Wo) (E:Mem) (bJ:List Value),Rel S H E->fm X S->LV S args bJ ->
  ∃S' vE E',(∃N,∀n:Nat×Nat,N<=n.1/\N<=n.2->Ev.lR X.P X.G (cf n) n.1 id bJ E=some (vE,E'))/\VR S' v vE/\Rel S' H' E'/\BJ S H E S' H' E'/\(nf=true->S.le S'/\St S H E S' H' E'):=by
 unfold aT at h;split at h;case h_2=>cases h
 rename_i fn hfn;split at h;case h_2=>cases h
 rename_i c hc;rw[ax]at h;split at h;case isFalse=>cases h
 rename_i hlen;have hJ:=VP (tr:=an.tr) hcall (λh=>(hn h).2) rounds rounds 0;obtain⟨lv,f',H',h1,h2⟩:=Jk (tr:=an.tr) hcall hJ rounds c an.I6 (λh=>(hn h).1) _ _ _ _ h;have fin:(lv = .normal\/lv = .ret)->wS X H' f' (λvs=>k (rQ vs) H') fn.results.toList=some r->∃v H',k v H'=some r/\∀(S:Wo) (E:Mem) (bJ:List Value),Rel S H E->fm X S->LV S args bJ ->
  ∃S' vE E',(∃N,∀n:Nat×Nat,N<=n.1/\N<=n.2->Ev.lR X.P X.G (cf n) n.1 id bJ E=some (vE,E'))/\VR S' v vE/\Rel S' H' E'/\BJ S H E S' H' E'/\(nf=true->S.le S'/\St S H E S' H' E'):=λhlv hres=>by
  obtain⟨vs,h3,h4⟩:=vh hres;refine⟨rQ vs,H',h3,λS E bJ hr hg hl=>?_⟩;obtain⟨f0,hf0⟩:=zk bJ (Fr.mk fn.ntmps (Tr.full (Ev.xQ fn.ntmps))) 0;have aks:mw S (fJ.mk fn.ntmps .e) (Fr.mk fn.ntmps (Tr.full (Ev.xQ fn.ntmps))):=⟨rfl,λi=>.j5 _⟩;obtain⟨S',fE',E',⟨N,a1⟩,a2,a3,a4,a5⟩:=h2 S E f0 hr hg (EA aks hl hf0);obtain⟨xs,e1,e2⟩:=h4 S' E' fE' a3 a2;refine⟨S',Ev.wz xs,E',⟨N,λn hn'=>?_⟩,Jl e2,a3,a4,a5⟩;unfold Ev.lR;have a1:=a1 n hn';simp only[Nat.sub_zero]at a1;simp only[hfn,hc,hf0]
  have hlen':Nat.ble bJ.length fn.ntmps=true:=by rw[<-hl.1];exact hlen
  rw[hlen',a1];rcases hlv with rfl|rfl
  .show Ev.cE E' ((Ev.ko X.P E' fE' fn.results.toList).map Ev.wz)=_;rw[e1];rfl
  show Ev.cE E' ((Ev.ko X.P E' fE' fn.results.toList).map Ev.wz)=_;rw[e1];rfl
 unfold qz at h1;split at h1
 .exact fin (.inl rfl) h1
 .exact fin (.inr rfl) h1
 cases h1
noncomputable def dR (X:ij)(kn:Ev.fe):Nat×Nat->Ev.cH:=λn=>Ev.nR X.P X.G kn n.1 n.2
theorem gi {kn:Ev.fe}{id:FuncId}(hk:∀args,kn id args=none){bJ:List Value}{E E':Mem}{vE:Value}(h:∃N,∀n:Nat×Nat,N<=n.1/\N<=n.2->Ev.lR X.P X.G (dR X kn n) n.1 id bJ E=some (vE,E')):∃N,∀n:Nat×Nat,N<=n.1/\N<=n.2->dR X kn n id bJ E=some (vE,E'):=by
 obtain⟨N,h⟩:=h;refine⟨N+1,λn hn=>?_⟩;obtain⟨R,D⟩:=n;obtain⟨D',rfl⟩:∃D',D=D'+1:=⟨D-1,by have:=hn.2;simp only at this;omega⟩;have:=h (R,D') ⟨by have:=hn.1;simp only at this ⊢;omega,by have:=hn.2;simp only at this ⊢;omega⟩;show Ev.nR X.P X.G kn R (D'+1) id bJ E=_;rw[Ev.lX,hk];show Ev.nK (Ev.oL X.P kn id bJ E) _=_;rw[Ev.Ot (hk _)];show Ev.nK (Ev.lR X.P X.G (Ev.nR X.P X.G kn R D') R id bJ E) _=_;have e:Ev.lR X.P X.G (Ev.nR X.P X.G kn R D') R id bJ E=some (vE,E'):=this
 rw[e];rfl
end
inductive fA where
 |val (v:AV)
 |list (t:TypeId) (e:Ty) (l:List e.den)
 |room (t:TypeId) (e:Ty) (l:List e.den) (len:Nat)
noncomputable def mh:List fA->aG->List AV×aG
 |[],H=>([],H)
 |.val v::rs,H=>(v::(mh rs H).1,(mh rs H).2)
 |.list t e l::rs,H=>(.own H.next l.length::(mh rs (H.push (.list t e l 0 false false))).1,(mh rs (H.push (.list t e l 0 false false))).2)
 |.room t e l len::rs,H=>(.rO H.next 0 len l.length::(mh rs (H.push (.list t e l 0 true false))).1,(mh rs (H.push (.list t e l 0 true false))).2)
def uw:AV->Bool
 |.int _ _=>true
 |.bool _=>true
 |.str _=>true
 |.qg _=>true
 |.dG=>true
 |.oh=>true
 |.agg l=>l.all λv=>match v with
  |.int _ _=>true
  |.bool _=>true
  |.str _=>true
  |.qg _=>true
  |.dG=>true
  |.oh=>true
  |_=>false
 |_=>false
def tE (H:aG):List Nat->List AV->List fA->Prop
 |_,[],[]=>True
 |seen,v::vs,.val w::rs=>v=w/\uw w=true/\tE H seen vs rs
 |seen,v::vs,.list t e l::rs=>e.Ac=true/\((∃id gC ex,v = .own id l.length/\H.get id=some (.list t e l gC ex false)/\id ∉ seen/\tE H (id::seen) vs rs)\/(v = .dG/\l=[]/\tE H seen vs rs))
 |seen,v::vs,.room t e l len::rs=>e.Ac=true/\∃id gC,v = .rO id 0 len l.length/\H.get id=some (.list t e l gC true false)/\id ∉ seen/\tE H (id::seen) vs rs
 |_,_,_=>False
theorem CR.G8 {F F':Nat->Option (List Value)}:∀(e:Ty),e.Ac=true->∀(x:e.den) (cs:List Value),CR F e x cs->CR F' e x cs
 |.int _,_,_,_,h=>h
 |.bool,_,_,_,h=>h
 |.str,_,_,_,h=>h
 |.qg,_,_,_,h=>h
 |.unit,_,_,_,h=>h
 |.sl _,h,_,_,_=>by cases h
 |.pair a b,h,_,_,⟨c1,c2,e,h1,h2⟩=>by
  simp only[Ty.Ac,ak]at h;exact⟨c1,c2,e,CR.G8 a h.1 _ _ h1,CR.G8 b h.2 _ _ h2⟩
theorem QN {S S':Wo}{v:AV}{x:Value}(h:uw v=true)(hv:VR S v x):VR S' v x:=by
 cases hv with
 |int=>exact .int _ _
 |bool=>exact .bool _
 |str=>exact .str _
 |qg=>exact .qg _
 |dG=>exact .dG
 |oh=>exact .oh
 |agg l m hl hm =>
  refine .agg l m hl λj a b ha hb=>?_
  have h1:=hm j a b ha hb;have h2:=aK.1 h a (bh ha);cases h1<;>first|(cases h2;done)|constructor
 |_=>cases h
theorem Rel.grow {S:Wo}{H:aG}{E E':Mem}(h:Rel S H E)(hs:E.size<=E'.size)(hlk:E'.lk=E.lk)(hk:∀i,i<E.size->E'.get i=E.get i):Rel S H E':=by
 refine⟨λi cs hi=>?_,h.dom,h.C3,λid q hq=>?_,h.inj,h.sep,λid q x hq hl hx=>by rw[hlk];exact h.lk id q x hq hl hx,h.zF,h.Lq,by rw[hlk];have:=h.GL;omega⟩
 .obtain ⟨b,h1,h2⟩:=h.fz i cs hi;exact⟨b,by rw[o5 (hk i (lq h1))];exact h1,h2⟩
 exact(h.row id q hq).keep S.le_refl (λh=>h) (λ_ h=>h) λx hx=>by
  obtain⟨b,hb⟩:=h.old hq hx;exact hk _ (Mem.eL hb)
theorem Rel.yH {S:Wo}{H:aG}{E:Mem}(h:Rel S H E){r:Row}{x:Option (Nat×Nat×Nat)}{g:Option (Sigma λe:Ty=>List e.den)}
 (hr:∀r',r.live=some r'->o6 (S.new H.next x g) E H.next r')
 (hx:∀y,x=some y->(∀id q z,H.get id=some q->S.ρ id=some z->z.1≠y.1)/\S.F y.1=none/\E.lk<=y.1) :
 S.le (S.new H.next x g)/\Rel (S.new H.next x g) (H.push r) E:=by
 have hle:=Wo.I8 h x g;obtain⟨p1,p2,p3,p4⟩:=aG.dN H r;have ρne:∀id,id≠H.next->(S.new H.next x g).ρ id=S.ρ id:=λid hid=>aa hid
 have ρeq:(S.new H.next x g).ρ H.next=x:=ag rfl
 have Γne:∀id v,id≠H.next->(S.new H.next x g).Γ id v=S.Γ id v:=λid v hid=>aa (by omega)
 have oP:∀id r',(H.push r).get id=some r'->(id=H.next/\r.live=some r')\/(id≠H.next/\H.get id=some r'):=λid r' hid=>by
  rw[p4]at hid;by_cases e:id=H.next
  .rw[ag e]at hid;exact .inl ⟨e,hid⟩
  rw[aa e]at hid;exact .inr ⟨e,hid⟩
 refine⟨hle,⟨h.fz,λid y hy=>?_,λid v hv=>?_,λid r' hg=>?_,λid id' r1 r2 y y' hg hg' hy hy' he=>?_,λid r' y hg hb hy=>?_,λid r' y hg hl hy=>?_,by rw[p1,p2];have:=h.zF;omega,by rw[p1,p3];have:=h.Lq;omega,h.GL⟩⟩
 .rw[p1];by_cases e:id=H.next
  .omega
  rw[ρne id e]at hy;have:=h.dom id y hy;omega
 .rw[p1]at hv;rw[Γne id v (by omega)];exact h.C3 id v (by omega)
 .rcases oP id r' hg with⟨rfl,hr'⟩|⟨e,hg'⟩
  .exact hr r' hr'
  exact(h.row id r' hg').keep hle (λhn=>by rw[ρne id e];exact hn) (λv hv=>by rw[Γne id v e];exact hv) λy hy=>rfl
 .rcases oP id r1 hg with⟨rfl,h1⟩|⟨e1,h1⟩<;>rcases oP id' r2 hg' with⟨rfl,h2⟩|⟨e2,h2⟩
  .rfl
  .rw[ρeq]at hy;rw[ρne id' e2]at hy';exact absurd he.symm ((hx y hy).1 id' r2 y' h2 hy')
  .rw[ρeq]at hy';rw[ρne id e1]at hy;exact absurd he ((hx y' hy').1 id r1 y h1 hy)
  rw[ρne id e1]at hy;rw[ρne id' e2]at hy';exact h.inj id id' r1 r2 y y' h1 h2 hy hy' he
 .rcases oP id r' hg with⟨rfl,h1⟩|⟨e1,h1⟩
  .rw[ρeq]at hy;exact(hx y hy).2.1
  rw[ρne id e1]at hy;exact h.sep id r' y h1 hb hy
 rw[p2]at hl;rcases oP id r' hg with⟨rfl,h1⟩|⟨e1,h1⟩
 .rw[ρeq]at hy;exact(hx y hy).2.2
 rw[ρne id e1]at hy;exact h.lk id r' y h1 hl hy
def EB (S:Wo)(H:aG)(E E':Mem)(rs:List fA)(xs:List Value):Prop :=
 ∃S',S.le S'/\LV S' (mh rs H).1 xs/\Rel S' (mh rs H).2 E'/\S'.F=S.F/\H.next<=(mh rs H).2.next/\(mh rs H).2.lk=H.lk/\(mh rs H).2.par=H.par /\
  (∀id,id<H.next->(mh rs H).2.get id=H.get id/\S'.ρ id=S.ρ id)/\(∀id q z,H.next<=id->(mh rs H).2.get id=some q->S'.ρ id=some z->E.size<=z.1)
theorem BN {S1:Wo}{H1:aG}{E E':Mem}(Ez:Rel S1 H1 E')(hnew:∀id r y,H1.get id=some r->r.A8=false->S1.ρ id=some y->E.size<=y.1)(hlk:E'.lk<=E.size):∀{vs:List AV} {rs:List fA} {seen:List Nat} {xs:List Value} {S:Wo} {H:aG},tE H1 seen vs rs->LV S1 vs xs->Rel S H E' ->
 (∀i,S.F i≠none->i<E.size)->(∀id q z,H.get id=some q->S.ρ id=some z->z.1<E.size\/∃C5 y,C5∈seen/\S1.ρ C5=some y/\y.1=z.1/\H1.get C5≠none) ->
 EB S H E E' rs xs
 |[],[],seen,xs,S,H,_,hl,hr,hF,hown=>by
  rw[hl.jx];exact⟨S,S.le_refl,LV.nil,hr,rfl,aC _,rfl,rfl,λ_ _=>⟨rfl,rfl⟩,λid q z hid hq _=>absurd (aG.eL hq) (by show ¬id<H.next;omega)⟩
 |v::vs,r0::rs,seen,xs,S,H,h,hl,hr,hF,hown=>by
  obtain⟨x,xs',rfl,h1,h2⟩:=hl.cons_inv;have ox:∀v,S.Γ H.next v=none:=λv=>hr.C3 _ _ (aC _)
  -- how to go on behind a row more
  have go:∀(t:TypeId) (e:Ty) (l:List e.den) (ex:Bool) (vv:AV) (seen':List Nat) (y:Option (Nat×Nat×Nat)),(mh (r0::rs) H=(vv::(mh rs (H.push (.list t e l 0 ex false))).1,(mh rs (H.push (.list t e l 0 ex false))).2))->tE H1 seen' vs rs->S.le (S.new H.next y (some ⟨e,l⟩))->Rel (S.new H.next y (some ⟨e,l⟩)) (H.push (.list t e l 0 ex false)) E'->VR (S.new H.next y (some ⟨e,l⟩)) vv x ->
   (∀z,y=some z->E.size<=z.1/\∃C5 y1,C5∈seen'/\S1.ρ C5=some y1/\y1.1=z.1/\H1.get C5≠none)->(∀id,id∈seen->id∈seen')->EB S H E E' (r0::rs) (x::xs'):=λt e l ex vv seen' y heq hres hle hrel hvr hy hsub=>by
   obtain⟨p1,p2,p3,p4⟩:=aG.dN H (.list t e l 0 ex false);have hown':∀id q z,(H.push (.list t e l 0 ex false)).get id=some q->(S.new H.next y (some ⟨e,l⟩)).ρ id=some z->z.1<E.size\/∃C5 y,C5∈seen'/\S1.ρ C5=some y/\y.1=z.1/\H1.get C5≠none:=λid q z hq hz=>by
    rw[p4]at hq;by_cases hid:id=H.next
    .subst hid;have hz:y=some z:=by rw[<-hz];exact(ag rfl).symm
     exact .inr (hy z hz).2
    rw[aa hid]at hq;have hz:S.ρ id=some z:=by rw[<-hz];exact(aa hid).symm
    rcases hown id q z hq hz with h|⟨C5,y1,k1,k2⟩
    .exact .inl h
    exact .inr ⟨C5,y1,hsub _ k1,k2⟩
   obtain⟨S',a1,a2,a3,a4,a5,a6,a7,a8,a9⟩:=BN Ez hnew hlk hres h2 hrel hF hown';rw[p1]at a5 a8 a9;rw[p2]at a6;rw[p3]at a7;unfold EB;rw[heq];exact
    ⟨S',Wo.le_trans hle a1,LV.cons (hvr.mono a1) a2,a3,a4,by show H.next<=_;exact br (fD _) a5,a6,a7,λid hid=>by
     obtain⟨b1,b2⟩:=a8 id (by omega);refine⟨b1.trans (by rw[p4,aa (by omega)]),b2.trans (aa (by omega))⟩,λid q z hid hq hz=>by
     by_cases hid':id=H.next
     .subst hid';have:S'.ρ H.next=(S.new H.next y (some ⟨e,l⟩)).ρ H.next:=(a8 H.next (by omega)).2
      rw[this]at hz;have hz:y=some z:=by rw[<-hz];exact(ag rfl).symm
      exact(hy z hz).1
     exact a9 id q z (by omega) hq hz⟩
  -- a row that is nobody's
  have nobody:∀{id:Nat} {q0:Row} {i0 qh s0:Nat},H1.get id=some q0->q0.A8=false->S1.ρ id=some (i0,qh,s0)->id ∉ seen->E.size<=i0/\((∀Ds q z,H.get Ds=some q->S.ρ Ds=some z->z.1≠i0)/\S.F i0=none/\E'.lk<=i0):=λ{id q0 i0 qh s0} hg hro hρ hns=>by
   have hsz:=hnew id _ _ hg hro hρ;simp only at hsz;refine⟨hsz,λDs q z hq hz he=>?_,?_,by omega⟩
   .rcases hown Ds q z hq hz with h3|⟨C5,y1,k1,k2,k3,k4⟩
    .omega
    cases hq1:H1.get C5 with
    |none=>exact absurd hq1 k4
    |some r1 =>
     have:=Ez.inj C5 id r1 _ y1 _ hq1 hg k2 hρ (by simp only;omega);subst this;exact hns k1
   cases hFi:S.F i0 with
   |none=>rfl
   |some cs=>have:=hF i0 (by rw[hFi];simp);omega
  cases r0 with
  |val w =>
   obtain⟨rfl,hs,h⟩:=h;obtain⟨S',a1,a2,a3⟩:=BN Ez hnew hlk h h2 hr hF hown;exact⟨S',a1,LV.cons (QN hs h1) a2,a3⟩
  |room t e l len =>
   obtain⟨LQ,id,gC,rfl,hg,hns,h⟩:=h;obtain⟨g1,⟨g0,g,g2,g2'⟩,g3⟩:=Ez.row id _ hg;generalize Lw:l.length=n at h1;generalize hlz:(0:Nat)=zz at h1;cases h1 with
   |rO _ _ _ _ i0 c0 s0 hρ g' hg' hcc aoQ =>
    subst hlz;subst Lw;rcases g3 with⟨_,g5,_⟩|⟨i',cap,b,mid,post,q1,q2,q3,q4,q5,q6,q7,q8,q9,yq⟩
    .rw[hρ]at g5;cases g5
    rw[hρ]at q1;cases q1;obtain⟨hsz,hno⟩:=nobody hg rfl hρ hns;obtain⟨b1,b2⟩:=hr.yH (r:=.list t e l 0 true false) (x:=some (i0,c0,e.size)) (g:=some ⟨e,l⟩) (λr' hr'=>by
     cases hr';exact lu ox q2 q3 q4 (q5.mono λx c=>CR.G8 e LQ x c) q6 q7 q8 (λ_=>q9 rfl) (yq.2.imp λl2 h=>h.mono λx c=>CR.G8 e LQ x c)) (λy hy=>by cases hy;exact hno)
    refine go t e l true _ (id::seen) _ rfl h b1 b2 (.rO _ 0 len l.length i0 c0 e.size (ag rfl) ⟨e,l⟩ (ag ⟨rfl,rfl⟩) (by simp) aoQ) (λz hz=>?_) (λid hid=>bE _ hid);cases hz;exact⟨hsz,id,_,cF,hρ,rfl,by rw[hg];simp⟩
  |list t e l =>
   obtain⟨LQ,h⟩:=h;rcases h with⟨id,gC,ex,rfl,hg,hns,h⟩|⟨rfl,rfl,h⟩
   .obtain ⟨g1,⟨g0,g,g2,g2'⟩,g3⟩:=Ez.row id _ hg;have hCR:∀{mid:List Value},mU (CR S1.F e) l mid->mU (CR S.F e) l mid:=λhC=>hC.mono λx c=>CR.G8 e LQ x c
    generalize Lw:l.length=n at h1;cases h1 with
    |own _ _ i0 qh s0 hρ g' hg' hn' =>
     rcases g3 with⟨_,g5,_⟩|⟨i',cap,b,mid,post,q1,q2,q3,q4,q5,q6,q7,q8,q9,yq⟩
     .rw[hρ]at g5;cases g5
     rw[hρ]at q1;cases q1;subst Lw;obtain⟨hsz,hno⟩:=nobody hg rfl hρ hns;obtain⟨b1,b2⟩:=hr.yH (r:=.list t e l 0 false false) (x:=some (i0,qh,e.size)) (g:=some ⟨e,l⟩) (λr' hr'=>by
      cases hr';exact lu ox q2 q3 q4 (hCR q5) q6 q7 q8 (λh=>by cases h) (yq.2.imp λl2 h=>h.mono λx c=>CR.G8 e LQ x c)) (λy hy=>by cases hy;exact hno)
     refine go t e l false _ (id::seen) _ rfl h b1 b2 (.own _ _ i0 qh e.size (ag rfl) ⟨e,l⟩ (ag ⟨rfl,rfl⟩) rfl) (λz hz=>?_) (λid hid=>bE _ hid);cases hz;exact⟨hsz,id,_,cF,hρ,rfl,by rw[hg];simp⟩
    |gh _ g' hg' hn' =>
     have hl0:l=[]:=aQ.1 Lw;subst hl0;obtain⟨b1,b2⟩:=hr.yH (r:=.list t e [] 0 false false) (x:=none) (g:=some ⟨e,[]⟩) (λr' hr'=>by cases hr';exact lz ox) (λy hy=>by cases hy);exact go t e [] false _ (id::seen) none rfl h b1 b2 (.gh _ ⟨e,[]⟩ (ag ⟨rfl,rfl⟩) rfl) (λz hz=>by cases hz) (λid hid=>bE _ hid)
   cases h1;obtain⟨b1,b2⟩:=hr.yH (r:=.list t e [] 0 false false) (x:=none) (g:=some ⟨e,[]⟩) (λr' hr'=>by cases hr';exact lz ox) (λy hy=>by cases hy);exact go t e [] false _ seen none rfl h b1 b2 (.gh _ ⟨e,[]⟩ (ag ⟨rfl,rfl⟩) rfl) (λz hz=>by cases hz) (λid hid=>hid)
def QO:AV->Bool
 |.fl _=>true
 |a=>uw a
theorem VQ {S S':Wo}{v:AV}{x:Value}(h:QO v=true)(hv:VR S v x):VR S' v x:=by
 cases v with
 |fl a=>cases hv with|fl _ _ h=>exact .fl _ _ h
 |_=>exact QN h hv
def EC (H:aG)(a b:AV):Prop:=(a=b/\QO a=true)\/(∃e l,b = .dH e l/\Cv H e a=some l/\∀s,a ≠ .str s)
def QS (H:aG)(a b:AV):Prop:=EC H a b\/∃l l',a = .agg l/\b = .agg l'/\l.length=l'.length/\∀(j:Nat) x y,l[j]? = some x->l'[j]? = some y->EC H x y
section
variable {X:ij} {cf:Nat×Nat->Ev.cH}
def OM (X:ij)(cf:Nat×Nat->Ev.cH)(f:FuncId)(args:List AV)(vs:List AV)(H':aG):Prop :=
 ∀(S:Wo) (E:Mem) (bJ:List Value),Rel S aG.empty E->fm X S->LV S args bJ ->
  ∃S' vE E',(∃N,∀n:Nat×Nat,N<=n.1/\N<=n.2->cf n f bJ E=some (vE,E'))/\(∃xs,vE=Ev.wz xs/\LV S' vs xs)/\Rel S' H' E'/\BJ S aG.empty E S' H' E'
theorem qj (j:Nat):aG.empty.get j=none:=by
 rw[aG.get_eq];simp[aG.empty]
theorem BO (F:Nat->Option (List Value))(E:Mem)(hF:∀i cs,F i=some cs->∃b,alive E i=some b/\b.cells=cs)(he:E.lk<=E.size):Rel ⟨F,λ_=>none,λ_ _=>none⟩ aG.empty E :=
 ⟨hF,λ_ _ h=>(by cases h),λ_ _ _=>rfl,λid r h=>(by rw[qj]at h;cases h),λid id' r r' x x' h=>(by rw[qj]at h;cases h),λid r x h=>(by rw[qj]at h;cases h),λid r x h=>(by rw[qj]at h;cases h),aC _,aC _,he⟩
noncomputable def oR (E:Mem):Nat->Option (List Value):=λi=>(alive E i).map (·.cells)
theorem QT {S:Wo}{H:aG}{E:Mem}(hr:Rel S H E){a b:AV}{x:Value}(h:EC H a b)(hx:VR S a x):VR ⟨oR E,λ_=>none,λ_ _=>none⟩ b x:=by
 have hle:∀i cs,S.F i=some cs->oR E i=some cs:=λi cs hi=>by
  obtain⟨bk,h1,h2⟩:=hr.fz i cs hi;show (alive E i).map (·.cells)=_
  rw[h1];simp[h2]
 rcases h with⟨rfl,hs⟩|⟨e,l,rfl,hv,hns⟩
 .exact VQ hs hx
 refine .dH e l x ?_;have hCR:∀{l:List e.den} {mid:List Value},mU (CR S.F e) l mid->mU (CR (oR E) e) l mid:=λhC=>hC.mono λx c=>CR.mono hle e x c
 have row:∀(i:Nat) (bk:jJ),alive E i=some bk->oR E i=some bk.cells:=λi bk hb=>by show (alive E i).map (·.cells)=_;rw[hb];rfl
 unfold Cv at hv;split at hv
 .rename_i e' l';obtain⟨he,hc⟩:=bT hv;subst he;have hc:l'=l:=hc;subst hc;cases hx with
  |dH _ _ _ hS=>exact hS.mono hle
 .cases hv;cases hx;exact .inl ⟨rfl,.inl rfl⟩
 .rename_i id n;split at hv
  .rename_i t' e' l' gC ex ro hg;obtain⟨he,hc⟩:=bT hv;subst he;have hc:l'=l:=hc;subst hc;obtain⟨S',k1,k2,k3,k4⟩:=vo hr hg;obtain⟨rfl,hv⟩:=k4 n x hx;rcases hv with⟨rfl,rfl⟩|⟨i,mid,post,cap,rfl,hF,hC,hcap⟩
   .exact .inl ⟨rfl,.inl rfl⟩
   obtain⟨bk,b1,b2⟩:=k2.fz i _ hF;refine .inr ⟨i,[],mid,post,cap,rfl,by show oR E i=_;rw[row i bk b1,b2];rfl,?_,hcap⟩;exact hC.mono λx c=>CR.mono (λi cs hi=>by
    obtain⟨bk,h1,h2⟩:=k2.fz i cs hi;show oR E i=_;rw[row i bk h1,h2]) e' x c
  cases hv
 .rename_i id off len Lv;split at hv
  .rename_i t' e' l' gC ex ro hg;split at hv
   .rename_i l2 ot;cases hv;obtain⟨he,hc⟩:=bT ot;subst he;have hc:l'=l2:=hc;subst hc;obtain⟨g1,⟨_,g,g2,g2'⟩,g3⟩:=hr.row id _ hg;cases hx with
    |rO _ _ _ _ i0 c0 s0 hρ g' hg' hcc Lw =>
     rw[g2]at hg';cases hg';rcases g3 with⟨_,g5,_⟩|⟨i',cap,b,mid,post,q1,q2,q3,q4,q5,q6,q7,q8,q9,yq⟩
     .rw[hρ]at g5;cases g5
     rw[hρ]at q1;cases q1;have hlen:((l'.drop off).take len).length=len:=by simp;omega
     have:=SR.cut (cap:=Lv+off) (a:=(off:Int)) (b:=((off+len:Nat):Int)) (pre:=[]) (post:=post) (F:=oR E) (i:=i0) (λx c=>CR.length e' x c) (by rw[row i0 b q2,q4];rfl) (hCR q5) (by omega) (by omega) (by omega) (by omega);have e1:dX l' (off:Int) ((off+len:Nat):Int)=(l'.drop off).take len:=by
      simp only[dX,bg];congr 1;omega
     rw[e1]at this;simp only[bg,bA,bX,Nat.add_sub_cancel_left,Nat.add_sub_cancel]at this;exact this
   cases hv
  cases hv
 .rename_i s;exact absurd rfl (hns s)
 cases hv
theorem afv {S:Wo}{H:aG}{E:Mem}(hr:Rel S H E){a b:AV}{x:Value}(h:QS H a b)(hx:VR S a x):VR ⟨oR E,λ_=>none,λ_ _=>none⟩ b x:=by
 rcases h with h|⟨l,l',rfl,rfl,hl,hf⟩
 .exact QT hr h hx
 cases hx with
 |agg _ m hm hv =>
  refine .agg l' m (hl.symm.trans hm) λj y z hy hz=>?_
  have hlt:=eL hy;have h2:j<l.length:=by omega
  exact QT hr (hf j l[j] y (aP h2) hy) (hv j _ z (aP h2) hz)
theorem OM.aoR {f:FuncId}{args args2 vs:List AV}{H1:aG}{rs:List fA}(h:OM X cf f args vs H1)(hres:tE H1 [] vs rs){H:aG}(hargs:args2.length=args.length)(jG:∀(j:Nat) a b,args2[j]? = some a->args[j]? = some b->QS H a b) :
 Jd X cf f args2 H (rQ (mh rs H).1) (mh rs H).2:=by
 intro S E bJ hr hg hl;have hle:∀i cs,S.F i=some cs->oR E i=some cs:=λi cs hi=>by
  obtain⟨bk,h1,h2⟩:=hr.fz i cs hi;show (alive E i).map (·.cells)=_
  rw[h1];simp[h2]
 have UE:Rel ⟨oR E,λ_=>none,λ_ _=>none⟩ aG.empty E:=BO _ E (λi cs hi=>by
  have hi:(alive E i).map (·.cells)=some cs:=hi
  simp only[aL]at hi;obtain⟨b,h1,h2⟩:=hi;exact⟨b,h1,h2⟩) hr.GL
 have hl0:LV ⟨oR E,λ_=>none,λ_ _=>none⟩ args bJ:=⟨by rw[<-hargs];exact hl.1,λj b x hb hx=>by
  have hlt:=eL hb;have h2:j<args2.length:=by omega
  exact afv hr (jG j args2[j] b (aP h2) hb) (hl.2 j _ x (aP h2) hx)⟩
 obtain⟨S1,vE,E',a1,⟨xs,rfl,a2⟩,a3,a4⟩:=h _ E bJ UE (hg.mono' hle) hl0;have jd:∀i,¬Own ⟨oR E,λ_=>none,λ_ _=>none⟩ aG.empty i:=λi ⟨id,r,x,h1,_⟩=>by rw[qj]at h1;cases h1
 have hkeep:∀i,i<E.size->E'.get i=E.get i:=λi hi=>a4.keep i hi (jd i)
 have hrE:=hr.grow a4.sz a4.lk hkeep;obtain⟨S',b1,b2,b3,b4,b5,b6,b7,b8,b9⟩:=BN (E:=E) a3 (λid r y h1 h2 h3=>by
  by_cases hy:y.1<E.size
  .exact absurd (a4.own y.1 ⟨id,r,y,h1,h2,h3,rfl⟩ hy) (jd _)
  .omega) (by rw[a4.lk];exact hr.GL) hres a2 hrE (λi hi=>by
  cases hF:S.F i with
  |none=>exact absurd hF hi
  |some cs=>obtain⟨b,h1,_⟩:=hr.fz i cs hF;exact lq h1) (λid q z hq hz=>.inl (by obtain⟨b,hb⟩:=hr.old hq hz;exact Mem.eL hb))
 refine⟨S',Ev.wz xs,E',a1,b1,Jl b2,b3,⟨a4.sz,a4.lk,b6,b7,b1.F,λi ho hi=>?_,λi hi=>.inl (by rw[b4]at hi;exact hi),λi hi _=>hkeep i hi,λid hid=>(b8 id (cw hid hr.Lq)).2,b5,λid hid hl=>by rw[(b8 id hid).1]at hl;exact hl,λid hid hn=>by rw[(b8 id hid).2];exact hn⟩⟩;obtain⟨id,q,y,h1,h2,h3,rfl⟩:=ho;by_cases hid:id<H.next
 .rw[(b8 id hid).1]at h1;rw[(b8 id hid).2]at h3;exact⟨id,q,y,h1,h2,h3,rfl⟩
 have:=b9 id q y (by omega) h1 h3;omega
theorem aaj {kn:Ev.fe}{id:FuncId}(hk:∀args,kn id args=none){call:∀ β,cI β}(hcall:∀ β,cX X (dR X kn) (call β)){an:ei}{rounds:Nat}{args vs:List AV}{H':aG}
 (h:aT X (call (AV×aG)) an rounds id args aG.empty (λv H=>some (v,H))=some (rQ vs,H')):∀(S:Wo) (E:Mem) (bJ:List Value),Rel S aG.empty E->fm X S->LV S args bJ ->
 ∃S' vE E',(∃N,∀n:Nat×Nat,N<=n.1/\N<=n.2->dR X kn n id bJ E=some (vE,E'))/\VR S' (rQ vs) vE/\Rel S' H' E'/\BJ S aG.empty E S' H' E':=by
 obtain⟨v',H1,h1,h2⟩:=lp (nf:=false) (hcall _) (λh=>by cases h) h;cases h1;intro S E bJ hr hg hl;obtain⟨S',vE,E',a1,a2,a3,a4,_⟩:=h2 S E bJ hr hg hl;exact⟨S',vE,E',gi hk a1,a2,a3,a4⟩
end
end Go.Tv

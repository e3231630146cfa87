/- All operations of the layer, steps, regions. Steps, regions and code of the layer beside the evaluator's. Regions, notes, loops, code of the layer beside the evaluator's. Frames and memories made alike; loops, code, functions. Code and functions of the layer beside the evaluator's. Contracts of functions that are handed plain data and hand back plain data. -/
import Derived.Test.YtpaddkkfefgkfaaGreatDoorLye

namespace Go.Tv
open Go.Ev (Tr pick2 Leave Mem Blk alive pick2_eq alive_some semPure pureA opA addrFree withMem orElse)
def bS (X:cR) (S:Wo):Prop:=∀g,g<X.G->X.gv g≠[]->∃cs,S.F g=some cs/\∀T:Wo,(∀i x,S.F i=some x->T.F i=some x)->LV T (X.gv g) cs
theorem bS.mono' {X:cR} {S S':Wo} (h:bS X S) (hle:∀i x,S.F i=some x->S'.F i=some x):bS X S':=λg hg he=>let ⟨cs,h1,h2⟩:=h g hg he;⟨cs,hle _ _ h1,λT hT=>h2 T λi x hx=>hT i x (hle i x hx)⟩
theorem bS.mono {X:cR} {S S':Wo} (h:bS X S) (hle:S.le S'):bS X S':=h.mono' hle.F
def IU (X:cR) (cf:Nat×Nat->Ev.aP) (f:FuncId) (args:List AV) (H:aa) (v:AV) (H':aa):Prop :=
 ∀(S:Wo) (E:Mem) (az:List Value),Rel S H E->bS X S->LV S args az ->
  ∃S' vE E',(∃N,∀n:Nat×Nat,N<=n.1/\N<=n.2->cf n f az E=some (vE,E'))/\S.le S'/\VR S' v vE/\Rel S' H' E'/\St S H E S' H' E'
def aQ (X:cR) (cf:Nat×Nat->Ev.aP) {β:Type} (call:aY β):Prop :=
 ∀f args H k (r:β),call f args H k=some r->∃v H',k v H'=some r/\IU X cf f args H v H'
def zG (X:cR) (cf:Nat×Nat->Ev.aP) (o:Oper) (ev:Operand->AV) (H:aa) (v:AV) (H':aa):Prop :=
 ∀(S:Wo) (E:Mem) (aq:Operand->Value),Rel S H E->bS X S->(∀x∈o.op.operands,VR S (ev x) (aq x)) ->
  ∃S' vE E',(∃N,∀n:Nat×Nat,N<=n.1/\N<=n.2->opA X.P (cf n) aq o E=some (vE,E'))/\S.le S'/\VR S' v vE/\Rel S' H' E'/\St S H E S' H' E'
theorem bD.dz {X:cR} {cf:Nat×Nat->Ev.aP} {o:Oper} {ev:Operand->AV} {H H':aa} {v:AV} (h:bD X cf o ev H v H'):zG X cf o ev H v H':=λS E aq hr _ aD=>h S E aq hr aD
section
variable {X:cR} {cf:Nat×Nat->Ev.aP} {o:Oper} {ev:Operand->AV} {H:aa} {β:Type} {r:β}
theorem FM {x:Operand} (h:o.op = .move x\/o.op = .assign x):bD X cf o ev H (ev x) H:=.quiet λS E aq hr aD=>by
 rcases h with h|h
 .
  rw[h] at aD;exact ⟨aq x,λcall=>by unfold opA;rw[h],aD x (by simp[Op.operands])⟩
 rw[h] at aD
 exact ⟨aq x,λcall=>by unfold opA;rw[h],aD x (by simp[Op.operands])⟩
theorem Pf {c a b:Operand} {t:Bool} (h:o.op = .pick c a b) (hc:ev c = .bool t):bD X cf o ev H (pick2 t (ev a) (ev b)) H:=.quiet λS E aq hr aD=>by
 rw[h] at aD
 have h1:=aD c (by simp[Op.operands])
 rw[hc] at h1
 refine ⟨pick2 t (aq a) (aq b),λcall=>?_,?_⟩
 .
  unfold opA;rw[h];show Ev.yK (aq c) (aq a) (aq b) E=_;rw[h1.eU];rfl
 cases t
 .
  exact aD b (by simp[Op.operands])
 exact aD a (by simp[Op.operands])
theorem yb {x:Operand} {v:AV} (h:o.op = .nilCheck x) (hv:ev x=v) (hk:(∃id off,v = .ptr id off)\/(∃id n,v = .EF id n)\/(∃cs,v = .vM cs)\/∃f a b,v = .fn f a b):bD X cf o ev H v H:=.quiet λS E aq hr aD=>by
 rw[h] at aD
 have h1:=aD x (by simp[Op.operands])
 refine ⟨aq x,λcall=>?_,by rw[<-hv];exact h1⟩
 unfold opA;rw[h]
 show Ev.mq (aq x) E=_
 rw[hv] at h1
 rcases hk with ⟨id,off,rfl⟩|⟨id,n,rfl⟩|⟨cs,rfl⟩|⟨f,a,b,rfl⟩<;>(generalize aq x=A at h1;cases h1;rfl)
theorem FN {x:Operand} {i:Nat} {vs:List AV} {v:AV} (h:o.op = .extract x i) (hx:ev x = .cO vs) (hv:vs[i]? = some v):bD X cf o ev H v H:=.quiet λS E aq hr aD=>by
 rw[h] at aD
 have h1:=aD x (by simp[Op.operands])
 rw[hx] at h1
 generalize hA:aq x=A at h1
 cases h1 with
 |
  cO _ m hl hm =>
  obtain ⟨y,hy,hvy⟩:=LV.get (S:=S) ⟨hl,hm⟩ hv;refine ⟨y,λcall=>?_,hvy⟩
  unfold opA;rw[h];show Ev.lW (aq x) i E=_;rw[hA];simp only[Ev.lW,hy];rfl
theorem DW {f:FuncId} {first captured:Array Operand} (h:o.op = .makeFunc (.func f) first captured):bD X cf o ev H (.fn f (first.toList.map ev) (captured.toList.map ev)) H:=.quiet λS E aq hr aD=>by
 rw[h] at aD
 refine ⟨.func (.func f) (first.map aq) (captured.map aq),λcall=>by unfold opA;rw[h],?_⟩
 have e1:first.map aq=(first.toList.map aq).toArray:=by apply Array.toList_inj.1;rw[Array.toList_map]
 have e2:captured.map aq=(captured.toList.map aq).toArray:=by apply Array.toList_inj.1;rw[Array.toList_map]
 rw[e1,e2]
 have l1:=LV.map (S:=S) (f:=ev) (g:=aq) first.toList λx hx=>aD x (by show x∈first++captured;rw[Array.mem_append];exact .inl (by simpa using hx))
 have l2:=LV.map (S:=S) (f:=ev) (g:=aq) captured.toList λx hx=>aD x (by show x∈first++captured;rw[Array.mem_append];exact .inr (by simpa using hx))
 exact .fn f _ _ _ _ l1.1 l2.1 l1.2 l2.2
theorem TW {c:Call} {x y:Operand} {a b:Int} {ka kb:IntKind} (hop:o.op = .call c) (hc:c.callee = .builtin .max) (h0:c.args = #[x,y]) (hx:ev x = .int ka a) (hy:ev y = .int kb b) :
 bD X cf o ev H (.int ka (pick2 (Ev.ltI a b) b a)) H:=.quiet λS E aq hr aD=>by
 rw[hop] at aD
 have hx':=aD x (by simp[Op.operands,Call.operands,hc,h0])
 have hy':=aD y (by simp[Op.operands,Call.operands,hc,h0])
 rw[hx] at hx'
 rw[hy] at hy'
 generalize hA:aq x=A at hx'
 generalize hB:aq y=B at hy'
 cases hx'
 cases hy'
 refine ⟨.int ka (pick2 (Ev.ltI a b) b a),λcall=>?_,.int _ _⟩
 unfold opA;rw[hop]
 show Ev.bx X.P call aq o c E=_
 unfold Ev.bx
 rw[hc]
 show withMem E (pureA X.P aq o)=_
 have hp:pureA X.P aq o=some (.int ka (pick2 (Ev.ltI a b) b a)):=by
  refine qx (λcs b=>by rw[hop];simp) ?_ ?_ rfl
  .
   unfold Ev.aZ;rw[hop];simp[Op.operands,Call.operands,hc,h0,hA,hB,addrFree]
  rw[pick2_eq,Ev.ltI_spec];simp[execOp,hop,resolve,invoke,builtin,hc,h0,hA,hB,Builtin.max_,Builtin.max2];rfl
 rw[hp];rfl
theorem TX {c:Call} {x:Operand} {t te:TypeId} {id off len cap:Nat} {t':TypeId} {e:Ty} {l:List e.den} {cB:Nat} {ro:Bool} (hop:o.op = .call c) (hc:c.callee = .builtin .cap) (h0:c.args[0]? = some x) (h1:c.argTypes[0]? = some t) (hu:X.P.underlying t=some (.slice te)) (hx:ev x = .pO id off len cap) (hg:H.get id=some (.list t' e l cB true ro)) :
 bD X cf o ev H (.int .i64 cap) H:=.quiet λS E aq hr aD=>by
 rw[hop] at aD
 have hx':=aD x (by
  have:=Array.mem_of_getElem? h0;simp only[Op.operands,Call.operands,hc]
  simpa using this)
 rw[hx] at hx'
 obtain ⟨g1,⟨g0,g,g2,g2'⟩,g3⟩:=hr.row id _ hg
 generalize hA:aq x=A at hx'
 cases hx' with
 |
  pO _ _ _ _ i0 c0 s0 hρ g' hg' hcc FH =>
  rcases g3 with ⟨_,g5,_⟩|⟨i',cap',b,mid,post,q1,q2,q3,q4,q5,q6,q7,q8,q9,rU⟩
  .
   rw[hρ] at g5;cases g5
  rw[hρ] at q1;cases q1;refine ⟨goInt cap,λcall=>?_,.int _ _⟩
  unfold opA;rw[hop];show Ev.bx X.P call aq o c E=_;unfold Ev.bx;rw[hc];show Ev.nP X.P aq c.args c.argTypes E=_;unfold Ev.nP;rw[h0,h1];show withMem E (Ev.xM X.P E t (aq x))=_;rw[hA];simp only[Ev.xM,hu,q2,(q9 rfl).1];rfl
theorem FO {c:Call} {x:Operand} {t te:TypeId} {id n:Nat} {t':TypeId} {e:Ty} {l:List e.den} {cB:Nat} {ro:Bool} (hop:o.op = .call c) (hc:c.callee = .builtin .cap) (h0:c.args[0]? = some x) (h1:c.argTypes[0]? = some t) (hu:X.P.underlying t=some (.slice te)) (hx:ev x = .own id n) (hg:H.get id=some (.list t' e l cB true ro)) :
 bD X cf o ev H (.int .i64 n) H:=.quiet λS E aq hr aD=>by
 rw[hop] at aD
 have hx':=aD x (by
  have:=Array.mem_of_getElem? h0;simp only[Op.operands,Call.operands,hc]
  simpa using this)
 rw[hx] at hx'
 obtain ⟨g1,⟨g0,g,g2,g2'⟩,g3⟩:=hr.row id _ hg
 generalize hA:aq x=A at hx'
 cases hx' with
 |
  own _ _ i0 c0 s0 hρ g' hg' hn =>
  rcases g3 with ⟨_,g5,_⟩|⟨i',cap',b,mid,post,q1,q2,q3,q4,q5,q6,q7,q8,q9,rU⟩
  .
   rw[hρ] at g5;cases g5
  rw[hρ] at q1;cases q1;rw[g2] at hg';cases hg';have hcn:c0=n:=by have:=(q9 rfl).2.2;omega
  subst hcn;refine ⟨goInt c0,λcall=>?_,.int _ _⟩
  unfold opA;rw[hop];show Ev.bx X.P call aq o c E=_;unfold Ev.bx;rw[hc];show Ev.nP X.P aq c.args c.argTypes E=_;unfold Ev.nP;rw[h0,h1];show withMem E (Ev.xM X.P E t (aq x))=_;rw[hA];simp only[Ev.xM,hu,q2,(q9 rfl).1];rfl
 |
  cT _ g' hg' hn =>
  refine ⟨goInt 0,λcall=>?_,.int _ _⟩
  unfold opA;rw[hop];show Ev.bx X.P call aq o c E=_;unfold Ev.bx;rw[hc];show Ev.nP X.P aq c.args c.argTypes E=_;unfold Ev.nP;rw[h0,h1];show withMem E (Ev.xM X.P E t (aq x))=_;rw[hA];simp only[Ev.xM,hu];rfl
theorem FP {c:Call} {x:Operand} {t te:TypeId} (hop:o.op = .call c) (hc:c.callee = .builtin .cap) (h0:c.args[0]? = some x) (h1:c.argTypes[0]? = some t) (hu:X.P.underlying t=some (.slice te)) (hx:ev x = .bR) :
 bD X cf o ev H (.int .i64 0) H:=.quiet λS E aq hr aD=>by
 rw[hop] at aD
 have hx':=aD x (by
  have:=Array.mem_of_getElem? h0;simp only[Op.operands,Call.operands,hc]
  simpa using this)
 rw[hx] at hx'
 generalize hA:aq x=A at hx'
 cases hx' with
 |
  bR =>
  refine ⟨goInt 0,λcall=>?_,.int _ _⟩
  unfold opA;rw[hop];show Ev.bx X.P call aq o c E=_;unfold Ev.bx;rw[hc];show Ev.nP X.P aq c.args c.argTypes E=_;unfold Ev.nP;rw[h0,h1];show withMem E (Ev.xM X.P E t (aq x))=_;rw[hA];simp only[Ev.xM,hu];rfl
theorem Pg {c:Call} {fo:Operand} {id:FuncId} {a b:List AV} {fn:Func} {cd:Code} {v:AV} {H':aa} (hop:o.op = .call c) (hc:c.callee = .value fo) (hf:ev fo = .fn id a b) (hfn:X.P.funcs[id]? = some fn) (hbody:fn.body=some cd) (h:IU X cf id (a++(c.args.toList.map ev++b)) H v H'):zG X cf o ev H v H':=by
 intro S E aq hr hg aD
 rw[hop] at aD
 have h1:=aD fo (by simp[Op.operands,Call.operands,hc])
 rw[hf] at h1
 have h2:=LV.map (S:=S) (f:=ev) (g:=aq) c.args.toList λx hx=>aD x (by simp[Op.operands,Call.operands,hc];exact .inr (by simpa using hx))
 generalize hA:aq fo=A at h1
 cases h1 with
 |
  fn _ _ _ a' b' ha hb va vb =>
  obtain ⟨S',vE,E',⟨N,k1⟩,k2,k3,k4,k5⟩:=h S E (a'++(c.args.toList.map aq++b')) hr hg ((show LV S a a' from ⟨ha,va⟩).append (h2.append ⟨hb,vb⟩));refine ⟨S',vE,E',⟨N,λn hn=>?_⟩,k2,k3,k4,k5⟩
  unfold opA;rw[hop];show Ev.bx X.P (cf n) aq o c E=_;unfold Ev.bx;rw[hc];simp only[hA]
  have:Ev.jW X.P (cf n) (.func (.func id) a'.toArray b'.toArray) (c.args.toList.map aq) E=some (vE,E'):=by
   simp only[Ev.jW,hfn,hbody,Option.isSome_some];exact k1 n hn
  rw[this]
theorem DX {P:Program} {id:FuncId} (h:ng P id=true):∃fn cd,P.funcs[id]? = some fn/\fn.body=some cd:=by
 unfold ng at h
 split at h
 .
  rename_i fn hfn;obtain ⟨cd,hcd⟩:=Option.isSome_iff_exists.1 h;exact ⟨fn,cd,hfn,hcd⟩
 cases h
theorem Ph {S:Wo} {a:AV} {v x:Value} (h:toV a=some v) (hx:VR S a x):x=v/\addrFree v=true:=by
 unfold toV at h
 split at h
 .
  cases h;exact ⟨hx.bP,rfl⟩
 .
  cases h;exact ⟨hx.eU,rfl⟩
 .
  cases h;exact ⟨hx.eL,rfl⟩
 .
  cases h;cases hx;exact ⟨rfl,rfl⟩
 .
  cases h;cases hx with
  |
   fn _ _ _ a' b' ha hb va vb =>
   have:a'=[]:=List.length_eq_zero_iff.1 ha.symm;subst this;have:b'=[]:=List.length_eq_zero_iff.1 hb.symm;subst this;exact ⟨rfl,rfl⟩
 .
  rw[pick2_eq] at h;split at h
  .
   rename_i hf;cases h;cases hx;exact ⟨rfl,hf⟩
  cases h
 cases h
theorem DY {S:Wo} {v:Value} (h:addrFree v=true):VR S (ofR v) v:=by
 unfold ofR
 split
 .
  rename_i cs
  have hc:∀v∈cs.toList,addrFree v=true:=by
   have h:Ev.eA cs=true:=h;obtain ⟨l⟩:=cs;exact vT h
  have e:Value.tuple cs = .tuple (cs.toList).toArray:=by simp
  rw[e];have:=LV.map (S:=S) (f:=EG) (g:=λv=>v) cs.toList λv hv=>sZ (hc v hv)
  rw[List.map_id''] at this
  .
   exact .cO _ _ this.1 this.2
  intro x;rfl
 rename_i hn
 unfold ofV
 split
 .
  rename_i cs;have hc:=s8 h;have e:Value.agg cs = .agg (cs.toList).toArray:=by simp
  rw[e];have:=LV.map (S:=S) (f:=EG) (g:=λv=>v) cs.toList λv hv=>sZ (hc v (by simpa[Value.cells] using hv))
  rw[List.map_id''] at this
  .
   exact .agg _ _ this.1 this.2
  intro x;rfl
 exact sZ h
theorem xq {c:Call} {fo:Operand} {id:FuncId} {aq:Operand->Value} {a' b':List Value} (hop:o.op = .call c) (hc:c.callee = .value fo) (hA:aq fo = .func (.func id) a'.toArray b'.toArray) (hb:ng X.P id=false) (call:Ev.aP) (E:Mem) :
 opA X.P call aq o E=Ev.yL X.P aq o (aq fo) (c.args.toList.map aq) E:=by
 unfold opA;rw[hop]
 show Ev.bx X.P call aq o c E=_
 unfold Ev.bx
 rw[hc]
 have:Ev.jW X.P call (aq fo) (c.args.toList.map aq) E=none:=by
  rw[hA];unfold ng at hb;simp only[Ev.jW];cases hfn:X.P.funcs[id]? with
  |none=>rfl
  |
   some fn =>
   rw[hfn] at hb;simp only at hb;simp only[hb]
 simp only[this]
theorem uA (hsel:∀cs b,o.op ≠ .select cs b) {k:AV->Option β} (h:xR X ev o k=some r):∃v,k (ofR v)=some r/\addrFree v=true/\∀(S:Wo) (aq:Operand->Value),(∀x∈o.op.operands,VR S (ev x) (aq x))->pureA X.P aq o=some v:=by
 unfold xR at h
 rw[pick2_eq] at h
 split at h
 case isFalse=>cases h
 rename_i hall
 split at h
 case h_2=>cases h
 rename_i v hv
 rw[pick2_eq] at h
 split at h
 case isFalse=>cases h
 rename_i hfree
 refine ⟨v,h,hfree,λS aq aD=>?_⟩
 have heq:∀x∈o.op.operands,aq x=Kn (toV (ev x))/\addrFree (aq x)=true:=λx hx=>by
  have h1:=List.all_eq_true.1 hall x (by simpa using hx)
  obtain ⟨y,hy⟩:=Option.isSome_iff_exists.1 h1;obtain ⟨e1,e2⟩:=Ph hy (aD x hx);rw[hy];exact ⟨e1,by rw[e1];exact e2⟩
 refine qx hsel ?_ ?_ hfree
 .
  unfold Ev.aZ;exact List.all_eq_true.2 λx hx=>(heq x (by simpa using hx)).2
 rw[execOp_congr o hsel (λx hx=>(heq x hx).1)];exact hv
theorem TY {op:BinOp} {t t':TypeId} {x y:Operand} (hop:o.op = .binOp op t x y t') (hx:abJ (ev x)=true) {k:AV->Option β} (h:xR X ev o k=some r):∃v,k v=some r/\bD X cf o ev H v H:=by
 obtain ⟨v,h1,hfree,h2⟩:=uA (λcs b=>by rw[hop];simp) h
 refine ⟨_,h1,.quiet λS E aq hr aD=>⟨v,λcall=>?_,DY hfree⟩⟩
 have hp:=h2 S aq aD
 have hvx:=aD x (by rw[hop];simp[Op.operands])
 unfold opA
 rw[hop]
 show Ev.pW X.P aq o op t (aq x) (aq y) E=_
 cases hA:ev x with
 |
  lg n =>
  rw[hA] at hvx;generalize aq x=z at hvx;cases hvx;unfold Ev.pW;rw[hp];have e1:Ev.yJ op (.float .f64 n) (aq y)=none:=by cases aq y<;>rfl
  have e2:Ev.nO X.P op t (.float .f64 n) (aq y)=none:=by
   unfold Ev.nO;split<;>first|rfl|(rename_i h1 h2 h3;cases h2)|rfl
  rw[e1,e2];rfl
 |_=>rw[hA] at hx;cases hx
theorem Mp {s d:TypeId} {x:Operand} (hop:o.op = .convert s d x) (hd:XE X.P d=true) {k:AV->Option β} (h:xR X ev o k=some r):∃v,k v=some r/\bD X cf o ev H v H:=by
 obtain ⟨v,h1,hfree,h2⟩:=uA (λcs b=>by rw[hop];simp) h
 refine ⟨_,h1,.quiet λS E aq hr aD=>⟨v,λcall=>?_,DY hfree⟩⟩
 have hp:=h2 S aq aD
 unfold opA
 rw[hop]
 show Ev.eN X.P aq o s d (aq x) E=_
 unfold Ev.eN
 have e1:Ev.ia X.P d (aq x)=none:=by
  unfold XE at hd;unfold Ev.ia;split at hd
  .
   rename_i q hq;rw[hq]
  cases hd
 rw[e1,hp]
 cases X.P.underlying s<;>rfl
theorem zH {c:Call} {b:Builtin} (hop:o.op = .call c) (hc:c.callee = .builtin b) (hb:b = .complex\/b = .real\/b = .imag) {k:AV->Option β} (h:xR X ev o k=some r):∃v,k v=some r/\bD X cf o ev H v H:=by
 obtain ⟨v,h1,hfree,h2⟩:=uA (λcs b=>by rw[hop];simp) h
 refine ⟨_,h1,.quiet λS E aq hr aD=>⟨v,λcall=>?_,DY hfree⟩⟩
 have hp:=h2 S aq aD
 unfold opA
 rw[hop]
 show Ev.bx X.P call aq o c E=_
 unfold Ev.bx
 rw[hc]
 rcases hb with rfl|rfl|rfl
 all_goals
  show withMem E (pureA X.P aq o)=_;rw[hp];rfl
theorem TZ {c:Call} {fo:Operand} {id:FuncId} {a b:List AV} (hop:o.op = .call c) (hc:c.callee = .value fo) (hf:ev fo = .fn id a b) (hb:ng X.P id=false) (hsame:DL X.P id=false) {k:AV->Option β} (h:xR X ev o k=some r):∃v,k v=some r/\bD X cf o ev H v H:=by
 obtain ⟨v,h0,hfree,h2⟩:=uA (λcs b=>by rw[hop];simp) h
 refine ⟨_,h0,.quiet λS E aq hr aD=>⟨v,λcall=>?_,DY hfree⟩⟩
 have hp:=h2 S aq aD
 have h1:=aD fo (by rw[hop];simp[Op.operands,Call.operands,hc])
 rw[hf] at h1
 generalize hA:aq fo=A at h1
 cases h1 with
 |
  fn _ _ _ a' b' ha hbb va vb =>
  rw[xq hop hc hA hb]
  have hno:Ev.pY X.P (aq fo)=false:=by
   rw[hA];unfold Ev.pY;split
   .
    rename_i id' heq';cases heq';exact hsame
   rfl
  unfold Ev.yL;split
  .
   rw[hno,hp];rfl
  rw[hp];rfl
theorem Mq {c:Call} {fo x:Operand} {id:FuncId} (hop:o.op = .call c) (hc:c.callee = .value fo) (hf:ev fo = .fn id [] []) (hb:ng X.P id=false) (hsame:DL X.P id=true) (hx:c.args.toList=[x]):bD X cf o ev H (ev x) H:=.quiet λS E aq hr aD=>by
 have h1:=aD fo (by rw[hop];simp[Op.operands,Call.operands,hc])
 have h2:=aD x (by rw[hop];simp[Op.operands,Call.operands,hc];exact .inr (by rw[<-Array.mem_toList_iff,hx];simp))
 refine ⟨aq x,λcall=>?_,h2⟩
 rw[hf] at h1
 generalize hA:aq fo=A at h1
 cases h1 with
 |
  fn _ _ _ a' b' ha hbb va vb =>
  have:a'=[]:=List.length_eq_zero_iff.1 ha.symm;subst this;have:b'=[]:=List.length_eq_zero_iff.1 hbb.symm;subst this;rw[xq hop hc hA hb,hx];have hyes:Ev.pY X.P (aq fo)=true:=by rw[hA];exact hsame
  simp only[List.map_cons,List.map_nil,Ev.yL,hyes]
theorem td {P:Program} {t:TypeId} {d:TypeDesc} {z:Value} (h:xh P t=some (d,z)):∃kt e,P.underlying t=some (.map kt e)/\P.underlying kt=some d/\Ev.fC P e=some z/\Ev.mX d=true/\Ev.addrFree z=true:=by
 unfold xh at h
 split at h
 .
  rename_i kt e hu;split at h
  .
   rename_i d' z' h1 h2;rw[pick2_eq] at h;split at h
   .
    rename_i hc;rw[Bool.and_eq_true,Bool.and_eq_true] at hc;cases h;exact ⟨kt,e,hu,h1,h2,hc.1,hc.2.1⟩
   cases h
  cases h
 cases h
theorem DZ {t:TypeId} (hop:o.op = .makeMap t none) (hd:(xh X.P t).isSome=true):bD X cf o ev H (.zo H.next) (H.push (.mf t [])):=by
 intro S E aq hr aD
 obtain ⟨⟨d,z⟩,hz⟩:=Option.isSome_iff_exists.1 hd
 obtain ⟨kt,e,hu,_⟩:=td hz
 obtain ⟨E',hE⟩:=Mem.fA E ⟨[],t,false,true⟩
 obtain ⟨q1,q2,q3⟩:=Mem.bt hE
 obtain ⟨k1,k2,k3⟩:=hr.add (r:=.mf t []) (x:=some (E.size,0,0)) (g:=none) (by omega) q2 (λi hi=>by rw[q3,if_neg (by omega)]) (λr' hr'=>by
  cases hr';exact ⟨E.size,0,0,⟨[],t,false,true⟩,if_pos rfl,by rw[q3,if_pos rfl],rfl,rfl,rfl⟩) (λy hy=>by cases hy;exact Nat.le_refl _) rfl
 refine ⟨_,.map (some E.size),E',⟨0,λ_ _=>?_⟩,k1,.zo _ E.size 0 0 (if_pos rfl),k2,k3⟩
 unfold opA;rw[hop]
 show Ev.gN X.P t none E=_
 unfold Ev.gN
 rw[hu]
 simp only[hE]
theorem th {S:Wo} {d:TypeDesc} {a b:AV} {x y:Value} {r:Bool} (h:B6 d a b=some r) (ha:VR S a x) (hb:VR S b y):Ev.EM d x y=some r:=by
 unfold B6 at h
 split at h
 .
  rename_i s q;have hx:=ha.eL;have hy:=hb.eL;subst hx;subst hy;cases h;show some (Ev.iL s.toArray.toList q.toArray.toList)=_;rw[Ev.fu]
 .
  have hx:=ha.bP;have hy:=hb.bP;subst hx;subst hy;exact h
 cases h
theorem FQ {S:Wo} {d:TypeDesc} {a:AV} {x:Value} (h:vO d a=true) (ha:VR S a x):Ev.addrFree x=true:=by
 unfold vO at h
 split at h
 .
  have hx:=ha.eL;subst hx;rfl
 .
  have hx:=ha.bP;subst hx;rfl
 cases h
theorem Ce {β:Type} {d:TypeDesc} {s:AV} {z:AV} {k:AV->Bool->Option β} {r:β}:∀{ks:List (AV×AV)},OT d s z k ks=some r ->
 ∃v b,k v b=some r/\∀(S:Wo) (xs:Value) (cs:List Value) (i:Nat),VR S s xs->MC S ks cs->(b=false/\v=z/\Ev.mA d xs cs i=some none)\/(b=true/\∃j x,Ev.mA d xs cs i=some (some (j,x))/\VR S v x)
 |
  [],h=>⟨z,false,h,λS xs cs i hs hc=>by
  have hc:cs=[]:=hc;subst hc;exact .inl ⟨rfl,rfl,rfl⟩⟩
 |
  q::ks,h=>by
  unfold OT at h;split at h
  case h_2=>cases h
  rename_i b0 hb0;rw[pick2_eq] at h;split at h
  .
   rename_i he;subst he;refine ⟨q.2,true,h,λS xs cs i hs hc=>?_⟩
   obtain ⟨y,x,r',rfl,h0,h2,h3⟩:=hc;refine .inr ⟨rfl,i,x,?_,h2⟩;unfold Ev.mA;rw[th hb0 hs h0]
  rename_i he;have he:b0=false:=by simpa using he
  subst he;obtain ⟨v,b,h1,h2⟩:=Ce h;refine ⟨v,b,h1,λS xs cs i hs hc=>?_⟩
  obtain ⟨y,x,r',rfl,h0,h3,h4⟩:=hc;have:=h2 S xs r' (i+1) hs h4;unfold Ev.mA;rw[th hb0 hs h0];exact this
theorem Mr {t:TypeId} {x q:Operand} {ok:Bool} (hop:o.op = .lookup t x q ok) {id:Nat} (hx:ev x = .zo id) {t':TypeId} {ks:List (AV×AV)} (hg:H.get id=some (.mf t' ks)) {d:TypeDesc} {z:Value} (hz0:xh X.P t=some (d,z)) {k:AV->Option β}
 (h:pick2 (Nat.beq t' t&&ok&&vO d (ev q)) (OT d (ev q) (.x8 z) (λv b=>k (.cO [v,.bool b])) ks) none=some r):∃v,k v=some r/\bD X cf o ev H v H:=by
 rw[pick2_eq] at h
 split at h
 case isFalse=>cases h
 rename_i hc
 rw[Bool.and_eq_true,Bool.and_eq_true,Nat.beq_eq] at hc
 obtain ⟨⟨rfl,rfl⟩,hfit⟩:=hc
 obtain ⟨kt,e,hu,hks,hz,Ka,hfree⟩:=td hz0
 obtain ⟨v,b,h1,h2⟩:=Ce h
 refine ⟨_,h1,.quiet λS E aq hr aD=>?_⟩
 have e1:=aD x (by rw[hop];simp[Op.operands])
 have e2:=aD q (by rw[hop];simp[Op.operands])
 rw[hx] at e1
 obtain ⟨i,c,s0,b0,r1,r2,r3,r4,r5⟩:=hr.row id _ hg
 generalize hA:aq x=A at e1
 cases e1 with
 |
  zo _ i' c' s' hρ =>
  rw[r1] at hρ;cases hρ;have hm:Ev.mapOf E i=some b0:=by unfold Ev.mapOf;rw[r2];simp only[r3,Ev.fq]
  have go:∀(y:Value),Ev.pn X.P E t' (aq x) (aq q) true=some y->∀call,opA X.P call aq o E=some (y,E):=λy hy call=>by
   unfold opA;rw[hop];show withMem E (Ev.pn X.P E t' (aq x) (aq q) true)=_;rw[hy];rfl
  rcases h2 S (aq q) b0.cells 0 e2 r4 with ⟨rfl,rfl,hf⟩|⟨rfl,j,y,hf,hy⟩
  .
   refine ⟨.tuple #[z,.bool false],go _ ?_,.cO _ [z,.bool false] rfl (LV.cons (.x8 z hfree) (LV.cons (.bool _) LV.nil)).2⟩;unfold Ev.pn;rw[hu,hA];simp only[hks,hz,Ev.jy,hm,hf,Ka,Ev.fq]
  refine ⟨.tuple #[y,.bool true],go _ ?_,.cO _ [y,.bool true] rfl (LV.cons hy (LV.cons (.bool _) LV.nil)).2⟩;unfold Ev.pn;rw[hu,hA];simp only[hks,hz,Ev.jy,hm,hf,Ka,Ev.fq]
theorem Cf {S:Wo} {d:TypeDesc} {s:AV} {xs:Value} (hs:VR S s xs):∀{ks:List (AV×AV)} {cs:List Value} (i:Nat),(ks.all λp=>B6 d s p.1==some false)=true->MC S ks cs->Ev.mA d xs cs i=some none
 |
  [],cs,i,_,h=>by
  have h:cs=[]:=h;subst h;rfl
 |
  q::ks,cs,i,ha,⟨y,x,r,h1,h0,h2,h3⟩=>by
  subst h1;simp only[List.all_cons,Bool.and_eq_true,beq_iff_eq] at ha;unfold Ev.mA;rw[th ha.1 hs h0];exact Cf hs (i+1) ha.2 h3
structure Cg (X:cR) (o:Oper) (t:TypeId) (m q x:Operand):Prop where
 m1:m∈o.op.operands
 q1:q∈o.op.operands
 x1:x∈o.op.operands
 go:∀call aq E,opA X.P call aq o E=Ev.jz X.P t (aq m) (aq q) (aq x) E
theorem Cg.upd {t:TypeId} {m q x:Operand} (hop:o.op = .mapUpdate t m q x):Cg X o t m q x :=
 ⟨by rw[hop];simp[Op.operands],by rw[hop];simp[Op.operands],by rw[hop];simp[Op.operands],λcall aq E=>by unfold opA;rw[hop]⟩
theorem Cg.ins {t:TypeId} {m q x:Operand} (hop:o.op = .insert t m q x):Cg X o t m q x :=
 ⟨by rw[hop];simp[Op.operands],by rw[hop];simp[Op.operands],by rw[hop];simp[Op.operands],λcall aq E=>by unfold opA;rw[hop]⟩
theorem FR {t:TypeId} {m q x:Operand} (hop:Cg X o t m q x) {id:Nat} (hm:ev m = .zo id) {t':TypeId} {ks:List (AV×AV)} (hg:H.get id=some (.mf t' ks)) {d:TypeDesc} {z:Value} (hz0:xh X.P t=some (d,z)) {k:AV->aa->Option β}
 (h:pick2 (Nat.beq t' t&&H.jM id&&mE (ev x)&&vO d (ev q)&&ks.all λp=>B6 d (ev q) p.1==some false) (k .iO (H.put id (.mf t' (ks++[(ev q,ev x)])))) none=some r):∃v H',k v H'=some r/\bD X cf o ev H v H':=by
 rw[pick2_eq] at h
 split at h
 case isFalse=>cases h
 rename_i hc
 rw[Bool.and_eq_true,Bool.and_eq_true,Bool.and_eq_true,Bool.and_eq_true,Nat.beq_eq] at hc
 obtain ⟨⟨⟨⟨rfl,hmay⟩,_⟩,hfit⟩,hall⟩:=hc
 obtain ⟨kt,e,hu,hks,hz,Ka,_⟩:=td hz0
 refine ⟨_,_,h,λS E aq hr aD=>?_⟩
 have h1:=aD m hop.m1
 have h2:=aD q hop.q1
 have h3:=aD x hop.x1
 rw[hm] at h1
 obtain ⟨i,c,s0,b0,r1,r2,r3,r4,r5⟩:=hr.row id _ hg
 generalize hA:aq m=A at h1
 cases h1 with
 |
  zo _ i' c' s' hρ =>
  rw[r1] at hρ;cases hρ;have hmo:Ev.mapOf E i=some b0:=by unfold Ev.mapOf;rw[r2];simp only[r3,Ev.fq]
  have hmay':H.lk<=id:=by simpa[aa.jM,Nat.ble_eq] using hmay
  have hlk:=hr.lk id _ _ hg hmay' r1;obtain ⟨E',hE⟩:=Mem.dX (b:={ b0 with cells:=b0.cells++[aq q,aq x] }) (Mem.bB r2) hlk
  obtain ⟨z1,z2,z3,z4,z5⟩:=Mem.eP hE
  obtain ⟨m1,m2⟩:=hr.mod (S':=S) (E':=E') (r':=.mf t' (ks++[(ev q,ev x)])) hg rfl S.le_refl rfl (λ_ _ _=>rfl) z3 z4 (λj hj=>by rw[z5,if_neg (hj _ r1)]) (λj cs h=>.inl h) (λq' hq=>by
   cases hq;exact ⟨i,c,s0,{ b0 with cells:=b0.cells++[aq q,aq x] },r1,by rw[z5,if_pos rfl],r3,r4.snoc h2 h3,r5⟩)
  refine ⟨S,undef,E',⟨0,λ_ _=>?_⟩,S.le_refl,.iO _,m1,m2⟩
  rw[hop.go];unfold Ev.jz;rw[hu,hA];simp only[hks,hmo,Ka,FQ hfit h2,Bool.and_self,Ev.fq,Cf h2 0 hall r4,hE]
theorem vX {P:Program} {t:TypeId} (h:L3 P t=true):∃kt e,P.underlying t=some (.map kt e)/\P.underlying kt=some .string/\Ev.fC P e=some (.int .i64 0):=by
 unfold L3 at h
 split at h
 .
  rename_i kt e hu;split at h
  .
   rename_i h1 h2 h3;exact ⟨kt,e,hu,h1,h3⟩
  cases h
 cases h
theorem vY (s:List UInt8) (n:Int):∀(ks:List (List UInt8×Int)) (i:Nat),
 (qs ks s=true/\∃j,Ev.mA .string (.string ⟨s.toArray⟩) (dH ks) i=some (some (i+j,.int .i64 (mG ks s)))/\(dH ks).set (2*j+1) (.int .i64 n)=dH (nJ ks s n)) \/
 (qs ks s=false/\Ev.mA .string (.string ⟨s.toArray⟩) (dH ks) i=some none/\mG ks s=0/\dH ks++[.string ⟨s.toArray⟩,.int .i64 n]=dH (nJ ks s n))
 |[],i=>.inr ⟨rfl,rfl,rfl,rfl⟩
 |
  (q,m)::ks,i=>by
  have e1:Ev.EM .string (.string ⟨s.toArray⟩) (.string ⟨q.toArray⟩)=some (decide (s=q)):=by
   show some (Ev.iL s.toArray.toList q.toArray.toList)=_;rw[Ev.fu]
  unfold qs mG nJ dH Ev.mA;rw[e1];by_cases h:s=q
  .
   subst h
   left
   rw[decide_eq_true rfl];refine ⟨rfl,0,rfl,rfl⟩
  rw[decide_eq_false h];rcases vY s n ks (i+1) with ⟨h1,j,h2,h3⟩|⟨h1,h2,h3,h4⟩
  .
   left
   refine ⟨h1,j+1,?_,?_⟩
   .
    show Ev.mA .string _ (dH ks) (i+1)=_;rw[h2,show i+1+j=i+(j+1) by omega]
   show (Value.string ⟨q.toArray⟩::Value.int .i64 m::dH ks).set (2*(j+1)+1) _=Value.string ⟨q.toArray⟩::Value.int .i64 m::dH (nJ ks s n);rw[show 2*(j+1)+1=(2*j+1)+1+1 by omega,List.set_cons_succ,List.set_cons_succ,h3]
  right
  refine ⟨h1,h2,h3,?_⟩;show Value.string ⟨q.toArray⟩::Value.int .i64 m::(dH ks++_)=Value.string ⟨q.toArray⟩::Value.int .i64 m::dH (nJ ks s n);rw[h4]
theorem FT {t:TypeId} (hop:o.op = .makeMap t none) (hd:L3 X.P t=true):bD X cf o ev H (.zo H.next) (H.push (.mp t [])):=by
 intro S E aq hr aD
 obtain ⟨kt,e,hu,_,_⟩:=vX hd
 obtain ⟨E',hE⟩:=Mem.fA E ⟨[],t,false,true⟩
 obtain ⟨q1,q2,q3⟩:=Mem.bt hE
 obtain ⟨k1,k2,k3⟩:=hr.add (r:=.mp t []) (x:=some (E.size,0,0)) (g:=none) (by omega) q2 (λi hi=>by rw[q3,if_neg (by omega)]) (λr' hr'=>by
  cases hr';exact ⟨E.size,0,0,⟨[],t,false,true⟩,if_pos rfl,by rw[q3,if_pos rfl],rfl,rfl,rfl⟩) (λy hy=>by cases hy;exact Nat.le_refl _) rfl
 refine ⟨_,.map (some E.size),E',⟨0,λ_ _=>?_⟩,k1,.zo _ E.size 0 0 (if_pos rfl),k2,k3⟩
 unfold opA;rw[hop]
 show Ev.gN X.P t none E=_
 unfold Ev.gN
 rw[hu]
 simp only[hE]
theorem Pj {t:TypeId} {x q:Operand} {ok:Bool} (hop:o.op = .lookup t x q ok) {k:AV->Option β} (h:OU X H t (ev x) (ev q) ok k=some r):∃v,k v=some r/\bD X cf o ev H v H:=by
 unfold OU at h
 split at h
 case h_2=>cases h
 rename_i id hx
 split at h
 case h_3=>cases h
 case h_2 =>
  rename_i t' ks hg;split at h
  .
   rename_i d z hz0;exact Mr hop hx hg hz0 h
  cases h
 rename_i t' ks hg
 split at h
 case h_2=>cases h
 rename_i s hq
 rw[pick2_eq] at h
 split at h
 case isFalse=>cases h
 rename_i hc
 rw[Bool.and_eq_true,Nat.beq_eq] at hc
 obtain ⟨hd,rfl⟩:=hc
 obtain ⟨kt,e,hu,hks,hz⟩:=vX hd
 have main:∀(S:Wo) (E:Mem) (aq:Operand->Value),Rel S H E->(∀x∈o.op.operands,VR S (ev x) (aq x))->∀call,opA X.P call aq o E=some (pick2 ok (.tuple #[.int .i64 (mG ks s),.bool (qs ks s)]) (.int .i64 (mG ks s)),E):=by
  intro S E aq hr aD call;have h1:=aD x (by rw[hop];simp[Op.operands])
  have h2:=aD q (by rw[hop];simp[Op.operands])
  rw[hx] at h1;rw[hq] at h2;have h2:=h2.eL;obtain ⟨i,c,s0,b,r1,r2,r3,r4,r5⟩:=hr.row id _ hg;generalize hA:aq x=A at h1;cases h1 with
  |
   zo _ i' c' s' hρ =>
   rw[r1] at hρ;cases hρ;have hm:Ev.mapOf E i=some b:=by unfold Ev.mapOf;rw[r2];simp only[r3,Ev.fq]
   unfold opA;rw[hop];show withMem E (Ev.pn X.P E t' (aq x) (aq q) ok)=_
   have:Ev.pn X.P E t' (aq x) (aq q) ok=some (pick2 ok (.tuple #[.int .i64 (mG ks s),.bool (qs ks s)]) (.int .i64 (mG ks s))):=by
    unfold Ev.pn;rw[hu,hA,h2];simp only[hks,hz,Ev.jy,hm,r4];rcases vY s 0 ks 0 with ⟨g1,j,g2,_⟩|⟨g1,g2,g3,_⟩
    .
     rw[g2,g1];rfl
    rw[g2,g1,g3];rfl
   rw[this];rfl
 cases ok with
 |true=>exact ⟨_,h,.quiet λS E aq hr aD=>⟨_,main S E aq hr aD,.cO _ [.int .i64 (mG ks s),.bool (qs ks s)] rfl (LV.cons (.int _ _) (LV.cons (.bool _) LV.nil)).2⟩⟩
 |false=>exact ⟨_,h,.quiet λS E aq hr aD=>⟨_,main S E aq hr aD,.int _ _⟩⟩
theorem zI {t:TypeId} {m q x:Operand} (hop:Cg X o t m q x) {k:AV->aa->Option β} (h:x9 X H t (ev m) (ev q) (ev x) (λH'=>k .iO H')=some r):∃v H',k v H'=some r/\bD X cf o ev H v H':=by
 unfold x9 at h
 split at h
 case h_2=>cases h
 rename_i id hm
 split at h
 case h_3=>cases h
 case h_2 =>
  rename_i t' ks hg;split at h
  .
   rename_i d z hz0;exact FR hop hm hg hz0 h
  cases h
 rename_i t' ks hg
 split at h
 case h_2=>cases h
 rename_i s n hq hx
 rw[pick2_eq] at h
 split at h
 case isFalse=>cases h
 rename_i hc
 rw[Bool.and_eq_true,Bool.and_eq_true,Nat.beq_eq] at hc
 obtain ⟨⟨hd,rfl⟩,hmay⟩:=hc
 obtain ⟨kt,e,hu,hks,hz⟩:=vX hd
 refine ⟨_,_,h,λS E aq hr aD=>?_⟩
 have h1:=aD m hop.m1
 have h2:=aD q hop.q1
 have h3:=aD x hop.x1
 rw[hm] at h1;rw[hq] at h2;rw[hx] at h3
 have h2:=h2.eL
 have h3:=h3.bP
 obtain ⟨i,c,s0,b,r1,r2,r3,r4,r5⟩:=hr.row id _ hg
 generalize hA:aq m=A at h1
 cases h1 with
 |
  zo _ i' c' s' hρ =>
  rw[r1] at hρ;cases hρ;have hmo:Ev.mapOf E i=some b:=by unfold Ev.mapOf;rw[r2];simp only[r3,Ev.fq]
  have hmay':H.lk<=id:=by simpa[aa.jM,Nat.ble_eq] using hmay
  have hlk:=hr.lk id _ _ hg hmay' r1;obtain ⟨E',hE⟩:=Mem.dX (b:={ b with cells:=dH (nJ ks s n) }) (Mem.bB r2) hlk
  obtain ⟨z1,z2,z3,z4,z5⟩:=Mem.eP hE
  obtain ⟨m1,m2⟩:=hr.mod (S':=S) (E':=E') (r':=.mp t' (nJ ks s n)) hg rfl S.le_refl rfl (λ_ _ _=>rfl) z3 z4 (λj hj=>by rw[z5,if_neg (hj _ r1)]) (λj cs h=>.inl h) (λq hq=>by
   cases hq;exact ⟨i,c,s0,{ b with cells:=dH (nJ ks s n) },r1,by rw[z5,if_pos rfl],r3,rfl,r5⟩)
  refine ⟨S,undef,E',⟨0,λ_ _=>?_⟩,S.le_refl,.iO _,m1,m2⟩
  rw[hop.go];unfold Ev.jz;rw[hu,hA,h2,h3];simp only[hks,hmo,r4];show pick2 (Ev.mX .string&&Ev.addrFree (.string ⟨s.toArray⟩)) _ none=_;rw[show (Ev.mX .string&&Ev.addrFree (.string ⟨s.toArray⟩))=true from rfl,Ev.fq];rcases vY s n ks 0 with ⟨_,j,g2,g3⟩|⟨_,g2,_,g4⟩
  .
   rw[g2];simp only[Nat.zero_add,g3,hE]
  rw[g2];simp only[g4,hE]
theorem XU {call:aY β} (hcall:aQ X cf call) {tr:List Tmp} {k:AV->aa->Option β} (h:NV X call tr ev o H k=some r):∃v H',k v H'=some r/\zG X cf o ev H v H':=by
 have q1:∀{v:AV},(∃v,k v H=some r/\bD X cf o ev H v H)->∃v H',k v H'=some r/\zG X cf o ev H v H':=λ⟨v,h1,h2⟩=>⟨v,H,h1,h2.dz⟩
 have q2:(∃v H',k v H'=some r/\bD X cf o ev H v H')->∃v H',k v H'=some r/\zG X cf o ev H v H':=λ⟨v,H',h1,h2⟩=>⟨v,H',h1,h2.dz⟩
 unfold NV at h
 split at h
 .
  rename_i x hop;exact ⟨_,_,h,(FM (.inl hop)).dz⟩
 .
  rename_i x hop;exact ⟨_,_,h,(FM (.inr hop)).dz⟩
 .
  rename_i c a b hop;split at h
  .
   rename_i t hc;refine ⟨pick2 t (ev a) (ev b),H,?_,(Pf hop hc).dz⟩;cases t<;>exact h
  cases h
 .
  rename_i hop;rw[pick2_eq] at h;split at h
  .
   rename_i hx;exact q1 (v:=.iO) (TY hop hx h)
  exact q1 (v:=.iO) (Mc hop h)
 .
  rename_i hop;exact q1 (v:=.iO) (XJ hop h)
 .
  rename_i t hop;rw[pick2_eq] at h;split at h
  .
   exact q2 (Ml hop h)
  split at h
  .
   rename_i z hz;exact ⟨_,_,h,(Mk hop hz).dz⟩
  cases h
 .
  rename_i t x hop;split at h
  .
   rename_i n cs hn hc;exact ⟨_,_,h,(TV hop hn hc).dz⟩
  cases h
 .
  rename_i hop;exact q1 (v:=.iO) (Mn hop h)
 .
  rename_i hop;exact q2 (zF hop h)
 .
  rename_i hop;exact q1 (v:=.iO) (O4 hop h)
 .
  rename_i hop;exact q2 (Mi hop h)
 .
  rename_i x hop;split at h
  .
   rename_i id off hx;exact ⟨_,_,h,(yb hop hx (.inl ⟨_,_,rfl⟩)).dz⟩
  .
   rename_i id n hx;exact ⟨_,_,h,(yb hop hx (.inr (.inl ⟨_,_,rfl⟩))).dz⟩
  .
   rename_i cs hx;exact ⟨_,_,h,(yb hop hx (.inr (.inr (.inl ⟨_,rfl⟩)))).dz⟩
  .
   rename_i f a b hx;exact ⟨_,_,h,(yb hop hx (.inr (.inr (.inr ⟨_,_,_,rfl⟩)))).dz⟩
  cases h
 .
  rename_i hop;exact q1 (v:=.iO) (Mf hop h)
 .
  rename_i hop;exact q1 (v:=.iO) (TR hop h)
 .
  rename_i x i hop;split at h
  .
   rename_i vs hx;split at h
   .
    rename_i v hv;exact ⟨_,_,h,(FN hop hx hv).dz⟩
   cases h
  cases h
 .
  rename_i hop;exact q2 (Pc hop h)
 .
  rename_i hop;exact ⟨_,_,h,(DW hop).dz⟩
 .
  rename_i t x lo hi hop;split at h
  .
   rename_i d y _;rw[pick2_eq] at h;split at h
   .
    exact q2 (Mj hop h)
   exact q2 (vR hop h)
  exact q2 (vR hop h)
 .
  rename_i t x f hop;split at h
  .
   rename_i fs cs hu hx;split at h
   .
    rename_i fd Ti;exact q1 (v:=.iO) (IP hop hu hx Ti h)
   cases h
  cases h
 .
  rename_i hop;exact q1 (v:=.iO) (Mg hop h)
 .
  rename_i hop;rw[pick2_eq] at h;split at h
  .
   rename_i hd;exact q1 (v:=.iO) (Mp hop hd h)
  exact q2 (Pd hop h)
 .
  rename_i c hop;split at h
  .
   rename_i f hc;split at h
   .
    rename_i id a b hf;rw[pick2_eq] at h;split at h
    .
     rename_i hb;obtain ⟨fn,cd,hfn,hcd⟩:=DX hb;obtain ⟨v,H',h1,h2⟩:=hcall _ _ _ _ _ h;exact ⟨v,H',h1,Pg hop hc hf hfn hcd h2⟩
    rename_i hb;have hb:ng X.P id=false:=by simpa using hb
    rw[pick2_eq] at h;split at h
    .
     rename_i hsame;split at h
     .
      rename_i x hx;exact ⟨_,_,h,(Mq hop hc hf hb hsame hx).dz⟩
     cases h
    rename_i hsame;exact q1 (v:=.iO) (TZ hop hc hf hb (by simpa using hsame) h)
   cases h
  .
   rename_i hc;split at h
   .
    rename_i x t h0 h1;exact q1 (v:=.iO) (TT hop hc h0 h1 h)
   cases h
  .
   rename_i hc;split at h
   .
    rename_i s x st xt h0 h1 h2 h3;exact q2 (IQ hop hc h0 h1 h2 h3 h)
   cases h
  .
   rename_i hc;split at h
   .
    rename_i d x dt h0 h1 h2;exact q2 (Pa hop hc h0 h1 h2 h)
   cases h
  .
   rename_i hc;split at h
   .
    rename_i x h0;obtain ⟨v,h1,h2⟩:=Bm hop hc h0 h;exact ⟨v,_,h1,h2.dz⟩
   cases h
  .
   rename_i hc;split at h
   .
    rename_i p n pt it h0 h1;exact q2 (Pe hop hc h0 h1 h)
   cases h
  .
   rename_i hc;split at h
   .
    rename_i x y h0;split at h
    .
     rename_i ka a kb b hx hy;exact ⟨_,_,h,(TW hop hc (Array.toList_inj.1 h0) hx hy).dz⟩
    cases h
   cases h
  .
   rename_i hc;split at h
   .
    rename_i x t h0 h1;split at h
    .
     rename_i te id off len cap hu hx;split at h
     .
      rename_i t' e l cB ro hg;exact ⟨_,_,h,(TX hop hc h0 h1 hu hx hg).dz⟩
     cases h
    .
     rename_i te id n hu hx;split at h
     .
      rename_i t' e l cB ro hg;exact ⟨_,_,h,(FO hop hc h0 h1 hu hx hg).dz⟩
     cases h
    .
     rename_i te hu hx;exact ⟨_,_,h,(FP hop hc h0 h1 hu hx).dz⟩
    cases h
   cases h
  .
   rename_i hc;exact q1 (v:=.iO) (zH hop hc (.inl rfl) h)
  .
   rename_i hc;exact q1 (v:=.iO) (zH hop hc (.inr (.inl rfl)) h)
  .
   rename_i hc;exact q1 (v:=.iO) (zH hop hc (.inr (.inr rfl)) h)
  cases h
 .
  rename_i hop;rw[pick2_eq] at h;split at h
  .
   rename_i hd;exact ⟨_,_,h,(FT hop hd).dz⟩
  rw[pick2_eq] at h;split at h
  .
   rename_i hd;exact ⟨_,_,h,(DZ hop hd).dz⟩
  cases h
 .
  rename_i hop;exact q1 (v:=.iO) (Pj hop h)
 .
  rename_i hop;exact q2 (zI (.upd hop) h)
 .
  rename_i hop;exact q2 (zI (.ins hop) h)
 cases h
end
end Go.Tv

namespace Go.Tv
open Go.Ev (Tr pick2 Leave Mem Blk alive pick2_eq alive_some opA Fr)
structure gS (S:Wo) (f:cj) (fE:Fr):Prop where
 n:f.n=fE.n
 v:∀i,VR S (f.get i) (fE.get i)
theorem gS.mono {S S':Wo} {f:cj} {fE:Fr} (h:gS S f fE) (hle:S.le S'):gS S' f fE:=⟨h.n,λi=>(h.v i).mono hle⟩
theorem cj.D0 (f:cj) (d:Tmp) (v:AV):(f.put (some d) v).n=f.n/\∀i,(f.put (some d) v).get i=if i=d/\d<f.n then v else f.get i:=by
 have e:f.put (some d) v=pick2 (Nat.ble (Nat.succ d) f.n) (Option.rec (motive:=λ_=>cj) f (λt=>⟨f.n,t⟩) (f.t.set d v)) f:=rfl
 rw[e,pick2_eq,Ev.gu]
 simp only[decide_eq_true_eq]
 by_cases hd:d<f.n
 .
  rw[if_pos hd];obtain ⟨t',ht⟩:=Tr.dX v f.t d;rw[ht];refine ⟨rfl,λi=>?_⟩
  show (Option.rec (motive:=λ_=>AV) .iO (λv=>v) (t'.get i))=_
  rw[Tr.rq ht];by_cases hi:i=d
  .
   rw[if_pos hi,if_pos ⟨hi,hd⟩]
  rw[if_neg hi,if_neg (λh=>hi h.1)];rfl
 rw[if_neg hd]
 exact ⟨rfl,λi=>by rw[if_neg (λh=>hd h.2)]⟩
theorem Fr.rE (f:Fr) (dst:Option Tmp) (v:Value):∃f',f.put dst v=some f':=by
 cases dst with
 |none=>exact ⟨f,rfl⟩
 |
  some d =>
  have e:f.put (some d) v=pick2 (Nat.ble (Nat.succ d) f.n) (Option.rec (motive:=λ_=>Option Fr) none (λt=>some ⟨f.n,t⟩) (f.t.set d v)) (some f):=rfl
  rw[e,pick2_eq];split
  .
   obtain ⟨t',ht⟩:=Tr.dX v f.t d;rw[ht];exact ⟨_,rfl⟩
  exact ⟨_,rfl⟩
theorem gS.put {S:Wo} {f:cj} {fE fE':Fr} (h:gS S f fE) {dst:Option Tmp} {v:AV} {x:Value} (hv:VR S v x) (hp:fE.put dst x=some fE'):gS S (f.put dst v) fE':=by
 obtain ⟨e1,e2⟩:=Ev.Fr.cE hp
 cases dst with
 |none=>exact ⟨h.n.trans e1.symm,λi=>by rw[e2,if_neg (by simp)];exact h.v i⟩
 |
  some d =>
  obtain ⟨g1,g2⟩:=cj.D0 f d v;refine ⟨by rw[g1,e1,h.n],λi=>?_⟩
  rw[g2,e2];by_cases hi:i=d/\d<f.n
  .
   obtain ⟨rfl,hd⟩:=hi;rw[if_pos ⟨rfl,hd⟩,if_pos ⟨rfl,by rw[<-h.n];exact hd⟩];exact hv
  rw[if_neg hi,if_neg (λhh=>hi ⟨by have:=hh.1;simp at this;exact this.symm,by have:=hh.1;simp at this;subst this;rw[h.n];exact hh.2⟩)]
  exact h.v i
theorem gS.know {S:Wo} {f:cj} {fE:Fr} (h:gS S f fE) {d:Tmp} {v:AV} (hv:VR S v (fE.get d)):gS S (f.put (some d) v) fE:=by
 obtain ⟨g1,g2⟩:=cj.D0 f d v
 refine ⟨by rw[g1,h.n],λi=>?_⟩
 rw[g2]
 by_cases hi:i=d/\d<f.n
 .
  obtain ⟨rfl,_⟩:=hi;rw[if_pos ⟨rfl,by assumption⟩];exact hv
 rw[if_neg hi];exact h.v i
theorem XV {S:Wo} {v:Value} (h:Ev.addrFree v=true):VR S (ofV v) v:=by
 unfold ofV
 split
 .
  rename_i cs;have hc:=s8 h;have e:Value.agg cs = .agg (cs.toList).toArray:=by simp
  rw[e];have:=LV.map (S:=S) (f:=EG) (g:=λv=>v) cs.toList λv hv=>sZ (hc v (by simpa[Value.cells] using hv))
  rw[List.map_id''] at this
  .
   exact .agg _ _ this.1 this.2
  intro x;rfl
 exact sZ h
theorem oh {X:cR} {S:Wo} {f:cj} {fE:Fr} (h:gS S f fE) (hg:bS X S) {x:Operand} (hx:Ev.bA X.G x=true):VR S (f.eval X x) (fE.eval x):=by
 cases x with
 |tmp t=>exact h.v t
 |const v=>exact XV hx
 |
  global g =>
  have hlt:g<X.G:=by simpa[Ev.bA,Nat.blt_eq] using hx
  show VR S (V1 (X.gv g)) _;have hg:=hg g hlt;revert hg;generalize X.gv g=gs;intro hg;cases gs with
  |nil=>exact .iO _
  |
   cons c l =>
   obtain ⟨cs,h1,h2⟩:=hg (by simp)
   have h2:=h2 S λ_ _ h=>h
   exact .vM (c::l) g [] cs [] (by simpa using h1) h2.1 h2.2
 |func f=>exact .fn f [] [] [] [] rfl rfl (λj x y hx=>by simp at hx) (λj x y hx=>by simp at hx)
section
variable {X:cR} {cf:Nat×Nat->Ev.aP} {β:Type} {r:β}
def D1 (X:cR) (run:Nat×Nat->Fr->Mem->Option (Fr×Mem)) (f:cj) (H:aa) (f':cj) (H':aa):Prop :=
 ∀(S:Wo) (E:Mem) (fE:Fr),Rel S H E->bS X S->gS S f fE ->
  ∃S' fE' E',(∃N,∀n:Nat×Nat,N<=n.1/\N<=n.2->run n fE E=some (fE',E'))/\S.le S'/\gS S' f' fE'/\Rel S' H' E'/\St S H E S' H' E'
theorem uB {call:aY β} (hcall:aQ X cf call) {tr:List Tmp} {ops:List Oper} {o:Oper} (hok:∀x∈o.op.operands,Ev.bA X.G x=true) {f:cj} {H:aa} {k:cj->aa->Option β} (h:stepT X call tr ops o f H k=some r) :
 ∃f' H',k f' H'=some r/\D1 X (λn fE E=>Ev.dS X.P (cf n) ops o fE E) f H f' H':=by
 -- the operation is done
 have run:∀(f1:cj) (k1:AV->aa->Option β),NV X call tr (f1.eval X) o H k1=some r->∃v H',k1 v H'=some r/\∀(S:Wo) (E:Mem) (fE:Fr),Rel S H E->bS X S->gS S f1 fE->Ev.gO o ops fE=true ->
  ∃S' fE' E',(∃N,∀n:Nat×Nat,N<=n.1/\N<=n.2->Ev.dS X.P (cf n) ops o fE E=some (fE',E'))/\S.le S'/\gS S' (f1.put o.dst v) fE'/\Rel S' H' E'/\St S H E S' H' E':=by
  intro f1 k1 h1;obtain ⟨v,H',e1,e2⟩:=XU hcall h1;refine ⟨v,H',e1,λS E fE hr hg hf hw=>?_⟩
  obtain ⟨S',vE,E',⟨N,k1⟩,k2,k3,k4,k5⟩:=e2 S E fE.eval hr hg λx hx=>oh hf hg (hok x hx)
  obtain ⟨fE',hp⟩:=Fr.rE fE o.dst vE;refine ⟨S',fE',E',⟨N,λn hn=>?_⟩,k2,(hf.mono k2).put k3 hp,k4,k5⟩
  unfold Ev.dS;rw[hw,k1 n hn];show Ev.nR fE o.dst (some (vE,E'))=_;simp only[Ev.nR,hp]
 -- it is not
 have skip:∀(f1:cj) (S:Wo) (E:Mem) (fE:Fr),Rel S H E->gS S f1 fE->Ev.gO o ops fE=false ->
  ∃S' fE' E',(∃N,∀n:Nat×Nat,N<=n.1/\N<=n.2->Ev.dS X.P (cf n) ops o fE E=some (fE',E'))/\S.le S'/\gS S' (f1.put o.dst (.cO [])) fE'/\Rel S' H E'/\St S H E S' H E':=by
  intro f1 S E fE hr hf hw;obtain ⟨fE',hp⟩:=Fr.rE fE o.dst undef;refine ⟨S,fE',E,⟨0,λn _=>?_⟩,S.le_refl,hf.put (.cO [] [] rfl λj x y hx=>by simp at hx) hp,hr,St.refl _ _ _⟩
  unfold Ev.dS;rw[hw];show Ev.nR fE o.dst (some (undef,E))=_;simp only[Ev.nR,hp]
 unfold stepT at h
 split at h
 .
  rename_i hgd;obtain ⟨v,H',h1,h2⟩:=run f _ h;exact ⟨_,H',h1,λS E fE hr hg hf=>h2 S E fE hr hg hf (by simp[Ev.gO,hgd])⟩
 rename_i j want hgd
 split at h
 .
  rename_i d hd;split at h
  .
   rename_i b hb
   have abT:∃oj,ops[j]? = some oj/\oj.dst=some d:=by
    unfold IJ at hd;split at hd
    .
     rename_i oj sL;exact ⟨oj,sL,hd⟩
    cases hd
   obtain ⟨oj,sL,hdj⟩:=abT
   have hwant:∀S fE,gS S f fE->Ev.gO o ops fE=pick2 b want (!want)/\fE.get d = .bool b:=λS fE hf=>by
    have h1:=hf.v d;rw[hb] at h1;have h2:=h1.eU;refine ⟨?_,h2⟩;unfold Ev.gO Ev.p5;simp only[hgd,sL,hdj,h2]
   have known:∀S fE,gS S f fE->gS S (f.put (some d) (.bool b)) fE:=λS fE hf=>hf.know (by rw[(hwant S fE hf).2];exact .bool b)
   cases b with
   |
    true =>
    cases want with
    |
     true =>
     have h:NV X call tr ((f.put (some d) (.bool true)).eval X) o H (λv H'=>k ((f.put (some d) (.bool true)).put o.dst v) H')=some r:=h
     obtain ⟨v,H',h1,h2⟩:=run _ _ h;exact ⟨_,H',h1,λS E fE hr hg hf=>h2 S E fE hr hg (known S fE hf) (hwant S fE hf).1⟩
    |false=>exact ⟨_,H,h,λS E fE hr hg hf=>skip _ S E fE hr (known S fE hf) (hwant S fE hf).1⟩
   |
    false =>
    cases want with
    |true=>exact ⟨_,H,h,λS E fE hr hg hf=>skip _ S E fE hr (known S fE hf) (by rw[(hwant S fE hf).1];rfl)⟩
    |
     false =>
     have h:NV X call tr ((f.put (some d) (.bool false)).eval X) o H (λv H'=>k ((f.put (some d) (.bool false)).put o.dst v) H')=some r:=h
     obtain ⟨v,H',h1,h2⟩:=run _ _ h;exact ⟨_,H',h1,λS E fE hr hg hf=>h2 S E fE hr hg (known S fE hf) (by rw[(hwant S fE hf).1];rfl)⟩
  .
   rename_i l hl;refine ⟨_,H,h,λS E fE hr hg hf=>skip _ S E fE hr hf ?_⟩
   have sL:∃oj,ops[j]? = some oj/\oj.dst=some d:=by
    unfold IJ at hd;split at hd
    .
     rename_i oj sL;exact ⟨oj,sL,hd⟩
    cases hd
   obtain ⟨oj,sL,hdj⟩:=sL;have h1:=hf.v d;rw[hl] at h1
   obtain ⟨m,hm⟩:∃m,fE.get d = .tuple m:=by
    generalize fE.get d=x at h1 ⊢;cases h1;exact ⟨_,rfl⟩
   unfold Ev.gO Ev.p5;simp only[hgd,sL,hdj,hm]
  cases h
 cases h
theorem Pk (a:Option Nat):Ev.xO (Ev.HV a)=some a:=by cases a<;>rfl
theorem Pm (a b:Option Nat):Ev.Dj (Ev.cxV a b)=some (a,b):=by
 have code:Ev.Dj (.chan (some (Ev.nQ (Ev.yN a) (Ev.yN b)+2)))=some (a,b):=by
  show some (Ev.oN (Ev.pq _ _).1,Ev.oN (Ev.pq _ _).2)=_;rw[Ev.sJ,Ev.uc,Ev.uc]
 cases a with
 |none=>exact code
 |
  some a=>cases b with
  |none=>exact code
  |some b=>rfl
theorem yc {S:Wo} {a:AV} {q:Option Nat} {x:Value} (h:toF a=some q) (hx:VR S a x):Ev.xO x=some q:=by
 unfold toF at h
 split at h
 .
  cases h;cases hx;rfl
 .
  cases h;cases hx with|fl a v h=>rw[h];exact Pk _
 cases h
theorem Ku {S:Wo} {a:AV} {q:Option Nat×Option Nat} {x:Value} (h:OV a=some q) (hx:VR S a x):Ev.Dj x=some q:=by
 unfold OV at h
 split at h
 .
  cases h;cases hx;rfl
 .
  cases h;cases hx with|cx a b v h=>rw[h];exact Pm _ _
 cases h
theorem Pn {S:Wo} {ev:Operand->AV} {aq:Operand->Value} {o:Oper} {v:AV} (h:XF X ev o=some v) (aD:∀x∈o.op.operands,VR S (ev x) (aq x)):∃vE,Ev.Bd X.P aq o=some vE/\VR S v vE:=by
 unfold XF at h
 rw[pick2_eq] at h
 split at h
 case isFalse=>cases h
 unfold Ev.Bd
 split at h
 .
  rename_i op t x y yt hop;rw[hop];have hx:=aD x (by simp[hop,Op.operands])
  have hy:=aD y (by simp[hop,Op.operands])
  unfold Ko at h;split at h
  case h_2=>cases h
  rename_i a b ha hb;simp only;unfold Ev.Di;rw[yc ha hx,yc hb hy];simp only;split at h
  .
   cases h;exact ⟨_,rfl,.fl _ _ rfl⟩
  .
   cases h;exact ⟨_,rfl,.fl _ _ rfl⟩
  .
   cases h;exact ⟨_,rfl,.fl _ _ rfl⟩
  .
   cases a<;>cases b<;>first|(cases h;done)|(cases h;exact ⟨_,rfl,.bool true⟩)
  cases h
 .
  rename_i cl hop;obtain ⟨callee,args,ats⟩:=cl;rw[hop];have iE:∀x∈args,VR S (ev x) (aq x):=λx hx=>aD x (by simp[hop,Op.operands,Call.operands];exact .inr hx)
  have one:∀{v:AV},args.toList.map ev=[v]->∃p,args = #[p]/\ev p=v:=λh=>by
   obtain ⟨l⟩:=args
   match l,h with
   |[p],h=>exact ⟨p,rfl,by simpa using h⟩
  have two:∀{v u:AV},args.toList.map ev=[v,u]->∃p q,args = #[p,q]/\ev p=v/\ev q=u:=λh=>by
   obtain ⟨l⟩:=args
   match l,h with
   |[p,q],h=>exact ⟨p,q,rfl,by simpa using h⟩
  simp only at h ⊢;split at h
  .
   rename_i x y hl;obtain ⟨p,q,rfl,rfl,rfl⟩:=two hl;split at h
   .
    rename_i a b ha hb;cases h;refine ⟨Ev.cxV a b,?_,.cx a b _ rfl⟩;simp only[List.map_cons,List.map_nil,yc ha (iE p (by simp)),yc hb (iE q (by simp))]
   cases h
  .
   rename_i x hl;obtain ⟨p,rfl,rfl⟩:=one hl;split at h
   .
    rename_i q hq;cases h;refine ⟨Ev.HV q.1,?_,.fl _ _ rfl⟩;simp only[List.map_cons,List.map_nil,Ku hq (iE p (by simp))]
   cases h
  .
   rename_i x hl;obtain ⟨p,rfl,rfl⟩:=one hl;split at h
   .
    rename_i q hq;cases h;refine ⟨Ev.HV q.2,?_,.fl _ _ rfl⟩;simp only[List.map_cons,List.map_nil,Ku hq (iE p (by simp))]
   cases h
  .
   rename_i f x hl;obtain ⟨p,rfl,hp⟩:=one hl;split at h
   .
    rename_i id hf;rw[pick2_eq] at h;split at h
    .
     rename_i hb;split at h
     .
      rename_i x;cases h;have hx:=iE p (by simp)
      rw[hp] at hx;have hfE:=aD f (by simp[hop,Op.operands,Call.operands])
      rw[hf] at hfE;generalize hq:aq p=x at hx;generalize hg:aq f=g at hfE;obtain rfl:x = .chan (some 1):=by cases hx with|fl a v h=>exact h
      cases hfE with
      |
       fn f a b a' b' ha hb' va vb =>
       obtain rfl:a'=[]:=List.length_eq_zero_iff.1 (by simpa using ha.symm)
       obtain rfl:b'=[]:=List.length_eq_zero_iff.1 (by simpa using hb'.symm)
       refine ⟨.chan none,?_,.iO _⟩;have e1:[p].map aq=[.chan (some 1)]:=by simp[hq,Ev.HV]
       show (match Callee.value f,[p].map aq with|_,_=>_)=_
       simp only[e1,hg];rw[show (Ev.Dk X.P (.func (.func id) ([]:List Value).toArray ([]:List Value).toArray))=true from hb]
     cases h
    cases h
   cases h
  cases h
 cases h
theorem Po {P:Program} {call:Ev.aP} {l:List Oper} {o:Oper} {f:Fr} {E:Mem} {r:Fr×Mem} (h:Ev.dS P call l o f E=some r):Ev.nS P call l o f E=some r:=by
 unfold Ev.nS
 rw[h]
theorem Ms {P:Program} {call:Ev.aP} {l:List Oper} {o:Oper} {f f':Fr} {E:Mem} {v:Value} (hw:Ev.gO o l f=true) (h:Ev.Bd P f.eval o=some v) (hp:f.put o.dst v=some f'):Ev.nS P call l o f E=some (f',E):=by
 unfold Ev.nS
 cases hs:Ev.dS P call l o f E with
 |
  none =>
  rw[hw,h];show Ev.nR f o.dst (some (v,E))=_;simp only[Ev.nR,hp]
 |
  some r =>
  unfold Ev.dS at hs;rw[hw] at hs;have hs:Ev.nR f o.dst (opA P call f.eval o E)=some r:=hs;cases ho:opA P call f.eval o E with
  |none=>rw[ho] at hs;cases hs
  |
   some q =>
   obtain ⟨u,E'⟩:=q;obtain ⟨rfl,rfl⟩:=Ev.Xb h ho;rw[ho] at hs;simp only[Ev.nR,hp] at hs;exact hs.symm
theorem Mt {call:aY β} (hcall:aQ X cf call) {tr:List Tmp} {ops:List Oper} {o:Oper} (hok:∀x∈o.op.operands,Ev.bA X.G x=true) {f:cj} {H:aa} {k:cj->aa->Option β} (h:DM X call tr ops o f H k=some r) :
 ∃f' H',k f' H'=some r/\D1 X (λn fE E=>Ev.nS X.P (cf n) ops o fE E) f H f' H':=by
 unfold DM at h
 split at h
 .
  rename_i v hv hgd;refine ⟨_,H,h,λS E fE hr hg hf=>?_⟩
  obtain ⟨vE,h1,h2⟩:=Pn hv λx hx=>oh hf hg (hok x hx)
  obtain ⟨fE',hp⟩:=Fr.rE fE o.dst vE;exact ⟨S,fE',E,⟨0,λn _=>Ms (by simp[Ev.gO,hgd]) h1 hp⟩,S.le_refl,hf.put h2 hp,hr,St.refl _ _ _⟩
 obtain ⟨f',H',h1,h2⟩:=uB hcall hok h
 refine ⟨f',H',h1,λS E fE hr hg hf=>?_⟩
 obtain ⟨S',fE',E',⟨N,a1⟩,a2⟩:=h2 S E fE hr hg hf
 exact ⟨S',fE',E',⟨N,λn hn=>Po (a1 n hn)⟩,a2⟩
def qA (S:Wo) (RT RE:Option (List Nat)):Prop :=
 match RT with
 |none=>True
 |some lT=>∃lE,RE=some lE/\∀j∈lE,(∃cs,S.F j=some cs)\/∃id∈lT,∃x,S.ρ id=some x/\x.1=j
theorem qA.mono {S S':Wo} {RT RE:Option (List Nat)} (h:qA S RT RE) (hle:S.le S'):qA S' RT RE:=by
 cases RT with
 |none=>trivial
 |
  some lT =>
  obtain ⟨lE,e,h⟩:=h;refine ⟨lE,e,λj hj=>(h j hj).imp (λ⟨cs,h1⟩=>⟨cs,hle.F _ _ h1⟩) λ⟨id,h1,x,h2,h3⟩=>⟨id,h1,x,hle.ρ _ _ h2,h3⟩⟩
theorem Mu {S:Wo} {RT RE:Option (List Nat)} (h:qA S RT RE) {ev:Operand->AV} {aq:Operand->Value} {o:Oper} (hv:∀x∈o.op.operands,VR S (ev x) (aq x)):qA S (DN ev o RT) (Ev.jX aq o RE):=by
 unfold DN
 split
 .
  rename_i t x hop;have hx:=hv x (by simp[hop,Op.operands])
  unfold Ev.jX;rw[hop];split
  .
   rename_i l id off he;obtain ⟨lE,rfl,h⟩:=h;rw[he] at hx;generalize hA:aq x=y at hx;cases hx with
   |
    ptr _ _ i c s hρ =>
    refine ⟨i::lE,by simp only[hA],λj hj=>?_⟩
    rcases List.mem_cons.1 hj with rfl|hj
    .
     exact .inr ⟨id,by simp,_,hρ,rfl⟩
    exact (h j hj).imp_right λ⟨id',h1,h2⟩=>⟨id',by simp[h1],h2⟩
  .
   rename_i l id j0 fo cB cur he;obtain ⟨lE,rfl,h⟩:=h;rw[he] at hx;generalize hA:aq x=y at hx;cases hx with
   |
    Ba _ _ _ _ _ i c e l2 y2 hρ _ _ _ =>
    refine ⟨i::lE,by simp only[hA],λj hj=>?_⟩
    rcases List.mem_cons.1 hj with rfl|hj
    .
     exact .inr ⟨id,by simp,_,hρ,rfl⟩
    exact (h j hj).imp_right λ⟨id',h1,h2⟩=>⟨id',by simp[h1],h2⟩
  .
   rename_i l cs he;obtain ⟨lE,rfl,h⟩:=h;rw[he] at hx;generalize hA:aq x=y at hx;cases hx with
   |
    vM _ i pre mid post hF _ _ =>
    refine ⟨i::lE,by simp only[hA],λj hj=>?_⟩
    rcases List.mem_cons.1 hj with rfl|hj
    .
     exact .inl ⟨_,hF⟩
    exact h j hj
  trivial
 rename_i hno
 unfold Ev.jX
 split
 .
  rename_i t x hop;exact absurd hop (hno t x)
 rw[pick2_eq,pick2_eq]
 split
 .
  trivial
 exact h
theorem Ch {S:Wo} {H:aa} {E:Mem} (hr:Rel S H E) {RT RE:Option (List Nat)} (h:qA S RT RE) {s:AV} {sE:Value} (hs:VR S s sE) (hc:vP H RT s=true):Ev.nG RE sE=true:=by
 have own:∀{id:Nat} {l:List Nat} {i cap s0 off n c:Nat} {lE:List Nat},RE=some lE->(∀j∈lE,(∃cs,S.F j=some cs)\/∃id∈l,∃x,S.ρ id=some x/\x.1=j)->S.ρ id=some (i,cap,s0) ->
  ((match H.get id with|some (.list _ _ _ _ _ false)=>true|_=>false)&&l.all λj => !Nat.beq j id&&(H.get j).isSome)=true->Ev.nG RE (.slice (some ⟨i,off,none⟩) n c)=true:=by
  intro id l i cap s0 off n c lE hE hl hρ hb;simp only[Bool.and_eq_true] at hb;obtain ⟨Bh,yY⟩:=hb;split at Bh
  case h_2=>cases Bh
  rename_i t e ll cB ex hg;subst hE;show (lE.all λj => !Nat.beq j i)=true
  rw[List.all_eq_true];intro j hj
  have hne:j≠i:=by
   intro e;subst e;rcases hl j hj with ⟨cs,hF⟩|⟨id',hid,x,hx,hx1⟩
   .
    have:=hr.sep id _ _ hg rfl hρ;rw[hF] at this;cases this
   have:=List.all_eq_true.1 yY id' hid;simp only[Bool.and_eq_true,Bool.not_eq_true'] at this;obtain ⟨t1,t2⟩:=this;obtain ⟨r',hr'⟩:=Option.isSome_iff_exists.1 t2;have:=hr.inj id' id _ _ _ _ hr' hg hx hρ hx1;subst this;rw[Nat.beq_refl] at t1;cases t1
  rw[Bool.not_eq_true',<-Bool.not_eq_true,Nat.beq_eq];exact hne
 unfold vP at hc
 split at hc
 .
  cases hs;rfl
 .
  rename_i id n l;obtain ⟨lE,e,h⟩:=h;cases hs with
  |own _ _ i cap s0 hρ g hg hn=>exact own e h hρ hc
  |cT _ g hg hn=>rfl
 .
  rename_i id off n c l;obtain ⟨lE,e,h⟩:=h;cases hs with
  |pO _ _ _ _ i c s0 hρ g hg hc' hl=>exact own e h hρ hc
 .
  rename_i id off l;obtain ⟨lE,e,h⟩:=h;cases hs with
  |
   ptr _ _ i c s0 hρ =>
   simp only[Bool.and_eq_true] at hc;obtain ⟨Bh,yY⟩:=hc;split at Bh
   case h_2=>cases Bh
   rename_i t cs hg;subst e;show (lE.all λj => !Nat.beq j i)=true
   rw[List.all_eq_true];intro j hj
   have hne:j≠i:=by
    intro e;subst e;rcases h j hj with ⟨cs,hF⟩|⟨id',hid,x,hx,hx1⟩
    .
     have:=hr.sep id _ _ hg rfl hρ;rw[hF] at this;cases this
    have:=List.all_eq_true.1 yY id' hid;simp only[Bool.and_eq_true,Bool.not_eq_true'] at this;obtain ⟨t1,t2⟩:=this;obtain ⟨r',hr'⟩:=Option.isSome_iff_exists.1 t2;have:=hr.inj id' id _ _ _ _ hr' hg hx hρ hx1;subst this;rw[Nat.beq_refl] at t1;cases t1
   rw[Bool.not_eq_true',<-Bool.not_eq_true,Nat.beq_eq];exact hne
 cases hc
theorem Pq {call:aY β} (hcall:aQ X cf call) {tr:List Tmp} {ops:List Oper} {o:Oper} (hok:∀x∈o.op.operands,Ev.bA X.G x=true) {R:Option (List Nat)} {lk:Bool} {f:cj} {H:aa} {k:cj->aa->Option β} (h:DP X call tr ops R lk o f H k=some r) :
 ∃f' H',k f' H'=some r/\∀(S:Wo) (E:Mem) (fE:Fr) (RE:Option (List Nat)),Rel S H E->bS X S->gS S f fE->qA S R RE ->
  ∃S' fE' E',(∃N,∀n:Nat×Nat,N<=n.1/\N<=n.2->Ev.kH X.P (cf n) ops RE lk o fE E=some (fE',E'))/\S.le S'/\gS S' f' fE'/\Rel S' H' E'/\St S H E S' H' E':=by
 unfold DP at h
 cases lk with
 |
  false =>
  obtain ⟨f',H',h1,h2⟩:=uB hcall hok h;exact ⟨f',H',h1,λS E fE RE hr hg hf _=>h2 S E fE hr hg hf⟩
 |true =>
  cases hb:Ev.eK o.op with
  |some s =>
   have h:(match Ev.eK o.op with
    |some s=>pick2 (vP H R (f.eval X s)) (stepT X call tr ops o f H k) none
    |none=>pick2 (kN H R (f.eval X) o) (stepT X call tr ops o f H k) (stepT X call tr ops o f { H with lk:=H.next } λf' H'=>k f' { H' with lk:=H.lk }))=some r:=h
   rw[hb] at h;simp only[pick2_eq] at h;split at h
   .
    rename_i hc;obtain ⟨f',H',h1,h2⟩:=uB hcall hok h;refine ⟨f',H',h1,λS E fE RE hr hg hf hR=>?_⟩
    obtain ⟨S',fE',E',⟨N,k1⟩,k2⟩:=h2 S E fE hr hg hf;refine ⟨S',fE',E',⟨N,λn hn=>?_⟩,k2⟩
    have iy:=Ch hr hR (oh hf hg (hok s (Ev.wW hb))) hc
    show (match Ev.eK o.op with
     |some s=>pick2 (Ev.nG RE (fE.eval s)) (Ev.dS X.P (cf n) ops o fE E) none
     |
      none=>pick2 (Ev.cI RE fE.eval o) (Ev.dS X.P (cf n) ops o fE E)
      (match Ev.dS X.P (cf n) ops o fE { E with lk:=E.size } with
       |some (f',H')=>some (f',{ H' with lk:=E.lk })
       |none=>none))=_
    rw[hb];simp only[iy];exact k1 n hn
   cases h
  |none =>
   have h:(match Ev.eK o.op with
    |some s=>pick2 (vP H R (f.eval X s)) (stepT X call tr ops o f H k) none
    |none=>pick2 (kN H R (f.eval X) o) (stepT X call tr ops o f H k) (stepT X call tr ops o f { H with lk:=H.next } λf' H'=>k f' { H' with lk:=H.lk }))=some r:=h
   rw[hb] at h;simp only[pick2_eq (kN H R (f.eval X) o)] at h;split at h
   .
    rename_i hc;unfold kN at hc;split at hc
    case h_2=>cases hc
    rename_i s XW;obtain ⟨f',H',h1,h2⟩:=uB hcall hok h;refine ⟨f',H',h1,λS E fE RE hr hg hf hR=>?_⟩
    obtain ⟨S',fE',E',⟨N,k1⟩,k2⟩:=h2 S E fE hr hg hf;refine ⟨S',fE',E',⟨N,λn hn=>?_⟩,k2⟩
    have hsm:s∈o.op.operands:=by
     unfold Ev.fN at XW;split at XW
     .
      rename_i t a x hop;cases XW;rw[hop];simp[Op.operands]
     cases XW
    have iy:Ev.cI RE fE.eval o=true:=by
     unfold Ev.cI;rw[XW];exact Ch hr hR (oh hf hg (hok s hsm)) hc
    show (match Ev.eK o.op with
     |some s=>pick2 (Ev.nG RE (fE.eval s)) (Ev.dS X.P (cf n) ops o fE E) none
     |
      none=>pick2 (Ev.cI RE fE.eval o) (Ev.dS X.P (cf n) ops o fE E)
      (match Ev.dS X.P (cf n) ops o fE { E with lk:=E.size } with
       |some (f',H')=>some (f',{ H' with lk:=E.lk })
       |none=>none))=_
    rw[hb];simp only[iy];exact k1 n hn
   have h:stepT X call tr ops o f { H with lk:=H.next } (λf' H'=>k f' { H' with lk:=H.lk })=some r:=h
   obtain ⟨f',H',h1,h2⟩:=uB hcall hok h;refine ⟨f',{ H' with lk:=H.lk },h1,λS E fE RE hr hg hf _=>?_⟩
   have gH:∀(M:aa) n j,({ M with lk:=n }:aa).get j=M.get j:=λM n j=>rfl
   have gE:∀(M:Mem) n j,({ M with lk:=n }:Mem).get j=M.get j:=λM n j=>rfl
   have aE:∀(M:Mem) n j,alive ({ M with lk:=n }:Mem) j=alive M j:=λM n j=>rfl
   have abU:∀S (M:Mem) n id r,nj S ({ M with lk:=n }:Mem) id r↔nj S M id r:=λS M n id r=>by cases r<;>exact Iff.rfl
   have Ci:Rel S { H with lk:=H.next } { E with lk:=E.size } :=
    ⟨hr.fz,hr.dom,hr.Bl,λid q hq=>(abU _ _ _ _ _).2 (hr.row id q hq),hr.inj,hr.sep,λid q x hq hl _=>absurd (aa.bB hq) (by have hl':H.next<=id:=hl;show ¬id<H.next;omega),Nat.le_refl _,hr.IL,Nat.le_refl _⟩
   obtain ⟨S',fE',E',⟨N,k1⟩,k2,k3,k4,k5⟩:=h2 S { E with lk:=E.size } fE Ci hg hf
   refine ⟨S',fE',{ E' with lk:=E.lk },⟨N,λn hn=>?_⟩,k2,k3,?_,?_⟩
   .
    show (match Ev.eK o.op with
     |some s=>pick2 (Ev.nG RE (fE.eval s)) (Ev.dS X.P (cf n) ops o fE E) none
     |
      none=>pick2 (Ev.cI RE fE.eval o) (Ev.dS X.P (cf n) ops o fE E)
      (match Ev.dS X.P (cf n) ops o fE { E with lk:=E.size } with
       |some (f',H')=>some (f',{ H' with lk:=E.lk })
       |none=>none))=_
    rw[hb];have:=k1 n hn;simp only at this ⊢;cases hsc:Ev.cI RE fE.eval o with
    |false=>rw[Ev.EP,this]
    |
     true =>
     unfold Ev.cI at hsc;split at hsc
     .
      rename_i s XW;obtain ⟨w2,w3⟩:=Ev.Ox XW this;subst w3;rw[Ev.fq,w2]
     cases hsc
   .
    refine ⟨k4.fz,k4.dom,k4.Bl,λid q hq=>(abU _ _ _ _ _).2 (k4.row id q hq),k4.inj,k4.sep,λid q x hq hl hx=>?_,?_,?_,?_⟩
    .
     show E.lk<=x.1;by_cases hid:id<H.next
     .
      have abV:H.get id≠none:=k5.live id hid (by
       have:H'.get id=some q:=hq;rw[this];simp)
      cases hq0:H.get id with
      |none=>exact absurd hq0 abV
      |
       some q0 =>
       cases hx0:S.ρ id with
       |
        none =>
        rw[k5.rn id hid hx0] at hx;cases hx
       |
        some x0 =>
        have e:=k2.ρ id x0 hx0;rw[hx] at e;have e:=Option.some.inj e;subst e;exact hr.lk id q0 x hq0 hl hx0
     have:=k4.lk id q x hq (by rw[k5.L4];show H.next<=id;omega) hx
     have h5:=k5.lk;have:E.size<=x.1:=by rw[h5] at this;exact this
     have:=hr.EJ;omega
    .
     show H.lk<=H'.next
     have:=k5.nx;have:=hr.tT;have:H.next<=H'.next:=k5.nx
     omega
    .
     exact k4.IL
    show E.lk<=E'.size;have:=k5.sz;have:=hr.EJ;have:E.size<=E'.size:=k5.sz;omega
   exact ⟨k5.sz,rfl,rfl,k5.zA,k5.F,k5.own,k5.HP,k5.keep,k5.par,k5.nx,k5.live,k5.rn⟩
end
end Go.Tv

namespace Go.Tv
open Go.Ev (Tr pick2 Leave Mem Blk alive pick2_eq alive_some opA Fr)
structure Bc (S:Wo) (H:aa) (HE:Mem) (S':Wo) (H':aa) (HE':Mem):Prop where
 sz:HE.size<=HE'.size
 lk:HE'.lk=HE.lk
 L4:H'.lk=H.lk
 zA:H'.par=H.par
 F:∀i x,S.F i=some x->S'.F i=some x
 own:∀i,Own S' H' i->i<HE.size->Own S H i
 HP:∀i,S'.F i≠none->S.F i≠none\/Own S H i\/HE.size<=i
 keep:∀i,i<HE.size->¬Own S H i->HE'.get i=HE.get i
 par:∀id,id<H.par->S'.ρ id=S.ρ id
theorem St.OV {S S':Wo} {H H':aa} {E E':Mem} (h:St S H E S' H' E'):Bc S H E S' H' E':=⟨h.sz,h.lk,h.L4,h.zA,h.F,h.own,h.HP,h.keep,h.par⟩
theorem Bc.refl (S:Wo) (H:aa) (E:Mem):Bc S H E S H E:=(St.refl S H E).OV
theorem Bc.trans {S S1 S2:Wo} {H H1 H2:aa} {E E1 E2:Mem} (h:Bc S H E S1 H1 E1) (k:Bc S1 H1 E1 S2 H2 E2):Bc S H E S2 H2 E2:=by
 refine ⟨Nat.le_trans h.sz k.sz,k.lk.trans h.lk,k.L4.trans h.L4,k.zA.trans h.zA,λi x hx=>k.F i x (h.F i x hx),λi ho hi=>h.own i (k.own i ho (Nat.lt_of_lt_of_le hi h.sz)) hi,λi hf=>?_,λi hi ho=>?_,λid hid=>(k.par id (by rw[h.zA];exact hid)).trans (h.par id hid)⟩
 .
  rcases k.HP i hf with h1|h1|h1
  .
   exact h.HP i h1
  .
   by_cases hi:i<E.size
   .
    exact .inr (.inl (h.own i h1 hi))
   exact .inr (.inr (by omega))
  exact .inr (.inr (Nat.le_trans h.sz h1))
 exact (k.keep i (Nat.lt_of_lt_of_le hi h.sz) λh1=>ho (h.own i h1 hi)).trans (h.keep i hi ho)
def rV {α:Type} (X:cR) (nf:Bool) (run:Nat×Nat->Fr->Mem->Option (α×Fr×Mem)) (a:α) (f:cj) (H:aa) (f':cj) (H':aa):Prop :=
 ∀(S:Wo) (E:Mem) (fE:Fr),Rel S H E->bS X S->gS S f fE ->
  ∃S' fE' E',(∃N,∀n:Nat×Nat,N<=n.1/\N<=n.2->run n fE E=some (a,fE',E'))/\gS S' f' fE'/\Rel S' H' E'/\Bc S H E S' H' E'/\(nf=true->S.le S'/\St S H E S' H' E')
theorem Pr {P:Program} {ops:Array Oper} {l:List (Oper×Bool)} (h:Ev.plan P ops=some l):∀q∈l,q.1∈ops.toList:=by
 unfold Ev.plan Ev.HY at h
 rw[pick2_eq] at h
 split at h
 .
  have hpos:=Ev.VW (P:=P) (ops:=ops)
  have key:∀n L l,Ev.pz (Ev.nE P ops ops.toList 0 []).reverse n L=some l->∀q∈l,q.1∈ops.toList:=by
   intro n
   have mem:∀p∈(Ev.nE P ops ops.toList 0 []).reverse,p.o∈ops.toList:=λp hp=>by
    have:=Array.mem_of_getElem? (hpos.each p hp).o;simpa using this
   induction n with
   |
    zero =>
    intro L l h;unfold Ev.pz at h;split at h
    .
     cases h;simp
    cases h
   |
    succ n ih =>
    intro L l h;unfold Ev.pz at h;split at h
    .
     rename_i p hp;have hm:=List.mem_of_find?_eq_some hp;rw[pick2_eq] at h;split at h
     .
      split at h
      .
       rename_i l' hl';cases h;intro q hq;rcases List.mem_cons.1 hq with rfl|hq
       .
        exact mem p hm
       exact ih _ _ hl' q hq
      cases h
     cases h
    split at h
    .
     cases h;simp
    rename_i q0 r0 hp;split at h
    case h_2=>cases h
    rename_i p ms hch
    have hm:p∈(Ev.nE P ops ops.toList 0 []).reverse:=by
     have:=(Ev.oS hch).1;rw[<-hp] at this;exact (List.mem_filter.1 this).1
    rw[pick2_eq] at h;split at h
    case isFalse=>cases h
    split at h
    .
     rename_i l' hl';cases h;intro q hq;rcases List.mem_cons.1 hq with rfl|hq
     .
      exact mem p hm
     exact ih _ _ hl' q hq
    cases h
  exact key _ _ _ h
 cases h
section
variable {X:cR} {cf:Nat×Nat->Ev.aP} {β:Type} {r:β}
theorem Pt {call:aY β} (hcall:aQ X cf call) {tr:List Tmp} {ops:List Oper}:∀(l:List (Oper×Bool)),(∀q∈l,∀x∈q.1.op.operands,Ev.bA X.G x=true)->∀{R:Option (List Nat)} {f:cj} {H:aa} {k:cj->aa->Option β},TM X call tr ops l k R f H=some r ->
 ∃f' H',k f' H'=some r/\∀(S:Wo) (E:Mem) (fE:Fr) (RE:Option (List Nat)),Rel S H E->bS X S->gS S f fE->qA S R RE ->
  ∃S' fE' E',(∃N,∀n:Nat×Nat,N<=n.1/\N<=n.2->Ev.r7 X.P (cf n) ops l RE fE E=some (fE',E'))/\S.le S'/\gS S' f' fE'/\Rel S' H' E'/\St S H E S' H' E'
 |[],_,R,f,H,k,h=>⟨f,H,h,λS E fE RE hr hg hf _=>⟨S,fE,E,⟨0,λ_ _=>rfl⟩,S.le_refl,hf,hr,St.refl _ _ _⟩⟩
 |
  q::l,hok,R,f,H,k,h=>by
  have h:DP X call tr ops R q.2 q.1 f H (TM X call tr ops l k (DN (f.eval X) q.1 R))=some r:=h;obtain ⟨f1,H1,h1,h2⟩:=Pq hcall (hok q (by simp)) h
  obtain ⟨f2,H2,h3,h4⟩:=Pt hcall l (λq hq=>hok q (by simp[hq])) h1
  refine ⟨f2,H2,h3,λS E fE RE hr hg hf hR=>?_⟩
  obtain ⟨S1,tj,E1,⟨N1,a1⟩,a2,a3,a4,a5⟩:=h2 S E fE RE hr hg hf hR;obtain ⟨S2,Kv,E2,⟨N2,b1⟩,b2,b3,b4,b5⟩:=h4 S1 E1 tj (Ev.jX fE.eval q.1 RE) a4 (hg.mono a2) a3 ((Mu hR λx hx=>oh hf hg (hok q (by simp) x hx)).mono a2)
  refine ⟨S2,Kv,E2,⟨max N1 N2,λn hn=>?_⟩,Wo.le_trans a2 b2,b3,b4,a5.trans b5⟩
  have c1:=a1 n ⟨by omega,by omega⟩
  have c2:=b1 n ⟨by omega,by omega⟩
  show Option.rec (motive:=λ_=>Option (Fr×Mem)) none (λr=>Ev.r7 X.P (cf n) ops l (Ev.jX fE.eval q.1 RE) r.1 r.2) (Ev.kH X.P (cf n) ops RE q.2 q.1 fE E)=_
  rw[c1];exact c2
theorem Kw {call:aY β} (hcall:aQ X cf call) {tr:List Tmp} {ops:List Oper}:∀(l:List Oper),(∀o∈l,∀x∈o.op.operands,Ev.bA X.G x=true)->∀{f:cj} {H:aa} {k:cj->aa->Option β},XG X call tr ops l k f H=some r ->
 ∃f' H',k f' H'=some r/\D1 X (λn fE E=>Ev.EN X.P (cf n) ops l fE E) f H f' H'
 |[],_,f,H,k,h=>⟨f,H,h,λS E fE hr hg hf=>⟨S,fE,E,⟨0,λ_ _=>rfl⟩,S.le_refl,hf,hr,St.refl _ _ _⟩⟩
 |
  o::l,hok,f,H,k,h=>by
  have h:DM X call tr ops o f H (XG X call tr ops l k)=some r:=h;obtain ⟨f1,H1,h1,h2⟩:=Mt hcall (hok o (by simp)) h
  obtain ⟨f2,H2,h3,h4⟩:=Kw hcall l (λq hq=>hok q (by simp[hq])) h1
  refine ⟨f2,H2,h3,λS E fE hr hg hf=>?_⟩
  obtain ⟨S1,tj,E1,⟨N1,a1⟩,a2,a3,a4,a5⟩:=h2 S E fE hr hg hf;obtain ⟨S2,Kv,E2,⟨N2,b1⟩,b2,b3,b4,b5⟩:=h4 S1 E1 tj a4 (hg.mono a2) a3;refine ⟨S2,Kv,E2,⟨max N1 N2,λn hn=>?_⟩,Wo.le_trans a2 b2,b3,b4,a5.trans b5⟩
  have c1:Ev.nS X.P (cf n) ops o fE E=some (tj,E1):=a1 n ⟨by omega,by omega⟩
  have c2:=b1 n ⟨by omega,by omega⟩
  show Option.rec (motive:=λ_=>Option (Fr×Mem)) none (λr=>Ev.EN X.P (cf n) ops l r.1 r.2) (Ev.nS X.P (cf n) ops o fE E)=_
  rw[c1];exact c2
theorem vI {call:aY β} (hcall:aQ X cf call) {tr:List Tmp} {ops:Array Oper} {draw:Bool} {f:cj} {H:aa} {k:cj->aa->Option β} (h:ya X call tr ops draw f H k=some r) :
 ∃f' H',k f' H'=some r/\rV X true (λn fE E=>Ev.ku X.P X.G (cf n) ops draw fE E) .normal f H f' H':=by
 unfold ya at h
 rw[pick2_eq] at h
 split at h
 case isFalse=>cases h
 rename_i hok
 have abW:∀o∈ops.toList,∀x∈o.op.operands,Ev.bA X.G x=true:=λo ho x hx=>by
  have:=List.all_eq_true.1 hok o ho;exact List.all_eq_true.1 this x (by simpa using hx)
 have fin:∀(l:List (Oper×Bool)),(∀q∈l,q.1∈ops.toList)->TM X call tr ops.toList l k (some []) f H=some r->(∀n fE E,Ev.ku X.P X.G (cf n) ops draw fE E=Ev.atEnd (Ev.r7 X.P (cf n) ops.toList l (some []) fE E)) ->
  ∃f' H',k f' H'=some r/\rV X true (λn fE E=>Ev.ku X.P X.G (cf n) ops draw fE E) .normal f H f' H':=by
  intro l hl hr heq;obtain ⟨f',H',h1,h2⟩:=Pt hcall l (λq hq=>abW q.1 (hl q hq)) hr
  refine ⟨f',H',h1,λS E fE hrel hg hf=>?_⟩
  obtain ⟨S',fE',E',⟨N,a1⟩,a2,a3,a4,a5⟩:=h2 S E fE (some []) hrel hg hf ⟨[],rfl,λj hj=>by cases hj⟩
  refine ⟨S',fE',E',⟨N,λn hn=>?_⟩,a3,a4,a5.OV,λ_=>⟨a2,a5⟩⟩
  have:=a1 n hn;simp only at this ⊢;rw[heq,this];rfl
 rw[pick2_eq] at h
 split at h
 .
  rename_i hd;obtain ⟨l,hl,h1⟩:=lY h;refine fin l (Pr hl) h1 λn fE E=>?_
  unfold Ev.ku;rw[hok,hd,hl]
 rename_i hd
 obtain ⟨f',H',h1,h2⟩:=Kw hcall ops.toList abW h
 refine ⟨f',H',h1,λS E fE hrel hg hf=>?_⟩
 obtain ⟨S',fE',E',⟨N,a1⟩,a2,a3,a4,a5⟩:=h2 S E fE hrel hg hf
 refine ⟨S',fE',E',⟨N,λn hn=>?_⟩,a3,a4,a5.OV,λ_=>⟨a2,a5⟩⟩
 have:=a1 n hn
 have hd':draw=false:=by simpa using hd
 simp only at this ⊢
 unfold Ev.ku
 rw[hok,hd',this];rfl
end
end Go.Tv

namespace Go.Tv
open Go.Ev (Tr pick2 Leave Mem Blk alive pick2_eq alive_some opA Fr)
theorem uC:∀(l:List Nat) (id n i:Nat),placeOf id l n=some i->n<=i/\l[i-n]? = some id
 |[],id,n,i,h=>by cases h
 |
  x::l,id,n,i,h=>by
  unfold placeOf at h;rw[pick2_eq] at h;split at h
  .
   rename_i hx;cases h;have:x=id:=by simpa[Nat.beq_eq] using hx
   subst this;simp
  obtain ⟨h1,h2⟩:=uC l id (n+1) i h;refine ⟨by omega,?_⟩
  have:i-n=(i-(n+1))+1:=by omega
  rw[this];simpa using h2
theorem xu:∀{l:List Nat},nodupB l=true->∀(i j:Nat) x,l[i]? = some x->l[j]? = some x->i=j
 |[],_,i,j,x,h,_=>by simp at h
 |
  y::l,h,i,j,x,hi,hj=>by
  simp only[nodupB,Bool.and_eq_true,Bool.not_eq_true'] at h
  have hy:y ∉ l:=λhm=>by
   have:l.any (Nat.beq y)=true:=List.any_eq_true.2 ⟨y,hm,by simp[Nat.beq_eq]⟩
   rw[this] at h;cases h.1
  cases i with
  |
   zero =>
   cases j with
   |zero=>rfl
   |
    succ j =>
    simp at hi hj;subst hi;exact absurd (List.mem_of_getElem? hj) hy
  |
   succ i =>
   cases j with
   |
    zero =>
    simp at hi hj;subst hj;exact absurd (List.mem_of_getElem? hi) hy
   |succ j=>rw[xu h.2 i j x (by simpa using hi) (by simpa using hj)]
noncomputable def Wo.Bn (S:Wo) (H:aa) (ids:List Nat):Wo :=
 ⟨S.F,λj=>(ids[j]?).bind S.ρ,λj v=>if v=0 then (ids[j]?).bind λid=>match H.get id with
  |some (.list _ e l _ _ _)=>some ⟨e,l⟩
  |_=>S.Γ id 0 else none⟩
section
variable {S:Wo} {H:aa} {ids:List Nat}
theorem yd {E:Mem} (hr:Rel S H E) {id i:Nat} (hi:ids[i]? = some id) {g:Sigma λe:Ty=>List e.den} (hg:S.Γ id 0=some g):∃g',(S.Bn H ids).Γ i 0=some g'/\g'.2.length=g.2.length:=by
 show ∃g',(if 0=0 then (ids[i]?).bind _ else none)=some g'/\_
 rw[if_pos rfl,hi]
 simp only[Option.bind_some]
 split
 .
  rename_i t e l cB ex ro hrow;obtain ⟨_,⟨_,g0,h1,h2⟩,_⟩:=hr.row id _ hrow;rw[hg] at h1;cases h1;exact ⟨_,rfl,h2.symm⟩
 exact ⟨g,hg,rfl⟩
theorem VR.Bn {E:Mem} (hr:Rel S H E) {v:AV} {x:Value} (h:VR S v x):VR (S.Bn H ids) (fQ ids v) x:=by
 have bQ:∀{l:List AV} {m:List Value},(∀(j:Nat) a b,l[j]? = some a->m[j]? = some b->VR (S.Bn H ids) (fQ ids a) b)->(∀(j:Nat) a b,(sS ids l)[j]? = some a->m[j]? = some b->VR (S.Bn H ids) a b)/\(sS ids l).length=l.length:=by
  intro l
  induction l with
  |nil=>intro m h;exact ⟨λj a b ha=>by simp[sS] at ha,rfl⟩
  |
   cons v l ih =>
   intro m h;cases m with
   |nil=>exact ⟨λj a b ha hb=>by simp at hb,by have:=(ih (m:=[]) (λj a b _ hb=>by simp at hb)).2;simp[sS,this]⟩
   |
    cons y m =>
    obtain ⟨h1,h2⟩:=ih (m:=m) λj a b ha hb=>h (j+1) a b (by simpa using ha) (by simpa using hb)
    refine ⟨λj a b ha hb=>?_,by simp[sS,h2]⟩
    cases j with
    |zero=>simp[sS] at ha hb;subst ha;subst hb;exact h 0 v y rfl rfl
    |succ j=>exact h1 j a b (by simpa[sS] using ha) (by simpa using hb)
 have ρi:∀{id i:Nat} {y},ids[i]? = some id->S.ρ id=some y->(S.Bn H ids).ρ i=some y:=λhi hy=>by
  show (ids[_]?).bind S.ρ=_;rw[hi];exact hy
 have T1:∀{id i:Nat},placeOf id ids 0=some i->ids[i]? = some id:=λh=>by simpa using (uC ids _ 0 _ h).2
 induction h with
 |int=>unfold fQ;exact .int _ _
 |bool=>unfold fQ;exact .bool _
 |str=>unfold fQ;exact .str _
 |lg=>unfold fQ;exact .lg _
 |bQ e l v h=>unfold fQ;exact .bQ e l v h
 |bR=>unfold fQ;exact .bR
 |
  own id n i cap s h g hg hn =>
  unfold fQ;split
  .
   rename_i j hj;obtain ⟨g',h1,h2⟩:=yd hr (T1 hj) hg;exact .own j n i cap s (ρi (T1 hj) h) g' h1 (by omega)
  exact .iO _
 |
  cT id g hg hn =>
  unfold fQ;split
  .
   rename_i j hj;obtain ⟨g',h1,h2⟩:=yd hr (T1 hj) hg;exact .cT j g' h1 (by omega)
  exact .iO _
 |
  pO id off len cap i c s h g hg hc hl =>
  unfold fQ;split
  .
   rename_i j hj;obtain ⟨g',h1,h2⟩:=yd hr (T1 hj) hg;exact .pO j off len cap i c s (ρi (T1 hj) h) g' h1 (by omega) hl
  exact .iO _
 |
  ptr id off i c s h =>
  unfold fQ;split
  .
   rename_i j hj;exact .ptr j off i c s (ρi (T1 hj) h)
  exact .iO _
 |Ba=>unfold fQ;exact .iO _
 |
  zo id i c s h =>
  unfold fQ;split
  .
   rename_i j hj;exact .zo j i c s (ρi (T1 hj) h)
  exact .iO _
 |dat=>unfold fQ;exact .iO _
 |
  EF id n i c s h g hg hn =>
  unfold fQ;split
  .
   rename_i j hj;obtain ⟨g',h1,h2⟩:=yd hr (T1 hj) hg;exact .EF j n i c s (ρi (T1 hj) h) g' h1 (by omega)
  exact .iO _
 |
  vM cs i pre mid post h hl _ ih =>
  unfold fQ;obtain ⟨l1,l2⟩:=bQ ih;exact .vM _ i pre mid post h (by omega) l1
 |jt=>unfold fQ;exact .jt
 |
  fn f a b a' b' ha hb _ _ Td Te =>
  unfold fQ;obtain ⟨l1,l2⟩:=bQ Td;obtain ⟨m1,m2⟩:=bQ Te;exact .fn f _ _ a' b' (by omega) (by omega) l1 m1
 |
  agg l m hl _ ih =>
  unfold fQ;obtain ⟨l1,l2⟩:=bQ ih;exact .agg _ m (by omega) l1
 |
  cO l m hl _ ih =>
  unfold fQ;obtain ⟨l1,l2⟩:=bQ ih;exact .cO _ m (by omega) l1
 |x8 v h=>unfold fQ;exact .x8 v h
 |fl a v h=>unfold fQ;exact .fl a v h
 |cx a b v h=>unfold fQ;exact .cx a b v h
 |iO v=>unfold fQ;exact .iO v
theorem LV.Bn {E:Mem} (hr:Rel S H E):∀{l:List AV} {m:List Value},LV S l m->LV (S.Bn H ids) (sS ids l) m
 |[],m,h=>by rw[h.dO];exact LV.nil
 |
  v::l,m,h=>by
  obtain ⟨x,m',rfl,h1,h2⟩:=h.cons_inv;exact LV.cons (h1.Bn hr) (LV.Bn hr h2)
theorem Kx (r:Row):(TN ids r).B7=r.B7:=by cases r<;>rfl
theorem FU (H:aa) (ids:List Nat):∀(l:List Nat) (M:aa),(l.foldl (λM id=>M.push (lK H ids id)) M).next=M.next+l.length /\
 (l.foldl (λM id=>M.push (lK H ids id)) M).lk=M.lk/\(l.foldl (λM id=>M.push (lK H ids id)) M).par=M.par /\
 ∀j,(l.foldl (λM id=>M.push (lK H ids id)) M).get j=if j<M.next then M.get j else ((l[j-M.next]?).bind H.get).map (TN ids)
 |
  [],M=>by
  refine ⟨rfl,rfl,rfl,λj=>?_⟩
  show M.get j=_;by_cases hj:j<M.next
  .
   rw[if_pos hj]
  rw[if_neg hj];simp;cases h:M.get j with
  |none=>rfl
  |some r=>exact absurd (aa.bB h) hj
 |
  id::l,M=>by
  rw[List.foldl_cons];obtain ⟨h1,h2,h3,h4⟩:=FU H ids l (M.push (lK H ids id));obtain ⟨p1,p2,p3,p4⟩:=aa.bt M (lK H ids id);refine ⟨by rw[h1,p1];simp;omega,by rw[h2,p2],by rw[h3,p3],λj=>?_⟩
  rw[h4,p1,p4];by_cases hj:j<M.next
  .
   rw[if_pos (by omega),if_neg (by omega),if_pos hj]
  rw[if_neg hj];by_cases hj2:j=M.next
  .
   subst hj2;rw[if_pos (by omega),if_pos rfl]
   simp only[Nat.sub_self,List.getElem?_cons_zero,Option.bind_some];unfold lK;cases hg:H.get id with
   |none=>rfl
   |some r=>cases r<;>first|rfl|exact absurd hg aa.OY
  rw[if_neg (by omega)]
  have:j-M.next=(j-(M.next+1))+1:=by omega
  rw[this];rfl
theorem FV (ids:List Nat) (f:cj) (n:Nat):∀(keep:List Tmp) (g:cj),g.n=n->((keep.foldl (λg t=>g.put (some t) (fQ ids (f.get t))) g).n=n/\∀i,(keep.foldl (λg t=>g.put (some t) (fQ ids (f.get t))) g).get i=g.get i\/(keep.foldl (λg t=>g.put (some t) (fQ ids (f.get t))) g).get i=fQ ids (f.get i))
 |[],g,hg=>⟨hg,λi=>.inl rfl⟩
 |
  t::keep,g,hg=>by
  rw[List.foldl_cons];obtain ⟨e1,e2⟩:=cj.D0 g t (fQ ids (f.get t));obtain ⟨h1,h2⟩:=FV ids f n keep (g.put (some t) (fQ ids (f.get t))) (by rw[e1,hg])
  refine ⟨h1,λi=>?_⟩
  rcases h2 i with h|h
  .
   rw[h,e2];by_cases hi:i=t/\t<g.n
   .
    rw[if_pos hi,hi.1];exact .inr rfl
   rw[if_neg hi];exact .inl rfl
  exact .inr h
theorem MC.Bn {S:Wo} {E:Mem} (hr:Rel S H E) {ids:List Nat}:∀{l:List (AV×AV)} {cs:List Value},MC S l cs->MC (S.Bn H ids) (l.map λq=>(fQ ids q.1,fQ ids q.2)) cs
 |[],cs,h=>h
 |q::l,cs,⟨y,x,r,h1,h0,h2,h3⟩=>⟨y,x,r,h1,h0.Bn hr,h2.Bn hr,MC.Bn hr h3⟩
variable {β:Type} {r:β}
theorem T2 {keep:List Tmp} {f:cj} {k:cj->aa->Option β} (h:OX keep f H k=some r):∃f' H',k f' H'=some r/\∀(S:Wo) (E:Mem) (fE:Fr),Rel S H E->gS S f fE->∃S',gS S' f' fE/\Rel S' H' E/\Bc S H E S' H' E:=by
 unfold OX at h
 simp only at h
 generalize ajq:(keep.foldl (λacc t=>Kq acc (f.get t)) (List.range H.par)).foldl (OW H) (keep.foldl (λacc t=>Kq acc (f.get t)) (List.range H.par))=ids at h
 rw[pick2_eq] at h
 split at h
 case isFalse=>cases h
 rename_i hc
 simp only[Bool.and_eq_true,Nat.beq_eq] at hc
 obtain ⟨⟨hnd,hpar⟩,hlk⟩:=hc
 have hpar:ids.take H.par=List.range H.par:=by simpa using hpar
 refine ⟨_,_,h,λS E fE hr hf=>⟨S.Bn H ids,?_,?_,?_⟩⟩
 all_goals
  obtain ⟨k1,k2⟩:=FV ids f f.n keep ⟨f.n,.e⟩ rfl;obtain ⟨p1,p2,p3,p4⟩:=FU H ids ids ⟨0,0,H.par,.e⟩
 .
  refine ⟨by rw[k1,hf.n],λi=>?_⟩
  rcases k2 i with e|e
  .
   rw[e];exact .iO _
  rw[e];exact (hf.v i).Bn hr
 all_goals
  have Mv:∀j q,(ids.foldl (λM id=>M.push (lK H ids id)) (⟨0,0,H.par,.e⟩:aa)).get j=some q->∃id r,ids[j]? = some id/\H.get id=some r/\q=TN ids r:=λj q hj=>by
   rw[p4,if_neg (by simp)] at hj
   simp only[Nat.sub_zero,Option.map_eq_some_iff,Option.bind_eq_some_iff] at hj;obtain ⟨r,⟨id,h1,h2⟩,rfl⟩:=hj;exact ⟨id,r,h1,h2,rfl⟩
  have ρj:∀{j id},ids[j]? = some id->(S.Bn H ids).ρ j=S.ρ id:=λ{j id} hj=>by
   show (ids[j]?).bind S.ρ=_;rw[hj];rfl
  have afY:H.par<=ids.length:=by
   have:=congrArg List.length hpar;simp at this;omega
 .
  refine ⟨hr.fz,λj x hx=>?_,λj v hj=>?_,λj q hj=>?_,λj j' q q' y y' hj hj' hy hy' he=>?_,λj q y hj hb hy=>?_,λj q y hj _ hy=>?_,by rw[p1,p2];simp,by rw[p1,p3];simpa using afY,hr.EJ⟩
  .
   rw[p1];have hx:(ids[j]?).bind S.ρ=some x:=hx;cases hi:ids[j]? with
   |none=>rw[hi] at hx;cases hx
   |some id=>have:=bB hi;simpa using this
  .
   rw[p1] at hj;show (if v=0 then (ids[j]?).bind _ else none)=none;rw[List.getElem?_eq_none (by simpa using hj)]
   split<;>rfl
  .
   obtain ⟨id,r,h1,h2,rfl⟩:=Mv j q hj;have hrow:=hr.row id r h2;cases r with
   |dead=>trivial
   |
    cells t cs =>
    obtain ⟨i,c,s,b,a1,a2,a3,a4⟩:=hrow;exact ⟨i,c,s,b,by rw[ρj h1];exact a1,a2,a3.Bn hr,a4⟩
   |
    mp t ks =>
    obtain ⟨i,c,s,b,a1,a2⟩:=hrow;exact ⟨i,c,s,b,by rw[ρj h1];exact a1,a2⟩
   |
    mf t ks =>
    obtain ⟨i,c,s,b,a1,a2,a3,a4,a5⟩:=hrow;exact ⟨i,c,s,b,by rw[ρj h1];exact a1,a2,a3,a4.Bn hr,a5⟩
   |
    list t e l cB ex ro =>
    obtain ⟨a1,⟨a2,g,a3,a4⟩,a5⟩:=hrow
    have hΓ:(S.Bn H ids).Γ j 0=some ⟨e,l⟩:=by
     show (if 0=0 then (ids[j]?).bind _ else none)=_;rw[if_pos rfl,h1];simp only[Option.bind_some,h2]
    refine ⟨hΓ,⟨λv hv=>if_neg (by omega),⟨e,l⟩,hΓ,rfl⟩,?_⟩
    rcases a5 with ⟨b1,b2,b3⟩|⟨i,cap,b,mid,post,q1,q2⟩
    .
     exact .inl ⟨b1,by rw[ρj h1];exact b2,b3⟩
    exact .inr ⟨i,cap,b,mid,post,by rw[ρj h1];exact q1,q2⟩
  .
   obtain ⟨id,r,h1,h2,rfl⟩:=Mv j q hj;obtain ⟨id',r',h1',h2',rfl⟩:=Mv j' q' hj';rw[ρj h1] at hy;rw[ρj h1'] at hy';have:=hr.inj id id' r r' y y' h2 h2' hy hy' he;subst this;exact xu hnd j j' id h1 h1'
  .
   obtain ⟨id,r,h1,h2,rfl⟩:=Mv j q hj;rw[ρj h1] at hy;rw[Kx] at hb;exact hr.sep id r y h2 hb hy
  obtain ⟨id,r,h1,h2,rfl⟩:=Mv j q hj;rw[ρj h1] at hy;exact hr.lk id r y h2 (by omega) hy
 refine ⟨Nat.le_refl _,rfl,by rw[p2,hlk],p3,λ_ _ h=>h,λi ho _=>?_,λi hi=>.inl hi,λ_ _ _=>rfl,λid hid=>?_⟩
 .
  obtain ⟨j,q,y,hj,hb,hy,rfl⟩:=ho;obtain ⟨id,r,h1,h2,rfl⟩:=Mv j q hj;rw[ρj h1] at hy;rw[Kx] at hb;exact ⟨id,r,y,h2,hb,hy,rfl⟩
 refine ρj ?_
 have:(ids.take H.par)[id]? = some id:=by rw[hpar];simp[hid]
 rw[List.getElem?_take,if_pos hid] at this
 exact this
end
end Go.Tv

namespace Go.Tv
open Go.Ev (Tr pick2 Leave Mem Blk alive pick2_eq alive_some opA Fr)
def iz.kS:iz->Bool
 |.none=>true
 |.node k a b=>k.isNone&&a.kS&&b.kS
theorem iz.gT {a:iz} (h:a.kS=true):a.keep=Option.none:=by
 cases a with
 |none=>rfl
 |
  node k a b =>
  simp only[iz.kS,Bool.and_eq_true] at h;show k=Option.none;exact Option.isNone_iff_eq_none.1 h.1.1
theorem iz.vZ {a:iz} (h:a.kS=true):a.l.kS=true:=by
 cases a with
 |none=>rfl
 |node k a b=>simp only[iz.kS,Bool.and_eq_true] at h;exact h.1.2
theorem iz.Pu {a:iz} (h:a.kS=true):a.r.kS=true:=by
 cases a with
 |none=>rfl
 |node k a b=>simp only[iz.kS,Bool.and_eq_true] at h;exact h.2
section
variable {X:cR} {cf:Nat×Nat->Ev.aP} {β:Type} {r:β} {nf:Bool}
def Pv (nf:Bool) (f:cj) (H:aa) (f':cj) (H':aa):Prop :=
 ∀(S:Wo) (E:Mem) (fE:Fr),Rel S H E->gS S f fE->∃S',gS S' f' fE/\Rel S' H' E/\Bc S H E S' H' E/\(nf=true->S.le S'/\St S H E S' H' E)
theorem Pw {a:iz} (hn:nf=true->a.keep=none) {f:cj} {H:aa} {k:cj->aa->Option β} (h:Bb a f H k=some r):∃f' H',k f' H'=some r/\Pv nf f H f' H':=by
 unfold Bb at h
 split at h
 .
  exact ⟨f,H,h,λS E fE hr hf=>⟨S,hf,hr,Bc.refl _ _ _,λ_=>⟨S.le_refl,St.refl _ _ _⟩⟩⟩
 rename_i l hl
 obtain ⟨f',H',h1,h2⟩:=T2 h
 refine ⟨f',H',h1,λS E fE hr hf=>?_⟩
 obtain ⟨S',a1,a2,a3⟩:=h2 S E fE hr hf
 exact ⟨S',a1,a2,a3,λhnf=>by rw[hn hnf] at hl;cases hl⟩
theorem Pv.then {α:Type} {run:Nat×Nat->Fr->Mem->Option (α×Fr×Mem)} {a:α} {f f1 f2:cj} {H H1 H2:aa} (h:Pv nf f H f1 H1) (k:rV X nf run a f1 H1 f2 H2):rV X nf run a f H f2 H2:=by
 intro S E fE hr hg hf
 obtain ⟨S1,a1,a2,a3,a4⟩:=h S E fE hr hf
 obtain ⟨S2,Kv,E2,b1,b2,b3,b4,b5⟩:=k S1 E fE a2 (hg.mono' a3.F) a1
 exact ⟨S2,Kv,E2,b1,b2,b3,a3.trans b4,λhnf=>⟨Wo.le_trans (a4 hnf).1 (b5 hnf).1,(a4 hnf).2.trans (b5 hnf).2⟩⟩
theorem rV.then {f f1 f2:cj} {H H1 H2:aa} {FW abX run:Nat×Nat->Fr->Mem->Option (Leave×Fr×Mem)} {lv lv':Leave} (h:rV X nf FW lv f H f1 H1) (k:rV X nf abX lv' f1 H1 f2 H2)
 (hrun:∃N0,∀n fE E tj E1 Kv E2,N0<=n.1->FW n fE E=some (lv,tj,E1)->abX n tj E1=some (lv',Kv,E2)->run n fE E=some (lv',Kv,E2)):rV X nf run lv' f H f2 H2:=by
 intro S E fE hr hg hf
 obtain ⟨N0,hrun⟩:=hrun
 obtain ⟨S1,tj,E1,⟨N1,a1⟩,a2,a3,a4,a5⟩:=h S E fE hr hg hf
 obtain ⟨S2,Kv,E2,⟨N2,b1⟩,b2,b3,b4,b5⟩:=k S1 E1 tj a3 (hg.mono' a4.F) a2
 refine ⟨S2,Kv,E2,⟨max N0 (max N1 N2),λn hn=>?_⟩,b2,b3,a4.trans b4,λhnf=>⟨Wo.le_trans (a5 hnf).1 (b5 hnf).1,(a5 hnf).2.trans (b5 hnf).2⟩⟩
 exact hrun n fE E tj E1 Kv E2 (by omega) (a1 n ⟨by omega,by omega⟩) (b1 n ⟨by omega,by omega⟩)
theorem rV.same {f f1:cj} {H H1:aa} {FW run:Nat×Nat->Fr->Mem->Option (Leave×Fr×Mem)} {lv lv':Leave} (h:rV X nf FW lv f H f1 H1)
 (hrun:∃N0,∀n fE E tj E1,N0<=n.1->FW n fE E=some (lv,tj,E1)->run n fE E=some (lv',tj,E1)):rV X nf run lv' f H f1 H1:=by
 intro S E fE hr hg hf
 obtain ⟨N0,hrun⟩:=hrun
 obtain ⟨S1,tj,E1,⟨N1,a1⟩,a2⟩:=h S E fE hr hg hf
 exact ⟨S1,tj,E1,⟨max N0 N1,λn hn=>hrun n fE E tj E1 (by omega) (a1 n ⟨by omega,by omega⟩)⟩,a2⟩
theorem rV.here {run:Nat×Nat->Fr->Mem->Option (Leave×Fr×Mem)} {lv:Leave} {f:cj} {H:aa} (h:∀n fE E,run n fE E=some (lv,fE,E)):rV X nf run lv f H f H :=
 λS E fE hr hg hf=>⟨S,fE,E,⟨0,λn _=>h n fE E⟩,hf,hr,Bc.refl _ _ _,λ_=>⟨S.le_refl,St.refl _ _ _⟩⟩
def lO (X:cR) (nf:Bool) (β:Type) (g:cj->aa->KT β->Option β) (run:Nat×Nat->Fr->Mem->Option (Leave×Fr×Mem)):Prop :=
 ∀f H k (r:β),g f H k=some r->∃lv f' H',k lv f' H'=some r/\rV X nf run lv f H f' H'
def rF (X:cR) (nf:Bool) {β:Type} (J:oa β) (JE:Nat×Nat->Ev.pE):Prop :=
 ∀c rest,lO X nf β (J c rest) (λn fE E=>JE n c rest fE E)
theorem Cj {y:cj->aa->Option β} {k:KT β} {lv:Leave} {f:cj} {H:aa} (h:qt y k lv f H=some r):(lv = .normal/\y f H=some r)\/(lv ≠ .normal/\k lv f H=some r):=by
 unfold qt at h
 split at h
 .
  exact .inl ⟨rfl,h⟩
 .
  exact .inr ⟨by simp,h⟩
 .
  exact .inr ⟨by simp,h⟩
 exact .inr ⟨by simp,h⟩
theorem Py (fE:Fr) (E:Mem) (k:Fr->Mem->Ev.Out):Ev.andThen (some (.normal,fE,E)) k=k fE E:=rfl
theorem sj {lv:Leave} (h:lv ≠ .normal) (fE:Fr) (E:Mem) (k:Fr->Mem->Ev.Out):Ev.andThen (some (lv,fE,E)) k=some (lv,fE,E):=by
 cases lv<;>first|rfl|exact absurd rfl h
theorem uu {a:iz} (hn:nf=true->a.keep=none) {body:cj->aa->KT β->Option β} {FX:Nat×Nat->Fr->Mem->Option (Leave×Fr×Mem)} (hb:lO X nf β body FX):∀(m d:Nat) (f:cj) (H:aa) (k:KT β),Kr a body k m f H=some r ->
 ∃lv f' H',k lv f' H'=some r/\rV X nf (λn fE E=>Ev.wT (FX n) (n.1-d) fE E) lv f H f' H'
 |0,d,f,H,k,h=>by cases h
 |
  m+1,d,f,H,k,h=>by
  have h:body f H (qt (λf H=>Bb a f H (Kr a body k m)) k)=some r:=h
  obtain ⟨lv,f2,H2,h3,h4⟩:=hb _ _ _ _ h;have hstep:∀(q:Nat) (n:Nat×Nat) fE E,Ev.wT (FX n) (q+1) fE E=Ev.andThen (FX n fE E) (Ev.wT (FX n) q):=λq n fE E=>rfl
  rcases Cj h3 with ⟨rfl,h5⟩|⟨hne,h5⟩
  .
   obtain ⟨f1,H1,h1,h2⟩:=Pw hn h5;obtain ⟨lv',f3,H3,h6,h7⟩:=uu hn hb m (d+1) f1 H1 k h1;refine ⟨lv',f3,H3,h6,h4.then (h2.then h7) ⟨d+1,λn fE E tj E1 Kv E2 hn' e1 e2=>?_⟩⟩
   have:n.1-d=(n.1-(d+1))+1:=by omega
   rw[this,hstep,e1];exact e2
  refine ⟨lv,f2,H2,h5,h4.same ⟨d+1,λn fE E tj E1 hn' e1=>?_⟩⟩
  have:n.1-d=(n.1-(d+1))+1:=by omega
  rw[this,hstep,e1];exact sj hne _ _ _
theorem Pz {id:Nat} {g:cj->aa->KT β->Option β} {run:Nat×Nat->Fr->Mem->Option (Leave×Fr×Mem)} (hg:lO X nf β g run):lO X nf β (λf H k=>g f H (zy id k)) (λn fE E=>Ev.gp id (run n fE E)):=by
 intro f H k r h
 obtain ⟨lv,f',H',h1,h2⟩:=hg _ _ _ _ h
 unfold zy at h1
 split at h1
 .
  rename_i id';rw[pick2_eq] at h1;split at h1
  .
   rename_i hid;refine ⟨_,f',H',h1,h2.same ⟨0,λn fE E tj E1 _ e1=>?_⟩⟩
   rw[e1];simp[Ev.gp,hid]
  rename_i hid;refine ⟨_,f',H',h1,h2.same ⟨0,λn fE E tj E1 _ e1=>?_⟩⟩
  rw[e1]
  have:Nat.beq id' id=false:=by
   cases hb:Nat.beq id' id with
   |true=>exact absurd hb hid
   |false=>rfl
  simp[Ev.gp,this]
 .
  exact ⟨_,f',H',h1,h2.same ⟨0,λn fE E tj E1 _ e1=>by rw[e1];rfl⟩⟩
 .
  exact ⟨_,f',H',h1,h2.same ⟨0,λn fE E tj E1 _ e1=>by rw[e1];rfl⟩⟩
 exact ⟨_,f',H',h1,h2.same ⟨0,λn fE E tj E1 _ e1=>by rw[e1];rfl⟩⟩
theorem FY {c:Code} {J:oa β} {JE:Nat×Nat->Ev.pE} (hJ:rF X nf J JE) {g:cj->aa->KT β->Option β} {run:Nat×Nat->Fr->Mem->Option (Leave×Fr×Mem)} (hg:lO X nf β g run):lO X nf β (λf H k=>g f H (vQ c J k)) (λn fE E=>Ev.fk c (JE n) (run n fE E)):=by
 intro f H k r h
 obtain ⟨lv,f',H',h1,h2⟩:=hg _ _ _ _ h
 unfold vQ at h1
 split at h1
 .
  rename_i l;split at h1
  .
   rename_i rest hl;obtain ⟨lv',f2,H2,h3,h4⟩:=hJ c rest _ _ _ _ h1;refine ⟨lv',f2,H2,h3,h2.then h4 ⟨0,λn fE E tj E1 Kv E2 _ e1 e2=>?_⟩⟩
   rw[e1];simp only[Ev.fk,hl];exact e2
  rename_i hl;exact ⟨_,f',H',h1,h2.same ⟨0,λn fE E tj E1 _ e1=>by rw[e1];simp only[Ev.fk,hl]⟩⟩
 .
  exact ⟨_,f',H',h1,h2.same ⟨0,λn fE E tj E1 _ e1=>by rw[e1];rfl⟩⟩
 .
  exact ⟨_,f',H',h1,h2.same ⟨0,λn fE E tj E1 _ e1=>by rw[e1];rfl⟩⟩
 exact ⟨_,f',H',h1,h2.same ⟨0,λn fE E tj E1 _ e1=>by rw[e1];rfl⟩⟩
theorem rG {a:iz} (hn:nf=true->a.keep=none) {g:cj->aa->KT β->Option β} {run:Nat×Nat->Fr->Mem->Option (Leave×Fr×Mem)} (hg:lO X nf β g run):lO X nf β (λf H k=>Bb a f H λf H=>g f H k) run:=by
 intro f H k r h
 obtain ⟨f1,H1,h1,h2⟩:=Pw hn h
 obtain ⟨lv,f2,H2,h3,h4⟩:=hg _ _ _ _ h1
 exact ⟨lv,f2,H2,h3,h2.then h4⟩
theorem Ky {call:aY β} (hcall:aQ X cf call) {tr:List Tmp} {J:oa β} {JE:Nat×Nat->Ev.pE} (hJ:rF X nf J JE) (rounds:Nat) (c:Code):∀(a:iz),(nf=true->a.kS=true)->lO X nf β (eT X call tr J rounds c a) (λn fE E=>Ev.iB X.P X.G (cf n) (JE n) n.1 c fE E):=by
 induction c with
 |skip=>intro a _ f H k r h;exact ⟨_,f,H,h,.here λ_ _ _=>rfl⟩
 |
  region id ops draw =>
  intro a hn;refine rG (g:=λf H k=>ya X call tr ops draw f H λf H=>k .normal f H) (λh=>iz.gT (hn h)) λf H k r h=>?_
  obtain ⟨f',H',h1,h2⟩:=vI hcall h;refine ⟨_,f',H',h1,λS E fE hr hg hf=>?_⟩
  obtain ⟨S',fE',E',a1,a2,a3,a4,a5⟩:=h2 S E fE hr hg hf;exact ⟨S',fE',E',a1,a2,a3,a4,λ_=>a5 rfl⟩
 |
  seq x y OB OC =>
  intro a hn;refine rG (g:=λf H k=>eT X call tr J rounds x a.l f H (qt (λf H=>eT X call tr J rounds y a.r f H k) k)) (λh=>iz.gT (hn h)) λf H k r h=>?_
  obtain ⟨lv,f1,H1,h1,h2⟩:=OB a.l (λh=>iz.vZ (hn h)) _ _ _ _ h
  have hs:∀n fE E,Ev.iB X.P X.G (cf n) (JE n) n.1 (.seq x y) fE E=Ev.andThen (Ev.iB X.P X.G (cf n) (JE n) n.1 x fE E) (Ev.iB X.P X.G (cf n) (JE n) n.1 y):=λn fE E=>rfl
  rcases Cj h1 with ⟨rfl,h3⟩|⟨hne,h3⟩
  .
   obtain ⟨lv',f2,H2,h4,h5⟩:=OC a.r (λh=>iz.Pu (hn h)) _ _ _ _ h3
   exact ⟨lv',f2,H2,h4,h2.then h5 ⟨0,λn fE E tj E1 Kv E2 _ e1 e2=>by rw[hs,e1];exact e2⟩⟩
  exact ⟨lv,f1,H1,h3,h2.same ⟨0,λn fE E tj E1 _ e1=>by rw[hs,e1];exact sj hne _ _ _⟩⟩
 |
  cond c x y OB OC =>
  intro a hn
  refine rG (g:=λf H k=>pick2 (Ev.bA X.G c) (match f.eval X c with
   |.bool b=>pick2 b (eT X call tr J rounds x a.l f H k) (eT X call tr J rounds y a.r f H k)
   |_=>none) none) (λh=>iz.gT (hn h)) λf H k r h=>?_
  simp only at h;rw[pick2_eq] at h;split at h
  case isFalse=>cases h
  rename_i hok;split at h
  .
   rename_i b hb;have hs:∀n fE E,Ev.iB X.P X.G (cf n) (JE n) n.1 (.cond c x y) fE E=pick2 (Ev.bA X.G c) (Ev.BI (fE.eval c) (Ev.iB X.P X.G (cf n) (JE n) n.1 x) (Ev.iB X.P X.G (cf n) (JE n) n.1 y) fE E) none:=λn fE E=>rfl
   have both:∃lv f' H',k lv f' H'=some r/\rV X nf (λn fE E=>pick2 b (Ev.iB X.P X.G (cf n) (JE n) n.1 x fE E) (Ev.iB X.P X.G (cf n) (JE n) n.1 y fE E)) lv f H f' H':=by
    cases b with
    |true=>exact OB a.l (λh=>iz.vZ (hn h)) _ _ _ _ h
    |false=>exact OC a.r (λh=>iz.Pu (hn h)) _ _ _ _ h
   obtain ⟨lv,f',H',h1,h2⟩:=both;refine ⟨lv,f',H',h1,λS E fE hr hg hf=>?_⟩
   obtain ⟨S',fE',E',⟨N,a1⟩,a2⟩:=h2 S E fE hr hg hf;refine ⟨S',fE',E',⟨N,λn hn'=>?_⟩,a2⟩
   have hv:=oh hf hg hok;rw[hb] at hv;have a1:=a1 n hn';simp only at a1 ⊢;rw[hs,hok,hv.eU];exact a1
  cases h
 |
  block id b ih =>
  intro a hn;exact rG (g:=λf H k=>eT X call tr J rounds b a.l f H (zy id k)) (λh=>iz.gT (hn h)) (Pz (ih a.l λh=>iz.vZ (hn h)))
 |
  loop b ih =>
  intro a hn f H k r h;obtain ⟨f1,H1,h1,h2⟩:=Pw (λh=>iz.gT (hn h)) h
  obtain ⟨lv,f',H',h3,h4⟩:=uu (λh=>iz.gT (hn h)) (ih a.l λh=>iz.vZ (hn h)) rounds 0 f1 H1 k h1
  exact ⟨lv,f',H',h3,h2.then h4⟩
 |rangeFunc f params assign body _ _=>intro a _ f H k r h;cases h
 |exit id=>intro a _ f H k r h;exact ⟨_,f,H,h,.here λ_ _ _=>rfl⟩
 |
  scope b ih =>
  intro a hn;exact rG (g:=λf H k=>eT X call tr J rounds b a.l f H (vQ b J k)) (λh=>iz.gT (hn h)) (FY hJ (ih a.l λh=>iz.vZ (hn h)))
 |label l=>intro a _ f H k r h;exact ⟨_,f,H,h,.here λ_ _ _=>rfl⟩
 |goto l=>intro a _ f H k r h;exact ⟨_,f,H,h,.here λ_ _ _=>rfl⟩
 |ret=>intro a _ f H k r h;exact ⟨_,f,H,h,.here λ_ _ _=>rfl⟩
 |refuse w=>intro a _ f H k r h;cases h
theorem Kz {ja:iz} (hn:nf=true->ja.keep=none) {J:oa β} {JE:Nat×Nat->Ev.pE} (hJ:rF X nf J JE):rF X nf (λc rest f H k=>Bb ja f H λf H=>J c rest f H k) JE :=
 λc rest=>rG (g:=J c rest) hn (hJ c rest)
theorem Ck {call:aY β} (hcall:aQ X cf call) {tr:List Tmp} {ja:iz} (hn:nf=true->ja.kS=true) (rounds:Nat):∀(m d:Nat),rF X nf (IK X call tr ja rounds m) (λn=>Ev.sG X.P X.G (cf n) n.1 (n.1-d))
 |0,d=>λc rest f H k r h=>by cases h
 |
  m+1,d=>λc rest=>by
  have ih:=Kz (λh=>iz.gT (hn h)) (Ck (tr:=tr) hcall hn rounds m (d+1))
  have key:=FY (c:=c) ih (Ky (tr:=tr) hcall ih rounds rest ja.l λh=>iz.vZ (hn h))
  intro f H k r h;obtain ⟨lv,f',H',h1,h2⟩:=key f H k r h;refine ⟨lv,f',H',h1,h2.same ⟨d+1,λn fE E tj E1 hn' e1=>?_⟩⟩
  have:n.1-d=(n.1-(d+1))+1:=by omega
  show Ev.sG X.P X.G (cf n) n.1 (n.1-d) c rest fE E=_;rw[this];exact e1
theorem PA {call:aY β} (hcall:aQ X cf call) {tr:List Tmp} {ja:iz} (hn:nf=true->ja.kS=true) (rounds:Nat) (m d:Nat):rF X nf (mH X call tr ja rounds m) (λn=>Ev.sG X.P X.G (cf n) n.1 (n.1-d)) :=
 Kz (λh=>iz.gT (hn h)) (Ck hcall hn rounds m d)
theorem vK {H:aa} {f:cj} {rv:ResultVar} {k:AV->Option β} (h:DQ X H f rv k=some r):∃v,k v=some r/\∀S E fE,Rel S H E->gS S f fE->∃x,Ev.tR X.P E fE rv=some x/\VR S v x:=by
 unfold DQ at h
 split at h
 .
  rename_i t;exact ⟨_,h,λS E fE hr hf=>⟨fE.get t,rfl,hf.v t⟩⟩
 rename_i x t
 obtain ⟨v,h1,h2⟩:=FG h
 exact ⟨v,h1,λS E fE hr hf=>h2 S E _ hr (hf.v x)⟩
theorem oV {H:aa} {f:cj}:∀{l:List ResultVar} {k:List AV->Option β},qu X H f k l=some r->∃vs,k vs=some r/\∀S E fE,Rel S H E->gS S f fE->∃xs,Ev.eO X.P E fE l=some xs/\LV S vs xs
 |[],k,h=>⟨[],h,λS E fE hr hf=>⟨[],rfl,LV.nil⟩⟩
 |
  rv::l,k,h=>by
  obtain ⟨v,h1,h2⟩:=vK h;obtain ⟨vs,h3,h4⟩:=oV h1;refine ⟨v::vs,h3,λS E fE hr hf=>?_⟩
  obtain ⟨x,e1,e2⟩:=h2 S E fE hr hf;obtain ⟨xs,e3,e4⟩:=h4 S E fE hr hf;exact ⟨x::xs,by simp only[Ev.eO,e1,e3],LV.cons e2 e4⟩
theorem D2 {S:Wo} {vs:List AV} {xs:List Value} (h:LV S vs xs):VR S (iF vs) (Ev.rQ xs):=by
 match vs,xs,h with
 |[],xs,h=>rw[h.dO];exact .cO [] [] rfl (λj x y hx=>by simp at hx)
 |
  [v],xs,h =>
  obtain ⟨x,m,rfl,h1,h2⟩:=h.cons_inv;rw[h2.dO];exact h1
 |
  v::w::vs,xs,h =>
  obtain ⟨x,m,rfl,h1,h2⟩:=h.cons_inv;obtain ⟨y,m',rfl,h3,h4⟩:=h2.cons_inv;exact .cO _ _ h.1 h.2
theorem zJ:∀(l:List Value) (f:Fr) (i:Nat),∃f',f.fill i l=some f'
 |[],f,i=>⟨f,rfl⟩
 |
  v::l,f,i=>by
  obtain ⟨f1,h1⟩:=Fr.rE f (some i) v;obtain ⟨f2,h2⟩:=zJ l f1 (i+1);exact ⟨f2,by simp only[Ev.Fr.fill,h1,h2]⟩
theorem FZ {S:Wo}:∀{vs:List AV} {xs:List Value} {f:cj} {fE fE':Fr} {i:Nat},gS S f fE->LV S vs xs->fE.fill i xs=some fE'->gS S (f.fill i vs) fE'
 |
  [],xs,f,fE,fE',i,hf,hl,h=>by
  rw[hl.dO] at h;cases h;exact hf
 |
  v::vs,xs,f,fE,fE',i,hf,hl,h=>by
  obtain ⟨x,m,rfl,h1,h2⟩:=hl.cons_inv;simp only[Ev.Fr.fill] at h;split at h
  .
   rename_i f1 hp;exact FZ (f:=f.put (some i) v) (hf.put h1 hp) h2 h
  cases h
theorem eS {call:aY β} (hcall:aQ X cf call) {an:bO} (hn:nf=true->an.EI.kS=true/\an.ja.kS=true) {rounds:Nat} {id:FuncId} {args:List AV} {H:aa} {k:AV->aa->Option β} (h:ag X call an rounds id args H k=some r) :
 ∃v H',k v H'=some r/\∀(S:Wo) (E:Mem) (az:List Value),Rel S H E->bS X S->LV S args az ->
  ∃S' vE E',(∃N,∀n:Nat×Nat,N<=n.1/\N<=n.2->Ev.jY X.P X.G (cf n) n.1 id az E=some (vE,E'))/\VR S' v vE/\Rel S' H' E'/\Bc S H E S' H' E'/\(nf=true->S.le S'/\St S H E S' H' E'):=by
 unfold ag at h
 split at h
 case h_2=>cases h
 rename_i fn hfn
 split at h
 case h_2=>cases h
 rename_i c hc
 rw[pick2_eq] at h
 split at h
 case isFalse=>cases h
 rename_i hlen
 have hJ:=PA (tr:=an.tr) hcall (λh=>(hn h).2) rounds rounds 0
 obtain ⟨lv,f',H',h1,h2⟩:=Ky (tr:=an.tr) hcall hJ rounds c an.EI (λh=>(hn h).1) _ _ _ _ h
 have fin:(lv = .normal\/lv = .ret)->qu X H' f' (λvs=>k (iF vs) H') fn.results.toList=some r->∃v H',k v H'=some r/\∀(S:Wo) (E:Mem) (az:List Value),Rel S H E->bS X S->LV S args az ->
  ∃S' vE E',(∃N,∀n:Nat×Nat,N<=n.1/\N<=n.2->Ev.jY X.P X.G (cf n) n.1 id az E=some (vE,E'))/\VR S' v vE/\Rel S' H' E'/\Bc S H E S' H' E'/\(nf=true->S.le S'/\St S H E S' H' E'):=λhlv hres=>by
  obtain ⟨vs,h3,h4⟩:=oV hres;refine ⟨iF vs,H',h3,λS E az hr hg hl=>?_⟩
  obtain ⟨f0,hf0⟩:=zJ az (Fr.mk fn.ntmps (Tr.full (Ev.Df fn.ntmps))) 0;have abY:gS S (cj.mk fn.ntmps .e) (Fr.mk fn.ntmps (Tr.full (Ev.Df fn.ntmps))):=⟨rfl,λi=>.iO _⟩
  obtain ⟨S',fE',E',⟨N,a1⟩,a2,a3,a4,a5⟩:=h2 S E f0 hr hg (FZ abY hl hf0);obtain ⟨xs,e1,e2⟩:=h4 S' E' fE' a3 a2;refine ⟨S',Ev.rQ xs,E',⟨N,λn hn'=>?_⟩,D2 e2,a3,a4,a5⟩
  unfold Ev.jY;have a1:=a1 n hn';simp only[Nat.sub_zero] at a1;simp only[hfn,hc,hf0];have hlen':Nat.ble az.length fn.ntmps=true:=by rw[<-hl.1];exact hlen
  rw[hlen',a1];rcases hlv with rfl|rfl
  .
   show Ev.withMem E' ((Ev.eO X.P E' fE' fn.results.toList).map Ev.rQ)=_;rw[e1];rfl
  show Ev.withMem E' ((Ev.eO X.P E' fE' fn.results.toList).map Ev.rQ)=_;rw[e1];rfl
 unfold lM at h1
 split at h1
 .
  exact fin (.inl rfl) h1
 .
  exact fin (.inr rfl) h1
 cases h1
noncomputable def bg (X:cR) (kn:Ev.bK):Nat×Nat->Ev.aP:=λn=>Ev.je X.P X.G kn n.1 n.2
theorem cn {kn:Ev.bK} {id:FuncId} (hk:∀args,kn id args=none) {az:List Value} {E E':Mem} {vE:Value} (h:∃N,∀n:Nat×Nat,N<=n.1/\N<=n.2->Ev.jY X.P X.G (bg X kn n) n.1 id az E=some (vE,E')):∃N,∀n:Nat×Nat,N<=n.1/\N<=n.2->bg X kn n id az E=some (vE,E'):=by
 obtain ⟨N,h⟩:=h
 refine ⟨N+1,λn hn=>?_⟩
 obtain ⟨R,D⟩:=n
 obtain ⟨D',rfl⟩:∃D',D=D'+1:=⟨D-1,by have:=hn.2;simp only at this;omega⟩
 have:=h (R,D') ⟨by have:=hn.1;simp only at this ⊢;omega,by have:=hn.2;simp only at this ⊢;omega⟩
 show Ev.je X.P X.G kn R (D'+1) id az E=_
 rw[Ev.gA,hk]
 show Ev.iM (Ev.jB X.P kn id az E) _=_
 rw[Ev.Iw (hk _)]
 show Ev.iM (Ev.jY X.P X.G (Ev.je X.P X.G kn R D') R id az E) _=_
 have e:Ev.jY X.P X.G (Ev.je X.P X.G kn R D') R id az E=some (vE,E'):=this
 rw[e];rfl
theorem aeF {kn:Ev.bK} {id:FuncId} (hk:∀args,kn id args=none) {call:∀ β,aY β} (hcall:∀ β,aQ X (bg X kn) (call β)) {an:bO} (hn:an.EI.kS=true/\an.ja.kS=true) {rounds:Nat} {args:List AV} {H H':aa} {v:AV}
 (h:ag X (call (AV×aa)) an rounds id args H (λv H=>some (v,H))=some (v,H')):IU X (bg X kn) id args H v H':=by
 obtain ⟨v',H1,h1,h2⟩:=eS (nf:=true) (hcall _) (λ_=>hn) h
 cases h1
 intro S E az hr hg hl
 obtain ⟨S',vE,E',a1,a2,a3,a4,a5⟩:=h2 S E az hr hg hl
 exact ⟨S',vE,E',cn hk a1,(a5 rfl).1,a2,a3,(a5 rfl).2⟩
end
end Go.Tv

namespace Go.Tv
open Go.Ev (Tr pick2 Leave Mem Blk alive pick2_eq alive_some opA Fr)
inductive bL where
 |val (v:AV)
 |list (t:TypeId) (e:Ty) (l:List e.den)
 |room (t:TypeId) (e:Ty) (l:List e.den) (len:Nat)
noncomputable def fG:List bL->aa->List AV×aa
 |[],H=>([],H)
 |.val v::rs,H=>(v::(fG rs H).1,(fG rs H).2)
 |.list t e l::rs,H=>(.own H.next l.length::(fG rs (H.push (.list t e l 0 false false))).1,(fG rs (H.push (.list t e l 0 false false))).2)
 |.room t e l len::rs,H=>(.pO H.next 0 len l.length::(fG rs (H.push (.list t e l 0 true false))).1,(fG rs (H.push (.list t e l 0 true false))).2)
def nu:AV->Bool
 |.int _ _=>true
 |.bool _=>true
 |.str _=>true
 |.lg _=>true
 |.bR=>true
 |.jt=>true
 |
  .agg l=>l.all λv=>match v with
  |.int _ _=>true
  |.bool _=>true
  |.str _=>true
  |.lg _=>true
  |.bR=>true
  |.jt=>true
  |_=>false
 |_=>false
def oo (H:aa):List Nat->List AV->List bL->Prop
 |_,[],[]=>True
 |seen,v::vs,.val w::rs=>v=w/\nu w=true/\oo H seen vs rs
 |seen,v::vs,.list t e l::rs=>e.n9=true/\((∃id cB ex,v = .own id l.length/\H.get id=some (.list t e l cB ex false)/\id ∉ seen/\oo H (id::seen) vs rs)\/(v = .bR/\l=[]/\oo H seen vs rs))
 |seen,v::vs,.room t e l len::rs=>e.n9=true/\∃id cB,v = .pO id 0 len l.length/\H.get id=some (.list t e l cB true false)/\id ∉ seen/\oo H (id::seen) vs rs
 |_,_,_=>False
theorem CR.Cl {F F':Nat->Option (List Value)}:∀(e:Ty),e.n9=true->∀(x:e.den) (cs:List Value),CR F e x cs->CR F' e x cs
 |.int _,_,_,_,h=>h
 |.bool,_,_,_,h=>h
 |.str,_,_,_,h=>h
 |.lg,_,_,_,h=>h
 |.unit,_,_,_,h=>h
 |.sl _,h,_,_,_=>by cases h
 |
  .pair a b,h,_,_,⟨c1,c2,e,h1,h2⟩=>by
  simp only[Ty.n9,Bool.and_eq_true] at h;exact ⟨c1,c2,e,CR.Cl a h.1 _ _ h1,CR.Cl b h.2 _ _ h2⟩
theorem KA {S S':Wo} {v:AV} {x:Value} (h:nu v=true) (hv:VR S v x):VR S' v x:=by
 cases hv with
 |int=>exact .int _ _
 |bool=>exact .bool _
 |str=>exact .str _
 |lg=>exact .lg _
 |bR=>exact .bR
 |jt=>exact .jt
 |
  agg l m hl hm =>
  refine .agg l m hl λj a b ha hb=>?_
  have h1:=hm j a b ha hb;have h2:=List.all_eq_true.1 h a (List.mem_of_getElem? ha);cases h1<;>first|(cases h2;done)|constructor
 |_=>cases h
theorem Rel.grow {S:Wo} {H:aa} {E E':Mem} (h:Rel S H E) (hs:E.size<=E'.size) (hlk:E'.lk=E.lk) (hk:∀i,i<E.size->E'.get i=E.get i):Rel S H E':=by
 refine ⟨λi cs hi=>?_,h.dom,h.Bl,λid q hq=>?_,h.inj,h.sep,λid q x hq hl hx=>by rw[hlk];exact h.lk id q x hq hl hx,h.tT,h.IL,by rw[hlk];have:=h.EJ;omega⟩
 .
  obtain ⟨b,h1,h2⟩:=h.fz i cs hi;exact ⟨b,by rw[jk (hk i (fH h1))];exact h1,h2⟩
 exact (h.row id q hq).keep S.le_refl (λh=>h) (λ_ h=>h) λx hx=>by
  obtain ⟨b,hb⟩:=h.old hq hx;exact hk _ (Mem.bB hb)
theorem Rel.sk {S:Wo} {H:aa} {E:Mem} (h:Rel S H E) {r:Row} {x:Option (Nat×Nat×Nat)} {g:Option (Sigma λe:Ty=>List e.den)}
 (hr:∀r',r.live=some r'->nj (S.new H.next x g) E H.next r')
 (hx:∀y,x=some y->(∀id q z,H.get id=some q->S.ρ id=some z->z.1≠y.1)/\S.F y.1=none/\E.lk<=y.1) :
 S.le (S.new H.next x g)/\Rel (S.new H.next x g) (H.push r) E:=by
 have hle:=Wo.DR h x g
 obtain ⟨p1,p2,p3,p4⟩:=aa.bt H r
 have ρne:∀id,id≠H.next->(S.new H.next x g).ρ id=S.ρ id:=λid hid=>if_neg hid
 have ρeq:(S.new H.next x g).ρ H.next=x:=if_pos rfl
 have Γne:∀id v,id≠H.next->(S.new H.next x g).Γ id v=S.Γ id v:=λid v hid=>if_neg (by omega)
 have iY:∀id r',(H.push r).get id=some r'->(id=H.next/\r.live=some r')\/(id≠H.next/\H.get id=some r'):=λid r' hid=>by
  rw[p4] at hid;by_cases e:id=H.next
  .
   rw[if_pos e] at hid;exact .inl ⟨e,hid⟩
  rw[if_neg e] at hid;exact .inr ⟨e,hid⟩
 refine ⟨hle,⟨h.fz,λid y hy=>?_,λid v hv=>?_,λid r' hg=>?_,λid id' r1 r2 y y' hg hg' hy hy' he=>?_,λid r' y hg hb hy=>?_,λid r' y hg hl hy=>?_,by rw[p1,p2];have:=h.tT;omega,by rw[p1,p3];have:=h.IL;omega,h.EJ⟩⟩
 .
  rw[p1];by_cases e:id=H.next
  .
   omega
  rw[ρne id e] at hy;have:=h.dom id y hy;omega
 .
  rw[p1] at hv;rw[Γne id v (by omega)];exact h.Bl id v (by omega)
 .
  rcases iY id r' hg with ⟨rfl,hr'⟩|⟨e,hg'⟩
  .
   exact hr r' hr'
  exact (h.row id r' hg').keep hle (λhn=>by rw[ρne id e];exact hn) (λv hv=>by rw[Γne id v e];exact hv) λy hy=>rfl
 .
  rcases iY id r1 hg with ⟨rfl,h1⟩|⟨e1,h1⟩<;>rcases iY id' r2 hg' with ⟨rfl,h2⟩|⟨e2,h2⟩
  .
   rfl
  .
   rw[ρeq] at hy;rw[ρne id' e2] at hy';exact absurd he.symm ((hx y hy).1 id' r2 y' h2 hy')
  .
   rw[ρeq] at hy';rw[ρne id e1] at hy;exact absurd he ((hx y' hy').1 id r1 y h1 hy)
  rw[ρne id e1] at hy;rw[ρne id' e2] at hy';exact h.inj id id' r1 r2 y y' h1 h2 hy hy' he
 .
  rcases iY id r' hg with ⟨rfl,h1⟩|⟨e1,h1⟩
  .
   rw[ρeq] at hy;exact (hx y hy).2.1
  rw[ρne id e1] at hy;exact h.sep id r' y h1 hb hy
 rw[p2] at hl
 rcases iY id r' hg with ⟨rfl,h1⟩|⟨e1,h1⟩
 .
  rw[ρeq] at hy;exact (hx y hy).2.2
 rw[ρne id e1] at hy;exact h.lk id r' y h1 hl hy
def zK (S:Wo) (H:aa) (E E':Mem) (rs:List bL) (xs:List Value):Prop :=
 ∃S',S.le S'/\LV S' (fG rs H).1 xs/\Rel S' (fG rs H).2 E'/\S'.F=S.F/\H.next<=(fG rs H).2.next/\(fG rs H).2.lk=H.lk/\(fG rs H).2.par=H.par /\
  (∀id,id<H.next->(fG rs H).2.get id=H.get id/\S'.ρ id=S.ρ id)/\(∀id q z,H.next<=id->(fG rs H).2.get id=some q->S'.ρ id=some z->E.size<=z.1)
theorem v9 {S1:Wo} {H1:aa} {E E':Mem} (Ci:Rel S1 H1 E') (hnew:∀id r y,H1.get id=some r->r.B7=false->S1.ρ id=some y->E.size<=y.1) (hlk:E'.lk<=E.size):∀{vs:List AV} {rs:List bL} {seen:List Nat} {xs:List Value} {S:Wo} {H:aa},oo H1 seen vs rs->LV S1 vs xs->Rel S H E' ->
 (∀i,S.F i≠none->i<E.size)->(∀id q z,H.get id=some q->S.ρ id=some z->z.1<E.size\/∃ye y,ye∈seen/\S1.ρ ye=some y/\y.1=z.1/\H1.get ye≠none) ->
 zK S H E E' rs xs
 |
  [],[],seen,xs,S,H,_,hl,hr,hF,hown=>by
  rw[hl.dO];exact ⟨S,S.le_refl,LV.nil,hr,rfl,Nat.le_refl _,rfl,rfl,λ_ _=>⟨rfl,rfl⟩,λid q z hid hq _=>absurd (aa.bB hq) (by show ¬id<H.next;omega)⟩
 |
  v::vs,r0::rs,seen,xs,S,H,h,hl,hr,hF,hown=>by
  obtain ⟨x,xs',rfl,h1,h2⟩:=hl.cons_inv;have jN:∀v,S.Γ H.next v=none:=λv=>hr.Bl _ _ (Nat.le_refl _)
  -- how to go on behind a row more
  have go:∀(t:TypeId) (e:Ty) (l:List e.den) (ex:Bool) (vv:AV) (seen':List Nat) (y:Option (Nat×Nat×Nat)),(fG (r0::rs) H=(vv::(fG rs (H.push (.list t e l 0 ex false))).1,(fG rs (H.push (.list t e l 0 ex false))).2))->oo H1 seen' vs rs->S.le (S.new H.next y (some ⟨e,l⟩))->Rel (S.new H.next y (some ⟨e,l⟩)) (H.push (.list t e l 0 ex false)) E'->VR (S.new H.next y (some ⟨e,l⟩)) vv x ->
   (∀z,y=some z->E.size<=z.1/\∃ye y1,ye∈seen'/\S1.ρ ye=some y1/\y1.1=z.1/\H1.get ye≠none)->(∀id,id∈seen->id∈seen')->zK S H E E' (r0::rs) (x::xs'):=λt e l ex vv seen' y heq hres hle hrel XS hy hsub=>by
   obtain ⟨p1,p2,p3,p4⟩:=aa.bt H (.list t e l 0 ex false)
   have hown':∀id q z,(H.push (.list t e l 0 ex false)).get id=some q->(S.new H.next y (some ⟨e,l⟩)).ρ id=some z->z.1<E.size\/∃ye y,ye∈seen'/\S1.ρ ye=some y/\y.1=z.1/\H1.get ye≠none:=λid q z hq hz=>by
    rw[p4] at hq;by_cases hid:id=H.next
    .
     subst hid;have hz:y=some z:=by rw[<-hz];exact (if_pos rfl).symm
     exact .inr (hy z hz).2
    rw[if_neg hid] at hq;have hz:S.ρ id=some z:=by rw[<-hz];exact (if_neg hid).symm
    rcases hown id q z hq hz with h|⟨ye,y1,k1,k2⟩
    .
     exact .inl h
    exact .inr ⟨ye,y1,hsub _ k1,k2⟩
   obtain ⟨S',a1,a2,a3,a4,a5,a6,a7,a8,a9⟩:=v9 Ci hnew hlk hres h2 hrel hF hown';rw[p1] at a5 a8 a9;rw[p2] at a6;rw[p3] at a7;unfold zK;rw[heq]
   exact
    ⟨S',Wo.le_trans hle a1,LV.cons (XS.mono a1) a2,a3,a4,by show H.next<=_;exact Nat.le_trans (Nat.le_succ _) a5,a6,a7,λid hid=>by
     obtain ⟨b1,b2⟩:=a8 id (by omega)
     refine ⟨b1.trans (by rw[p4,if_neg (by omega)]),b2.trans (if_neg (by omega))⟩,λid q z hid hq hz=>by
     by_cases hid':id=H.next
     .
      subst hid';have:S'.ρ H.next=(S.new H.next y (some ⟨e,l⟩)).ρ H.next:=(a8 H.next (by omega)).2
      rw[this] at hz;have hz:y=some z:=by rw[<-hz];exact (if_pos rfl).symm
      exact (hy z hz).1
     exact a9 id q z (by omega) hq hz⟩
  -- a row that is nobody's
  have nobody:∀{id:Nat} {q0:Row} {i0 gC s0:Nat},H1.get id=some q0->q0.B7=false->S1.ρ id=some (i0,gC,s0)->id ∉ seen->E.size<=i0/\((∀yf q z,H.get yf=some q->S.ρ yf=some z->z.1≠i0)/\S.F i0=none/\E'.lk<=i0):=λ{id q0 i0 gC s0} hg hro hρ hns=>by
   have hsz:=hnew id _ _ hg hro hρ;simp only at hsz;refine ⟨hsz,λyf q z hq hz he=>?_,?_,by omega⟩
   .
    rcases hown yf q z hq hz with h3|⟨ye,y1,k1,k2,k3,k4⟩
    .
     omega
    cases hq1:H1.get ye with
    |none=>exact absurd hq1 k4
    |
     some r1 =>
     have:=Ci.inj ye id r1 _ y1 _ hq1 hg k2 hρ (by simp only;omega)
     subst this;exact hns k1
   cases hFi:S.F i0 with
   |none=>rfl
   |some cs=>have:=hF i0 (by rw[hFi];simp);omega
  cases r0 with
  |
   val w =>
   obtain ⟨rfl,hs,h⟩:=h;obtain ⟨S',a1,a2,a3⟩:=v9 Ci hnew hlk h h2 hr hF hown;exact ⟨S',a1,LV.cons (KA hs h1) a2,a3⟩
  |
   room t e l len =>
   obtain ⟨F1,id,cB,rfl,hg,hns,h⟩:=h;obtain ⟨g1,⟨g0,g,g2,g2'⟩,g3⟩:=Ci.row id _ hg;generalize FH:l.length=n at h1;generalize hlz:(0:Nat)=zz at h1;cases h1 with
   |
    pO _ _ _ _ i0 c0 s0 hρ g' hg' hcc afZ =>
    subst hlz;subst FH;rcases g3 with ⟨_,g5,_⟩|⟨i',cap,b,mid,post,q1,q2,q3,q4,q5,q6,q7,q8,q9,rU⟩
    .
     rw[hρ] at g5;cases g5
    rw[hρ] at q1;cases q1;obtain ⟨hsz,hno⟩:=nobody hg rfl hρ hns
    obtain ⟨b1,b2⟩:=hr.sk (r:=.list t e l 0 true false) (x:=some (i0,c0,e.size)) (g:=some ⟨e,l⟩) (λr' hr'=>by
     cases hr';exact eV jN q2 q3 q4 (q5.mono λx c=>CR.Cl e F1 x c) q6 q7 q8 (λ_=>q9 rfl) (rU.2.imp λl2 h=>h.mono λx c=>CR.Cl e F1 x c)) (λy hy=>by cases hy;exact hno)
    refine go t e l true _ (id::seen) _ rfl h b1 b2 (.pO _ 0 len l.length i0 c0 e.size (if_pos rfl) ⟨e,l⟩ (if_pos ⟨rfl,rfl⟩) (by simp) afZ) (λz hz=>?_) (λid hid=>List.mem_cons_of_mem _ hid)
    cases hz;exact ⟨hsz,id,_,List.mem_cons_self,hρ,rfl,by rw[hg];simp⟩
  |
   list t e l =>
   obtain ⟨F1,h⟩:=h;rcases h with ⟨id,cB,ex,rfl,hg,hns,h⟩|⟨rfl,rfl,h⟩
   .
    obtain ⟨g1,⟨g0,g,g2,g2'⟩,g3⟩:=Ci.row id _ hg;have hCR:∀{mid:List Value},fZ (CR S1.F e) l mid->fZ (CR S.F e) l mid:=λhC=>hC.mono λx c=>CR.Cl e F1 x c
    generalize FH:l.length=n at h1;cases h1 with
    |
     own _ _ i0 gC s0 hρ g' hg' hn' =>
     rcases g3 with ⟨_,g5,_⟩|⟨i',cap,b,mid,post,q1,q2,q3,q4,q5,q6,q7,q8,q9,rU⟩
     .
      rw[hρ] at g5;cases g5
     rw[hρ] at q1;cases q1;subst FH;obtain ⟨hsz,hno⟩:=nobody hg rfl hρ hns
     obtain ⟨b1,b2⟩:=hr.sk (r:=.list t e l 0 false false) (x:=some (i0,gC,e.size)) (g:=some ⟨e,l⟩) (λr' hr'=>by
      cases hr';exact eV jN q2 q3 q4 (hCR q5) q6 q7 q8 (λh=>by cases h) (rU.2.imp λl2 h=>h.mono λx c=>CR.Cl e F1 x c)) (λy hy=>by cases hy;exact hno)
     refine go t e l false _ (id::seen) _ rfl h b1 b2 (.own _ _ i0 gC e.size (if_pos rfl) ⟨e,l⟩ (if_pos ⟨rfl,rfl⟩) rfl) (λz hz=>?_) (λid hid=>List.mem_cons_of_mem _ hid)
     cases hz;exact ⟨hsz,id,_,List.mem_cons_self,hρ,rfl,by rw[hg];simp⟩
    |
     cT _ g' hg' hn' =>
     have hl0:l=[]:=List.length_eq_zero_iff.1 FH;subst hl0;obtain ⟨b1,b2⟩:=hr.sk (r:=.list t e [] 0 false false) (x:=none) (g:=some ⟨e,[]⟩) (λr' hr'=>by cases hr';exact gR jN) (λy hy=>by cases hy)
     exact go t e [] false _ (id::seen) none rfl h b1 b2 (.cT _ ⟨e,[]⟩ (if_pos ⟨rfl,rfl⟩) rfl) (λz hz=>by cases hz) (λid hid=>List.mem_cons_of_mem _ hid)
   cases h1;obtain ⟨b1,b2⟩:=hr.sk (r:=.list t e [] 0 false false) (x:=none) (g:=some ⟨e,[]⟩) (λr' hr'=>by cases hr';exact gR jN) (λy hy=>by cases hy)
   exact go t e [] false _ seen none rfl h b1 b2 (.cT _ ⟨e,[]⟩ (if_pos ⟨rfl,rfl⟩) rfl) (λz hz=>by cases hz) (λid hid=>hid)
def KB:AV->Bool
 |.fl _=>true
 |a=>nu a
theorem PB {S S':Wo} {v:AV} {x:Value} (h:KB v=true) (hv:VR S v x):VR S' v x:=by
 cases v with
 |fl a=>cases hv with|fl _ _ h=>exact .fl _ _ h
 |_=>exact KA h hv
def zL (H:aa) (a b:AV):Prop:=(a=b/\KB a=true)\/(∃e l,b = .bQ e l/\xe H e a=some l/\∀s,a ≠ .str s)
def KC (H:aa) (a b:AV):Prop:=zL H a b\/∃l l',a = .agg l/\b = .agg l'/\l.length=l'.length/\∀(j:Nat) x y,l[j]? = some x->l'[j]? = some y->zL H x y
section
variable {X:cR} {cf:Nat×Nat->Ev.aP}
def IV (X:cR) (cf:Nat×Nat->Ev.aP) (f:FuncId) (args:List AV) (vs:List AV) (H':aa):Prop :=
 ∀(S:Wo) (E:Mem) (az:List Value),Rel S aa.empty E->bS X S->LV S args az ->
  ∃S' vE E',(∃N,∀n:Nat×Nat,N<=n.1/\N<=n.2->cf n f az E=some (vE,E'))/\(∃xs,vE=Ev.rQ xs/\LV S' vs xs)/\Rel S' H' E'/\Bc S aa.empty E S' H' E'
theorem j7 (j:Nat):aa.empty.get j=none:=by
 rw[aa.get_eq];simp[aa.empty]
theorem wg (F:Nat->Option (List Value)) (E:Mem) (hF:∀i cs,F i=some cs->∃b,alive E i=some b/\b.cells=cs) (he:E.lk<=E.size):Rel ⟨F,λ_=>none,λ_ _=>none⟩ aa.empty E :=
 ⟨hF,λ_ _ h=>(by cases h),λ_ _ _=>rfl,λid r h=>(by rw[j7] at h;cases h),λid id' r r' x x' h=>(by rw[j7] at h;cases h),λid r x h=>(by rw[j7] at h;cases h),λid r x h=>(by rw[j7] at h;cases h),Nat.le_refl _,Nat.le_refl _,he⟩
noncomputable def iG (E:Mem):Nat->Option (List Value):=λi=>(alive E i).map (·.cells)
theorem KD {S:Wo} {H:aa} {E:Mem} (hr:Rel S H E) {a b:AV} {x:Value} (h:zL H a b) (hx:VR S a x):VR ⟨iG E,λ_=>none,λ_ _=>none⟩ b x:=by
 have hle:∀i cs,S.F i=some cs->iG E i=some cs:=λi cs hi=>by
  obtain ⟨bk,h1,h2⟩:=hr.fz i cs hi;show (alive E i).map (·.cells)=_;rw[h1];simp[h2]
 rcases h with ⟨rfl,hs⟩|⟨e,l,rfl,hv,hns⟩
 .
  exact PB hs hx
 refine .bQ e l x ?_
 have hCR:∀{l:List e.den} {mid:List Value},fZ (CR S.F e) l mid->fZ (CR (iG E) e) l mid:=λhC=>hC.mono λx c=>CR.mono hle e x c
 have row:∀(i:Nat) (bk:Blk),alive E i=some bk->iG E i=some bk.cells:=λi bk hb=>by show (alive E i).map (·.cells)=_;rw[hb];rfl
 unfold xe at hv
 split at hv
 .
  rename_i e' l';obtain ⟨he,hc⟩:=bh hv;subst he;have hc:l'=l:=hc;subst hc;cases hx with
  |bQ _ _ _ hS=>exact hS.mono hle
 .
  cases hv;cases hx;exact .inl ⟨rfl,rfl⟩
 .
  rename_i id n;split at hv
  .
   rename_i t' e' l' cB ex ro hg;obtain ⟨he,hc⟩:=bh hv;subst he;have hc:l'=l:=hc;subst hc;obtain ⟨S',k1,k2,k3,k4⟩:=sX hr hg;obtain ⟨rfl,hv⟩:=k4 n x hx;rcases hv with ⟨rfl,rfl⟩|⟨i,mid,post,cap,rfl,hF,hC,hcap⟩
   .
    exact .inl ⟨rfl,rfl⟩
   obtain ⟨bk,b1,b2⟩:=k2.fz i _ hF;refine .inr ⟨i,[],mid,post,cap,rfl,by show iG E i=_;rw[row i bk b1,b2];rfl,?_,hcap⟩
   exact hC.mono λx c=>CR.mono (λi cs hi=>by
    obtain ⟨bk,h1,h2⟩:=k2.fz i cs hi;show iG E i=_;rw[row i bk h1,h2]) e' x c
  cases hv
 .
  rename_i id off len Mh;split at hv
  .
   rename_i t' e' l' cB ex ro hg;split at hv
   .
    rename_i l2 iy;cases hv;obtain ⟨he,hc⟩:=bh iy;subst he;have hc:l'=l2:=hc;subst hc;obtain ⟨g1,⟨_,g,g2,g2'⟩,g3⟩:=hr.row id _ hg;cases hx with
    |
     pO _ _ _ _ i0 c0 s0 hρ g' hg' hcc FH =>
     rw[g2] at hg';cases hg';rcases g3 with ⟨_,g5,_⟩|⟨i',cap,b,mid,post,q1,q2,q3,q4,q5,q6,q7,q8,q9,rU⟩
     .
      rw[hρ] at g5;cases g5
     rw[hρ] at q1;cases q1;have hlen:((l'.drop off).take len).length=len:=by simp;omega
     have:=SR.cut (cap:=Mh+off) (a:=(off:Int)) (b:=((off+len:Nat):Int)) (pre:=[]) (post:=post) (F:=iG E) (i:=i0) (λx c=>CR.length e' x c) (by rw[row i0 b q2,q4];rfl) (hCR q5) (by omega) (by omega) (by omega) (by omega)
     have e1:aI l' (off:Int) ((off+len:Nat):Int)=(l'.drop off).take len:=by
      simp only[aI,Int.toNat_natCast];congr 1;omega
     rw[e1] at this;simp only[Int.toNat_natCast,List.length_nil,Nat.zero_add,Nat.add_sub_cancel_left,Nat.add_sub_cancel] at this;exact this
   cases hv
  cases hv
 .
  rename_i s;exact absurd rfl (hns s)
 cases hv
theorem XX {S:Wo} {H:aa} {E:Mem} (hr:Rel S H E) {a b:AV} {x:Value} (h:KC H a b) (hx:VR S a x):VR ⟨iG E,λ_=>none,λ_ _=>none⟩ b x:=by
 rcases h with h|⟨l,l',rfl,rfl,hl,hf⟩
 .
  exact KD hr h hx
 cases hx with
 |
  agg _ m hm hv =>
  refine .agg l' m (hl.symm.trans hm) λj y z hy hz=>?_
  have hlt:=bB hy;have h2:j<l.length:=by omega
  exact KD hr (hf j l[j] y (List.getElem?_eq_getElem h2) hy) (hv j _ z (List.getElem?_eq_getElem h2) hz)
theorem IV.af0 {f:FuncId} {args args2 vs:List AV} {H1:aa} {rs:List bL} (h:IV X cf f args vs H1) (hres:oo H1 [] vs rs) {H:aa} (hargs:args2.length=args.length) (cw:∀(j:Nat) a b,args2[j]? = some a->args[j]? = some b->KC H a b) :
 IU X cf f args2 H (iF (fG rs H).1) (fG rs H).2:=by
 intro S E az hr hg hl
 have hle:∀i cs,S.F i=some cs->iG E i=some cs:=λi cs hi=>by
  obtain ⟨bk,h1,h2⟩:=hr.fz i cs hi;show (alive E i).map (·.cells)=_;rw[h1];simp[h2]
 have Oc:Rel ⟨iG E,λ_=>none,λ_ _=>none⟩ aa.empty E:=wg _ E (λi cs hi=>by
  have hi:(alive E i).map (·.cells)=some cs:=hi;simp only[Option.map_eq_some_iff] at hi;obtain ⟨b,h1,h2⟩:=hi;exact ⟨b,h1,h2⟩) hr.EJ
 have hl0:LV ⟨iG E,λ_=>none,λ_ _=>none⟩ args az:=⟨by rw[<-hargs];exact hl.1,λj b x hb hx=>by
  have hlt:=bB hb;have h2:j<args2.length:=by omega
  exact XX hr (cw j args2[j] b (List.getElem?_eq_getElem h2) hb) (hl.2 j _ x (List.getElem?_eq_getElem h2) hx)⟩
 obtain ⟨S1,vE,E',a1,⟨xs,rfl,a2⟩,a3,a4⟩:=h _ E az Oc (hg.mono' hle) hl0
 have bX:∀i,¬Own ⟨iG E,λ_=>none,λ_ _=>none⟩ aa.empty i:=λi ⟨id,r,x,h1,_⟩=>by rw[j7] at h1;cases h1
 have hkeep:∀i,i<E.size->E'.get i=E.get i:=λi hi=>a4.keep i hi (bX i)
 have hrE:=hr.grow a4.sz a4.lk hkeep
 obtain ⟨S',b1,b2,b3,b4,b5,b6,b7,b8,b9⟩:=v9 (E:=E) a3 (λid r y h1 h2 h3=>by
  by_cases hy:y.1<E.size
  .
   exact absurd (a4.own y.1 ⟨id,r,y,h1,h2,h3,rfl⟩ hy) (bX _)
  .
   omega) (by rw[a4.lk];exact hr.EJ) hres a2 hrE (λi hi=>by
  cases hF:S.F i with
  |none=>exact absurd hF hi
  |some cs=>obtain ⟨b,h1,_⟩:=hr.fz i cs hF;exact fH h1) (λid q z hq hz=>.inl (by obtain ⟨b,hb⟩:=hr.old hq hz;exact Mem.bB hb))
 refine ⟨S',Ev.rQ xs,E',a1,b1,D2 b2,b3,⟨a4.sz,a4.lk,b6,b7,b1.F,λi ho hi=>?_,λi hi=>.inl (by rw[b4] at hi;exact hi),λi hi _=>hkeep i hi,λid hid=>(b8 id (Nat.lt_of_lt_of_le hid hr.IL)).2,b5,λid hid hl=>by rw[(b8 id hid).1] at hl;exact hl,λid hid hn=>by rw[(b8 id hid).2];exact hn⟩⟩
 obtain ⟨id,q,y,h1,h2,h3,rfl⟩:=ho
 by_cases hid:id<H.next
 .
  rw[(b8 id hid).1] at h1;rw[(b8 id hid).2] at h3;exact ⟨id,q,y,h1,h2,h3,rfl⟩
 have:=b9 id q y (by omega) h1 h3
 omega
theorem T3 {kn:Ev.bK} {id:FuncId} (hk:∀args,kn id args=none) {call:∀ β,aY β} (hcall:∀ β,aQ X (bg X kn) (call β)) {an:bO} {rounds:Nat} {args vs:List AV} {H':aa}
 (h:ag X (call (AV×aa)) an rounds id args aa.empty (λv H=>some (v,H))=some (iF vs,H')):∀(S:Wo) (E:Mem) (az:List Value),Rel S aa.empty E->bS X S->LV S args az ->
 ∃S' vE E',(∃N,∀n:Nat×Nat,N<=n.1/\N<=n.2->bg X kn n id az E=some (vE,E'))/\VR S' (iF vs) vE/\Rel S' H' E'/\Bc S aa.empty E S' H' E':=by
 obtain ⟨v',H1,h1,h2⟩:=eS (nf:=false) (hcall _) (λh=>by cases h) h
 cases h1
 intro S E az hr hg hl
 obtain ⟨S',vE,E',a1,a2,a3,a4,_⟩:=h2 S E az hr hg hl
 exact ⟨S',vE,E',cn hk a1,a2,a3,a4⟩
end
end Go.Tv

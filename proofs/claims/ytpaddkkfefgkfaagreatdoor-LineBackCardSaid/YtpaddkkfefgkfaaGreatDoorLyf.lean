/- All operations of the layer, steps, regions. Steps, regions and code of the layer beside the evaluator's. Regions, notes, loops, code of the layer beside the evaluator's. Frames and memories made alike; loops, code, functions. Code and functions of the layer beside the evaluator's. Contracts of functions that are handed plain data and hand back plain data. -/
import Derived.Test.YtpaddkkfefgkfaaGreatDoorLye
set_option linter.unusedVariables false
set_option linter.unusedSimpArgs false

namespace Go.Tv
open Go.Ev (Tr pick2 Leave Mem Blk alive pick2_eq alive_some semPure pureA opA addrFree withMem orElse)
def bN (X:cI) (S:Wo):Prop:=∀g,g<X.G->X.gv g≠[]->∃cs,S.F g=some cs/\∀T:Wo,(∀i x,S.F i=some x->T.F i=some x)->LV T (X.gv g) cs
theorem bN.mono' {X:cI} {S S':Wo} (h:bN X S) (hle:∀i x,S.F i=some x->S'.F i=some x):bN X S':=λg hg he=>let ⟨cs,h1,h2⟩:=h g hg he;⟨cs,hle _ _ h1,λT hT=>h2 T λi x hx=>hT i x (hle i x hx)⟩
theorem bN.mono {X:cI} {S S':Wo} (h:bN X S) (hle:S.le S'):bN X S':=h.mono' hle.F
def L4 (X:cI) (cf:Nat×Nat->Ev.aN) (f:FuncId) (args:List AV) (H:aa) (v:AV) (H':aa):Prop :=
 ∀(S:Wo) (E:Mem) (ax:List Value),Rel S H E->bN X S->LV S args ax ->
  ∃S' vE E',(∃N,∀n:Nat×Nat,N<=n.1/\N<=n.2->cf n f ax E=some (vE,E'))/\S.le S'/\VR S' v vE/\Rel S' H' E'/\St S H E S' H' E'
def aV (X:cI) (cf:Nat×Nat->Ev.aN) {β:Type} (call:aT β):Prop :=
 ∀f args H k (r:β),call f args H k=some r->∃v H',k v H'=some r/\L4 X cf f args H v H'
def ze (X:cI) (cf:Nat×Nat->Ev.aN) (o:Oper) (ev:Operand->AV) (H:aa) (v:AV) (H':aa):Prop :=
 ∀(S:Wo) (E:Mem) (aq:Operand->Value),Rel S H E->bN X S->(∀x∈o.op.operands,VR S (ev x) (aq x)) ->
  ∃S' vE E',(∃N,∀n:Nat×Nat,N<=n.1/\N<=n.2->opA X.P (cf n) aq o E=some (vE,E'))/\S.le S'/\VR S' v vE/\Rel S' H' E'/\St S H E S' H' E'
theorem bx.dz {X:cI} {cf:Nat×Nat->Ev.aN} {o:Oper} {ev:Operand->AV} {H H':aa} {v:AV} (h:bx X cf o ev H v H'):ze X cf o ev H v H':=λS E aq hr _ aA=>h S E aq hr aA
section
variable {X:cI} {cf:Nat×Nat->Ev.aN} {o:Oper} {ev:Operand->AV} {H:aa} {β:Type} {r:β}
theorem FC {x:Operand} (h:o.op = .move x\/o.op = .assign x):bx X cf o ev H (ev x) H:=.quiet λS E aq hr aA=>by
 rcases h with h|h
 .
  rw[h] at aA;exact ⟨aq x,λcall=>by unfold opA;rw[h],aA x (by simp[Op.operands])⟩
 rw[h] at aA
 exact ⟨aq x,λcall=>by unfold opA;rw[h],aA x (by simp[Op.operands])⟩
theorem OX {c a b:Operand} {t:Bool} (h:o.op = .pick c a b) (hc:ev c = .bool t):bx X cf o ev H (pick2 t (ev a) (ev b)) H:=.quiet λS E aq hr aA=>by
 rw[h] at aA
 have h1:=aA c (by simp[Op.operands])
 rw[hc] at h1
 refine ⟨pick2 t (aq a) (aq b),λcall=>?_,?_⟩
 .
  unfold opA;rw[h];show Ev.yl (aq c) (aq a) (aq b) E=_;rw[h1.gi];rfl
 cases t
 .
  exact aA b (by simp[Op.operands])
 exact aA a (by simp[Op.operands])
theorem xU {x:Operand} {v:AV} (h:o.op = .nilCheck x) (hv:ev x=v) (hk:(∃id off,v = .ptr id off)\/(∃id n,v = .Er id n)\/(∃cs,v = .vp cs)\/∃f a b,v = .fn f a b):bx X cf o ev H v H:=.quiet λS E aq hr aA=>by
 rw[h] at aA
 have h1:=aA x (by simp[Op.operands])
 refine ⟨aq x,λcall=>?_,by rw[<-hv];exact h1⟩
 unfold opA;rw[h]
 show Ev.lU (aq x) E=_
 rw[hv] at h1
 rcases hk with ⟨id,off,rfl⟩|⟨id,n,rfl⟩|⟨cs,rfl⟩|⟨f,a,b,rfl⟩<;>(generalize aq x=A at h1;cases h1;rfl)
theorem FD {x:Operand} {i:Nat} {vs:List AV} {v:AV} (h:o.op = .extract x i) (hx:ev x = .cB vs) (hv:vs[i]? = some v):bx X cf o ev H v H:=.quiet λS E aq hr aA=>by
 rw[h] at aA
 have h1:=aA x (by simp[Op.operands])
 rw[hx] at h1
 generalize hA:aq x=A at h1
 cases h1 with
 |
  cB _ m hl hm =>
  obtain ⟨y,hy,hvy⟩:=LV.get (S:=S) ⟨hl,hm⟩ hv;refine ⟨y,λcall=>?_,hvy⟩
  unfold opA;rw[h];show Ev.lI (aq x) i E=_;rw[hA];simp only[Ev.lI,hy];rfl
theorem DA {f:FuncId} {first captured:Array Operand} (h:o.op = .makeFunc (.func f) first captured):bx X cf o ev H (.fn f (first.toList.map ev) (captured.toList.map ev)) H:=.quiet λS E aq hr aA=>by
 rw[h] at aA
 refine ⟨.func (.func f) (first.map aq) (captured.map aq),λcall=>by unfold opA;rw[h],?_⟩
 have e1:first.map aq=(first.toList.map aq).toArray:=by apply Array.toList_inj.1;rw[Array.toList_map]
 have e2:captured.map aq=(captured.toList.map aq).toArray:=by apply Array.toList_inj.1;rw[Array.toList_map]
 rw[e1,e2]
 have l1:=LV.map (S:=S) (f:=ev) (g:=aq) first.toList λx hx=>aA x (by show x∈first++captured;rw[Array.mem_append];exact .inl (by simpa using hx))
 have l2:=LV.map (S:=S) (f:=ev) (g:=aq) captured.toList λx hx=>aA x (by show x∈first++captured;rw[Array.mem_append];exact .inr (by simpa using hx))
 exact .fn f _ _ _ _ l1.1 l2.1 l1.2 l2.2
theorem Tq {c:Call} {x y:Operand} {a b:Int} {ka kb:IntKind} (hop:o.op = .call c) (hc:c.callee = .builtin .max) (h0:c.args = #[x,y]) (hx:ev x = .int ka a) (hy:ev y = .int kb b) :
 bx X cf o ev H (.int ka (pick2 (Ev.ltI a b) b a)) H:=.quiet λS E aq hr aA=>by
 rw[hop] at aA
 have hx':=aA x (by simp[Op.operands,Call.operands,hc,h0])
 have hy':=aA y (by simp[Op.operands,Call.operands,hc,h0])
 rw[hx] at hx'
 rw[hy] at hy'
 generalize hA:aq x=A at hx'
 generalize hB:aq y=B at hy'
 cases hx'
 cases hy'
 refine ⟨.int ka (pick2 (Ev.ltI a b) b a),λcall=>?_,.int _ _⟩
 unfold opA;rw[hop]
 show Ev.bp X.P call aq o c E=_
 unfold Ev.bp
 rw[hc]
 show withMem E (pureA X.P aq o)=_
 have hp:pureA X.P aq o=some (.int ka (pick2 (Ev.ltI a b) b a)):=by
  refine qd (λcs b=>by rw[hop];simp) ?_ ?_ rfl
  .
   unfold Ev.aQ;rw[hop];simp[Op.operands,Call.operands,hc,h0,hA,hB,addrFree]
  rw[pick2_eq,Ev.ltI_spec];simp[execOp,hop,resolve,invoke,builtin,hc,h0,hA,hB,Builtin.max_,Builtin.max2];rfl
 rw[hp];rfl
theorem Tt {c:Call} {x:Operand} {t te:TypeId} {id off len cap:Nat} {t':TypeId} {e:Ty} {l:List e.den} {cw:Nat} {ro:Bool} (hop:o.op = .call c) (hc:c.callee = .builtin .cap) (h0:c.args[0]? = some x) (h1:c.argTypes[0]? = some t) (hu:X.P.underlying t=some (.slice te)) (hx:ev x = .pz id off len cap) (hg:H.get id=some (.list t' e l cw true ro)) :
 bx X cf o ev H (.int .i64 cap) H:=.quiet λS E aq hr aA=>by
 rw[hop] at aA
 have hx':=aA x (by
  have:=Array.mem_of_getElem? h0;simp only[Op.operands,Call.operands,hc]
  simpa using this)
 rw[hx] at hx'
 obtain ⟨g1,⟨g0,g,g2,g2'⟩,g3⟩:=hr.row id _ hg
 generalize hA:aq x=A at hx'
 cases hx' with
 |
  pz _ _ _ _ i0 c0 s0 hρ g' hg' hcc Fw =>
  rcases g3 with ⟨_,g5,_⟩|⟨i',cap',b,mid,post,q1,q2,q3,q4,q5,q6,q7,q8,q9,rD⟩
  .
   rw[hρ] at g5;cases g5
  rw[hρ] at q1;cases q1;refine ⟨goInt cap,λcall=>?_,.int _ _⟩
  unfold opA;rw[hop];show Ev.bp X.P call aq o c E=_;unfold Ev.bp;rw[hc];show Ev.nK X.P aq c.args c.argTypes E=_;unfold Ev.nK;rw[h0,h1];show withMem E (Ev.xz X.P E t (aq x))=_;rw[hA];simp only[Ev.xz,hu,q2,(q9 rfl).1];rfl
theorem FE {c:Call} {x:Operand} {t te:TypeId} {id n:Nat} {t':TypeId} {e:Ty} {l:List e.den} {cw:Nat} {ro:Bool} (hop:o.op = .call c) (hc:c.callee = .builtin .cap) (h0:c.args[0]? = some x) (h1:c.argTypes[0]? = some t) (hu:X.P.underlying t=some (.slice te)) (hx:ev x = .own id n) (hg:H.get id=some (.list t' e l cw true ro)) :
 bx X cf o ev H (.int .i64 n) H:=.quiet λS E aq hr aA=>by
 rw[hop] at aA
 have hx':=aA x (by
  have:=Array.mem_of_getElem? h0;simp only[Op.operands,Call.operands,hc]
  simpa using this)
 rw[hx] at hx'
 obtain ⟨g1,⟨g0,g,g2,g2'⟩,g3⟩:=hr.row id _ hg
 generalize hA:aq x=A at hx'
 cases hx' with
 |
  own _ _ i0 c0 s0 hρ g' hg' hn =>
  rcases g3 with ⟨_,g5,_⟩|⟨i',cap',b,mid,post,q1,q2,q3,q4,q5,q6,q7,q8,q9,rD⟩
  .
   rw[hρ] at g5;cases g5
  rw[hρ] at q1;cases q1;rw[g2] at hg';cases hg';have hcn:c0=n:=by have:=(q9 rfl).2.2;omega
  subst hcn;refine ⟨goInt c0,λcall=>?_,.int _ _⟩
  unfold opA;rw[hop];show Ev.bp X.P call aq o c E=_;unfold Ev.bp;rw[hc];show Ev.nK X.P aq c.args c.argTypes E=_;unfold Ev.nK;rw[h0,h1];show withMem E (Ev.xz X.P E t (aq x))=_;rw[hA];simp only[Ev.xz,hu,q2,(q9 rfl).1];rfl
 |
  cQ _ g' hg' hn =>
  refine ⟨goInt 0,λcall=>?_,.int _ _⟩
  unfold opA;rw[hop];show Ev.bp X.P call aq o c E=_;unfold Ev.bp;rw[hc];show Ev.nK X.P aq c.args c.argTypes E=_;unfold Ev.nK;rw[h0,h1];show withMem E (Ev.xz X.P E t (aq x))=_;rw[hA];simp only[Ev.xz,hu];rfl
theorem FF {c:Call} {x:Operand} {t te:TypeId} (hop:o.op = .call c) (hc:c.callee = .builtin .cap) (h0:c.args[0]? = some x) (h1:c.argTypes[0]? = some t) (hu:X.P.underlying t=some (.slice te)) (hx:ev x = .bK) :
 bx X cf o ev H (.int .i64 0) H:=.quiet λS E aq hr aA=>by
 rw[hop] at aA
 have hx':=aA x (by
  have:=Array.mem_of_getElem? h0;simp only[Op.operands,Call.operands,hc]
  simpa using this)
 rw[hx] at hx'
 generalize hA:aq x=A at hx'
 cases hx' with
 |
  bK =>
  refine ⟨goInt 0,λcall=>?_,.int _ _⟩
  unfold opA;rw[hop];show Ev.bp X.P call aq o c E=_;unfold Ev.bp;rw[hc];show Ev.nK X.P aq c.args c.argTypes E=_;unfold Ev.nK;rw[h0,h1];show withMem E (Ev.xz X.P E t (aq x))=_;rw[hA];simp only[Ev.xz,hu];rfl
theorem OY {c:Call} {fo:Operand} {id:FuncId} {a b:List AV} {fn:Func} {cd:Code} {v:AV} {H':aa} (hop:o.op = .call c) (hc:c.callee = .value fo) (hf:ev fo = .fn id a b) (hfn:X.P.funcs[id]? = some fn) (hbody:fn.body=some cd) (h:L4 X cf id (a++(c.args.toList.map ev++b)) H v H'):ze X cf o ev H v H':=by
 intro S E aq hr hg aA
 rw[hop] at aA
 have h1:=aA fo (by simp[Op.operands,Call.operands,hc])
 rw[hf] at h1
 have h2:=LV.map (S:=S) (f:=ev) (g:=aq) c.args.toList λx hx=>aA x (by simp[Op.operands,Call.operands,hc];exact .inr (by simpa using hx))
 generalize hA:aq fo=A at h1
 cases h1 with
 |
  fn _ _ _ a' b' ha hb va vb =>
  obtain ⟨S',vE,E',⟨N,k1⟩,k2,k3,k4,k5⟩:=h S E (a'++(c.args.toList.map aq++b')) hr hg ((show LV S a a' from ⟨ha,va⟩).append (h2.append ⟨hb,vb⟩));refine ⟨S',vE,E',⟨N,λn hn=>?_⟩,k2,k3,k4,k5⟩
  unfold opA;rw[hop];show Ev.bp X.P (cf n) aq o c E=_;unfold Ev.bp;rw[hc];simp only[hA]
  have:Ev.jC X.P (cf n) (.func (.func id) a'.toArray b'.toArray) (c.args.toList.map aq) E=some (vE,E'):=by
   simp only[Ev.jC,hfn,hbody,Option.isSome_some];exact k1 n hn
  rw[this]
theorem DB {P:Program} {id:FuncId} (h:mQ P id=true):∃fn cd,P.funcs[id]? = some fn/\fn.body=some cd:=by
 unfold mQ at h
 split at h
 .
  rename_i fn hfn;obtain ⟨cd,hcd⟩:=Option.isSome_iff_exists.1 h;exact ⟨fn,cd,hfn,hcd⟩
 cases h
theorem OZ {S:Wo} {a:AV} {v x:Value} (h:toV a=some v) (hx:VR S a x):x=v/\addrFree v=true:=by
 unfold toV at h
 split at h
 .
  cases h;exact ⟨hx.bQ,rfl⟩
 .
  cases h;exact ⟨hx.gi,rfl⟩
 .
  cases h;exact ⟨hx.ef,rfl⟩
 .
  cases h;cases hx;exact ⟨rfl,rfl⟩
 .
  cases h;cases hx with
  |
   fn _ _ _ a' b' ha hb va vb =>
   have:a'=[]:=List.length_eq_zero_iff.1 ha.symm;subst this;have:b'=[]:=List.length_eq_zero_iff.1 hb.symm;subst this;exact ⟨rfl,rfl⟩
 .
  rw[pick2_eq] at h;split at h
  .
   rename_i hf;cases h;cases hx;exact ⟨rfl,hf⟩
  cases h
 cases h
theorem DC {S:Wo} {v:Value} (h:addrFree v=true):VR S (ofR v) v:=by
 unfold ofR
 split
 .
  rename_i cs
  have hc:∀v∈cs.toList,addrFree v=true:=by
   have h:Ev.fG cs=true:=h;obtain ⟨l⟩:=cs;exact vA h
  have e:Value.tuple cs = .tuple (cs.toList).toArray:=by simp
  rw[e];have:=LV.map (S:=S) (f:=Es) (g:=λv=>v) cs.toList λv hv=>sG (hc v hv)
  rw[List.map_id''] at this
  .
   exact .cB _ _ this.1 this.2
  intro x;rfl
 rename_i hn
 unfold ofV
 split
 .
  rename_i cs;have hc:=sH h;have e:Value.agg cs = .agg (cs.toList).toArray:=by simp
  rw[e];have:=LV.map (S:=S) (f:=Es) (g:=λv=>v) cs.toList λv hv=>sG (hc v (by simpa[Value.cells] using hv))
  rw[List.map_id''] at this
  .
   exact .agg _ _ this.1 this.2
  intro x;rfl
 exact sG h
theorem wS {c:Call} {fo:Operand} {id:FuncId} {aq:Operand->Value} {a' b':List Value} (hop:o.op = .call c) (hc:c.callee = .value fo) (hA:aq fo = .func (.func id) a'.toArray b'.toArray) (hb:mQ X.P id=false) (call:Ev.aN) (E:Mem) :
 opA X.P call aq o E=Ev.ym X.P aq o (aq fo) (c.args.toList.map aq) E:=by
 unfold opA;rw[hop]
 show Ev.bp X.P call aq o c E=_
 unfold Ev.bp
 rw[hc]
 have:Ev.jC X.P call (aq fo) (c.args.toList.map aq) E=none:=by
  rw[hA];unfold mQ at hb;simp only[Ev.jC];cases hfn:X.P.funcs[id]? with
  |none=>rfl
  |
   some fn =>
   rw[hfn] at hb;simp only at hb;simp only[hb]
 simp only[this]
theorem uc (hsel:∀cs b,o.op ≠ .select cs b) {k:AV->Option β} (h:xD X ev o k=some r):∃v,k (ofR v)=some r/\addrFree v=true/\∀(S:Wo) (aq:Operand->Value),(∀x∈o.op.operands,VR S (ev x) (aq x))->pureA X.P aq o=some v:=by
 unfold xD at h
 rw[pick2_eq] at h
 split at h
 case isFalse=>cases h
 rename_i hall
 split at h
 case h_2=>cases h
 rename_i v hv
 rw[pick2_eq] at h
 split at h
 case isFalse=>cases h
 rename_i hfree
 refine ⟨v,h,hfree,λS aq aA=>?_⟩
 have heq:∀x∈o.op.operands,aq x=J5 (toV (ev x))/\addrFree (aq x)=true:=λx hx=>by
  have h1:=List.all_eq_true.1 hall x (by simpa using hx)
  obtain ⟨y,hy⟩:=Option.isSome_iff_exists.1 h1;obtain ⟨e1,e2⟩:=OZ hy (aA x hx);rw[hy];exact ⟨e1,by rw[e1];exact e2⟩
 refine qd hsel ?_ ?_ hfree
 .
  unfold Ev.aQ;exact List.all_eq_true.2 λx hx=>(heq x (by simpa using hx)).2
 rw[execOp_congr o hsel (λx hx=>(heq x hx).1)];exact hv
theorem Tu {op:BinOp} {t t':TypeId} {x y:Operand} (hop:o.op = .binOp op t x y t') (hx:acq (ev x)=true) {k:AV->Option β} (h:xD X ev o k=some r):∃v,k v=some r/\bx X cf o ev H v H:=by
 obtain ⟨v,h1,hfree,h2⟩:=uc (λcs b=>by rw[hop];simp) h
 refine ⟨_,h1,.quiet λS E aq hr aA=>⟨v,λcall=>?_,DC hfree⟩⟩
 have hp:=h2 S aq aA
 have hvx:=aA x (by rw[hop];simp[Op.operands])
 unfold opA
 rw[hop]
 show Ev.pF X.P aq o op t (aq x) (aq y) E=_
 cases hA:ev x with
 |
  kV n =>
  rw[hA] at hvx;generalize aq x=z at hvx;cases hvx;unfold Ev.pF;rw[hp];have e1:Ev.yj op (.float .f64 n) (aq y)=none:=by cases aq y<;>rfl
  have e2:Ev.nJ X.P op t (.float .f64 n) (aq y)=none:=by
   unfold Ev.nJ;split<;>first|rfl|(rename_i h1 h2 h3;cases h2)|rfl
  rw[e1,e2];rfl
 |_=>rw[hA] at hx;cases hx
theorem L5 {s d:TypeId} {x:Operand} (hop:o.op = .convert s d x) (hd:XK X.P d=true) {k:AV->Option β} (h:xD X ev o k=some r):∃v,k v=some r/\bx X cf o ev H v H:=by
 obtain ⟨v,h1,hfree,h2⟩:=uc (λcs b=>by rw[hop];simp) h
 refine ⟨_,h1,.quiet λS E aq hr aA=>⟨v,λcall=>?_,DC hfree⟩⟩
 have hp:=h2 S aq aA
 unfold opA
 rw[hop]
 show Ev.eu X.P aq o s d (aq x) E=_
 unfold Ev.eu
 have e1:Ev.gS X.P d (aq x)=none:=by
  unfold XK at hd;unfold Ev.gS;split at hd
  .
   rename_i q hq;rw[hq]
  cases hd
 rw[e1,hp]
 cases X.P.underlying s<;>rfl
theorem zf {c:Call} {b:Builtin} (hop:o.op = .call c) (hc:c.callee = .builtin b) (hb:b = .complex\/b = .real\/b = .imag) {k:AV->Option β} (h:xD X ev o k=some r):∃v,k v=some r/\bx X cf o ev H v H:=by
 obtain ⟨v,h1,hfree,h2⟩:=uc (λcs b=>by rw[hop];simp) h
 refine ⟨_,h1,.quiet λS E aq hr aA=>⟨v,λcall=>?_,DC hfree⟩⟩
 have hp:=h2 S aq aA
 unfold opA
 rw[hop]
 show Ev.bp X.P call aq o c E=_
 unfold Ev.bp
 rw[hc]
 rcases hb with rfl|rfl|rfl
 all_goals
  show withMem E (pureA X.P aq o)=_;rw[hp];rfl
theorem Tw {c:Call} {fo:Operand} {id:FuncId} {a b:List AV} (hop:o.op = .call c) (hc:c.callee = .value fo) (hf:ev fo = .fn id a b) (hb:mQ X.P id=false) (hsame:Dp X.P id=false) {k:AV->Option β} (h:xD X ev o k=some r):∃v,k v=some r/\bx X cf o ev H v H:=by
 obtain ⟨v,h0,hfree,h2⟩:=uc (λcs b=>by rw[hop];simp) h
 refine ⟨_,h0,.quiet λS E aq hr aA=>⟨v,λcall=>?_,DC hfree⟩⟩
 have hp:=h2 S aq aA
 have h1:=aA fo (by rw[hop];simp[Op.operands,Call.operands,hc])
 rw[hf] at h1
 generalize hA:aq fo=A at h1
 cases h1 with
 |
  fn _ _ _ a' b' ha hbb va vb =>
  rw[wS hop hc hA hb]
  have hno:Ev.pH X.P (aq fo)=false:=by
   rw[hA];unfold Ev.pH;split
   .
    rename_i id' heq';cases heq';exact hsame
   rfl
  unfold Ev.ym;split
  .
   rw[hno,hp];rfl
  rw[hp];rfl
theorem L6 {c:Call} {fo x:Operand} {id:FuncId} (hop:o.op = .call c) (hc:c.callee = .value fo) (hf:ev fo = .fn id [] []) (hb:mQ X.P id=false) (hsame:Dp X.P id=true) (hx:c.args.toList=[x]):bx X cf o ev H (ev x) H:=.quiet λS E aq hr aA=>by
 have h1:=aA fo (by rw[hop];simp[Op.operands,Call.operands,hc])
 have h2:=aA x (by rw[hop];simp[Op.operands,Call.operands,hc];exact .inr (by rw[<-Array.mem_toList_iff,hx];simp))
 refine ⟨aq x,λcall=>?_,h2⟩
 rw[hf] at h1
 generalize hA:aq fo=A at h1
 cases h1 with
 |
  fn _ _ _ a' b' ha hbb va vb =>
  have:a'=[]:=List.length_eq_zero_iff.1 ha.symm;subst this;have:b'=[]:=List.length_eq_zero_iff.1 hbb.symm;subst this;rw[wS hop hc hA hb,hx];have hyes:Ev.pH X.P (aq fo)=true:=by rw[hA];exact hsame
  simp only[List.map_cons,List.map_nil,Ev.ym,hyes]
theorem sJ {P:Program} {t:TypeId} {d:TypeDesc} {z:Value} (h:wP P t=some (d,z)):∃kt e,P.underlying t=some (.map kt e)/\P.underlying kt=some d/\Ev.fj P e=some z/\Ev.mM d=true/\Ev.addrFree z=true:=by
 unfold wP at h
 split at h
 .
  rename_i kt e hu;split at h
  .
   rename_i d' z' h1 h2;rw[pick2_eq] at h;split at h
   .
    rename_i hc;rw[Bool.and_eq_true,Bool.and_eq_true] at hc;cases h;exact ⟨kt,e,hu,h1,h2,hc.1,hc.2.1⟩
   cases h
  cases h
 cases h
theorem DD {t:TypeId} (hop:o.op = .makeMap t none) (hd:(wP X.P t).isSome=true):bx X cf o ev H (.yX H.next) (H.push (.mf t [])):=by
 intro S E aq hr aA
 obtain ⟨⟨d,z⟩,hz⟩:=Option.isSome_iff_exists.1 hd
 obtain ⟨kt,e,hu,_⟩:=sJ hz
 obtain ⟨E',hE⟩:=Mem.eY E ⟨[],t,false,true⟩
 obtain ⟨q1,q2,q3⟩:=Mem.bf hE
 obtain ⟨k1,k2,k3⟩:=hr.add (r:=.mf t []) (x:=some (E.size,0,0)) (g:=none) (by omega) q2 (λi hi=>by rw[q3,if_neg (by omega)]) (λr' hr'=>by
  cases hr';exact ⟨E.size,0,0,⟨[],t,false,true⟩,if_pos rfl,by rw[q3,if_pos rfl],rfl,rfl,rfl⟩) (λy hy=>by cases hy;exact Nat.le_refl _) rfl
 refine ⟨_,.map (some E.size),E',⟨0,λ_ _=>?_⟩,k1,.yX _ E.size 0 0 (if_pos rfl),k2,k3⟩
 unfold opA;rw[hop]
 show Ev.gz X.P t none E=_
 unfold Ev.gz
 rw[hu]
 simp only[hE]
theorem sK {S:Wo} {d:TypeDesc} {a b:AV} {x y:Value} {r:Bool} (h:BI d a b=some r) (ha:VR S a x) (hb:VR S b y):Ev.Ey d x y=some r:=by
 unfold BI at h
 split at h
 .
  rename_i s q;have hx:=ha.ef;have hy:=hb.ef;subst hx;subst hy;cases h;show some (Ev.iA s.toArray.toList q.toArray.toList)=_;rw[Ev.eV]
 .
  have hx:=ha.bQ;have hy:=hb.bQ;subst hx;subst hy;exact h
 cases h
theorem FG {S:Wo} {d:TypeDesc} {a:AV} {x:Value} (h:vr d a=true) (ha:VR S a x):Ev.addrFree x=true:=by
 unfold vr at h
 split at h
 .
  have hx:=ha.ef;subst hx;rfl
 .
  have hx:=ha.bQ;subst hx;rfl
 cases h
theorem BP {β:Type} {d:TypeDesc} {s:AV} {z:AV} {k:AV->Bool->Option β} {r:β}:∀{ks:List (AV×AV)},Ox d s z k ks=some r ->
 ∃v b,k v b=some r/\∀(S:Wo) (xs:Value) (cs:List Value) (i:Nat),VR S s xs->MC S ks cs->(b=false/\v=z/\Ev.lW d xs cs i=some none)\/(b=true/\∃j x,Ev.lW d xs cs i=some (some (j,x))/\VR S v x)
 |
  [],h=>⟨z,false,h,λS xs cs i hs hc=>by
  have hc:cs=[]:=hc;subst hc;exact .inl ⟨rfl,rfl,rfl⟩⟩
 |
  q::ks,h=>by
  unfold Ox at h;split at h
  case h_2=>cases h
  rename_i b0 hb0;rw[pick2_eq] at h;split at h
  .
   rename_i he;subst he;refine ⟨q.2,true,h,λS xs cs i hs hc=>?_⟩
   obtain ⟨y,x,r',rfl,h0,h2,h3⟩:=hc;refine .inr ⟨rfl,i,x,?_,h2⟩;unfold Ev.lW;rw[sK hb0 hs h0]
  rename_i he;have he:b0=false:=by simpa using he
  subst he;obtain ⟨v,b,h1,h2⟩:=BP h;refine ⟨v,b,h1,λS xs cs i hs hc=>?_⟩
  obtain ⟨y,x,r',rfl,h0,h3,h4⟩:=hc;have:=h2 S xs r' (i+1) hs h4;unfold Ev.lW;rw[sK hb0 hs h0];exact this
theorem L7 {t:TypeId} {x q:Operand} {ok:Bool} (hop:o.op = .lookup t x q ok) {id:Nat} (hx:ev x = .yX id) {t':TypeId} {ks:List (AV×AV)} (hg:H.get id=some (.mf t' ks)) {d:TypeDesc} {z:Value} (hz0:wP X.P t=some (d,z)) {k:AV->Option β}
 (h:pick2 (Nat.beq t' t&&ok&&vr d (ev q)) (Ox d (ev q) (.xR z) (λv b=>k (.cB [v,.bool b])) ks) none=some r):∃v,k v=some r/\bx X cf o ev H v H:=by
 rw[pick2_eq] at h
 split at h
 case isFalse=>cases h
 rename_i hc
 rw[Bool.and_eq_true,Bool.and_eq_true,Nat.beq_eq] at hc
 obtain ⟨⟨rfl,rfl⟩,hfit⟩:=hc
 obtain ⟨kt,e,hu,hks,hz,JT,hfree⟩:=sJ hz0
 obtain ⟨v,b,h1,h2⟩:=BP h
 refine ⟨_,h1,.quiet λS E aq hr aA=>?_⟩
 have e1:=aA x (by rw[hop];simp[Op.operands])
 have e2:=aA q (by rw[hop];simp[Op.operands])
 rw[hx] at e1
 obtain ⟨i,c,s0,b0,r1,r2,r3,r4,r5⟩:=hr.row id _ hg
 generalize hA:aq x=A at e1
 cases e1 with
 |
  yX _ i' c' s' hρ =>
  rw[r1] at hρ;cases hρ;have hm:Ev.mapOf E i=some b0:=by unfold Ev.mapOf;rw[r2];simp only[r3,Ev.eU]
  have go:∀(y:Value),Ev.oX X.P E t' (aq x) (aq q) true=some y->∀call,opA X.P call aq o E=some (y,E):=λy hy call=>by
   unfold opA;rw[hop];show withMem E (Ev.oX X.P E t' (aq x) (aq q) true)=_;rw[hy];rfl
  rcases h2 S (aq q) b0.cells 0 e2 r4 with ⟨rfl,rfl,hf⟩|⟨rfl,j,y,hf,hy⟩
  .
   refine ⟨.tuple #[z,.bool false],go _ ?_,.cB _ [z,.bool false] rfl (LV.cons (.xR z hfree) (LV.cons (.bool _) LV.nil)).2⟩;unfold Ev.oX;rw[hu,hA];simp only[hks,hz,Ev.jh,hm,hf,JT,Ev.eU]
  refine ⟨.tuple #[y,.bool true],go _ ?_,.cB _ [y,.bool true] rfl (LV.cons hy (LV.cons (.bool _) LV.nil)).2⟩;unfold Ev.oX;rw[hu,hA];simp only[hks,hz,Ev.jh,hm,hf,JT,Ev.eU]
theorem BQ {S:Wo} {d:TypeDesc} {s:AV} {xs:Value} (hs:VR S s xs):∀{ks:List (AV×AV)} {cs:List Value} (i:Nat),(ks.all λp=>BI d s p.1==some false)=true->MC S ks cs->Ev.lW d xs cs i=some none
 |
  [],cs,i,_,h=>by
  have h:cs=[]:=h;subst h;rfl
 |
  q::ks,cs,i,ha,⟨y,x,r,h1,h0,h2,h3⟩=>by
  subst h1;simp only[List.all_cons,Bool.and_eq_true,beq_iff_eq] at ha;unfold Ev.lW;rw[sK ha.1 hs h0];exact BQ hs (i+1) ha.2 h3
structure BS (X:cI) (o:Oper) (t:TypeId) (m q x:Operand):Prop where
 m1:m∈o.op.operands
 q1:q∈o.op.operands
 x1:x∈o.op.operands
 go:∀call aq E,opA X.P call aq o E=Ev.ji X.P t (aq m) (aq q) (aq x) E
theorem BS.upd {t:TypeId} {m q x:Operand} (hop:o.op = .mapUpdate t m q x):BS X o t m q x :=
 ⟨by rw[hop];simp[Op.operands],by rw[hop];simp[Op.operands],by rw[hop];simp[Op.operands],λcall aq E=>by unfold opA;rw[hop]⟩
theorem BS.ins {t:TypeId} {m q x:Operand} (hop:o.op = .insert t m q x):BS X o t m q x :=
 ⟨by rw[hop];simp[Op.operands],by rw[hop];simp[Op.operands],by rw[hop];simp[Op.operands],λcall aq E=>by unfold opA;rw[hop]⟩
theorem FH {t:TypeId} {m q x:Operand} (hop:BS X o t m q x) {id:Nat} (hm:ev m = .yX id) {t':TypeId} {ks:List (AV×AV)} (hg:H.get id=some (.mf t' ks)) {d:TypeDesc} {z:Value} (hz0:wP X.P t=some (d,z)) {k:AV->aa->Option β}
 (h:pick2 (Nat.beq t' t&&H.ju id&&l8 (ev x)&&vr d (ev q)&&ks.all λp=>BI d (ev q) p.1==some false) (k .iC (H.put id (.mf t' (ks++[(ev q,ev x)])))) none=some r):∃v H',k v H'=some r/\bx X cf o ev H v H':=by
 rw[pick2_eq] at h
 split at h
 case isFalse=>cases h
 rename_i hc
 rw[Bool.and_eq_true,Bool.and_eq_true,Bool.and_eq_true,Bool.and_eq_true,Nat.beq_eq] at hc
 obtain ⟨⟨⟨⟨rfl,hmay⟩,_⟩,hfit⟩,hall⟩:=hc
 obtain ⟨kt,e,hu,hks,hz,JT,_⟩:=sJ hz0
 refine ⟨_,_,h,λS E aq hr aA=>?_⟩
 have h1:=aA m hop.m1
 have h2:=aA q hop.q1
 have h3:=aA x hop.x1
 rw[hm] at h1
 obtain ⟨i,c,s0,b0,r1,r2,r3,r4,r5⟩:=hr.row id _ hg
 generalize hA:aq m=A at h1
 cases h1 with
 |
  yX _ i' c' s' hρ =>
  rw[r1] at hρ;cases hρ;have hmo:Ev.mapOf E i=some b0:=by unfold Ev.mapOf;rw[r2];simp only[r3,Ev.eU]
  have hmay':H.lk<=id:=by simpa[aa.ju,Nat.ble_eq] using hmay
  have hlk:=hr.lk id _ _ hg hmay' r1;obtain ⟨E',hE⟩:=Mem.dD (b:={ b0 with cells:=b0.cells++[aq q,aq x] }) (Mem.bI r2) hlk
  obtain ⟨z1,z2,z3,z4,z5⟩:=Mem.eC hE
  obtain ⟨m1,m2⟩:=hr.mod (S':=S) (E':=E') (r':=.mf t' (ks++[(ev q,ev x)])) hg rfl S.le_refl rfl (λ_ _ _=>rfl) z3 z4 (λj hj=>by rw[z5,if_neg (hj _ r1)]) (λj cs h=>.inl h) (λq' hq=>by
   cases hq;exact ⟨i,c,s0,{ b0 with cells:=b0.cells++[aq q,aq x] },r1,by rw[z5,if_pos rfl],r3,r4.snoc h2 h3,r5⟩)
  refine ⟨S,undef,E',⟨0,λ_ _=>?_⟩,S.le_refl,.iC _,m1,m2⟩
  rw[hop.go];unfold Ev.ji;rw[hu,hA];simp only[hks,hmo,JT,FG hfit h2,Bool.and_self,Ev.eU,BQ h2 0 hall r4,hE]
theorem vF {P:Program} {t:TypeId} (h:LC P t=true):∃kt e,P.underlying t=some (.map kt e)/\P.underlying kt=some .string/\Ev.fj P e=some (.int .i64 0):=by
 unfold LC at h
 split at h
 .
  rename_i kt e hu;split at h
  .
   rename_i h1 h2 h3;exact ⟨kt,e,hu,h1,h3⟩
  cases h
 cases h
theorem vG (s:List UInt8) (n:Int):∀(ks:List (List UInt8×Int)) (i:Nat),
 (qa ks s=true/\∃j,Ev.lW .string (.string ⟨s.toArray⟩) (dh ks) i=some (some (i+j,.int .i64 (mb ks s)))/\(dh ks).set (2*j+1) (.int .i64 n)=dh (nE ks s n)) \/
 (qa ks s=false/\Ev.lW .string (.string ⟨s.toArray⟩) (dh ks) i=some none/\mb ks s=0/\dh ks++[.string ⟨s.toArray⟩,.int .i64 n]=dh (nE ks s n))
 |[],i=>.inr ⟨rfl,rfl,rfl,rfl⟩
 |
  (q,m)::ks,i=>by
  have e1:Ev.Ey .string (.string ⟨s.toArray⟩) (.string ⟨q.toArray⟩)=some (decide (s=q)):=by
   show some (Ev.iA s.toArray.toList q.toArray.toList)=_;rw[Ev.eV]
  unfold qa mb nE dh Ev.lW;rw[e1];by_cases h:s=q
  .
   subst h
   left
   rw[decide_eq_true rfl];refine ⟨rfl,0,rfl,rfl⟩
  rw[decide_eq_false h];rcases vG s n ks (i+1) with ⟨h1,j,h2,h3⟩|⟨h1,h2,h3,h4⟩
  .
   left
   refine ⟨h1,j+1,?_,?_⟩
   .
    show Ev.lW .string _ (dh ks) (i+1)=_;rw[h2,show i+1+j=i+(j+1) by omega]
   show (Value.string ⟨q.toArray⟩::Value.int .i64 m::dh ks).set (2*(j+1)+1) _=Value.string ⟨q.toArray⟩::Value.int .i64 m::dh (nE ks s n);rw[show 2*(j+1)+1=(2*j+1)+1+1 by omega,List.set_cons_succ,List.set_cons_succ,h3]
  right
  refine ⟨h1,h2,h3,?_⟩;show Value.string ⟨q.toArray⟩::Value.int .i64 m::(dh ks++_)=Value.string ⟨q.toArray⟩::Value.int .i64 m::dh (nE ks s n);rw[h4]
theorem FI {t:TypeId} (hop:o.op = .makeMap t none) (hd:LC X.P t=true):bx X cf o ev H (.yX H.next) (H.push (.mp t [])):=by
 intro S E aq hr aA
 obtain ⟨kt,e,hu,_,_⟩:=vF hd
 obtain ⟨E',hE⟩:=Mem.eY E ⟨[],t,false,true⟩
 obtain ⟨q1,q2,q3⟩:=Mem.bf hE
 obtain ⟨k1,k2,k3⟩:=hr.add (r:=.mp t []) (x:=some (E.size,0,0)) (g:=none) (by omega) q2 (λi hi=>by rw[q3,if_neg (by omega)]) (λr' hr'=>by
  cases hr';exact ⟨E.size,0,0,⟨[],t,false,true⟩,if_pos rfl,by rw[q3,if_pos rfl],rfl,rfl,rfl⟩) (λy hy=>by cases hy;exact Nat.le_refl _) rfl
 refine ⟨_,.map (some E.size),E',⟨0,λ_ _=>?_⟩,k1,.yX _ E.size 0 0 (if_pos rfl),k2,k3⟩
 unfold opA;rw[hop]
 show Ev.gz X.P t none E=_
 unfold Ev.gz
 rw[hu]
 simp only[hE]
theorem O0 {t:TypeId} {x q:Operand} {ok:Bool} (hop:o.op = .lookup t x q ok) {k:AV->Option β} (h:Oy X H t (ev x) (ev q) ok k=some r):∃v,k v=some r/\bx X cf o ev H v H:=by
 unfold Oy at h
 split at h
 case h_2=>cases h
 rename_i id hx
 split at h
 case h_3=>cases h
 case h_2 =>
  rename_i t' ks hg;split at h
  .
   rename_i d z hz0;exact L7 hop hx hg hz0 h
  cases h
 rename_i t' ks hg
 split at h
 case h_2=>cases h
 rename_i s hq
 rw[pick2_eq] at h
 split at h
 case isFalse=>cases h
 rename_i hc
 rw[Bool.and_eq_true,Nat.beq_eq] at hc
 obtain ⟨hd,rfl⟩:=hc
 obtain ⟨kt,e,hu,hks,hz⟩:=vF hd
 have main:∀(S:Wo) (E:Mem) (aq:Operand->Value),Rel S H E->(∀x∈o.op.operands,VR S (ev x) (aq x))->∀call,opA X.P call aq o E=some (pick2 ok (.tuple #[.int .i64 (mb ks s),.bool (qa ks s)]) (.int .i64 (mb ks s)),E):=by
  intro S E aq hr aA call;have h1:=aA x (by rw[hop];simp[Op.operands])
  have h2:=aA q (by rw[hop];simp[Op.operands])
  rw[hx] at h1;rw[hq] at h2;have h2:=h2.ef;obtain ⟨i,c,s0,b,r1,r2,r3,r4,r5⟩:=hr.row id _ hg;generalize hA:aq x=A at h1;cases h1 with
  |
   yX _ i' c' s' hρ =>
   rw[r1] at hρ;cases hρ;have hm:Ev.mapOf E i=some b:=by unfold Ev.mapOf;rw[r2];simp only[r3,Ev.eU]
   unfold opA;rw[hop];show withMem E (Ev.oX X.P E t' (aq x) (aq q) ok)=_
   have:Ev.oX X.P E t' (aq x) (aq q) ok=some (pick2 ok (.tuple #[.int .i64 (mb ks s),.bool (qa ks s)]) (.int .i64 (mb ks s))):=by
    unfold Ev.oX;rw[hu,hA,h2];simp only[hks,hz,Ev.jh,hm,r4];rcases vG s 0 ks 0 with ⟨g1,j,g2,_⟩|⟨g1,g2,g3,_⟩
    .
     rw[g2,g1];rfl
    rw[g2,g1,g3];rfl
   rw[this];rfl
 cases ok with
 |true=>exact ⟨_,h,.quiet λS E aq hr aA=>⟨_,main S E aq hr aA,.cB _ [.int .i64 (mb ks s),.bool (qa ks s)] rfl (LV.cons (.int _ _) (LV.cons (.bool _) LV.nil)).2⟩⟩
 |false=>exact ⟨_,h,.quiet λS E aq hr aA=>⟨_,main S E aq hr aA,.int _ _⟩⟩
theorem zg {t:TypeId} {m q x:Operand} (hop:BS X o t m q x) {k:AV->aa->Option β} (h:xS X H t (ev m) (ev q) (ev x) (λH'=>k .iC H')=some r):∃v H',k v H'=some r/\bx X cf o ev H v H':=by
 unfold xS at h
 split at h
 case h_2=>cases h
 rename_i id hm
 split at h
 case h_3=>cases h
 case h_2 =>
  rename_i t' ks hg;split at h
  .
   rename_i d z hz0;exact FH hop hm hg hz0 h
  cases h
 rename_i t' ks hg
 split at h
 case h_2=>cases h
 rename_i s n hq hx
 rw[pick2_eq] at h
 split at h
 case isFalse=>cases h
 rename_i hc
 rw[Bool.and_eq_true,Bool.and_eq_true,Nat.beq_eq] at hc
 obtain ⟨⟨hd,rfl⟩,hmay⟩:=hc
 obtain ⟨kt,e,hu,hks,hz⟩:=vF hd
 refine ⟨_,_,h,λS E aq hr aA=>?_⟩
 have h1:=aA m hop.m1
 have h2:=aA q hop.q1
 have h3:=aA x hop.x1
 rw[hm] at h1;rw[hq] at h2;rw[hx] at h3
 have h2:=h2.ef
 have h3:=h3.bQ
 obtain ⟨i,c,s0,b,r1,r2,r3,r4,r5⟩:=hr.row id _ hg
 generalize hA:aq m=A at h1
 cases h1 with
 |
  yX _ i' c' s' hρ =>
  rw[r1] at hρ;cases hρ;have hmo:Ev.mapOf E i=some b:=by unfold Ev.mapOf;rw[r2];simp only[r3,Ev.eU]
  have hmay':H.lk<=id:=by simpa[aa.ju,Nat.ble_eq] using hmay
  have hlk:=hr.lk id _ _ hg hmay' r1;obtain ⟨E',hE⟩:=Mem.dD (b:={ b with cells:=dh (nE ks s n) }) (Mem.bI r2) hlk
  obtain ⟨z1,z2,z3,z4,z5⟩:=Mem.eC hE
  obtain ⟨m1,m2⟩:=hr.mod (S':=S) (E':=E') (r':=.mp t' (nE ks s n)) hg rfl S.le_refl rfl (λ_ _ _=>rfl) z3 z4 (λj hj=>by rw[z5,if_neg (hj _ r1)]) (λj cs h=>.inl h) (λq hq=>by
   cases hq;exact ⟨i,c,s0,{ b with cells:=dh (nE ks s n) },r1,by rw[z5,if_pos rfl],r3,rfl,r5⟩)
  refine ⟨S,undef,E',⟨0,λ_ _=>?_⟩,S.le_refl,.iC _,m1,m2⟩
  rw[hop.go];unfold Ev.ji;rw[hu,hA,h2,h3];simp only[hks,hmo,r4];show pick2 (Ev.mM .string&&Ev.addrFree (.string ⟨s.toArray⟩)) _ none=_;rw[show (Ev.mM .string&&Ev.addrFree (.string ⟨s.toArray⟩))=true from rfl,Ev.eU];rcases vG s n ks 0 with ⟨_,j,g2,g3⟩|⟨_,g2,_,g4⟩
  .
   rw[g2];simp only[Nat.zero_add,g3,hE]
  rw[g2];simp only[g4,hE]
theorem XY {call:aT β} (hcall:aV X cf call) {tr:List Tmp} {k:AV->aa->Option β} (h:Nq X call tr ev o H k=some r):∃v H',k v H'=some r/\ze X cf o ev H v H':=by
 have q1:∀{v:AV},(∃v,k v H=some r/\bx X cf o ev H v H)->∃v H',k v H'=some r/\ze X cf o ev H v H':=λ⟨v,h1,h2⟩=>⟨v,H,h1,h2.dz⟩
 have q2:(∃v H',k v H'=some r/\bx X cf o ev H v H')->∃v H',k v H'=some r/\ze X cf o ev H v H':=λ⟨v,H',h1,h2⟩=>⟨v,H',h1,h2.dz⟩
 unfold Nq at h
 split at h
 .
  rename_i x hop;exact ⟨_,_,h,(FC (.inl hop)).dz⟩
 .
  rename_i x hop;exact ⟨_,_,h,(FC (.inr hop)).dz⟩
 .
  rename_i c a b hop;split at h
  .
   rename_i t hc;refine ⟨pick2 t (ev a) (ev b),H,?_,(OX hop hc).dz⟩;cases t<;>exact h
  cases h
 .
  rename_i hop;rw[pick2_eq] at h;split at h
  .
   rename_i hx;exact q1 (v:=.iC) (Tu hop hx h)
  exact q1 (v:=.iC) (LM hop h)
 .
  rename_i hop;exact q1 (v:=.iC) (XP hop h)
 .
  rename_i t hop;rw[pick2_eq] at h;split at h
  .
   exact q2 (LY hop h)
  split at h
  .
   rename_i z hz;exact ⟨_,_,h,(LX hop hz).dz⟩
  cases h
 .
  rename_i t x hop;split at h
  .
   rename_i n cs hn hc;exact ⟨_,_,h,(Tp hop hn hc).dz⟩
  cases h
 .
  rename_i hop;exact q1 (v:=.iC) (LZ hop h)
 .
  rename_i hop;exact q2 (zb hop h)
 .
  rename_i hop;exact q1 (v:=.iC) (OJ hop h)
 .
  rename_i hop;exact q2 (LU hop h)
 .
  rename_i x hop;split at h
  .
   rename_i id off hx;exact ⟨_,_,h,(xU hop hx (.inl ⟨_,_,rfl⟩)).dz⟩
  .
   rename_i id n hx;exact ⟨_,_,h,(xU hop hx (.inr (.inl ⟨_,_,rfl⟩))).dz⟩
  .
   rename_i cs hx;exact ⟨_,_,h,(xU hop hx (.inr (.inr (.inl ⟨_,rfl⟩)))).dz⟩
  .
   rename_i f a b hx;exact ⟨_,_,h,(xU hop hx (.inr (.inr (.inr ⟨_,_,_,rfl⟩)))).dz⟩
  cases h
 .
  rename_i hop;exact q1 (v:=.iC) (LP hop h)
 .
  rename_i hop;exact q1 (v:=.iC) (Tl hop h)
 .
  rename_i x i hop;split at h
  .
   rename_i vs hx;split at h
   .
    rename_i v hv;exact ⟨_,_,h,(FD hop hx hv).dz⟩
   cases h
  cases h
 .
  rename_i hop;exact q2 (OU hop h)
 .
  rename_i hop;exact ⟨_,_,h,(DA hop).dz⟩
 .
  rename_i t x lo hi hop;split at h
  .
   rename_i d y _;rw[pick2_eq] at h;split at h
   .
    exact q2 (LW hop h)
   exact q2 (vw hop h)
  exact q2 (vw hop h)
 .
  rename_i t x f hop;split at h
  .
   rename_i fs cs hu hx;split at h
   .
    rename_i fd NT;exact q1 (v:=.iC) (Ic hop hu hx NT h)
   cases h
  cases h
 .
  rename_i hop;exact q1 (v:=.iC) (LQ hop h)
 .
  rename_i hop;rw[pick2_eq] at h;split at h
  .
   rename_i hd;exact q1 (v:=.iC) (L5 hop hd h)
  exact q2 (OV hop h)
 .
  rename_i c hop;split at h
  .
   rename_i f hc;split at h
   .
    rename_i id a b hf;rw[pick2_eq] at h;split at h
    .
     rename_i hb;obtain ⟨fn,cd,hfn,hcd⟩:=DB hb;obtain ⟨v,H',h1,h2⟩:=hcall _ _ _ _ _ h;exact ⟨v,H',h1,OY hop hc hf hfn hcd h2⟩
    rename_i hb;have hb:mQ X.P id=false:=by simpa using hb
    rw[pick2_eq] at h;split at h
    .
     rename_i hsame;split at h
     .
      rename_i x hx;exact ⟨_,_,h,(L6 hop hc hf hb hsame hx).dz⟩
     cases h
    rename_i hsame;exact q1 (v:=.iC) (Tw hop hc hf hb (by simpa using hsame) h)
   cases h
  .
   rename_i hc;split at h
   .
    rename_i x t h0 h1;exact q1 (v:=.iC) (Tm hop hc h0 h1 h)
   cases h
  .
   rename_i hc;split at h
   .
    rename_i s x st xt h0 h1 h2 h3;exact q2 (Ie hop hc h0 h1 h2 h3 h)
   cases h
  .
   rename_i hc;split at h
   .
    rename_i d x dt h0 h1 h2;exact q2 (OS hop hc h0 h1 h2 h)
   cases h
  .
   rename_i hc;split at h
   .
    rename_i x h0;obtain ⟨v,h1,h2⟩:=A3 hop hc h0 h;exact ⟨v,_,h1,h2.dz⟩
   cases h
  .
   rename_i hc;split at h
   .
    rename_i p n pt it h0 h1;exact q2 (OW hop hc h0 h1 h)
   cases h
  .
   rename_i hc;split at h
   .
    rename_i x y h0;split at h
    .
     rename_i ka a kb b hx hy;exact ⟨_,_,h,(Tq hop hc (Array.toList_inj.1 h0) hx hy).dz⟩
    cases h
   cases h
  .
   rename_i hc;split at h
   .
    rename_i x t h0 h1;split at h
    .
     rename_i te id off len cap hu hx;split at h
     .
      rename_i t' e l cw ro hg;exact ⟨_,_,h,(Tt hop hc h0 h1 hu hx hg).dz⟩
     cases h
    .
     rename_i te id n hu hx;split at h
     .
      rename_i t' e l cw ro hg;exact ⟨_,_,h,(FE hop hc h0 h1 hu hx hg).dz⟩
     cases h
    .
     rename_i te hu hx;exact ⟨_,_,h,(FF hop hc h0 h1 hu hx).dz⟩
    cases h
   cases h
  .
   rename_i hc;exact q1 (v:=.iC) (zf hop hc (.inl rfl) h)
  .
   rename_i hc;exact q1 (v:=.iC) (zf hop hc (.inr (.inl rfl)) h)
  .
   rename_i hc;exact q1 (v:=.iC) (zf hop hc (.inr (.inr rfl)) h)
  cases h
 .
  rename_i hop;rw[pick2_eq] at h;split at h
  .
   rename_i hd;exact ⟨_,_,h,(FI hop hd).dz⟩
  rw[pick2_eq] at h;split at h
  .
   rename_i hd;exact ⟨_,_,h,(DD hop hd).dz⟩
  cases h
 .
  rename_i hop;exact q1 (v:=.iC) (O0 hop h)
 .
  rename_i hop;exact q2 (zg (.upd hop) h)
 .
  rename_i hop;exact q2 (zg (.ins hop) h)
 cases h
end
end Go.Tv

namespace Go.Tv
open Go.Ev (Tr pick2 Leave Mem Blk alive pick2_eq alive_some opA Fr)
structure gG (S:Wo) (f:cj) (fE:Fr):Prop where
 n:f.n=fE.n
 v:∀i,VR S (f.get i) (fE.get i)
theorem gG.mono {S S':Wo} {f:cj} {fE:Fr} (h:gG S f fE) (hle:S.le S'):gG S' f fE:=⟨h.n,λi=>(h.v i).mono hle⟩
theorem cj.DE (f:cj) (d:Tmp) (v:AV):(f.put (some d) v).n=f.n/\∀i,(f.put (some d) v).get i=if i=d/\d<f.n then v else f.get i:=by
 have e:f.put (some d) v=pick2 (Nat.ble (Nat.succ d) f.n) (Option.rec (motive:=λ_=>cj) f (λt=>⟨f.n,t⟩) (f.t.set d v)) f:=rfl
 rw[e,pick2_eq,Ev.fX]
 simp only[decide_eq_true_eq]
 by_cases hd:d<f.n
 .
  rw[if_pos hd];obtain ⟨t',ht⟩:=Tr.dD v f.t d;rw[ht];refine ⟨rfl,λi=>?_⟩
  show (Option.rec (motive:=λ_=>AV) .iC (λv=>v) (t'.get i))=_
  rw[Tr.qJ ht];by_cases hi:i=d
  .
   rw[if_pos hi,if_pos ⟨hi,hd⟩]
  rw[if_neg hi,if_neg (λh=>hi h.1)];rfl
 rw[if_neg hd]
 exact ⟨rfl,λi=>by rw[if_neg (λh=>hd h.2)]⟩
theorem Fr.qR (f:Fr) (dst:Option Tmp) (v:Value):∃f',f.put dst v=some f':=by
 cases dst with
 |none=>exact ⟨f,rfl⟩
 |
  some d =>
  have e:f.put (some d) v=pick2 (Nat.ble (Nat.succ d) f.n) (Option.rec (motive:=λ_=>Option Fr) none (λt=>some ⟨f.n,t⟩) (f.t.set d v)) (some f):=rfl
  rw[e,pick2_eq];split
  .
   obtain ⟨t',ht⟩:=Tr.dD v f.t d;rw[ht];exact ⟨_,rfl⟩
  exact ⟨_,rfl⟩
theorem gG.put {S:Wo} {f:cj} {fE fE':Fr} (h:gG S f fE) {dst:Option Tmp} {v:AV} {x:Value} (hv:VR S v x) (hp:fE.put dst x=some fE'):gG S (f.put dst v) fE':=by
 obtain ⟨e1,e2⟩:=Ev.Fr.cy hp
 cases dst with
 |none=>exact ⟨h.n.trans e1.symm,λi=>by rw[e2,if_neg (by simp)];exact h.v i⟩
 |
  some d =>
  obtain ⟨g1,g2⟩:=cj.DE f d v;refine ⟨by rw[g1,e1,h.n],λi=>?_⟩
  rw[g2,e2];by_cases hi:i=d/\d<f.n
  .
   obtain ⟨rfl,hd⟩:=hi;rw[if_pos ⟨rfl,hd⟩,if_pos ⟨rfl,by rw[<-h.n];exact hd⟩];exact hv
  rw[if_neg hi,if_neg (λhh=>hi ⟨by have:=hh.1;simp at this;exact this.symm,by have:=hh.1;simp at this;subst this;rw[h.n];exact hh.2⟩)]
  exact h.v i
theorem gG.know {S:Wo} {f:cj} {fE:Fr} (h:gG S f fE) {d:Tmp} {v:AV} (hv:VR S v (fE.get d)):gG S (f.put (some d) v) fE:=by
 obtain ⟨g1,g2⟩:=cj.DE f d v
 refine ⟨by rw[g1,h.n],λi=>?_⟩
 rw[g2]
 by_cases hi:i=d/\d<f.n
 .
  obtain ⟨rfl,_⟩:=hi;rw[if_pos ⟨rfl,by assumption⟩];exact hv
 rw[if_neg hi];exact h.v i
theorem XZ {S:Wo} {v:Value} (h:Ev.addrFree v=true):VR S (ofV v) v:=by
 unfold ofV
 split
 .
  rename_i cs;have hc:=sH h;have e:Value.agg cs = .agg (cs.toList).toArray:=by simp
  rw[e];have:=LV.map (S:=S) (f:=Es) (g:=λv=>v) cs.toList λv hv=>sG (hc v (by simpa[Value.cells] using hv))
  rw[List.map_id''] at this
  .
   exact .agg _ _ this.1 this.2
  intro x;rfl
 exact sG h
theorem nU {X:cI} {S:Wo} {f:cj} {fE:Fr} (h:gG S f fE) (hg:bN X S) {x:Operand} (hx:Ev.bt X.G x=true):VR S (f.eval X x) (fE.eval x):=by
 cases x with
 |tmp t=>exact h.v t
 |const v=>exact XZ hx
 |
  global g =>
  have hlt:g<X.G:=by simpa[Ev.bt,Nat.blt_eq] using hx
  show VR S (V1 (X.gv g)) _;have hg:=hg g hlt;revert hg;generalize X.gv g=gs;intro hg;cases gs with
  |nil=>exact .iC _
  |
   cons c l =>
   obtain ⟨cs,h1,h2⟩:=hg (by simp)
   have h2:=h2 S λ_ _ h=>h
   exact .vp (c::l) g [] cs [] (by simpa using h1) h2.1 h2.2
 |func f=>exact .fn f [] [] [] [] rfl rfl (λj x y hx=>by simp at hx) (λj x y hx=>by simp at hx)
section
variable {X:cI} {cf:Nat×Nat->Ev.aN} {β:Type} {r:β}
def DF (X:cI) (run:Nat×Nat->Fr->Mem->Option (Fr×Mem)) (f:cj) (H:aa) (f':cj) (H':aa):Prop :=
 ∀(S:Wo) (E:Mem) (fE:Fr),Rel S H E->bN X S->gG S f fE ->
  ∃S' fE' E',(∃N,∀n:Nat×Nat,N<=n.1/\N<=n.2->run n fE E=some (fE',E'))/\S.le S'/\gG S' f' fE'/\Rel S' H' E'/\St S H E S' H' E'
theorem ud {call:aT β} (hcall:aV X cf call) {tr:List Tmp} {ops:List Oper} {o:Oper} (hok:∀x∈o.op.operands,Ev.bt X.G x=true) {f:cj} {H:aa} {k:cj->aa->Option β} (h:stepT X call tr ops o f H k=some r) :
 ∃f' H',k f' H'=some r/\DF X (λn fE E=>Ev.dB X.P (cf n) ops o fE E) f H f' H':=by
 -- the operation is done
 have run:∀(f1:cj) (k1:AV->aa->Option β),Nq X call tr (f1.eval X) o H k1=some r->∃v H',k1 v H'=some r/\∀(S:Wo) (E:Mem) (fE:Fr),Rel S H E->bN X S->gG S f1 fE->Ev.gB o ops fE=true ->
  ∃S' fE' E',(∃N,∀n:Nat×Nat,N<=n.1/\N<=n.2->Ev.dB X.P (cf n) ops o fE E=some (fE',E'))/\S.le S'/\gG S' (f1.put o.dst v) fE'/\Rel S' H' E'/\St S H E S' H' E':=by
  intro f1 k1 h1;obtain ⟨v,H',e1,e2⟩:=XY hcall h1;refine ⟨v,H',e1,λS E fE hr hg hf hw=>?_⟩
  obtain ⟨S',vE,E',⟨N,k1⟩,k2,k3,k4,k5⟩:=e2 S E fE.eval hr hg λx hx=>nU hf hg (hok x hx)
  obtain ⟨fE',hp⟩:=Fr.qR fE o.dst vE;refine ⟨S',fE',E',⟨N,λn hn=>?_⟩,k2,(hf.mono k2).put k3 hp,k4,k5⟩
  unfold Ev.dB;rw[hw,k1 n hn];show Ev.nM fE o.dst (some (vE,E'))=_;simp only[Ev.nM,hp]
 -- it is not
 have skip:∀(f1:cj) (S:Wo) (E:Mem) (fE:Fr),Rel S H E->gG S f1 fE->Ev.gB o ops fE=false ->
  ∃S' fE' E',(∃N,∀n:Nat×Nat,N<=n.1/\N<=n.2->Ev.dB X.P (cf n) ops o fE E=some (fE',E'))/\S.le S'/\gG S' (f1.put o.dst (.cB [])) fE'/\Rel S' H E'/\St S H E S' H E':=by
  intro f1 S E fE hr hf hw;obtain ⟨fE',hp⟩:=Fr.qR fE o.dst undef;refine ⟨S,fE',E,⟨0,λn _=>?_⟩,S.le_refl,hf.put (.cB [] [] rfl λj x y hx=>by simp at hx) hp,hr,St.refl _ _ _⟩
  unfold Ev.dB;rw[hw];show Ev.nM fE o.dst (some (undef,E))=_;simp only[Ev.nM,hp]
 unfold stepT at h
 split at h
 .
  rename_i hgd;obtain ⟨v,H',h1,h2⟩:=run f _ h;exact ⟨_,H',h1,λS E fE hr hg hf=>h2 S E fE hr hg hf (by simp[Ev.gB,hgd])⟩
 rename_i j want hgd
 split at h
 .
  rename_i d hd;split at h
  .
   rename_i b hb
   have acC:∃oj,ops[j]? = some oj/\oj.dst=some d:=by
    unfold H8 at hd;split at hd
    .
     rename_i oj sj;exact ⟨oj,sj,hd⟩
    cases hd
   obtain ⟨oj,sj,hdj⟩:=acC
   have hwant:∀S fE,gG S f fE->Ev.gB o ops fE=pick2 b want (!want)/\fE.get d = .bool b:=λS fE hf=>by
    have h1:=hf.v d;rw[hb] at h1;have h2:=h1.gi;refine ⟨?_,h2⟩;unfold Ev.gB Ev.pJ;simp only[hgd,sj,hdj,h2]
   have known:∀S fE,gG S f fE->gG S (f.put (some d) (.bool b)) fE:=λS fE hf=>hf.know (by rw[(hwant S fE hf).2];exact .bool b)
   cases b with
   |
    true =>
    cases want with
    |
     true =>
     have h:Nq X call tr ((f.put (some d) (.bool true)).eval X) o H (λv H'=>k ((f.put (some d) (.bool true)).put o.dst v) H')=some r:=h
     obtain ⟨v,H',h1,h2⟩:=run _ _ h;exact ⟨_,H',h1,λS E fE hr hg hf=>h2 S E fE hr hg (known S fE hf) (hwant S fE hf).1⟩
    |false=>exact ⟨_,H,h,λS E fE hr hg hf=>skip _ S E fE hr (known S fE hf) (hwant S fE hf).1⟩
   |
    false =>
    cases want with
    |true=>exact ⟨_,H,h,λS E fE hr hg hf=>skip _ S E fE hr (known S fE hf) (by rw[(hwant S fE hf).1];rfl)⟩
    |
     false =>
     have h:Nq X call tr ((f.put (some d) (.bool false)).eval X) o H (λv H'=>k ((f.put (some d) (.bool false)).put o.dst v) H')=some r:=h
     obtain ⟨v,H',h1,h2⟩:=run _ _ h;exact ⟨_,H',h1,λS E fE hr hg hf=>h2 S E fE hr hg (known S fE hf) (by rw[(hwant S fE hf).1];rfl)⟩
  .
   rename_i l hl;refine ⟨_,H,h,λS E fE hr hg hf=>skip _ S E fE hr hf ?_⟩
   have sj:∃oj,ops[j]? = some oj/\oj.dst=some d:=by
    unfold H8 at hd;split at hd
    .
     rename_i oj sj;exact ⟨oj,sj,hd⟩
    cases hd
   obtain ⟨oj,sj,hdj⟩:=sj;have h1:=hf.v d;rw[hl] at h1
   obtain ⟨m,hm⟩:∃m,fE.get d = .tuple m:=by
    generalize fE.get d=x at h1 ⊢;cases h1;exact ⟨_,rfl⟩
   unfold Ev.gB Ev.pJ;simp only[hgd,sj,hdj,hm]
  cases h
 cases h
theorem O1 (a:Option Nat):Ev.xA (Ev.Hr a)=some a:=by cases a<;>rfl
theorem O2 (a b:Option Nat):Ev.CQ (Ev.cxV a b)=some (a,b):=by
 have code:Ev.CQ (.chan (some (Ev.nL (Ev.yp a) (Ev.yp b)+2)))=some (a,b):=by
  show some (Ev.oC (Ev.oY _ _).1,Ev.oC (Ev.oY _ _).2)=_;rw[Ev.se,Ev.tH,Ev.tH]
 cases a with
 |none=>exact code
 |
  some a=>cases b with
  |none=>exact code
  |some b=>rfl
theorem xV {S:Wo} {a:AV} {q:Option Nat} {x:Value} (h:toF a=some q) (hx:VR S a x):Ev.xA x=some q:=by
 unfold toF at h
 split at h
 .
  cases h;cases hx;rfl
 .
  cases h;cases hx with|fl a v h=>rw[h];exact O1 _
 cases h
theorem Kb {S:Wo} {a:AV} {q:Option Nat×Option Nat} {x:Value} (h:Oz a=some q) (hx:VR S a x):Ev.CQ x=some q:=by
 unfold Oz at h
 split at h
 .
  cases h;cases hx;rfl
 .
  cases h;cases hx with|cx a b v h=>rw[h];exact O2 _ _
 cases h
theorem O3 {S:Wo} {ev:Operand->AV} {aq:Operand->Value} {o:Oper} {v:AV} (h:XL X ev o=some v) (aA:∀x∈o.op.operands,VR S (ev x) (aq x)):∃vE,Ev.AO X.P aq o=some vE/\VR S v vE:=by
 unfold XL at h
 rw[pick2_eq] at h
 split at h
 case isFalse=>cases h
 unfold Ev.AO
 split at h
 .
  rename_i op t x y yt hop;rw[hop];have hx:=aA x (by simp[hop,Op.operands])
  have hy:=aA y (by simp[hop,Op.operands])
  unfold J6 at h;split at h
  case h_2=>cases h
  rename_i a b ha hb;simp only;unfold Ev.CP;rw[xV ha hx,xV hb hy];simp only;split at h
  .
   cases h;exact ⟨_,rfl,.fl _ _ rfl⟩
  .
   cases h;exact ⟨_,rfl,.fl _ _ rfl⟩
  .
   cases h;exact ⟨_,rfl,.fl _ _ rfl⟩
  .
   cases a<;>cases b<;>first|(cases h;done)|(cases h;exact ⟨_,rfl,.bool true⟩)
  cases h
 .
  rename_i cl hop;obtain ⟨callee,args,ats⟩:=cl;rw[hop];have iw:∀x∈args,VR S (ev x) (aq x):=λx hx=>aA x (by simp[hop,Op.operands,Call.operands];exact .inr hx)
  have one:∀{v:AV},args.toList.map ev=[v]->∃p,args = #[p]/\ev p=v:=λh=>by
   obtain ⟨l⟩:=args
   match l,h with
   |[p],h=>exact ⟨p,rfl,by simpa using h⟩
  have two:∀{v u:AV},args.toList.map ev=[v,u]->∃p q,args = #[p,q]/\ev p=v/\ev q=u:=λh=>by
   obtain ⟨l⟩:=args
   match l,h with
   |[p,q],h=>exact ⟨p,q,rfl,by simpa using h⟩
  simp only at h ⊢;split at h
  .
   rename_i x y hl;obtain ⟨p,q,rfl,rfl,rfl⟩:=two hl;split at h
   .
    rename_i a b ha hb;cases h;refine ⟨Ev.cxV a b,?_,.cx a b _ rfl⟩;simp only[List.map_cons,List.map_nil,xV ha (iw p (by simp)),xV hb (iw q (by simp))]
   cases h
  .
   rename_i x hl;obtain ⟨p,rfl,rfl⟩:=one hl;split at h
   .
    rename_i q hq;cases h;refine ⟨Ev.Hr q.1,?_,.fl _ _ rfl⟩;simp only[List.map_cons,List.map_nil,Kb hq (iw p (by simp))]
   cases h
  .
   rename_i x hl;obtain ⟨p,rfl,rfl⟩:=one hl;split at h
   .
    rename_i q hq;cases h;refine ⟨Ev.Hr q.2,?_,.fl _ _ rfl⟩;simp only[List.map_cons,List.map_nil,Kb hq (iw p (by simp))]
   cases h
  .
   rename_i f x hl;obtain ⟨p,rfl,hp⟩:=one hl;split at h
   .
    rename_i id hf;rw[pick2_eq] at h;split at h
    .
     rename_i hb;split at h
     .
      rename_i x;cases h;have hx:=iw p (by simp)
      rw[hp] at hx;have hfE:=aA f (by simp[hop,Op.operands,Call.operands])
      rw[hf] at hfE;generalize hq:aq p=x at hx;generalize hg:aq f=g at hfE;obtain rfl:x = .chan (some 1):=by cases hx with|fl a v h=>exact h
      cases hfE with
      |
       fn f a b a' b' ha hb' va vb =>
       obtain rfl:a'=[]:=List.length_eq_zero_iff.1 (by simpa using ha.symm)
       obtain rfl:b'=[]:=List.length_eq_zero_iff.1 (by simpa using hb'.symm)
       refine ⟨.chan none,?_,.iC _⟩;have e1:[p].map aq=[.chan (some 1)]:=by simp[hq,Ev.Hr]
       show (match Callee.value f,[p].map aq with|_,_=>_)=_
       simp only[e1,hg];rw[show (Ev.CS X.P (.func (.func id) ([]:List Value).toArray ([]:List Value).toArray))=true from hb]
     cases h
    cases h
   cases h
  cases h
 cases h
theorem O4 {P:Program} {call:Ev.aN} {l:List Oper} {o:Oper} {f:Fr} {E:Mem} {r:Fr×Mem} (h:Ev.dB P call l o f E=some r):Ev.nN P call l o f E=some r:=by
 unfold Ev.nN
 rw[h]
theorem L8 {P:Program} {call:Ev.aN} {l:List Oper} {o:Oper} {f f':Fr} {E:Mem} {v:Value} (hw:Ev.gB o l f=true) (h:Ev.AO P f.eval o=some v) (hp:f.put o.dst v=some f'):Ev.nN P call l o f E=some (f',E):=by
 unfold Ev.nN
 cases hs:Ev.dB P call l o f E with
 |
  none =>
  rw[hw,h];show Ev.nM f o.dst (some (v,E))=_;simp only[Ev.nM,hp]
 |
  some r =>
  unfold Ev.dB at hs;rw[hw] at hs;have hs:Ev.nM f o.dst (opA P call f.eval o E)=some r:=hs;cases ho:opA P call f.eval o E with
  |none=>rw[ho] at hs;cases hs
  |
   some q =>
   obtain ⟨u,E'⟩:=q;obtain ⟨rfl,rfl⟩:=Ev.Xj h ho;rw[ho] at hs;simp only[Ev.nM,hp] at hs;exact hs.symm
theorem L9 {call:aT β} (hcall:aV X cf call) {tr:List Tmp} {ops:List Oper} {o:Oper} (hok:∀x∈o.op.operands,Ev.bt X.G x=true) {f:cj} {H:aa} {k:cj->aa->Option β} (h:Dq X call tr ops o f H k=some r) :
 ∃f' H',k f' H'=some r/\DF X (λn fE E=>Ev.nN X.P (cf n) ops o fE E) f H f' H':=by
 unfold Dq at h
 split at h
 .
  rename_i v hv hgd;refine ⟨_,H,h,λS E fE hr hg hf=>?_⟩
  obtain ⟨vE,h1,h2⟩:=O3 hv λx hx=>nU hf hg (hok x hx)
  obtain ⟨fE',hp⟩:=Fr.qR fE o.dst vE;exact ⟨S,fE',E,⟨0,λn _=>L8 (by simp[Ev.gB,hgd]) h1 hp⟩,S.le_refl,hf.put h2 hp,hr,St.refl _ _ _⟩
 obtain ⟨f',H',h1,h2⟩:=ud hcall hok h
 refine ⟨f',H',h1,λS E fE hr hg hf=>?_⟩
 obtain ⟨S',fE',E',⟨N,a1⟩,a2⟩:=h2 S E fE hr hg hf
 exact ⟨S',fE',E',⟨N,λn hn=>O4 (a1 n hn)⟩,a2⟩
def qf (S:Wo) (RT RE:Option (List Nat)):Prop :=
 match RT with
 |none=>True
 |some lT=>∃lE,RE=some lE/\∀j∈lE,(∃cs,S.F j=some cs)\/∃id∈lT,∃x,S.ρ id=some x/\x.1=j
theorem qf.mono {S S':Wo} {RT RE:Option (List Nat)} (h:qf S RT RE) (hle:S.le S'):qf S' RT RE:=by
 cases RT with
 |none=>trivial
 |
  some lT =>
  obtain ⟨lE,e,h⟩:=h;refine ⟨lE,e,λj hj=>(h j hj).imp (λ⟨cs,h1⟩=>⟨cs,hle.F _ _ h1⟩) λ⟨id,h1,x,h2,h3⟩=>⟨id,h1,x,hle.ρ _ _ h2,h3⟩⟩
theorem Ma {S:Wo} {RT RE:Option (List Nat)} (h:qf S RT RE) {ev:Operand->AV} {aq:Operand->Value} {o:Oper} (hv:∀x∈o.op.operands,VR S (ev x) (aq x)):qf S (Dr ev o RT) (Ev.jE aq o RE):=by
 unfold Dr
 split
 .
  rename_i t x hop;have hx:=hv x (by simp[hop,Op.operands])
  unfold Ev.jE;rw[hop];split
  .
   rename_i l id off he;obtain ⟨lE,rfl,h⟩:=h;rw[he] at hx;generalize hA:aq x=y at hx;cases hx with
   |
    ptr _ _ i c s hρ =>
    refine ⟨i::lE,by simp only[hA],λj hj=>?_⟩
    rcases List.mem_cons.1 hj with rfl|hj
    .
     exact .inr ⟨id,by simp,_,hρ,rfl⟩
    exact (h j hj).imp_right λ⟨id',h1,h2⟩=>⟨id',by simp[h1],h2⟩
  .
   rename_i l id j0 fo cw cur he;obtain ⟨lE,rfl,h⟩:=h;rw[he] at hx;generalize hA:aq x=y at hx;cases hx with
   |
    AG _ _ _ _ _ i c e l2 y2 hρ _ _ _ =>
    refine ⟨i::lE,by simp only[hA],λj hj=>?_⟩
    rcases List.mem_cons.1 hj with rfl|hj
    .
     exact .inr ⟨id,by simp,_,hρ,rfl⟩
    exact (h j hj).imp_right λ⟨id',h1,h2⟩=>⟨id',by simp[h1],h2⟩
  .
   rename_i l cs he;obtain ⟨lE,rfl,h⟩:=h;rw[he] at hx;generalize hA:aq x=y at hx;cases hx with
   |
    vp _ i pre mid post hF _ _ =>
    refine ⟨i::lE,by simp only[hA],λj hj=>?_⟩
    rcases List.mem_cons.1 hj with rfl|hj
    .
     exact .inl ⟨_,hF⟩
    exact h j hj
  trivial
 rename_i hno
 unfold Ev.jE
 split
 .
  rename_i t x hop;exact absurd hop (hno t x)
 rw[pick2_eq,pick2_eq]
 split
 .
  trivial
 exact h
theorem BU {S:Wo} {H:aa} {E:Mem} (hr:Rel S H E) {RT RE:Option (List Nat)} (h:qf S RT RE) {s:AV} {sE:Value} (hs:VR S s sE) (hc:vt H RT s=true):Ev.nB RE sE=true:=by
 have own:∀{id:Nat} {l:List Nat} {i cap s0 off n c:Nat} {lE:List Nat},RE=some lE->(∀j∈lE,(∃cs,S.F j=some cs)\/∃id∈l,∃x,S.ρ id=some x/\x.1=j)->S.ρ id=some (i,cap,s0) ->
  ((match H.get id with|some (.list _ _ _ _ _ false)=>true|_=>false)&&l.all λj => !Nat.beq j id&&(H.get j).isSome)=true->Ev.nB RE (.slice (some ⟨i,off,none⟩) n c)=true:=by
  intro id l i cap s0 off n c lE hE hl hρ hb;simp only[Bool.and_eq_true] at hb;obtain ⟨AW,EK⟩:=hb;split at AW
  case h_2=>cases AW
  rename_i t e ll cw ex hg;subst hE;show (lE.all λj => !Nat.beq j i)=true
  rw[List.all_eq_true];intro j hj
  have hne:j≠i:=by
   intro e;subst e;rcases hl j hj with ⟨cs,hF⟩|⟨id',hid,x,hx,hx1⟩
   .
    have:=hr.sep id _ _ hg rfl hρ;rw[hF] at this;cases this
   have:=List.all_eq_true.1 EK id' hid;simp only[Bool.and_eq_true,Bool.not_eq_true'] at this;obtain ⟨t1,t2⟩:=this;obtain ⟨r',hr'⟩:=Option.isSome_iff_exists.1 t2;have:=hr.inj id' id _ _ _ _ hr' hg hx hρ hx1;subst this;rw[Nat.beq_refl] at t1;cases t1
  rw[Bool.not_eq_true',<-Bool.not_eq_true,Nat.beq_eq];exact hne
 unfold vt at hc
 split at hc
 .
  cases hs;rfl
 .
  rename_i id n l;obtain ⟨lE,e,h⟩:=h;cases hs with
  |own _ _ i cap s0 hρ g hg hn=>exact own e h hρ hc
  |cQ _ g hg hn=>rfl
 .
  rename_i id off n c l;obtain ⟨lE,e,h⟩:=h;cases hs with
  |pz _ _ _ _ i c s0 hρ g hg hc' hl=>exact own e h hρ hc
 .
  rename_i id off l;obtain ⟨lE,e,h⟩:=h;cases hs with
  |
   ptr _ _ i c s0 hρ =>
   simp only[Bool.and_eq_true] at hc;obtain ⟨AW,EK⟩:=hc;split at AW
   case h_2=>cases AW
   rename_i t cs hg;subst e;show (lE.all λj => !Nat.beq j i)=true
   rw[List.all_eq_true];intro j hj
   have hne:j≠i:=by
    intro e;subst e;rcases h j hj with ⟨cs,hF⟩|⟨id',hid,x,hx,hx1⟩
    .
     have:=hr.sep id _ _ hg rfl hρ;rw[hF] at this;cases this
    have:=List.all_eq_true.1 EK id' hid;simp only[Bool.and_eq_true,Bool.not_eq_true'] at this;obtain ⟨t1,t2⟩:=this;obtain ⟨r',hr'⟩:=Option.isSome_iff_exists.1 t2;have:=hr.inj id' id _ _ _ _ hr' hg hx hρ hx1;subst this;rw[Nat.beq_refl] at t1;cases t1
   rw[Bool.not_eq_true',<-Bool.not_eq_true,Nat.beq_eq];exact hne
 cases hc
theorem O5 {call:aT β} (hcall:aV X cf call) {tr:List Tmp} {ops:List Oper} {o:Oper} (hok:∀x∈o.op.operands,Ev.bt X.G x=true) {R:Option (List Nat)} {lk:Bool} {f:cj} {H:aa} {k:cj->aa->Option β} (h:Ds X call tr ops R lk o f H k=some r) :
 ∃f' H',k f' H'=some r/\∀(S:Wo) (E:Mem) (fE:Fr) (RE:Option (List Nat)),Rel S H E->bN X S->gG S f fE->qf S R RE ->
  ∃S' fE' E',(∃N,∀n:Nat×Nat,N<=n.1/\N<=n.2->Ev.kf X.P (cf n) ops RE lk o fE E=some (fE',E'))/\S.le S'/\gG S' f' fE'/\Rel S' H' E'/\St S H E S' H' E':=by
 unfold Ds at h
 cases lk with
 |
  false =>
  obtain ⟨f',H',h1,h2⟩:=ud hcall hok h;exact ⟨f',H',h1,λS E fE RE hr hg hf _=>h2 S E fE hr hg hf⟩
 |true =>
  cases hb:Ev.ee o.op with
  |some s =>
   have h:(match Ev.ee o.op with
    |some s=>pick2 (vt H R (f.eval X s)) (stepT X call tr ops o f H k) none
    |none=>pick2 (ku H R (f.eval X) o) (stepT X call tr ops o f H k) (stepT X call tr ops o f { H with lk:=H.next } λf' H'=>k f' { H' with lk:=H.lk }))=some r:=h
   rw[hb] at h;simp only[pick2_eq] at h;split at h
   .
    rename_i hc;obtain ⟨f',H',h1,h2⟩:=ud hcall hok h;refine ⟨f',H',h1,λS E fE RE hr hg hf hR=>?_⟩
    obtain ⟨S',fE',E',⟨N,k1⟩,k2⟩:=h2 S E fE hr hg hf;refine ⟨S',fE',E',⟨N,λn hn=>?_⟩,k2⟩
    have ia:=BU hr hR (nU hf hg (hok s (Ev.wF hb))) hc
    show (match Ev.ee o.op with
     |some s=>pick2 (Ev.nB RE (fE.eval s)) (Ev.dB X.P (cf n) ops o fE E) none
     |
      none=>pick2 (Ev.cE RE fE.eval o) (Ev.dB X.P (cf n) ops o fE E)
      (match Ev.dB X.P (cf n) ops o fE { E with lk:=E.size } with
       |some (f',H')=>some (f',{ H' with lk:=E.lk })
       |none=>none))=_
    rw[hb];simp only[ia];exact k1 n hn
   cases h
  |none =>
   have h:(match Ev.ee o.op with
    |some s=>pick2 (vt H R (f.eval X s)) (stepT X call tr ops o f H k) none
    |none=>pick2 (ku H R (f.eval X) o) (stepT X call tr ops o f H k) (stepT X call tr ops o f { H with lk:=H.next } λf' H'=>k f' { H' with lk:=H.lk }))=some r:=h
   rw[hb] at h;simp only[pick2_eq (ku H R (f.eval X) o)] at h;split at h
   .
    rename_i hc;unfold ku at hc;split at hc
    case h_2=>cases hc
    rename_i s X2;obtain ⟨f',H',h1,h2⟩:=ud hcall hok h;refine ⟨f',H',h1,λS E fE RE hr hg hf hR=>?_⟩
    obtain ⟨S',fE',E',⟨N,k1⟩,k2⟩:=h2 S E fE hr hg hf;refine ⟨S',fE',E',⟨N,λn hn=>?_⟩,k2⟩
    have hsm:s∈o.op.operands:=by
     unfold Ev.fH at X2;split at X2
     .
      rename_i t a x hop;cases X2;rw[hop];simp[Op.operands]
     cases X2
    have ia:Ev.cE RE fE.eval o=true:=by
     unfold Ev.cE;rw[X2];exact BU hr hR (nU hf hg (hok s hsm)) hc
    show (match Ev.ee o.op with
     |some s=>pick2 (Ev.nB RE (fE.eval s)) (Ev.dB X.P (cf n) ops o fE E) none
     |
      none=>pick2 (Ev.cE RE fE.eval o) (Ev.dB X.P (cf n) ops o fE E)
      (match Ev.dB X.P (cf n) ops o fE { E with lk:=E.size } with
       |some (f',H')=>some (f',{ H' with lk:=E.lk })
       |none=>none))=_
    rw[hb];simp only[ia];exact k1 n hn
   have h:stepT X call tr ops o f { H with lk:=H.next } (λf' H'=>k f' { H' with lk:=H.lk })=some r:=h
   obtain ⟨f',H',h1,h2⟩:=ud hcall hok h;refine ⟨f',{ H' with lk:=H.lk },h1,λS E fE RE hr hg hf _=>?_⟩
   have gH:∀(M:aa) n j,({ M with lk:=n }:aa).get j=M.get j:=λM n j=>rfl
   have gE:∀(M:Mem) n j,({ M with lk:=n }:Mem).get j=M.get j:=λM n j=>rfl
   have aE:∀(M:Mem) n j,alive ({ M with lk:=n }:Mem) j=alive M j:=λM n j=>rfl
   have acD:∀S (M:Mem) n id r,mS S ({ M with lk:=n }:Mem) id r↔mS S M id r:=λS M n id r=>by cases r<;>exact Iff.rfl
   have BV:Rel S { H with lk:=H.next } { E with lk:=E.size } :=
    ⟨hr.fz,hr.dom,hr.A0,λid q hq=>(acD _ _ _ _ _).2 (hr.row id q hq),hr.inj,hr.sep,λid q x hq hl _=>absurd (aa.bI hq) (by have hl':H.next<=id:=hl;show ¬id<H.next;omega),Nat.le_refl _,hr.Ia,Nat.le_refl _⟩
   obtain ⟨S',fE',E',⟨N,k1⟩,k2,k3,k4,k5⟩:=h2 S { E with lk:=E.size } fE BV hg hf
   refine ⟨S',fE',{ E' with lk:=E.lk },⟨N,λn hn=>?_⟩,k2,k3,?_,?_⟩
   .
    show (match Ev.ee o.op with
     |some s=>pick2 (Ev.nB RE (fE.eval s)) (Ev.dB X.P (cf n) ops o fE E) none
     |
      none=>pick2 (Ev.cE RE fE.eval o) (Ev.dB X.P (cf n) ops o fE E)
      (match Ev.dB X.P (cf n) ops o fE { E with lk:=E.size } with
       |some (f',H')=>some (f',{ H' with lk:=E.lk })
       |none=>none))=_
    rw[hb];have:=k1 n hn;simp only at this ⊢;cases hsc:Ev.cE RE fE.eval o with
    |false=>rw[Ev.EB,this]
    |
     true =>
     unfold Ev.cE at hsc;split at hsc
     .
      rename_i s X2;obtain ⟨w2,w3⟩:=Ev.Oc X2 this;subst w3;rw[Ev.eU,w2]
     cases hsc
   .
    refine ⟨k4.fz,k4.dom,k4.A0,λid q hq=>(acD _ _ _ _ _).2 (k4.row id q hq),k4.inj,k4.sep,λid q x hq hl hx=>?_,?_,?_,?_⟩
    .
     show E.lk<=x.1;by_cases hid:id<H.next
     .
      have acE:H.get id≠none:=k5.live id hid (by
       have:H'.get id=some q:=hq;rw[this];simp)
      cases hq0:H.get id with
      |none=>exact absurd hq0 acE
      |
       some q0 =>
       cases hx0:S.ρ id with
       |
        none =>
        rw[k5.rn id hid hx0] at hx;cases hx
       |
        some x0 =>
        have e:=k2.ρ id x0 hx0;rw[hx] at e;have e:=Option.some.inj e;subst e;exact hr.lk id q0 x hq0 hl hx0
     have:=k4.lk id q x hq (by rw[k5.LD];show H.next<=id;omega) hx
     have h5:=k5.lk;have:E.size<=x.1:=by rw[h5] at this;exact this
     have:=hr.Eu;omega
    .
     show H.lk<=H'.next
     have:=k5.nx;have:=hr.tw;have:H.next<=H'.next:=k5.nx
     omega
    .
     exact k4.Ia
    show E.lk<=E'.size;have:=k5.sz;have:=hr.Eu;have:E.size<=E'.size:=k5.sz;omega
   exact ⟨k5.sz,rfl,rfl,k5.y6,k5.F,k5.own,k5.Ho,k5.keep,k5.par,k5.nx,k5.live,k5.rn⟩
end
end Go.Tv

namespace Go.Tv
open Go.Ev (Tr pick2 Leave Mem Blk alive pick2_eq alive_some opA Fr)
structure AJ (S:Wo) (H:aa) (HE:Mem) (S':Wo) (H':aa) (HE':Mem):Prop where
 sz:HE.size<=HE'.size
 lk:HE'.lk=HE.lk
 LD:H'.lk=H.lk
 y6:H'.par=H.par
 F:∀i x,S.F i=some x->S'.F i=some x
 own:∀i,Own S' H' i->i<HE.size->Own S H i
 Ho:∀i,S'.F i≠none->S.F i≠none\/Own S H i\/HE.size<=i
 keep:∀i,i<HE.size->¬Own S H i->HE'.get i=HE.get i
 par:∀id,id<H.par->S'.ρ id=S.ρ id
theorem St.Oz {S S':Wo} {H H':aa} {E E':Mem} (h:St S H E S' H' E'):AJ S H E S' H' E':=⟨h.sz,h.lk,h.LD,h.y6,h.F,h.own,h.Ho,h.keep,h.par⟩
theorem AJ.refl (S:Wo) (H:aa) (E:Mem):AJ S H E S H E:=(St.refl S H E).Oz
theorem AJ.trans {S S1 S2:Wo} {H H1 H2:aa} {E E1 E2:Mem} (h:AJ S H E S1 H1 E1) (k:AJ S1 H1 E1 S2 H2 E2):AJ S H E S2 H2 E2:=by
 refine ⟨Nat.le_trans h.sz k.sz,k.lk.trans h.lk,k.LD.trans h.LD,k.y6.trans h.y6,λi x hx=>k.F i x (h.F i x hx),λi ho hi=>h.own i (k.own i ho (Nat.lt_of_lt_of_le hi h.sz)) hi,λi hf=>?_,λi hi ho=>?_,λid hid=>(k.par id (by rw[h.y6];exact hid)).trans (h.par id hid)⟩
 .
  rcases k.Ho i hf with h1|h1|h1
  .
   exact h.Ho i h1
  .
   by_cases hi:i<E.size
   .
    exact .inr (.inl (h.own i h1 hi))
   exact .inr (.inr (by omega))
  exact .inr (.inr (Nat.le_trans h.sz h1))
 exact (k.keep i (Nat.lt_of_lt_of_le hi h.sz) λh1=>ho (h.own i h1 hi)).trans (h.keep i hi ho)
def rE {α:Type} (X:cI) (nf:Bool) (run:Nat×Nat->Fr->Mem->Option (α×Fr×Mem)) (a:α) (f:cj) (H:aa) (f':cj) (H':aa):Prop :=
 ∀(S:Wo) (E:Mem) (fE:Fr),Rel S H E->bN X S->gG S f fE ->
  ∃S' fE' E',(∃N,∀n:Nat×Nat,N<=n.1/\N<=n.2->run n fE E=some (a,fE',E'))/\gG S' f' fE'/\Rel S' H' E'/\AJ S H E S' H' E'/\(nf=true->S.le S'/\St S H E S' H' E')
theorem O6 {P:Program} {ops:Array Oper} {l:List (Oper×Bool)} (h:Ev.plan P ops=some l):∀q∈l,q.1∈ops.toList:=by
 unfold Ev.plan Ev.Hu at h
 rw[pick2_eq] at h
 split at h
 .
  have hpos:=Ev.VT (P:=P) (ops:=ops)
  have key:∀n L l,Ev.oZ (Ev.ny P ops ops.toList 0 []).reverse n L=some l->∀q∈l,q.1∈ops.toList:=by
   intro n
   have mem:∀p∈(Ev.ny P ops ops.toList 0 []).reverse,p.o∈ops.toList:=λp hp=>by
    have:=Array.mem_of_getElem? (hpos.each p hp).o;simpa using this
   induction n with
   |
    zero =>
    intro L l h;unfold Ev.oZ at h;split at h
    .
     cases h;simp
    cases h
   |
    succ n ih =>
    intro L l h;unfold Ev.oZ at h;split at h
    .
     rename_i p hp;have hm:=List.mem_of_find?_eq_some hp;rw[pick2_eq] at h;split at h
     .
      split at h
      .
       rename_i l' hl';cases h;intro q hq;rcases List.mem_cons.1 hq with rfl|hq
       .
        exact mem p hm
       exact ih _ _ hl' q hq
      cases h
     cases h
    split at h
    .
     cases h;simp
    rename_i q0 r0 hp;split at h
    case h_2=>cases h
    rename_i p ms hch
    have hm:p∈(Ev.ny P ops ops.toList 0 []).reverse:=by
     have:=(Ev.oH hch).1;rw[<-hp] at this;exact (List.mem_filter.1 this).1
    rw[pick2_eq] at h;split at h
    case isFalse=>cases h
    split at h
    .
     rename_i l' hl';cases h;intro q hq;rcases List.mem_cons.1 hq with rfl|hq
     .
      exact mem p hm
     exact ih _ _ hl' q hq
    cases h
  exact key _ _ _ h
 cases h
section
variable {X:cI} {cf:Nat×Nat->Ev.aN} {β:Type} {r:β}
theorem O7 {call:aT β} (hcall:aV X cf call) {tr:List Tmp} {ops:List Oper}:∀(l:List (Oper×Bool)),(∀q∈l,∀x∈q.1.op.operands,Ev.bt X.G x=true)->∀{R:Option (List Nat)} {f:cj} {H:aa} {k:cj->aa->Option β},Th X call tr ops l k R f H=some r ->
 ∃f' H',k f' H'=some r/\∀(S:Wo) (E:Mem) (fE:Fr) (RE:Option (List Nat)),Rel S H E->bN X S->gG S f fE->qf S R RE ->
  ∃S' fE' E',(∃N,∀n:Nat×Nat,N<=n.1/\N<=n.2->Ev.rJ X.P (cf n) ops l RE fE E=some (fE',E'))/\S.le S'/\gG S' f' fE'/\Rel S' H' E'/\St S H E S' H' E'
 |[],_,R,f,H,k,h=>⟨f,H,h,λS E fE RE hr hg hf _=>⟨S,fE,E,⟨0,λ_ _=>rfl⟩,S.le_refl,hf,hr,St.refl _ _ _⟩⟩
 |
  q::l,hok,R,f,H,k,h=>by
  have h:Ds X call tr ops R q.2 q.1 f H (Th X call tr ops l k (Dr (f.eval X) q.1 R))=some r:=h;obtain ⟨f1,H1,h1,h2⟩:=O5 hcall (hok q (by simp)) h
  obtain ⟨f2,H2,h3,h4⟩:=O7 hcall l (λq hq=>hok q (by simp[hq])) h1
  refine ⟨f2,H2,h3,λS E fE RE hr hg hf hR=>?_⟩
  obtain ⟨S1,sL,E1,⟨N1,a1⟩,a2,a3,a4,a5⟩:=h2 S E fE RE hr hg hf hR;obtain ⟨S2,Kc,E2,⟨N2,b1⟩,b2,b3,b4,b5⟩:=h4 S1 E1 sL (Ev.jE fE.eval q.1 RE) a4 (hg.mono a2) a3 ((Ma hR λx hx=>nU hf hg (hok q (by simp) x hx)).mono a2)
  refine ⟨S2,Kc,E2,⟨max N1 N2,λn hn=>?_⟩,Wo.le_trans a2 b2,b3,b4,a5.trans b5⟩
  have c1:=a1 n ⟨by omega,by omega⟩
  have c2:=b1 n ⟨by omega,by omega⟩
  show Option.rec (motive:=λ_=>Option (Fr×Mem)) none (λr=>Ev.rJ X.P (cf n) ops l (Ev.jE fE.eval q.1 RE) r.1 r.2) (Ev.kf X.P (cf n) ops RE q.2 q.1 fE E)=_
  rw[c1];exact c2
theorem Ke {call:aT β} (hcall:aV X cf call) {tr:List Tmp} {ops:List Oper}:∀(l:List Oper),(∀o∈l,∀x∈o.op.operands,Ev.bt X.G x=true)->∀{f:cj} {H:aa} {k:cj->aa->Option β},XM X call tr ops l k f H=some r ->
 ∃f' H',k f' H'=some r/\DF X (λn fE E=>Ev.Ez X.P (cf n) ops l fE E) f H f' H'
 |[],_,f,H,k,h=>⟨f,H,h,λS E fE hr hg hf=>⟨S,fE,E,⟨0,λ_ _=>rfl⟩,S.le_refl,hf,hr,St.refl _ _ _⟩⟩
 |
  o::l,hok,f,H,k,h=>by
  have h:Dq X call tr ops o f H (XM X call tr ops l k)=some r:=h;obtain ⟨f1,H1,h1,h2⟩:=L9 hcall (hok o (by simp)) h
  obtain ⟨f2,H2,h3,h4⟩:=Ke hcall l (λq hq=>hok q (by simp[hq])) h1
  refine ⟨f2,H2,h3,λS E fE hr hg hf=>?_⟩
  obtain ⟨S1,sL,E1,⟨N1,a1⟩,a2,a3,a4,a5⟩:=h2 S E fE hr hg hf;obtain ⟨S2,Kc,E2,⟨N2,b1⟩,b2,b3,b4,b5⟩:=h4 S1 E1 sL a4 (hg.mono a2) a3;refine ⟨S2,Kc,E2,⟨max N1 N2,λn hn=>?_⟩,Wo.le_trans a2 b2,b3,b4,a5.trans b5⟩
  have c1:Ev.nN X.P (cf n) ops o fE E=some (sL,E1):=a1 n ⟨by omega,by omega⟩
  have c2:=b1 n ⟨by omega,by omega⟩
  show Option.rec (motive:=λ_=>Option (Fr×Mem)) none (λr=>Ev.Ez X.P (cf n) ops l r.1 r.2) (Ev.nN X.P (cf n) ops o fE E)=_
  rw[c1];exact c2
theorem vh {call:aT β} (hcall:aV X cf call) {tr:List Tmp} {ops:Array Oper} {draw:Bool} {f:cj} {H:aa} {k:cj->aa->Option β} (h:xT X call tr ops draw f H k=some r) :
 ∃f' H',k f' H'=some r/\rE X true (λn fE E=>Ev.jZ X.P X.G (cf n) ops draw fE E) .normal f H f' H':=by
 unfold xT at h
 rw[pick2_eq] at h
 split at h
 case isFalse=>cases h
 rename_i hok
 have acF:∀o∈ops.toList,∀x∈o.op.operands,Ev.bt X.G x=true:=λo ho x hx=>by
  have:=List.all_eq_true.1 hok o ho;exact List.all_eq_true.1 this x (by simpa using hx)
 have fin:∀(l:List (Oper×Bool)),(∀q∈l,q.1∈ops.toList)->Th X call tr ops.toList l k (some []) f H=some r->(∀n fE E,Ev.jZ X.P X.G (cf n) ops draw fE E=Ev.atEnd (Ev.rJ X.P (cf n) ops.toList l (some []) fE E)) ->
  ∃f' H',k f' H'=some r/\rE X true (λn fE E=>Ev.jZ X.P X.G (cf n) ops draw fE E) .normal f H f' H':=by
  intro l hl hr heq;obtain ⟨f',H',h1,h2⟩:=O7 hcall l (λq hq=>acF q.1 (hl q hq)) hr
  refine ⟨f',H',h1,λS E fE hrel hg hf=>?_⟩
  obtain ⟨S',fE',E',⟨N,a1⟩,a2,a3,a4,a5⟩:=h2 S E fE (some []) hrel hg hf ⟨[],rfl,λj hj=>by cases hj⟩
  refine ⟨S',fE',E',⟨N,λn hn=>?_⟩,a3,a4,a5.Oz,λ_=>⟨a2,a5⟩⟩
  have:=a1 n hn;simp only at this ⊢;rw[heq,this];rfl
 rw[pick2_eq] at h
 split at h
 .
  rename_i hd;obtain ⟨l,hl,h1⟩:=lK h;refine fin l (O6 hl) h1 λn fE E=>?_
  unfold Ev.jZ;rw[hok,hd,hl]
 rename_i hd
 obtain ⟨f',H',h1,h2⟩:=Ke hcall ops.toList acF h
 refine ⟨f',H',h1,λS E fE hrel hg hf=>?_⟩
 obtain ⟨S',fE',E',⟨N,a1⟩,a2,a3,a4,a5⟩:=h2 S E fE hrel hg hf
 refine ⟨S',fE',E',⟨N,λn hn=>?_⟩,a3,a4,a5.Oz,λ_=>⟨a2,a5⟩⟩
 have:=a1 n hn
 have hd':draw=false:=by simpa using hd
 simp only at this ⊢
 unfold Ev.jZ
 rw[hok,hd',this];rfl
end
end Go.Tv

namespace Go.Tv
open Go.Ev (Tr pick2 Leave Mem Blk alive pick2_eq alive_some opA Fr)
theorem ue:∀(l:List Nat) (id n i:Nat),placeOf id l n=some i->n<=i/\l[i-n]? = some id
 |[],id,n,i,h=>by cases h
 |
  x::l,id,n,i,h=>by
  unfold placeOf at h;rw[pick2_eq] at h;split at h
  .
   rename_i hx;cases h;have:x=id:=by simpa[Nat.beq_eq] using hx
   subst this;simp
  obtain ⟨h1,h2⟩:=ue l id (n+1) i h;refine ⟨by omega,?_⟩
  have:i-n=(i-(n+1))+1:=by omega
  rw[this];simpa using h2
theorem wT:∀{l:List Nat},nodupB l=true->∀(i j:Nat) x,l[i]? = some x->l[j]? = some x->i=j
 |[],_,i,j,x,h,_=>by simp at h
 |
  y::l,h,i,j,x,hi,hj=>by
  simp only[nodupB,Bool.and_eq_true,Bool.not_eq_true'] at h
  have hy:y ∉ l:=λhm=>by
   have:l.any (Nat.beq y)=true:=List.any_eq_true.2 ⟨y,hm,by simp[Nat.beq_eq]⟩
   rw[this] at h;cases h.1
  cases i with
  |
   zero =>
   cases j with
   |zero=>rfl
   |
    succ j =>
    simp at hi hj;subst hi;exact absurd (List.mem_of_getElem? hj) hy
  |
   succ i =>
   cases j with
   |
    zero =>
    simp at hi hj;subst hj;exact absurd (List.mem_of_getElem? hi) hy
   |succ j=>rw[wT h.2 i j x (by simpa using hi) (by simpa using hj)]
noncomputable def Wo.A4 (S:Wo) (H:aa) (ids:List Nat):Wo :=
 ⟨S.F,λj=>(ids[j]?).bind S.ρ,λj v=>if v=0 then (ids[j]?).bind λid=>match H.get id with
  |some (.list _ e l _ _ _)=>some ⟨e,l⟩
  |_=>S.Γ id 0 else none⟩
section
variable {S:Wo} {H:aa} {ids:List Nat}
theorem xW {E:Mem} (hr:Rel S H E) {id i:Nat} (hi:ids[i]? = some id) {g:Sigma λe:Ty=>List e.den} (hg:S.Γ id 0=some g):∃g',(S.A4 H ids).Γ i 0=some g'/\g'.2.length=g.2.length:=by
 show ∃g',(if 0=0 then (ids[i]?).bind _ else none)=some g'/\_
 rw[if_pos rfl,hi]
 simp only[Option.bind_some]
 split
 .
  rename_i t e l cw ex ro hrow;obtain ⟨_,⟨_,g0,h1,h2⟩,_⟩:=hr.row id _ hrow;rw[hg] at h1;cases h1;exact ⟨_,rfl,h2.symm⟩
 exact ⟨g,hg,rfl⟩
theorem VR.A4 {E:Mem} (hr:Rel S H E) {v:AV} {x:Value} (h:VR S v x):VR (S.A4 H ids) (fJ ids v) x:=by
 have bF:∀{l:List AV} {m:List Value},(∀(j:Nat) a b,l[j]? = some a->m[j]? = some b->VR (S.A4 H ids) (fJ ids a) b)->(∀(j:Nat) a b,(sx ids l)[j]? = some a->m[j]? = some b->VR (S.A4 H ids) a b)/\(sx ids l).length=l.length:=by
  intro l
  induction l with
  |nil=>intro m h;exact ⟨λj a b ha=>by simp[sx] at ha,rfl⟩
  |
   cons v l ih =>
   intro m h;cases m with
   |nil=>exact ⟨λj a b ha hb=>by simp at hb,by have:=(ih (m:=[]) (λj a b _ hb=>by simp at hb)).2;simp[sx,this]⟩
   |
    cons y m =>
    obtain ⟨h1,h2⟩:=ih (m:=m) λj a b ha hb=>h (j+1) a b (by simpa using ha) (by simpa using hb)
    refine ⟨λj a b ha hb=>?_,by simp[sx,h2]⟩
    cases j with
    |zero=>simp[sx] at ha hb;subst ha;subst hb;exact h 0 v y rfl rfl
    |succ j=>exact h1 j a b (by simpa[sx] using ha) (by simpa using hb)
 have ρi:∀{id i:Nat} {y},ids[i]? = some id->S.ρ id=some y->(S.A4 H ids).ρ i=some y:=λhi hy=>by
  show (ids[_]?).bind S.ρ=_;rw[hi];exact hy
 have Tx:∀{id i:Nat},placeOf id ids 0=some i->ids[i]? = some id:=λh=>by simpa using (ue ids _ 0 _ h).2
 induction h with
 |int=>unfold fJ;exact .int _ _
 |bool=>unfold fJ;exact .bool _
 |str=>unfold fJ;exact .str _
 |kV=>unfold fJ;exact .kV _
 |bF e l v h=>unfold fJ;exact .bF e l v h
 |bK=>unfold fJ;exact .bK
 |
  own id n i cap s h g hg hn =>
  unfold fJ;split
  .
   rename_i j hj;obtain ⟨g',h1,h2⟩:=xW hr (Tx hj) hg;exact .own j n i cap s (ρi (Tx hj) h) g' h1 (by omega)
  exact .iC _
 |
  cQ id g hg hn =>
  unfold fJ;split
  .
   rename_i j hj;obtain ⟨g',h1,h2⟩:=xW hr (Tx hj) hg;exact .cQ j g' h1 (by omega)
  exact .iC _
 |
  pz id off len cap i c s h g hg hc hl =>
  unfold fJ;split
  .
   rename_i j hj;obtain ⟨g',h1,h2⟩:=xW hr (Tx hj) hg;exact .pz j off len cap i c s (ρi (Tx hj) h) g' h1 (by omega) hl
  exact .iC _
 |
  ptr id off i c s h =>
  unfold fJ;split
  .
   rename_i j hj;exact .ptr j off i c s (ρi (Tx hj) h)
  exact .iC _
 |AG=>unfold fJ;exact .iC _
 |
  yX id i c s h =>
  unfold fJ;split
  .
   rename_i j hj;exact .yX j i c s (ρi (Tx hj) h)
  exact .iC _
 |dat=>unfold fJ;exact .iC _
 |
  Er id n i c s h g hg hn =>
  unfold fJ;split
  .
   rename_i j hj;obtain ⟨g',h1,h2⟩:=xW hr (Tx hj) hg;exact .Er j n i c s (ρi (Tx hj) h) g' h1 (by omega)
  exact .iC _
 |
  vp cs i pre mid post h hl _ ih =>
  unfold fJ;obtain ⟨l1,l2⟩:=bF ih;exact .vp _ i pre mid post h (by omega) l1
 |je=>unfold fJ;exact .je
 |
  fn f a b a' b' ha hb _ _ SL SM =>
  unfold fJ;obtain ⟨l1,l2⟩:=bF SL;obtain ⟨m1,m2⟩:=bF SM;exact .fn f _ _ a' b' (by omega) (by omega) l1 m1
 |
  agg l m hl _ ih =>
  unfold fJ;obtain ⟨l1,l2⟩:=bF ih;exact .agg _ m (by omega) l1
 |
  cB l m hl _ ih =>
  unfold fJ;obtain ⟨l1,l2⟩:=bF ih;exact .cB _ m (by omega) l1
 |xR v h=>unfold fJ;exact .xR v h
 |fl a v h=>unfold fJ;exact .fl a v h
 |cx a b v h=>unfold fJ;exact .cx a b v h
 |iC v=>unfold fJ;exact .iC v
theorem LV.A4 {E:Mem} (hr:Rel S H E):∀{l:List AV} {m:List Value},LV S l m->LV (S.A4 H ids) (sx ids l) m
 |[],m,h=>by rw[h.dM];exact LV.nil
 |
  v::l,m,h=>by
  obtain ⟨x,m',rfl,h1,h2⟩:=h.cons_inv;exact LV.cons (h1.A4 hr) (LV.A4 hr h2)
theorem Kf (r:Row):(Ti ids r).BJ=r.BJ:=by cases r<;>rfl
theorem FJ (H:aa) (ids:List Nat):∀(l:List Nat) (M:aa),(l.foldl (λM id=>M.push (lB H ids id)) M).next=M.next+l.length /\
 (l.foldl (λM id=>M.push (lB H ids id)) M).lk=M.lk/\(l.foldl (λM id=>M.push (lB H ids id)) M).par=M.par /\
 ∀j,(l.foldl (λM id=>M.push (lB H ids id)) M).get j=if j<M.next then M.get j else ((l[j-M.next]?).bind H.get).map (Ti ids)
 |
  [],M=>by
  refine ⟨rfl,rfl,rfl,λj=>?_⟩
  show M.get j=_;by_cases hj:j<M.next
  .
   rw[if_pos hj]
  rw[if_neg hj];simp;cases h:M.get j with
  |none=>rfl
  |some r=>exact absurd (aa.bI h) hj
 |
  id::l,M=>by
  rw[List.foldl_cons];obtain ⟨h1,h2,h3,h4⟩:=FJ H ids l (M.push (lB H ids id));obtain ⟨p1,p2,p3,p4⟩:=aa.bf M (lB H ids id);refine ⟨by rw[h1,p1];simp;omega,by rw[h2,p2],by rw[h3,p3],λj=>?_⟩
  rw[h4,p1,p4];by_cases hj:j<M.next
  .
   rw[if_pos (by omega),if_neg (by omega),if_pos hj]
  rw[if_neg hj];by_cases hj2:j=M.next
  .
   subst hj2;rw[if_pos (by omega),if_pos rfl]
   simp only[Nat.sub_self,List.getElem?_cons_zero,Option.bind_some];unfold lB;cases hg:H.get id with
   |none=>rfl
   |some r=>cases r<;>first|rfl|exact absurd hg aa.OC
  rw[if_neg (by omega)]
  have:j-M.next=(j-(M.next+1))+1:=by omega
  rw[this];rfl
theorem FK (ids:List Nat) (f:cj) (n:Nat):∀(keep:List Tmp) (g:cj),g.n=n->((keep.foldl (λg t=>g.put (some t) (fJ ids (f.get t))) g).n=n/\∀i,(keep.foldl (λg t=>g.put (some t) (fJ ids (f.get t))) g).get i=g.get i\/(keep.foldl (λg t=>g.put (some t) (fJ ids (f.get t))) g).get i=fJ ids (f.get i))
 |[],g,hg=>⟨hg,λi=>.inl rfl⟩
 |
  t::keep,g,hg=>by
  rw[List.foldl_cons];obtain ⟨e1,e2⟩:=cj.DE g t (fJ ids (f.get t));obtain ⟨h1,h2⟩:=FK ids f n keep (g.put (some t) (fJ ids (f.get t))) (by rw[e1,hg])
  refine ⟨h1,λi=>?_⟩
  rcases h2 i with h|h
  .
   rw[h,e2];by_cases hi:i=t/\t<g.n
   .
    rw[if_pos hi,hi.1];exact .inr rfl
   rw[if_neg hi];exact .inl rfl
  exact .inr h
theorem MC.A4 {S:Wo} {E:Mem} (hr:Rel S H E) {ids:List Nat}:∀{l:List (AV×AV)} {cs:List Value},MC S l cs->MC (S.A4 H ids) (l.map λq=>(fJ ids q.1,fJ ids q.2)) cs
 |[],cs,h=>h
 |q::l,cs,⟨y,x,r,h1,h0,h2,h3⟩=>⟨y,x,r,h1,h0.A4 hr,h2.A4 hr,MC.A4 hr h3⟩
variable {β:Type} {r:β}
theorem Tz {keep:List Tmp} {f:cj} {k:cj->aa->Option β} (h:OB keep f H k=some r):∃f' H',k f' H'=some r/\∀(S:Wo) (E:Mem) (fE:Fr),Rel S H E->gG S f fE->∃S',gG S' f' fE/\Rel S' H' E/\AJ S H E S' H' E:=by
 unfold OB at h
 simp only at h
 generalize akr:(keep.foldl (λacc t=>J7 acc (f.get t)) (List.range H.par)).foldl (OA H) (keep.foldl (λacc t=>J7 acc (f.get t)) (List.range H.par))=ids at h
 rw[pick2_eq] at h
 split at h
 case isFalse=>cases h
 rename_i hc
 simp only[Bool.and_eq_true,Nat.beq_eq] at hc
 obtain ⟨⟨hnd,hpar⟩,hlk⟩:=hc
 have hpar:ids.take H.par=List.range H.par:=by simpa using hpar
 refine ⟨_,_,h,λS E fE hr hf=>⟨S.A4 H ids,?_,?_,?_⟩⟩
 all_goals
  obtain ⟨k1,k2⟩:=FK ids f f.n keep ⟨f.n,.e⟩ rfl;obtain ⟨p1,p2,p3,p4⟩:=FJ H ids ids ⟨0,0,H.par,.e⟩
 .
  refine ⟨by rw[k1,hf.n],λi=>?_⟩
  rcases k2 i with e|e
  .
   rw[e];exact .iC _
  rw[e];exact (hf.v i).A4 hr
 all_goals
  have Mb:∀j q,(ids.foldl (λM id=>M.push (lB H ids id)) (⟨0,0,H.par,.e⟩:aa)).get j=some q->∃id r,ids[j]? = some id/\H.get id=some r/\q=Ti ids r:=λj q hj=>by
   rw[p4,if_neg (by simp)] at hj
   simp only[Nat.sub_zero,Option.map_eq_some_iff,Option.bind_eq_some_iff] at hj;obtain ⟨r,⟨id,h1,h2⟩,rfl⟩:=hj;exact ⟨id,r,h1,h2,rfl⟩
  have ρj:∀{j id},ids[j]? = some id->(S.A4 H ids).ρ j=S.ρ id:=λ{j id} hj=>by
   show (ids[j]?).bind S.ρ=_;rw[hj];rfl
  have agM:H.par<=ids.length:=by
   have:=congrArg List.length hpar;simp at this;omega
 .
  refine ⟨hr.fz,λj x hx=>?_,λj v hj=>?_,λj q hj=>?_,λj j' q q' y y' hj hj' hy hy' he=>?_,λj q y hj hb hy=>?_,λj q y hj _ hy=>?_,by rw[p1,p2];simp,by rw[p1,p3];simpa using agM,hr.Eu⟩
  .
   rw[p1];have hx:(ids[j]?).bind S.ρ=some x:=hx;cases hi:ids[j]? with
   |none=>rw[hi] at hx;cases hx
   |some id=>have:=bI hi;simpa using this
  .
   rw[p1] at hj;show (if v=0 then (ids[j]?).bind _ else none)=none;rw[List.getElem?_eq_none (by simpa using hj)]
   split<;>rfl
  .
   obtain ⟨id,r,h1,h2,rfl⟩:=Mb j q hj;have hrow:=hr.row id r h2;cases r with
   |dead=>trivial
   |
    cells t cs =>
    obtain ⟨i,c,s,b,a1,a2,a3,a4⟩:=hrow;exact ⟨i,c,s,b,by rw[ρj h1];exact a1,a2,a3.A4 hr,a4⟩
   |
    mp t ks =>
    obtain ⟨i,c,s,b,a1,a2⟩:=hrow;exact ⟨i,c,s,b,by rw[ρj h1];exact a1,a2⟩
   |
    mf t ks =>
    obtain ⟨i,c,s,b,a1,a2,a3,a4,a5⟩:=hrow;exact ⟨i,c,s,b,by rw[ρj h1];exact a1,a2,a3,a4.A4 hr,a5⟩
   |
    list t e l cw ex ro =>
    obtain ⟨a1,⟨a2,g,a3,a4⟩,a5⟩:=hrow
    have hΓ:(S.A4 H ids).Γ j 0=some ⟨e,l⟩:=by
     show (if 0=0 then (ids[j]?).bind _ else none)=_;rw[if_pos rfl,h1];simp only[Option.bind_some,h2]
    refine ⟨hΓ,⟨λv hv=>if_neg (by omega),⟨e,l⟩,hΓ,rfl⟩,?_⟩
    rcases a5 with ⟨b1,b2,b3⟩|⟨i,cap,b,mid,post,q1,q2⟩
    .
     exact .inl ⟨b1,by rw[ρj h1];exact b2,b3⟩
    exact .inr ⟨i,cap,b,mid,post,by rw[ρj h1];exact q1,q2⟩
  .
   obtain ⟨id,r,h1,h2,rfl⟩:=Mb j q hj;obtain ⟨id',r',h1',h2',rfl⟩:=Mb j' q' hj';rw[ρj h1] at hy;rw[ρj h1'] at hy';have:=hr.inj id id' r r' y y' h2 h2' hy hy' he;subst this;exact wT hnd j j' id h1 h1'
  .
   obtain ⟨id,r,h1,h2,rfl⟩:=Mb j q hj;rw[ρj h1] at hy;rw[Kf] at hb;exact hr.sep id r y h2 hb hy
  obtain ⟨id,r,h1,h2,rfl⟩:=Mb j q hj;rw[ρj h1] at hy;exact hr.lk id r y h2 (by omega) hy
 refine ⟨Nat.le_refl _,rfl,by rw[p2,hlk],p3,λ_ _ h=>h,λi ho _=>?_,λi hi=>.inl hi,λ_ _ _=>rfl,λid hid=>?_⟩
 .
  obtain ⟨j,q,y,hj,hb,hy,rfl⟩:=ho;obtain ⟨id,r,h1,h2,rfl⟩:=Mb j q hj;rw[ρj h1] at hy;rw[Kf] at hb;exact ⟨id,r,y,h2,hb,hy,rfl⟩
 refine ρj ?_
 have:(ids.take H.par)[id]? = some id:=by rw[hpar];simp[hid]
 rw[List.getElem?_take,if_pos hid] at this
 exact this
end
end Go.Tv

namespace Go.Tv
open Go.Ev (Tr pick2 Leave Mem Blk alive pick2_eq alive_some opA Fr)
def ig.mo:ig->Bool
 |.none=>true
 |.node k a b=>k.isNone&&a.mo&&b.mo
theorem ig.gI {a:ig} (h:a.mo=true):a.keep=Option.none:=by
 cases a with
 |none=>rfl
 |
  node k a b =>
  simp only[ig.mo,Bool.and_eq_true] at h;show k=Option.none;exact Option.isNone_iff_eq_none.1 h.1.1
theorem ig.vH {a:ig} (h:a.mo=true):a.l.mo=true:=by
 cases a with
 |none=>rfl
 |node k a b=>simp only[ig.mo,Bool.and_eq_true] at h;exact h.1.2
theorem ig.O8 {a:ig} (h:a.mo=true):a.r.mo=true:=by
 cases a with
 |none=>rfl
 |node k a b=>simp only[ig.mo,Bool.and_eq_true] at h;exact h.2
section
variable {X:cI} {cf:Nat×Nat->Ev.aN} {β:Type} {r:β} {nf:Bool}
def O9 (nf:Bool) (f:cj) (H:aa) (f':cj) (H':aa):Prop :=
 ∀(S:Wo) (E:Mem) (fE:Fr),Rel S H E->gG S f fE->∃S',gG S' f' fE/\Rel S' H' E/\AJ S H E S' H' E/\(nf=true->S.le S'/\St S H E S' H' E)
theorem Pa {a:ig} (hn:nf=true->a.keep=none) {f:cj} {H:aa} {k:cj->aa->Option β} (h:AH a f H k=some r):∃f' H',k f' H'=some r/\O9 nf f H f' H':=by
 unfold AH at h
 split at h
 .
  exact ⟨f,H,h,λS E fE hr hf=>⟨S,hf,hr,AJ.refl _ _ _,λ_=>⟨S.le_refl,St.refl _ _ _⟩⟩⟩
 rename_i l hl
 obtain ⟨f',H',h1,h2⟩:=Tz h
 refine ⟨f',H',h1,λS E fE hr hf=>?_⟩
 obtain ⟨S',a1,a2,a3⟩:=h2 S E fE hr hf
 exact ⟨S',a1,a2,a3,λhnf=>by rw[hn hnf] at hl;cases hl⟩
theorem O9.then {α:Type} {run:Nat×Nat->Fr->Mem->Option (α×Fr×Mem)} {a:α} {f f1 f2:cj} {H H1 H2:aa} (h:O9 nf f H f1 H1) (k:rE X nf run a f1 H1 f2 H2):rE X nf run a f H f2 H2:=by
 intro S E fE hr hg hf
 obtain ⟨S1,a1,a2,a3,a4⟩:=h S E fE hr hf
 obtain ⟨S2,Kc,E2,b1,b2,b3,b4,b5⟩:=k S1 E fE a2 (hg.mono' a3.F) a1
 exact ⟨S2,Kc,E2,b1,b2,b3,a3.trans b4,λhnf=>⟨Wo.le_trans (a4 hnf).1 (b5 hnf).1,(a4 hnf).2.trans (b5 hnf).2⟩⟩
theorem rE.then {f f1 f2:cj} {H H1 H2:aa} {FL acG run:Nat×Nat->Fr->Mem->Option (Leave×Fr×Mem)} {lv lv':Leave} (h:rE X nf FL lv f H f1 H1) (k:rE X nf acG lv' f1 H1 f2 H2)
 (hrun:∃N0,∀n fE E sL E1 Kc E2,N0<=n.1->FL n fE E=some (lv,sL,E1)->acG n sL E1=some (lv',Kc,E2)->run n fE E=some (lv',Kc,E2)):rE X nf run lv' f H f2 H2:=by
 intro S E fE hr hg hf
 obtain ⟨N0,hrun⟩:=hrun
 obtain ⟨S1,sL,E1,⟨N1,a1⟩,a2,a3,a4,a5⟩:=h S E fE hr hg hf
 obtain ⟨S2,Kc,E2,⟨N2,b1⟩,b2,b3,b4,b5⟩:=k S1 E1 sL a3 (hg.mono' a4.F) a2
 refine ⟨S2,Kc,E2,⟨max N0 (max N1 N2),λn hn=>?_⟩,b2,b3,a4.trans b4,λhnf=>⟨Wo.le_trans (a5 hnf).1 (b5 hnf).1,(a5 hnf).2.trans (b5 hnf).2⟩⟩
 exact hrun n fE E sL E1 Kc E2 (by omega) (a1 n ⟨by omega,by omega⟩) (b1 n ⟨by omega,by omega⟩)
theorem rE.same {f f1:cj} {H H1:aa} {FL run:Nat×Nat->Fr->Mem->Option (Leave×Fr×Mem)} {lv lv':Leave} (h:rE X nf FL lv f H f1 H1)
 (hrun:∃N0,∀n fE E sL E1,N0<=n.1->FL n fE E=some (lv,sL,E1)->run n fE E=some (lv',sL,E1)):rE X nf run lv' f H f1 H1:=by
 intro S E fE hr hg hf
 obtain ⟨N0,hrun⟩:=hrun
 obtain ⟨S1,sL,E1,⟨N1,a1⟩,a2⟩:=h S E fE hr hg hf
 exact ⟨S1,sL,E1,⟨max N0 N1,λn hn=>hrun n fE E sL E1 (by omega) (a1 n ⟨by omega,by omega⟩)⟩,a2⟩
theorem rE.here {run:Nat×Nat->Fr->Mem->Option (Leave×Fr×Mem)} {lv:Leave} {f:cj} {H:aa} (h:∀n fE E,run n fE E=some (lv,fE,E)):rE X nf run lv f H f H :=
 λS E fE hr hg hf=>⟨S,fE,E,⟨0,λn _=>h n fE E⟩,hf,hr,AJ.refl _ _ _,λ_=>⟨S.le_refl,St.refl _ _ _⟩⟩
def lD (X:cI) (nf:Bool) (β:Type) (g:cj->aa->KT β->Option β) (run:Nat×Nat->Fr->Mem->Option (Leave×Fr×Mem)):Prop :=
 ∀f H k (r:β),g f H k=some r->∃lv f' H',k lv f' H'=some r/\rE X nf run lv f H f' H'
def qT (X:cI) (nf:Bool) {β:Type} (J:nT β) (JE:Nat×Nat->Ev.o4):Prop :=
 ∀c rest,lD X nf β (J c rest) (λn fE E=>JE n c rest fE E)
theorem BW {y:cj->aa->Option β} {k:KT β} {lv:Leave} {f:cj} {H:aa} (h:tW y k lv f H=some r):(lv = .normal/\y f H=some r)\/(lv ≠ .normal/\k lv f H=some r):=by
 unfold tW at h
 split at h
 .
  exact .inl ⟨rfl,h⟩
 .
  exact .inr ⟨by simp,h⟩
 .
  exact .inr ⟨by simp,h⟩
 exact .inr ⟨by simp,h⟩
theorem rO {lv:Leave} (h:lv ≠ .normal) (fE:Fr) (E:Mem) (k:Fr->Mem->Ev.Out):Ev.andThen (some (lv,fE,E)) k=some (lv,fE,E):=by
 cases lv<;>first|rfl|exact absurd rfl h
theorem tT {a:ig} (hn:nf=true->a.keep=none) {body:cj->aa->KT β->Option β} {FM:Nat×Nat->Fr->Mem->Option (Leave×Fr×Mem)} (hb:lD X nf β body FM):∀(m d:Nat) (f:cj) (H:aa) (k:KT β),J8 a body k m f H=some r ->
 ∃lv f' H',k lv f' H'=some r/\rE X nf (λn fE E=>Ev.wC (FM n) (n.1-d) fE E) lv f H f' H'
 |0,d,f,H,k,h=>by cases h
 |
  m+1,d,f,H,k,h=>by
  have h:body f H (tW (λf H=>AH a f H (J8 a body k m)) k)=some r:=h
  obtain ⟨lv,f2,H2,h3,h4⟩:=hb _ _ _ _ h;have hstep:∀(q:Nat) (n:Nat×Nat) fE E,Ev.wC (FM n) (q+1) fE E=Ev.andThen (FM n fE E) (Ev.wC (FM n) q):=λq n fE E=>rfl
  rcases BW h3 with ⟨rfl,h5⟩|⟨hne,h5⟩
  .
   obtain ⟨f1,H1,h1,h2⟩:=Pa hn h5;obtain ⟨lv',f3,H3,h6,h7⟩:=tT hn hb m (d+1) f1 H1 k h1;refine ⟨lv',f3,H3,h6,h4.then (h2.then h7) ⟨d+1,λn fE E sL E1 Kc E2 hn' e1 e2=>?_⟩⟩
   have:n.1-d=(n.1-(d+1))+1:=by omega
   rw[this,hstep,e1];exact e2
  refine ⟨lv,f2,H2,h5,h4.same ⟨d+1,λn fE E sL E1 hn' e1=>?_⟩⟩
  have:n.1-d=(n.1-(d+1))+1:=by omega
  rw[this,hstep,e1];exact rO hne _ _ _
theorem Pb {id:Nat} {g:cj->aa->KT β->Option β} {run:Nat×Nat->Fr->Mem->Option (Leave×Fr×Mem)} (hg:lD X nf β g run):lD X nf β (λf H k=>g f H (y5 id k)) (λn fE E=>Ev.fW id (run n fE E)):=by
 intro f H k r h
 obtain ⟨lv,f',H',h1,h2⟩:=hg _ _ _ _ h
 unfold y5 at h1
 split at h1
 .
  rename_i id';rw[pick2_eq] at h1;split at h1
  .
   rename_i hid;refine ⟨_,f',H',h1,h2.same ⟨0,λn fE E sL E1 _ e1=>?_⟩⟩
   rw[e1];simp[Ev.fW,hid]
  rename_i hid;refine ⟨_,f',H',h1,h2.same ⟨0,λn fE E sL E1 _ e1=>?_⟩⟩
  rw[e1]
  have:Nat.beq id' id=false:=by
   cases hb:Nat.beq id' id with
   |true=>exact absurd hb hid
   |false=>rfl
  simp[Ev.fW,this]
 .
  exact ⟨_,f',H',h1,h2.same ⟨0,λn fE E sL E1 _ e1=>by rw[e1];rfl⟩⟩
 .
  exact ⟨_,f',H',h1,h2.same ⟨0,λn fE E sL E1 _ e1=>by rw[e1];rfl⟩⟩
 exact ⟨_,f',H',h1,h2.same ⟨0,λn fE E sL E1 _ e1=>by rw[e1];rfl⟩⟩
theorem FN {c:Code} {J:nT β} {JE:Nat×Nat->Ev.o4} (hJ:qT X nf J JE) {g:cj->aa->KT β->Option β} {run:Nat×Nat->Fr->Mem->Option (Leave×Fr×Mem)} (hg:lD X nf β g run):lD X nf β (λf H k=>g f H (vu c J k)) (λn fE E=>Ev.eT c (JE n) (run n fE E)):=by
 intro f H k r h
 obtain ⟨lv,f',H',h1,h2⟩:=hg _ _ _ _ h
 unfold vu at h1
 split at h1
 .
  rename_i l;split at h1
  .
   rename_i rest hl;obtain ⟨lv',f2,H2,h3,h4⟩:=hJ c rest _ _ _ _ h1;refine ⟨lv',f2,H2,h3,h2.then h4 ⟨0,λn fE E sL E1 Kc E2 _ e1 e2=>?_⟩⟩
   rw[e1];simp only[Ev.eT,hl];exact e2
  rename_i hl;exact ⟨_,f',H',h1,h2.same ⟨0,λn fE E sL E1 _ e1=>by rw[e1];simp only[Ev.eT,hl]⟩⟩
 .
  exact ⟨_,f',H',h1,h2.same ⟨0,λn fE E sL E1 _ e1=>by rw[e1];rfl⟩⟩
 .
  exact ⟨_,f',H',h1,h2.same ⟨0,λn fE E sL E1 _ e1=>by rw[e1];rfl⟩⟩
 exact ⟨_,f',H',h1,h2.same ⟨0,λn fE E sL E1 _ e1=>by rw[e1];rfl⟩⟩
theorem qU {a:ig} (hn:nf=true->a.keep=none) {g:cj->aa->KT β->Option β} {run:Nat×Nat->Fr->Mem->Option (Leave×Fr×Mem)} (hg:lD X nf β g run):lD X nf β (λf H k=>AH a f H λf H=>g f H k) run:=by
 intro f H k r h
 obtain ⟨f1,H1,h1,h2⟩:=Pa hn h
 obtain ⟨lv,f2,H2,h3,h4⟩:=hg _ _ _ _ h1
 exact ⟨lv,f2,H2,h3,h2.then h4⟩
theorem Kg {call:aT β} (hcall:aV X cf call) {tr:List Tmp} {J:nT β} {JE:Nat×Nat->Ev.o4} (hJ:qT X nf J JE) (rounds:Nat) (c:Code):∀(a:ig),(nf=true->a.mo=true)->lD X nf β (eE X call tr J rounds c a) (λn fE E=>Ev.iq X.P X.G (cf n) (JE n) n.1 c fE E):=by
 induction c with
 |skip=>intro a _ f H k r h;exact ⟨_,f,H,h,.here λ_ _ _=>rfl⟩
 |
  region id ops draw =>
  intro a hn;refine qU (g:=λf H k=>xT X call tr ops draw f H λf H=>k .normal f H) (λh=>ig.gI (hn h)) λf H k r h=>?_
  obtain ⟨f',H',h1,h2⟩:=vh hcall h;refine ⟨_,f',H',h1,λS E fE hr hg hf=>?_⟩
  obtain ⟨S',fE',E',a1,a2,a3,a4,a5⟩:=h2 S E fE hr hg hf;exact ⟨S',fE',E',a1,a2,a3,a4,λ_=>a5 rfl⟩
 |
  seq x y Oh Oi =>
  intro a hn;refine qU (g:=λf H k=>eE X call tr J rounds x a.l f H (tW (λf H=>eE X call tr J rounds y a.r f H k) k)) (λh=>ig.gI (hn h)) λf H k r h=>?_
  obtain ⟨lv,f1,H1,h1,h2⟩:=Oh a.l (λh=>ig.vH (hn h)) _ _ _ _ h
  have hs:∀n fE E,Ev.iq X.P X.G (cf n) (JE n) n.1 (.seq x y) fE E=Ev.andThen (Ev.iq X.P X.G (cf n) (JE n) n.1 x fE E) (Ev.iq X.P X.G (cf n) (JE n) n.1 y):=λn fE E=>rfl
  rcases BW h1 with ⟨rfl,h3⟩|⟨hne,h3⟩
  .
   obtain ⟨lv',f2,H2,h4,h5⟩:=Oi a.r (λh=>ig.O8 (hn h)) _ _ _ _ h3
   exact ⟨lv',f2,H2,h4,h2.then h5 ⟨0,λn fE E sL E1 Kc E2 _ e1 e2=>by rw[hs,e1];exact e2⟩⟩
  exact ⟨lv,f1,H1,h3,h2.same ⟨0,λn fE E sL E1 _ e1=>by rw[hs,e1];exact rO hne _ _ _⟩⟩
 |
  cond c x y Oh Oi =>
  intro a hn
  refine qU (g:=λf H k=>pick2 (Ev.bt X.G c) (match f.eval X c with
   |.bool b=>pick2 b (eE X call tr J rounds x a.l f H k) (eE X call tr J rounds y a.r f H k)
   |_=>none) none) (λh=>ig.gI (hn h)) λf H k r h=>?_
  simp only at h;rw[pick2_eq] at h;split at h
  case isFalse=>cases h
  rename_i hok;split at h
  .
   rename_i b hb;have hs:∀n fE E,Ev.iq X.P X.G (cf n) (JE n) n.1 (.cond c x y) fE E=pick2 (Ev.bt X.G c) (Ev.Bj (fE.eval c) (Ev.iq X.P X.G (cf n) (JE n) n.1 x) (Ev.iq X.P X.G (cf n) (JE n) n.1 y) fE E) none:=λn fE E=>rfl
   have both:∃lv f' H',k lv f' H'=some r/\rE X nf (λn fE E=>pick2 b (Ev.iq X.P X.G (cf n) (JE n) n.1 x fE E) (Ev.iq X.P X.G (cf n) (JE n) n.1 y fE E)) lv f H f' H':=by
    cases b with
    |true=>exact Oh a.l (λh=>ig.vH (hn h)) _ _ _ _ h
    |false=>exact Oi a.r (λh=>ig.O8 (hn h)) _ _ _ _ h
   obtain ⟨lv,f',H',h1,h2⟩:=both;refine ⟨lv,f',H',h1,λS E fE hr hg hf=>?_⟩
   obtain ⟨S',fE',E',⟨N,a1⟩,a2⟩:=h2 S E fE hr hg hf;refine ⟨S',fE',E',⟨N,λn hn'=>?_⟩,a2⟩
   have hv:=nU hf hg hok;rw[hb] at hv;have a1:=a1 n hn';simp only at a1 ⊢;rw[hs,hok,hv.gi];exact a1
  cases h
 |
  block id b ih =>
  intro a hn;exact qU (g:=λf H k=>eE X call tr J rounds b a.l f H (y5 id k)) (λh=>ig.gI (hn h)) (Pb (ih a.l λh=>ig.vH (hn h)))
 |
  loop b ih =>
  intro a hn f H k r h;obtain ⟨f1,H1,h1,h2⟩:=Pa (λh=>ig.gI (hn h)) h
  obtain ⟨lv,f',H',h3,h4⟩:=tT (λh=>ig.gI (hn h)) (ih a.l λh=>ig.vH (hn h)) rounds 0 f1 H1 k h1
  exact ⟨lv,f',H',h3,h2.then h4⟩
 |rangeFunc f params assign body _ _=>intro a _ f H k r h;cases h
 |exit id=>intro a _ f H k r h;exact ⟨_,f,H,h,.here λ_ _ _=>rfl⟩
 |
  scope b ih =>
  intro a hn;exact qU (g:=λf H k=>eE X call tr J rounds b a.l f H (vu b J k)) (λh=>ig.gI (hn h)) (FN hJ (ih a.l λh=>ig.vH (hn h)))
 |label l=>intro a _ f H k r h;exact ⟨_,f,H,h,.here λ_ _ _=>rfl⟩
 |goto l=>intro a _ f H k r h;exact ⟨_,f,H,h,.here λ_ _ _=>rfl⟩
 |ret=>intro a _ f H k r h;exact ⟨_,f,H,h,.here λ_ _ _=>rfl⟩
 |refuse w=>intro a _ f H k r h;cases h
theorem Kh {ja:ig} (hn:nf=true->ja.keep=none) {J:nT β} {JE:Nat×Nat->Ev.o4} (hJ:qT X nf J JE):qT X nf (λc rest f H k=>AH ja f H λf H=>J c rest f H k) JE :=
 λc rest=>qU (g:=J c rest) hn (hJ c rest)
theorem BX {call:aT β} (hcall:aV X cf call) {tr:List Tmp} {ja:ig} (hn:nf=true->ja.mo=true) (rounds:Nat):∀(m d:Nat),qT X nf (H9 X call tr ja rounds m) (λn=>Ev.r7 X.P X.G (cf n) n.1 (n.1-d))
 |0,d=>λc rest f H k r h=>by cases h
 |
  m+1,d=>λc rest=>by
  have ih:=Kh (λh=>ig.gI (hn h)) (BX (tr:=tr) hcall hn rounds m (d+1))
  have key:=FN (c:=c) ih (Kg (tr:=tr) hcall ih rounds rest ja.l λh=>ig.vH (hn h))
  intro f H k r h;obtain ⟨lv,f',H',h1,h2⟩:=key f H k r h;refine ⟨lv,f',H',h1,h2.same ⟨d+1,λn fE E sL E1 hn' e1=>?_⟩⟩
  have:n.1-d=(n.1-(d+1))+1:=by omega
  show Ev.r7 X.P X.G (cf n) n.1 (n.1-d) c rest fE E=_;rw[this];exact e1
theorem Pc {call:aT β} (hcall:aV X cf call) {tr:List Tmp} {ja:ig} (hn:nf=true->ja.mo=true) (rounds:Nat) (m d:Nat):qT X nf (mg X call tr ja rounds m) (λn=>Ev.r7 X.P X.G (cf n) n.1 (n.1-d)) :=
 Kh (λh=>ig.gI (hn h)) (BX hcall hn rounds m d)
theorem vn {H:aa} {f:cj} {rv:ResultVar} {k:AV->Option β} (h:Du X H f rv k=some r):∃v,k v=some r/\∀S E fE,Rel S H E->gG S f fE->∃x,Ev.tu X.P E fE rv=some x/\VR S v x:=by
 unfold Du at h
 split at h
 .
  rename_i t;exact ⟨_,h,λS E fE hr hf=>⟨fE.get t,rfl,hf.v t⟩⟩
 rename_i x t
 obtain ⟨v,h1,h2⟩:=Fv h
 exact ⟨v,h1,λS E fE hr hf=>h2 S E _ hr (hf.v x)⟩
theorem oJ {H:aa} {f:cj}:∀{l:List ResultVar} {k:List AV->Option β},qb X H f k l=some r->∃vs,k vs=some r/\∀S E fE,Rel S H E->gG S f fE->∃xs,Ev.eA X.P E fE l=some xs/\LV S vs xs
 |[],k,h=>⟨[],h,λS E fE hr hf=>⟨[],rfl,LV.nil⟩⟩
 |
  rv::l,k,h=>by
  obtain ⟨v,h1,h2⟩:=vn h;obtain ⟨vs,h3,h4⟩:=oJ h1;refine ⟨v::vs,h3,λS E fE hr hf=>?_⟩
  obtain ⟨x,e1,e2⟩:=h2 S E fE hr hf;obtain ⟨xs,e3,e4⟩:=h4 S E fE hr hf;exact ⟨x::xs,by simp only[Ev.eA,e1,e3],LV.cons e2 e4⟩
theorem DG {S:Wo} {vs:List AV} {xs:List Value} (h:LV S vs xs):VR S (mh vs) (Ev.rz xs):=by
 match vs,xs,h with
 |[],xs,h=>rw[h.dM];exact .cB [] [] rfl (λj x y hx=>by simp at hx)
 |
  [v],xs,h =>
  obtain ⟨x,m,rfl,h1,h2⟩:=h.cons_inv;rw[h2.dM];exact h1
 |
  v::w::vs,xs,h =>
  obtain ⟨x,m,rfl,h1,h2⟩:=h.cons_inv;obtain ⟨y,m',rfl,h3,h4⟩:=h2.cons_inv;exact .cB _ _ h.1 h.2
theorem zh:∀(l:List Value) (f:Fr) (i:Nat),∃f',f.fill i l=some f'
 |[],f,i=>⟨f,rfl⟩
 |
  v::l,f,i=>by
  obtain ⟨f1,h1⟩:=Fr.qR f (some i) v;obtain ⟨f2,h2⟩:=zh l f1 (i+1);exact ⟨f2,by simp only[Ev.Fr.fill,h1,h2]⟩
theorem FO {S:Wo}:∀{vs:List AV} {xs:List Value} {f:cj} {fE fE':Fr} {i:Nat},gG S f fE->LV S vs xs->fE.fill i xs=some fE'->gG S (f.fill i vs) fE'
 |
  [],xs,f,fE,fE',i,hf,hl,h=>by
  rw[hl.dM] at h;cases h;exact hf
 |
  v::vs,xs,f,fE,fE',i,hf,hl,h=>by
  obtain ⟨x,m,rfl,h1,h2⟩:=hl.cons_inv;simp only[Ev.Fr.fill] at h;split at h
  .
   rename_i f1 hp;exact FO (f:=f.put (some i) v) (hf.put h1 hp) h2 h
  cases h
theorem iy {call:aT β} (hcall:aV X cf call) {an:bG} (hn:nf=true->an.Fs.mo=true/\an.ja.mo=true) {rounds:Nat} {id:FuncId} {args:List AV} {H:aa} {k:AV->aa->Option β} (h:ag X call an rounds id args H k=some r) :
 ∃v H',k v H'=some r/\∀(S:Wo) (E:Mem) (ax:List Value),Rel S H E->bN X S->LV S args ax ->
  ∃S' vE E',(∃N,∀n:Nat×Nat,N<=n.1/\N<=n.2->Ev.jF X.P X.G (cf n) n.1 id ax E=some (vE,E'))/\VR S' v vE/\Rel S' H' E'/\AJ S H E S' H' E'/\(nf=true->S.le S'/\St S H E S' H' E'):=by
 unfold ag at h
 split at h
 case h_2=>cases h
 rename_i fn hfn
 split at h
 case h_2=>cases h
 rename_i c hc
 rw[pick2_eq] at h
 split at h
 case isFalse=>cases h
 rename_i hlen
 have hJ:=Pc (tr:=an.tr) hcall (λh=>(hn h).2) rounds rounds 0
 obtain ⟨lv,f',H',h1,h2⟩:=Kg (tr:=an.tr) hcall hJ rounds c an.Fs (λh=>(hn h).1) _ _ _ _ h
 have fin:(lv = .normal\/lv = .ret)->qb X H' f' (λvs=>k (mh vs) H') fn.results.toList=some r->∃v H',k v H'=some r/\∀(S:Wo) (E:Mem) (ax:List Value),Rel S H E->bN X S->LV S args ax ->
  ∃S' vE E',(∃N,∀n:Nat×Nat,N<=n.1/\N<=n.2->Ev.jF X.P X.G (cf n) n.1 id ax E=some (vE,E'))/\VR S' v vE/\Rel S' H' E'/\AJ S H E S' H' E'/\(nf=true->S.le S'/\St S H E S' H' E'):=λhlv hres=>by
  obtain ⟨vs,h3,h4⟩:=oJ hres;refine ⟨mh vs,H',h3,λS E ax hr hg hl=>?_⟩
  obtain ⟨f0,V0⟩:=zh ax (Fr.mk fn.ntmps (Tr.full (Ev.CM fn.ntmps))) 0;have acH:gG S (cj.mk fn.ntmps .e) (Fr.mk fn.ntmps (Tr.full (Ev.CM fn.ntmps))):=⟨rfl,λi=>.iC _⟩
  obtain ⟨S',fE',E',⟨N,a1⟩,a2,a3,a4,a5⟩:=h2 S E f0 hr hg (FO acH hl V0);obtain ⟨xs,e1,e2⟩:=h4 S' E' fE' a3 a2;refine ⟨S',Ev.rz xs,E',⟨N,λn hn'=>?_⟩,DG e2,a3,a4,a5⟩
  unfold Ev.jF;have a1:=a1 n hn';simp only[Nat.sub_zero] at a1;simp only[hfn,hc,V0];have hlen':Nat.ble ax.length fn.ntmps=true:=by rw[<-hl.1];exact hlen
  rw[hlen',a1];rcases hlv with rfl|rfl
  .
   show Ev.withMem E' ((Ev.eA X.P E' fE' fn.results.toList).map Ev.rz)=_;rw[e1];rfl
  show Ev.withMem E' ((Ev.eA X.P E' fE' fn.results.toList).map Ev.rz)=_;rw[e1];rfl
 unfold lC at h1
 split at h1
 .
  exact fin (.inl rfl) h1
 .
  exact fin (.inr rfl) h1
 cases h1
noncomputable def aY (X:cI) (kn:Ev.bP):Nat×Nat->Ev.aN:=λn=>Ev.iO X.P X.G kn n.1 n.2
theorem dX {kn:Ev.bP} {id:FuncId} (hk:∀args,kn id args=none) {ax:List Value} {E E':Mem} {vE:Value} (h:∃N,∀n:Nat×Nat,N<=n.1/\N<=n.2->Ev.jF X.P X.G (aY X kn n) n.1 id ax E=some (vE,E')):∃N,∀n:Nat×Nat,N<=n.1/\N<=n.2->aY X kn n id ax E=some (vE,E'):=by
 obtain ⟨N,h⟩:=h
 refine ⟨N+1,λn hn=>?_⟩
 obtain ⟨R,D⟩:=n
 obtain ⟨D',rfl⟩:∃D',D=D'+1:=⟨D-1,by have:=hn.2;simp only at this;omega⟩
 have:=h (R,D') ⟨by have:=hn.1;simp only at this ⊢;omega,by have:=hn.2;simp only at this ⊢;omega⟩
 show Ev.iO X.P X.G kn R (D'+1) id ax E=_
 rw[Ev.gh,hk]
 show Ev.iB (Ev.jl X.P kn id ax E) _=_
 rw[Ev.HT (hk _)]
 show Ev.iB (Ev.jF X.P X.G (Ev.iO X.P X.G kn R D') R id ax E) _=_
 have e:Ev.jF X.P X.G (Ev.iO X.P X.G kn R D') R id ax E=some (vE,E'):=this
 rw[e];rfl
end
end Go.Tv

namespace Go.Tv
open Go.Ev (Tr pick2 Leave Mem Blk alive pick2_eq alive_some opA Fr)
inductive bA where
 |val (v:AV)
 |list (t:TypeId) (e:Ty) (l:List e.den)
 |room (t:TypeId) (e:Ty) (l:List e.den) (len:Nat)
noncomputable def fu:List bA->aa->List AV×aa
 |[],H=>([],H)
 |.val v::rs,H=>(v::(fu rs H).1,(fu rs H).2)
 |.list t e l::rs,H=>(.own H.next l.length::(fu rs (H.push (.list t e l 0 false false))).1,(fu rs (H.push (.list t e l 0 false false))).2)
 |.room t e l len::rs,H=>(.pz H.next 0 len l.length::(fu rs (H.push (.list t e l 0 true false))).1,(fu rs (H.push (.list t e l 0 true false))).2)
def nV:AV->Bool
 |.int _ _=>true
 |.bool _=>true
 |.str _=>true
 |.kV _=>true
 |.bK=>true
 |.je=>true
 |
  .agg l=>l.all λv=>match v with
  |.int _ _=>true
  |.bool _=>true
  |.str _=>true
  |.kV _=>true
  |.bK=>true
  |.je=>true
  |_=>false
 |_=>false
def mV (H:aa):List Nat->List AV->List bA->Prop
 |_,[],[]=>True
 |seen,v::vs,.val w::rs=>v=w/\nV w=true/\mV H seen vs rs
 |seen,v::vs,.list t e l::rs=>e.tV=true/\((∃id cw ex,v = .own id l.length/\H.get id=some (.list t e l cw ex false)/\id ∉ seen/\mV H (id::seen) vs rs)\/(v = .bK/\l=[]/\mV H seen vs rs))
 |seen,v::vs,.room t e l len::rs=>e.tV=true/\∃id cw,v = .pz id 0 len l.length/\H.get id=some (.list t e l cw true false)/\id ∉ seen/\mV H (id::seen) vs rs
 |_,_,_=>False
theorem CR.BZ {F F':Nat->Option (List Value)}:∀(e:Ty),e.tV=true->∀(x:e.den) (cs:List Value),CR F e x cs->CR F' e x cs
 |.int _,_,_,_,h=>h
 |.bool,_,_,_,h=>h
 |.str,_,_,_,h=>h
 |.kV,_,_,_,h=>h
 |.unit,_,_,_,h=>h
 |.sl _,h,_,_,_=>by cases h
 |
  .pair a b,h,_,_,⟨c1,c2,e,h1,h2⟩=>by
  simp only[Ty.tV,Bool.and_eq_true] at h;exact ⟨c1,c2,e,CR.BZ a h.1 _ _ h1,CR.BZ b h.2 _ _ h2⟩
theorem Ki {S S':Wo} {v:AV} {x:Value} (h:nV v=true) (hv:VR S v x):VR S' v x:=by
 cases hv with
 |int=>exact .int _ _
 |bool=>exact .bool _
 |str=>exact .str _
 |kV=>exact .kV _
 |bK=>exact .bK
 |je=>exact .je
 |
  agg l m hl hm =>
  refine .agg l m hl λj a b ha hb=>?_
  have h1:=hm j a b ha hb;have h2:=List.all_eq_true.1 h a (List.mem_of_getElem? ha);cases h1<;>first|(cases h2;done)|constructor
 |_=>cases h
theorem Rel.grow {S:Wo} {H:aa} {E E':Mem} (h:Rel S H E) (hs:E.size<=E'.size) (hlk:E'.lk=E.lk) (hk:∀i,i<E.size->E'.get i=E.get i):Rel S H E':=by
 refine ⟨λi cs hi=>?_,h.dom,h.A0,λid q hq=>?_,h.inj,h.sep,λid q x hq hl hx=>by rw[hlk];exact h.lk id q x hq hl hx,h.tw,h.Ia,by rw[hlk];have:=h.Eu;omega⟩
 .
  obtain ⟨b,h1,h2⟩:=h.fz i cs hi;exact ⟨b,by rw[iU (hk i (fy h1))];exact h1,h2⟩
 exact (h.row id q hq).keep S.le_refl (λh=>h) (λ_ h=>h) λx hx=>by
  obtain ⟨b,hb⟩:=h.old hq hx;exact hk _ (Mem.bI hb)
theorem Rel.rP {S:Wo} {H:aa} {E:Mem} (h:Rel S H E) {r:Row} {x:Option (Nat×Nat×Nat)} {g:Option (Sigma λe:Ty=>List e.den)}
 (hr:∀r',r.live=some r'->mS (S.new H.next x g) E H.next r')
 (hx:∀y,x=some y->(∀id q z,H.get id=some q->S.ρ id=some z->z.1≠y.1)/\S.F y.1=none/\E.lk<=y.1) :
 S.le (S.new H.next x g)/\Rel (S.new H.next x g) (H.push r) E:=by
 have hle:=Wo.Dv h x g
 obtain ⟨p1,p2,p3,p4⟩:=aa.bf H r
 have ρne:∀id,id≠H.next->(S.new H.next x g).ρ id=S.ρ id:=λid hid=>if_neg hid
 have ρeq:(S.new H.next x g).ρ H.next=x:=if_pos rfl
 have Γne:∀id v,id≠H.next->(S.new H.next x g).Γ id v=S.Γ id v:=λid v hid=>if_neg (by omega)
 have iJ:∀id r',(H.push r).get id=some r'->(id=H.next/\r.live=some r')\/(id≠H.next/\H.get id=some r'):=λid r' hid=>by
  rw[p4] at hid;by_cases e:id=H.next
  .
   rw[if_pos e] at hid;exact .inl ⟨e,hid⟩
  rw[if_neg e] at hid;exact .inr ⟨e,hid⟩
 refine ⟨hle,⟨h.fz,λid y hy=>?_,λid v hv=>?_,λid r' hg=>?_,λid id' r1 r2 y y' hg hg' hy hy' he=>?_,λid r' y hg hb hy=>?_,λid r' y hg hl hy=>?_,by rw[p1,p2];have:=h.tw;omega,by rw[p1,p3];have:=h.Ia;omega,h.Eu⟩⟩
 .
  rw[p1];by_cases e:id=H.next
  .
   omega
  rw[ρne id e] at hy;have:=h.dom id y hy;omega
 .
  rw[p1] at hv;rw[Γne id v (by omega)];exact h.A0 id v (by omega)
 .
  rcases iJ id r' hg with ⟨rfl,hr'⟩|⟨e,hg'⟩
  .
   exact hr r' hr'
  exact (h.row id r' hg').keep hle (λhn=>by rw[ρne id e];exact hn) (λv hv=>by rw[Γne id v e];exact hv) λy hy=>rfl
 .
  rcases iJ id r1 hg with ⟨rfl,h1⟩|⟨e1,h1⟩<;>rcases iJ id' r2 hg' with ⟨rfl,h2⟩|⟨e2,h2⟩
  .
   rfl
  .
   rw[ρeq] at hy;rw[ρne id' e2] at hy';exact absurd he.symm ((hx y hy).1 id' r2 y' h2 hy')
  .
   rw[ρeq] at hy';rw[ρne id e1] at hy;exact absurd he ((hx y' hy').1 id r1 y h1 hy)
  rw[ρne id e1] at hy;rw[ρne id' e2] at hy';exact h.inj id id' r1 r2 y y' h1 h2 hy hy' he
 .
  rcases iJ id r' hg with ⟨rfl,h1⟩|⟨e1,h1⟩
  .
   rw[ρeq] at hy;exact (hx y hy).2.1
  rw[ρne id e1] at hy;exact h.sep id r' y h1 hb hy
 rw[p2] at hl
 rcases iJ id r' hg with ⟨rfl,h1⟩|⟨e1,h1⟩
 .
  rw[ρeq] at hy;exact (hx y hy).2.2
 rw[ρne id e1] at hy;exact h.lk id r' y h1 hl hy
def zi (S:Wo) (H:aa) (E E':Mem) (rs:List bA) (xs:List Value):Prop :=
 ∃S',S.le S'/\LV S' (fu rs H).1 xs/\Rel S' (fu rs H).2 E'/\S'.F=S.F/\H.next<=(fu rs H).2.next/\(fu rs H).2.lk=H.lk/\(fu rs H).2.par=H.par /\
  (∀id,id<H.next->(fu rs H).2.get id=H.get id/\S'.ρ id=S.ρ id)/\(∀id q z,H.next<=id->(fu rs H).2.get id=some q->S'.ρ id=some z->E.size<=z.1)
theorem vI {S1:Wo} {H1:aa} {E E':Mem} (BV:Rel S1 H1 E') (hnew:∀id r y,H1.get id=some r->r.BJ=false->S1.ρ id=some y->E.size<=y.1) (hlk:E'.lk<=E.size):∀{vs:List AV} {rs:List bA} {seen:List Nat} {xs:List Value} {S:Wo} {H:aa},mV H1 seen vs rs->LV S1 vs xs->Rel S H E' ->
 (∀i,S.F i≠none->i<E.size)->(∀id q z,H.get id=some q->S.ρ id=some z->z.1<E.size\/∃xX y,xX∈seen/\S1.ρ xX=some y/\y.1=z.1/\H1.get xX≠none) ->
 zi S H E E' rs xs
 |
  [],[],seen,xs,S,H,_,hl,hr,hF,hown=>by
  rw[hl.dM];exact ⟨S,S.le_refl,LV.nil,hr,rfl,Nat.le_refl _,rfl,rfl,λ_ _=>⟨rfl,rfl⟩,λid q z hid hq _=>absurd (aa.bI hq) (by show ¬id<H.next;omega)⟩
 |
  v::vs,r0::rs,seen,xs,S,H,h,hl,hr,hF,hown=>by
  obtain ⟨x,xs',rfl,h1,h2⟩:=hl.cons_inv;have jv:∀v,S.Γ H.next v=none:=λv=>hr.A0 _ _ (Nat.le_refl _)
  -- how to go on behind a row more
  have go:∀(t:TypeId) (e:Ty) (l:List e.den) (ex:Bool) (vv:AV) (seen':List Nat) (y:Option (Nat×Nat×Nat)),(fu (r0::rs) H=(vv::(fu rs (H.push (.list t e l 0 ex false))).1,(fu rs (H.push (.list t e l 0 ex false))).2))->mV H1 seen' vs rs->S.le (S.new H.next y (some ⟨e,l⟩))->Rel (S.new H.next y (some ⟨e,l⟩)) (H.push (.list t e l 0 ex false)) E'->VR (S.new H.next y (some ⟨e,l⟩)) vv x ->
   (∀z,y=some z->E.size<=z.1/\∃xX y1,xX∈seen'/\S1.ρ xX=some y1/\y1.1=z.1/\H1.get xX≠none)->(∀id,id∈seen->id∈seen')->zi S H E E' (r0::rs) (x::xs'):=λt e l ex vv seen' y heq hres hle hrel XW hy hsub=>by
   obtain ⟨p1,p2,p3,p4⟩:=aa.bf H (.list t e l 0 ex false)
   have hown':∀id q z,(H.push (.list t e l 0 ex false)).get id=some q->(S.new H.next y (some ⟨e,l⟩)).ρ id=some z->z.1<E.size\/∃xX y,xX∈seen'/\S1.ρ xX=some y/\y.1=z.1/\H1.get xX≠none:=λid q z hq hz=>by
    rw[p4] at hq;by_cases hid:id=H.next
    .
     subst hid;have hz:y=some z:=by rw[<-hz];exact (if_pos rfl).symm
     exact .inr (hy z hz).2
    rw[if_neg hid] at hq;have hz:S.ρ id=some z:=by rw[<-hz];exact (if_neg hid).symm
    rcases hown id q z hq hz with h|⟨xX,y1,k1,k2⟩
    .
     exact .inl h
    exact .inr ⟨xX,y1,hsub _ k1,k2⟩
   obtain ⟨S',a1,a2,a3,a4,a5,a6,a7,a8,a9⟩:=vI BV hnew hlk hres h2 hrel hF hown';rw[p1] at a5 a8 a9;rw[p2] at a6;rw[p3] at a7;unfold zi;rw[heq]
   exact
    ⟨S',Wo.le_trans hle a1,LV.cons (XW.mono a1) a2,a3,a4,by show H.next<=_;exact Nat.le_trans (Nat.le_succ _) a5,a6,a7,λid hid=>by
     obtain ⟨b1,b2⟩:=a8 id (by omega)
     refine ⟨b1.trans (by rw[p4,if_neg (by omega)]),b2.trans (if_neg (by omega))⟩,λid q z hid hq hz=>by
     by_cases hid':id=H.next
     .
      subst hid';have:S'.ρ H.next=(S.new H.next y (some ⟨e,l⟩)).ρ H.next:=(a8 H.next (by omega)).2
      rw[this] at hz;have hz:y=some z:=by rw[<-hz];exact (if_pos rfl).symm
      exact (hy z hz).1
     exact a9 id q z (by omega) hq hz⟩
  -- a row that is nobody's
  have nobody:∀{id:Nat} {q0:Row} {i0 jJ s0:Nat},H1.get id=some q0->q0.BJ=false->S1.ρ id=some (i0,jJ,s0)->id ∉ seen->E.size<=i0/\((∀xY q z,H.get xY=some q->S.ρ xY=some z->z.1≠i0)/\S.F i0=none/\E'.lk<=i0):=λ{id q0 i0 jJ s0} hg hro hρ hns=>by
   have hsz:=hnew id _ _ hg hro hρ;simp only at hsz;refine ⟨hsz,λxY q z hq hz he=>?_,?_,by omega⟩
   .
    rcases hown xY q z hq hz with h3|⟨xX,y1,k1,k2,k3,k4⟩
    .
     omega
    cases hq1:H1.get xX with
    |none=>exact absurd hq1 k4
    |
     some r1 =>
     have:=BV.inj xX id r1 _ y1 _ hq1 hg k2 hρ (by simp only;omega)
     subst this;exact hns k1
   cases hFi:S.F i0 with
   |none=>rfl
   |some cs=>have:=hF i0 (by rw[hFi];simp);omega
  cases r0 with
  |
   val w =>
   obtain ⟨rfl,hs,h⟩:=h;obtain ⟨S',a1,a2,a3⟩:=vI BV hnew hlk h h2 hr hF hown;exact ⟨S',a1,LV.cons (Ki hs h1) a2,a3⟩
  |
   room t e l len =>
   obtain ⟨FP,id,cw,rfl,hg,hns,h⟩:=h;obtain ⟨g1,⟨g0,g,g2,g2'⟩,g3⟩:=BV.row id _ hg;generalize Fw:l.length=n at h1;generalize hlz:(0:Nat)=zz at h1;cases h1 with
   |
    pz _ _ _ _ i0 c0 s0 hρ g' hg' hcc agN =>
    subst hlz;subst Fw;rcases g3 with ⟨_,g5,_⟩|⟨i',cap,b,mid,post,q1,q2,q3,q4,q5,q6,q7,q8,q9,rD⟩
    .
     rw[hρ] at g5;cases g5
    rw[hρ] at q1;cases q1;obtain ⟨hsz,hno⟩:=nobody hg rfl hρ hns
    obtain ⟨b1,b2⟩:=hr.rP (r:=.list t e l 0 true false) (x:=some (i0,c0,e.size)) (g:=some ⟨e,l⟩) (λr' hr'=>by
     cases hr';exact eF jv q2 q3 q4 (q5.mono λx c=>CR.BZ e FP x c) q6 q7 q8 (λ_=>q9 rfl) (rD.2.imp λl2 h=>h.mono λx c=>CR.BZ e FP x c)) (λy hy=>by cases hy;exact hno)
    refine go t e l true _ (id::seen) _ rfl h b1 b2 (.pz _ 0 len l.length i0 c0 e.size (if_pos rfl) ⟨e,l⟩ (if_pos ⟨rfl,rfl⟩) (by simp) agN) (λz hz=>?_) (λid hid=>List.mem_cons_of_mem _ hid)
    cases hz;exact ⟨hsz,id,_,List.mem_cons_self,hρ,rfl,by rw[hg];simp⟩
  |
   list t e l =>
   obtain ⟨FP,h⟩:=h;rcases h with ⟨id,cw,ex,rfl,hg,hns,h⟩|⟨rfl,rfl,h⟩
   .
    obtain ⟨g1,⟨g0,g,g2,g2'⟩,g3⟩:=BV.row id _ hg;have hCR:∀{mid:List Value},fN (CR S1.F e) l mid->fN (CR S.F e) l mid:=λhC=>hC.mono λx c=>CR.BZ e FP x c
    generalize Fw:l.length=n at h1;cases h1 with
    |
     own _ _ i0 jJ s0 hρ g' hg' hn' =>
     rcases g3 with ⟨_,g5,_⟩|⟨i',cap,b,mid,post,q1,q2,q3,q4,q5,q6,q7,q8,q9,rD⟩
     .
      rw[hρ] at g5;cases g5
     rw[hρ] at q1;cases q1;subst Fw;obtain ⟨hsz,hno⟩:=nobody hg rfl hρ hns
     obtain ⟨b1,b2⟩:=hr.rP (r:=.list t e l 0 false false) (x:=some (i0,jJ,e.size)) (g:=some ⟨e,l⟩) (λr' hr'=>by
      cases hr';exact eF jv q2 q3 q4 (hCR q5) q6 q7 q8 (λh=>by cases h) (rD.2.imp λl2 h=>h.mono λx c=>CR.BZ e FP x c)) (λy hy=>by cases hy;exact hno)
     refine go t e l false _ (id::seen) _ rfl h b1 b2 (.own _ _ i0 jJ e.size (if_pos rfl) ⟨e,l⟩ (if_pos ⟨rfl,rfl⟩) rfl) (λz hz=>?_) (λid hid=>List.mem_cons_of_mem _ hid)
     cases hz;exact ⟨hsz,id,_,List.mem_cons_self,hρ,rfl,by rw[hg];simp⟩
    |
     cQ _ g' hg' hn' =>
     have X3:l=[]:=List.length_eq_zero_iff.1 Fw;subst X3;obtain ⟨b1,b2⟩:=hr.rP (r:=.list t e [] 0 false false) (x:=none) (g:=some ⟨e,[]⟩) (λr' hr'=>by cases hr';exact gF jv) (λy hy=>by cases hy)
     exact go t e [] false _ (id::seen) none rfl h b1 b2 (.cQ _ ⟨e,[]⟩ (if_pos ⟨rfl,rfl⟩) rfl) (λz hz=>by cases hz) (λid hid=>List.mem_cons_of_mem _ hid)
   cases h1;obtain ⟨b1,b2⟩:=hr.rP (r:=.list t e [] 0 false false) (x:=none) (g:=some ⟨e,[]⟩) (λr' hr'=>by cases hr';exact gF jv) (λy hy=>by cases hy)
   exact go t e [] false _ seen none rfl h b1 b2 (.cQ _ ⟨e,[]⟩ (if_pos ⟨rfl,rfl⟩) rfl) (λz hz=>by cases hz) (λid hid=>hid)
def Kj:AV->Bool
 |.fl _=>true
 |a=>nV a
theorem Pd {S S':Wo} {v:AV} {x:Value} (h:Kj v=true) (hv:VR S v x):VR S' v x:=by
 cases v with
 |fl a=>cases hv with|fl _ _ h=>exact .fl _ _ h
 |_=>exact Ki h hv
def zj (H:aa) (a b:AV):Prop:=(a=b/\Kj a=true)\/(∃e l,b = .bF e l/\wN H e a=some l/\∀s,a ≠ .str s)
def Kk (H:aa) (a b:AV):Prop:=zj H a b\/∃l l',a = .agg l/\b = .agg l'/\l.length=l'.length/\∀(j:Nat) x y,l[j]? = some x->l'[j]? = some y->zj H x y
section
variable {X:cI} {cf:Nat×Nat->Ev.aN}
def DH (X:cI) (cf:Nat×Nat->Ev.aN) (f:FuncId) (args:List AV) (vs:List AV) (H':aa):Prop :=
 ∀(S:Wo) (E:Mem) (ax:List Value),Rel S aa.empty E->bN X S->LV S args ax ->
  ∃S' vE E',(∃N,∀n:Nat×Nat,N<=n.1/\N<=n.2->cf n f ax E=some (vE,E'))/\(∃xs,vE=Ev.rz xs/\LV S' vs xs)/\Rel S' H' E'/\AJ S aa.empty E S' H' E'
theorem jM (j:Nat):aa.empty.get j=none:=by
 rw[aa.get_eq];simp[aa.empty]
theorem vJ (F:Nat->Option (List Value)) (E:Mem) (hF:∀i cs,F i=some cs->∃b,alive E i=some b/\b.cells=cs) (he:E.lk<=E.size):Rel ⟨F,λ_=>none,λ_ _=>none⟩ aa.empty E :=
 ⟨hF,λ_ _ h=>(by cases h),λ_ _ _=>rfl,λid r h=>(by rw[jM] at h;cases h),λid id' r r' x x' h=>(by rw[jM] at h;cases h),λid r x h=>(by rw[jM] at h;cases h),λid r x h=>(by rw[jM] at h;cases h),Nat.le_refl _,Nat.le_refl _,he⟩
noncomputable def iK (E:Mem):Nat->Option (List Value):=λi=>(alive E i).map (·.cells)
theorem Kl {S:Wo} {H:aa} {E:Mem} (hr:Rel S H E) {a b:AV} {x:Value} (h:zj H a b) (hx:VR S a x):VR ⟨iK E,λ_=>none,λ_ _=>none⟩ b x:=by
 have hle:∀i cs,S.F i=some cs->iK E i=some cs:=λi cs hi=>by
  obtain ⟨bk,h1,h2⟩:=hr.fz i cs hi;show (alive E i).map (·.cells)=_;rw[h1];simp[h2]
 rcases h with ⟨rfl,hs⟩|⟨e,l,rfl,hv,hns⟩
 .
  exact Pd hs hx
 refine .bF e l x ?_
 have hCR:∀{l:List e.den} {mid:List Value},fN (CR S.F e) l mid->fN (CR (iK E) e) l mid:=λhC=>hC.mono λx c=>CR.mono hle e x c
 have row:∀(i:Nat) (bk:Blk),alive E i=some bk->iK E i=some bk.cells:=λi bk hb=>by show (alive E i).map (·.cells)=_;rw[hb];rfl
 unfold wN at hv
 split at hv
 .
  rename_i e' l';obtain ⟨he,hc⟩:=aS hv;subst he;have hc:l'=l:=hc;subst hc;cases hx with
  |bF _ _ _ hS=>exact hS.mono hle
 .
  cases hv;cases hx;exact .inl ⟨rfl,.inl rfl⟩
 .
  rename_i id n;split at hv
  .
   rename_i t' e' l' cw ex ro hg;obtain ⟨he,hc⟩:=aS hv;subst he;have hc:l'=l:=hc;subst hc;obtain ⟨S',k1,k2,k3,k4⟩:=sD hr hg;obtain ⟨rfl,hv⟩:=k4 n x hx;rcases hv with ⟨rfl,rfl⟩|⟨i,mid,post,cap,rfl,hF,hC,hcap⟩
   .
    exact .inl ⟨rfl,.inl rfl⟩
   obtain ⟨bk,b1,b2⟩:=k2.fz i _ hF;refine .inr ⟨i,[],mid,post,cap,rfl,by show iK E i=_;rw[row i bk b1,b2];rfl,?_,hcap⟩
   exact hC.mono λx c=>CR.mono (λi cs hi=>by
    obtain ⟨bk,h1,h2⟩:=k2.fz i cs hi;show iK E i=_;rw[row i bk h1,h2]) e' x c
  cases hv
 .
  rename_i id off len LS;split at hv
  .
   rename_i t' e' l' cw ex ro hg;split at hv
   .
    rename_i l2 ia;cases hv;obtain ⟨he,hc⟩:=aS ia;subst he;have hc:l'=l2:=hc;subst hc;obtain ⟨g1,⟨_,g,g2,g2'⟩,g3⟩:=hr.row id _ hg;cases hx with
    |
     pz _ _ _ _ i0 c0 s0 hρ g' hg' hcc Fw =>
     rw[g2] at hg';cases hg';rcases g3 with ⟨_,g5,_⟩|⟨i',cap,b,mid,post,q1,q2,q3,q4,q5,q6,q7,q8,q9,rD⟩
     .
      rw[hρ] at g5;cases g5
     rw[hρ] at q1;cases q1;have hlen:((l'.drop off).take len).length=len:=by simp;omega
     have:=SR.cut (cap:=LS+off) (a:=(off:Int)) (b:=((off+len:Nat):Int)) (pre:=[]) (post:=post) (F:=iK E) (i:=i0) (λx c=>CR.length e' x c) (by rw[row i0 b q2,q4];rfl) (hCR q5) (by omega) (by omega) (by omega) (by omega)
     have e1:bz l' (off:Int) ((off+len:Nat):Int)=(l'.drop off).take len:=by
      simp only[bz,Int.toNat_natCast];congr 1;omega
     rw[e1] at this;simp only[Int.toNat_natCast,List.length_nil,Nat.zero_add,Nat.add_sub_cancel_left,Nat.add_sub_cancel] at this;exact this
   cases hv
  cases hv
 .
  rename_i s;exact absurd rfl (hns s)
 cases hv
theorem X4 {S:Wo} {H:aa} {E:Mem} (hr:Rel S H E) {a b:AV} {x:Value} (h:Kk H a b) (hx:VR S a x):VR ⟨iK E,λ_=>none,λ_ _=>none⟩ b x:=by
 rcases h with h|⟨l,l',rfl,rfl,hl,hf⟩
 .
  exact Kl hr h hx
 cases hx with
 |
  agg _ m hm hv =>
  refine .agg l' m (hl.symm.trans hm) λj y z hy hz=>?_
  have hlt:=bI hy;have h2:j<l.length:=by omega
  exact Kl hr (hf j l[j] y (List.getElem?_eq_getElem h2) hy) (hv j _ z (List.getElem?_eq_getElem h2) hz)
theorem DH.agO {f:FuncId} {args args2 vs:List AV} {H1:aa} {rs:List bA} (h:DH X cf f args vs H1) (hres:mV H1 [] vs rs) {H:aa} (hargs:args2.length=args.length) (cH:∀(j:Nat) a b,args2[j]? = some a->args[j]? = some b->Kk H a b) :
 L4 X cf f args2 H (mh (fu rs H).1) (fu rs H).2:=by
 intro S E ax hr hg hl
 have hle:∀i cs,S.F i=some cs->iK E i=some cs:=λi cs hi=>by
  obtain ⟨bk,h1,h2⟩:=hr.fz i cs hi;show (alive E i).map (·.cells)=_;rw[h1];simp[h2]
 have NK:Rel ⟨iK E,λ_=>none,λ_ _=>none⟩ aa.empty E:=vJ _ E (λi cs hi=>by
  have hi:(alive E i).map (·.cells)=some cs:=hi;simp only[Option.map_eq_some_iff] at hi;obtain ⟨b,h1,h2⟩:=hi;exact ⟨b,h1,h2⟩) hr.Eu
 have X3:LV ⟨iK E,λ_=>none,λ_ _=>none⟩ args ax:=⟨by rw[<-hargs];exact hl.1,λj b x hb hx=>by
  have hlt:=bI hb;have h2:j<args2.length:=by omega
  exact X4 hr (cH j args2[j] b (List.getElem?_eq_getElem h2) hb) (hl.2 j _ x (List.getElem?_eq_getElem h2) hx)⟩
 obtain ⟨S1,vE,E',a1,⟨xs,rfl,a2⟩,a3,a4⟩:=h _ E ax NK (hg.mono' hle) X3
 have cP:∀i,¬Own ⟨iK E,λ_=>none,λ_ _=>none⟩ aa.empty i:=λi ⟨id,r,x,h1,_⟩=>by rw[jM] at h1;cases h1
 have hkeep:∀i,i<E.size->E'.get i=E.get i:=λi hi=>a4.keep i hi (cP i)
 have hrE:=hr.grow a4.sz a4.lk hkeep
 obtain ⟨S',b1,b2,b3,b4,b5,b6,b7,b8,b9⟩:=vI (E:=E) a3 (λid r y h1 h2 h3=>by
  by_cases hy:y.1<E.size
  .
   exact absurd (a4.own y.1 ⟨id,r,y,h1,h2,h3,rfl⟩ hy) (cP _)
  .
   omega) (by rw[a4.lk];exact hr.Eu) hres a2 hrE (λi hi=>by
  cases hF:S.F i with
  |none=>exact absurd hF hi
  |some cs=>obtain ⟨b,h1,_⟩:=hr.fz i cs hF;exact fy h1) (λid q z hq hz=>.inl (by obtain ⟨b,hb⟩:=hr.old hq hz;exact Mem.bI hb))
 refine ⟨S',Ev.rz xs,E',a1,b1,DG b2,b3,⟨a4.sz,a4.lk,b6,b7,b1.F,λi ho hi=>?_,λi hi=>.inl (by rw[b4] at hi;exact hi),λi hi _=>hkeep i hi,λid hid=>(b8 id (Nat.lt_of_lt_of_le hid hr.Ia)).2,b5,λid hid hl=>by rw[(b8 id hid).1] at hl;exact hl,λid hid hn=>by rw[(b8 id hid).2];exact hn⟩⟩
 obtain ⟨id,q,y,h1,h2,h3,rfl⟩:=ho
 by_cases hid:id<H.next
 .
  rw[(b8 id hid).1] at h1;rw[(b8 id hid).2] at h3;exact ⟨id,q,y,h1,h2,h3,rfl⟩
 have:=b9 id q y (by omega) h1 h3
 omega
theorem TA {kn:Ev.bP} {id:FuncId} (hk:∀args,kn id args=none) {call:∀ β,aT β} (hcall:∀ β,aV X (aY X kn) (call β)) {an:bG} {rounds:Nat} {args vs:List AV} {H':aa}
 (h:ag X (call (AV×aa)) an rounds id args aa.empty (λv H=>some (v,H))=some (mh vs,H')):∀(S:Wo) (E:Mem) (ax:List Value),Rel S aa.empty E->bN X S->LV S args ax ->
 ∃S' vE E',(∃N,∀n:Nat×Nat,N<=n.1/\N<=n.2->aY X kn n id ax E=some (vE,E'))/\VR S' (mh vs) vE/\Rel S' H' E'/\AJ S aa.empty E S' H' E':=by
 obtain ⟨v',H1,h1,h2⟩:=iy (nf:=false) (hcall _) (λh=>by cases h) h
 cases h1
 intro S E ax hr hg hl
 obtain ⟨S',vE,E',a1,a2,a3,a4,_⟩:=h2 S E ax hr hg hl
 exact ⟨S',vE,E',dX hk a1,a2,a3,a4⟩
end
end Go.Tv

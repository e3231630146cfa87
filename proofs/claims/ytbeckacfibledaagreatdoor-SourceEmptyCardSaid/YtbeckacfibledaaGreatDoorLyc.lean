/- Regions whose order is drawn. Plans for regions whose order is drawn. Ranges over functions: rows beside the run's own, what an iterator promises, code in a round. Bodies and calls: the evaluator's answer is the machine's. Structs that came in by value: their cells. Package-level variables that read as given data: the rows that the evaluator starts with. -/
import Derived.Test.YtbeckacfibledaaGreatDoorLyb
import Derived.RangeFuncLeaves
import Derived.RangeFuncRecord
import Derived.RangeFuncSeq
import Derived.OrdersIn
import Derived.TacticsIn
import Derived.LoopNIn
import Derived.Scope
import Derived.WideShapes
import Derived.ProofKit
import Derived.OpenShut
import Derived.ChangeArms
import Derived.FnData
import GoSem.ClaimJoined
set_option linter.unusedVariables false
set_option linter.unusedSimpArgs false

namespace Go.Ev
open Go.RowKit
section
variable {P:Program} {call:cH} {ops:Array Oper} {GR:List jJ}
inductive Reach (ops:Array Oper):Nat->Nat->Prop where
 |one {i:Nat} {o:Oper} {e:Edge} (ho:ops[i]? = some o) (he:e∈o.after) (hb:Region.binds .any e=true):Reach ops i e.on
 |more {i:Nat} {o:Oper} {e:Edge} {j:Nat} (ho:ops[i]? = some o) (he:e∈o.after) (hb:Region.binds .any e=true) (h:Reach ops e.on j):Reach ops i j
def N8 (ops:Array Oper)(listed:Array Bool)(i:Nat):Prop:=∀(j:Nat) (oj:Oper),ops[j]? = some oj->kX oj.op=true->listed.getD j true=true->Reach ops i j
def KW (listed:Array Bool):Nat->Nat
 |0=>0
 |n+1=>KW listed n+if listed.getD n true=true then 0 else 1
theorem KX {listed:Array Bool}{i:Nat}:∀n,KW (listed.setIfInBounds i true) n+(if i<n/\listed.getD i true=false then 1 else 0)=KW listed n
 |0=>by simp[KW]
 |n+1=>by
  have ih:=KX (listed:=listed) (i:=i) n;simp only[KW];by_cases hin:i=n
  .subst hin;rw[aa (by omega)]at ih;have e:(listed.setIfInBounds i true).getD i true=true:=by
    by_cases hlt:i<listed.size<;>simp[Array.getD,hlt]
   rw[e];cases hb:listed.getD i true with
   |true=>simp;omega
   |false=>simp;omega
  rw[getD_set_ne true hin];by_cases h1:i<n
  .have:i<n+1:=by omega
   simp only[h1,this,jF]at ih ⊢;omega
  have:¬i<n+1:=by omega
  simp only[h1,this,false_and,ee]at ih ⊢;omega
def cnt (ops:Array Oper)(listed:Array Bool):Nat:=KW listed ops.size
theorem Qv {listed:Array Bool}{i:Nat}(hi:i<ops.size)(h:listed.getD i true=false):cnt ops (listed.setIfInBounds i true)+1=cnt ops listed:=by
 have:=KX (listed:=listed) (i:=i) ops.size;rw[ag ⟨hi,h⟩]at this;exact this
theorem Qw {listed:Array Bool}:∀n,KW listed n<=n
 |0=>aC _
 |n+1=>by
  have:=Qw (listed:=listed) n;simp only[KW];split<;>omega
theorem Bl {listed:Array Bool}{i:Nat}(hi:i∈Region.ready .any ops listed):i<ops.size/\listed.getD i true=false/\cnt ops (listed.setIfInBounds i true)+1=cnt ops listed:=by
 obtain⟨h0,o,ho,_⟩:=mem_ready.1 hi;have hlt:=(aB.1 ho).1;exact⟨hlt,h0,Qv hlt h0⟩
def Ext (H H2:Mem):Prop:=∀(i:Nat) (b:jJ),H.get i=some b->H2.get i=some b
def KY:Option Nat->Mem->Mem->Prop
 |none,H,H2=>Ext H H2
 |some i,H,H2=>∀b:jJ,H.get i=some b->H2.get i=some b
theorem KY.N9 {pr:Option Nat}{H H2:Mem}(h:Ext H H2):KY pr H H2:=by
 cases pr with
 |none=>exact h
 |some i=>exact h i
inductive oM (P:Program)(call:cH)(ops:Array Oper)(Fin:Act->Mem->Prop)(RL:List (Nat×Option Nat)):Option Nat->Array Bool->List Nat->Act->Mem->Prop where
 |pay {listed:Array Bool} {l1 l2:List Nat} {i:Nat} {o:Oper} {R:Option (List Nat)} {lk:Bool} {a a':Act} {H H':Mem} (ho:ops[i]? = some o) (hm:makes P o=true) (hst:og P call ops R lk o a H=some (a',H')) (hap:∀m∈l1++l2,∀om,ops[m]? = some om->∀x,o.dst=some x->x ∉ om.looksAt ops)
  (h:oM P call ops Fin RL none listed (l1++l2) a' H'):oM P call ops Fin RL none listed (l1++i::l2) a H
 |step {listed:Array Bool} {eV:List Nat} {a:Act} {H:Mem} (h0:Region.ready .any ops listed=[]->eV=[]/\Fin a H) (h:∀i∈Region.ready .any ops listed,oM P call ops Fin RL (some i) listed eV a H):oM P call ops Fin RL none listed eV a H
 |sync {listed:Array Bool} {eV:List Nat} {i:Nat} {o:Oper} {R:Option (List Nat)} {lk:Bool} {a a':Act} {H H':Mem} (ho:ops[i]? = some o) (hst:og P call ops R lk o a H=some (a',H')) (hR:∀q∈RL,Reach ops i q.1\/KY q.2 H H') (hap:∀m∈eV,∀om,ops[m]? = some om->(∀x,om.dst=some x->x ∉ o.looksAt ops/\o.dst≠some x)/\∀x,o.dst=some x->x ∉ om.looksAt ops)
  (h:oM P call ops Fin RL none (listed.setIfInBounds i true) eV a' H'):oM P call ops Fin RL (some i) listed eV a H
 |owe {listed:Array Bool} {eV:List Nat} {i:Nat} {o:Oper} {a:Act} {H:Mem} (ho:ops[i]? = some o) (hm:makes P o=true) (wH:(rC P a.eval o).isSome=true) (hd:∀m∈eV,∀om,ops[m]? = some om->om.dst≠o.dst/\∀x,om.dst=some x->x ∉ o.looksAt ops)
  (h:oM P call ops Fin RL none (listed.setIfInBounds i true) (i::eV) a H):oM P call ops Fin RL (some i) listed eV a H
theorem sC {o:Oper}(h:makes P o=true):o.guard=none/\(∃d,o.dst=some d)/\((∃t,o.op = .alloc t)\/∃t len ps,o.op = .buildSlice t len ps):=by
 unfold makes at h;split at h
 .rename_i h1 h2 h3;exact⟨h2,⟨_,h3⟩,.inl ⟨_,h1⟩⟩
 .rename_i h1 h2 h3;exact⟨h2,⟨_,h3⟩,.inr ⟨_,_,_,h1⟩⟩
 cases h
theorem yV {o:Oper}(h:makes P o=true):quiet P o.op=false:=by
 obtain⟨_,_,⟨t,h1⟩|⟨t,l,ps,h1⟩⟩:=sC h<;>(rw[h1];rfl)
theorem ZS {H H1:Mem}{n:Nat}{b:jJ} (h:({ H with lk:=n }:Mem).push b=some H1):H.push b=some { H1 with lk:=H.lk }:=by
 unfold Mem.push at h ⊢;cases hs:H.t.set H.size b with
 |none=>simp only[hs]at h;cases h
 |some t=>simp only[hs]at h;cases h;rfl
theorem ZT {o:Oper}(hm:makes P o=true){ev:Operand->Value}{H H':Mem}{v:Value}(h:jt P call ev o H=some (v,H')) :
 ∃te cs sh,rC P ev o=some (te,cs,sh)/\H.push ⟨cs,te,true,true⟩=some H'/\v=yx sh H.size:=by
 obtain⟨_,_,⟨t,h1⟩|⟨t,len,ps,h1⟩⟩:=sC hm
 .unfold jt at h;rw[h1]at h;simp only at h;unfold rI at h;split at h
  .rename_i z hz;obtain⟨h2,h3⟩:=tu h;exact⟨t,z.cells.toList,none,by unfold rC;rw[h1];simp only[hz],h2,h3⟩
  cases h
 unfold jt at h;rw[h1]at h;simp only at h;unfold ng at h;split at h
 .rename_i e hu;split at h
  .rename_i s z hs hz;split at h
   .cases h
   rename_i hsz;split at h
   .rename_i cs hf;obtain⟨h2,h3⟩:=rM h;exact⟨e,cs.toList,some len,by unfold rC;rw[h1];simp only[hu,hs,hz,aa hsz,hf],h2,h3⟩
   cases h
  cases h
 cases h
theorem Bm {o:Oper}{R:Option (List Nat)}{lk:Bool}{a a':Act}{H H':Mem}(hm:makes P o=true)(h:og P call ops R lk o a H=some (a',H')) :
 ∃te cs sh,rC P a.eval o=some (te,cs,sh)/\H.push ⟨cs,te,true,true⟩=some H'/\a'=a.put o.dst (yx sh H.size):=by
 obtain⟨hg,_,_⟩:=sC hm;have hw:Region.wanted o (yielded ops a.tmps)=true:=by unfold Region.wanted;rw[hg]
 have one:∀{H H':Mem} {a':Act},jl P call ops o a H=some (a',H')->∃te cs sh,rC P a.eval o=some (te,cs,sh)/\H.push ⟨cs,te,true,true⟩=some H'/\a'=a.put o.dst (yx sh H.size):=by
  intro H H' a' h;unfold jl at h;rw[ag hw]at h;simp only[aL]at h;obtain⟨⟨v,H1⟩,h1,heq⟩:=h;cases heq;obtain⟨te,cs,sh,e1,e2,e3⟩:=ZT hm h1;exact⟨te,cs,sh,e1,e2,by rw[e3]⟩
 rcases rN h with⟨h,_⟩|⟨_,⟨a1,H1⟩,h1,heq⟩
 .exact one h
 cases heq;obtain⟨te,cs,sh,e1,e2,e3⟩:=one h1;exact⟨te,cs,sh,e1,ZS e2,e3⟩
theorem KZ {ev ev':Operand->Value}{ps:Array (Nat×Operand)}(h:∀q∈ps,ev q.2=ev' q.2):nY ev ps=nY ev' ps:=by
 unfold nY;apply jq;intro q hq;rw[h q (by simpa using hq)]
theorem Oa {ev ev':Operand->Value}{o:Oper}(h:∀x∈o.op.operands,ev x=ev' x):rC P ev o=rC P ev' o:=by
 unfold rC;split
 .rfl
 .rename_i t len ps hop;rw[KZ λq hq=>h q.2 (by rw[hop];simp[Op.operands];exact⟨q.1,by simpa using hq⟩)]
 rfl
theorem wJ {o:Oper}(a:Act){dst:Option Tmp}(v:Value)(h:∀d,dst=some d->d ∉ o.looksAt ops):rC P (a.put dst v).eval o=rC P a.eval o :=
 Oa λx hx=>Act.eval_put λd hd hxd=>h d hd (by
  subst hxd;exact eE _ (mJ.2 ⟨.tmp d,by simpa using hx,rfl⟩))
theorem UQ {ρ:Ren}{o:Oper}{ev ev':Operand->Value}(ck:EvR ρ ev ev' o.op){te:TypeId}{cs:List Value}{sh:Option Nat}(h:rC P ev o=some (te,cs,sh)) :
 (∃s,cR P te=some s)/\∃C:Array Value,LR (bG ρ) cs C.toList/\∀w:World,(execOp ev' o).run P w = .ok (.value (yx sh w.heap.size)) (w.alloc (.cells C te)):=by
 unfold rC at h;split at h
 .rename_i t hop;split at h
  .rename_i z hz;cases h;obtain⟨_,h2,_⟩:=nr hz (default:World);refine⟨zM hz,z.cells,(dB (ρ:=ρ) z h2).cells.list,λw=>?_⟩;obtain⟨h1,_⟩:=nr hz w;have:(Instr.alloc te true (.tuple #[])).run P w = .ok (.pointer (some ⟨w.heap.size,0,none⟩)) (w.alloc (.cells z.cells te)):=by simp[Instr.alloc,h1,newVar,newRow]
   simp[execOp,hop,this,yx]
  cases h
 .rename_i t len ps hop;have hp:=PR.parts (ev:=ev) (ev':=ev') ps.toList λq hq=>ck q.2 (by simp[hop,Op.operands];exact⟨q.1,by simpa using hq⟩)
  split at h
  .rename_i e hu;split at h
   .rename_i s z hs hz;split at h
    .cases h
    rename_i hsz;split at h
    .rename_i cs' hf;cases h;obtain⟨s',hs',hzz,hzn,_⟩:=DX (ρ:=ρ) hz (default:World);rw[hs]at hs';cases hs';obtain⟨C,hf',hcs⟩:=wE _ _ _ _ _ hp hzz hf;refine⟨⟨s,hs⟩,C,hcs.list,λw=>?_⟩;have Ga:Instr.fill (λi=>some (i*s,s)) z (ps.toList.map λq=>(q.1,ev' q.2))=some C:=hf';have hrun:(Instr.buildSlice t len (ps.toList.map λq=>(q.1,ev' q.2)).toArray).run P w = .ok (.slice (some ⟨w.heap.size,0,none⟩) len len) (w.alloc (.cells C te)):=by
      rcases wF hs hz with⟨h0,rfl⟩|⟨h0,y,hy,rfl⟩
      .have UE:Array.range 0 = #[]:=rfl;simp[Instr.buildSlice,run_underlying hu,gS hs,h0,UE,Ga,newRow]
      obtain⟨hy1,_⟩:=nr hy w;have hsz':¬(16777216<len*s):=by simpa using hsz
      simp[Instr.buildSlice,run_underlying hu,gS hs,h0,hsz',hy1,Ga,newRow]
     have e1:(ps.map λq=>(q.1,ev' q.2))=(ps.toList.map λq=>(q.1,ev' q.2)).toArray:=by apply jC;simp
     simp only[execOp,hop];simp only[Sem.run_bind];have:(Instr.buildSlice t len (ps.map λ(i,x)=>(i,ev' x))).run P w = .ok (.slice (some ⟨w.heap.size,0,none⟩) len len) (w.alloc (.cells C te)):=by
      rw[<-hrun,<-e1]
     rw[this];rfl
    cases h
   cases h
  cases h
 cases h
theorem UR {ρ:Ren}{i pa:Nat}(sh:Option Nat)(h:ρ i=some (pa,0)):bG ρ (yx sh i) (yx sh pa):=by
 cases sh with
 |none=>exact .ptr _ _ _ _ h
 |some len=>exact .slice _ _ _ _ _ _ h
def gb:List (Option Tmp×Value)->Act->Act
 |[],a=>a
 |q::l,a=>gb l (a.put q.1 q.2)
theorem D5 {d:Option Tmp}{v:Value}:∀(l:List (Option Tmp×Value)) (a:Act),(∀q∈l,∀x,q.1=some x->d≠some x)->gb l (a.put d v)=(gb l a).put d v
 |[],a,_=>rfl
 |q::l,a,h=>by
  simp only[gb];rw[<-D5 l (a.put q.1 q.2) λx hx=>h x (by simp[hx])];rw[Act.put_comm a q.2 v (h q (by simp))]
theorem Oc {d:Option Tmp}{v:Value}(l1 l2:List (Option Tmp×Value))(a:Act)(h:∀q∈l1,∀x,q.1=some x->d≠some x):gb (l1++(d,v)::l2) a=gb (l1++l2) (a.put d v):=by
 induction l1 generalizing a with
 |nil=>rfl
 |cons q l1 ih =>
  simp only[fR,gb];rw[ih (a.put q.1 q.2) λx hx=>h x (by simp[hx])];rw[Act.put_comm a q.2 v (h q (by simp))]
def Di (Q:Exit->Act->World->Prop):Exit->Act->World->Prop:=λe a w=>match e with
 |.outgrown=>Q .outgrown a w
 |_=>False
theorem zW {Q:Exit->Act->World->Prop}(h:LetsOut (Di Q)):LetsOut Q:=by
 obtain⟨a,w,h⟩:=h;exact⟨a,w,h⟩
theorem Gz {j:Nat}{oj:Oper}{d:Option Tmp}{v:Value}(hj:ops[j]? = some oj)(h1:∀x,d=some x->x ∉ oj.looksAt ops)(h2:∀x,d=some x->oj.dst≠some x)(hsj:∀cs b,oj.op ≠ .select cs b)
 {Q:Exit->Act->World->Prop} {K:Act->World->Prop} {a:Act} {w:World} (h:wpOp P ops (Di Q) j (λa' w'=>K (a'.put d v) w') a w):wpOp P ops Q j K (a.put d v) w:=by
 unfold wpOp at *;simp only[hj]at *;rw[wanted_put oj a d v h1];split
 .rename_i hw;rw[ag hw]at h;rcases h with h|⟨hasks,ajO⟩;case inr=>exact .inr ⟨by unfold Oper.asks at *;rw[execOp_put oj hsj a d v h1];exact hasks,zW ajO⟩
  refine .inl ?_;unfold Oper.wp at *;rw[execOp_put oj hsj a d v h1];generalize (execOp a.eval oj).run P w=r at *;cases r with
  |ok n w' =>
   cases n<;>simp only[Oper.upon]at h ⊢;case value u=>rw[Act.put_comm a v u h2];exact h
   case skip=>rw[Act.put_comm a v undef h2];exact h
   case defer df =>
    rw[Act.put_defers,Act.put_comm _ v undef h2];exact h
   case enter f args =>
    refine Calls.mono h λe w'' he=>?_
    cases e with
    |returned u=>show K ((a.put d v).put oj.dst u) w'';rw[Act.put_comm a v u h2];exact he
    |panicked c=>exact he.elim
    |outgrown=>exact zW he
   case row row args=>exact Rows.mono h λu w'' he=>by rw[Act.put_comm a v u h2];exact he
  |halt x w' =>
   cases x<;>simp only[Oper.upon]at h ⊢;case panic u=>exact h.elim
 rename_i hw;rw[aa hw]at h;rw[Act.put_comm a v undef h2];exact h
theorem GA {j:Nat}{oj:Oper}(hj:ops[j]? = some oj)(hsj:∀cs b,oj.op ≠ .select cs b){Q:Exit->Act->World->Prop}{K:Act->World->Prop}{w:World}:∀(l:List (Option Tmp×Value)) (a:Act),
 (∀q∈l,(∀x,q.1=some x->x ∉ oj.looksAt ops)/\∀x,q.1=some x->oj.dst≠some x)->wpOp P ops (Di Q) j (λa' w'=>K (gb l a') w') a w->wpOp P ops Q j K (gb l a) w
 |[],a,_,h=>by
  have:=Gz (d:=none) (v:=undef) (K:=K) hj (λx h=>by cases h) (λx h=>by cases h) hsj (a:=a) (w:=w) h;exact this
 |q::l,a,hq,h=>by
  refine GA hj hsj l (a.put q.1 q.2) (λx hx=>hq x (by simp[hx])) ?_;exact Gz (Q:=Di Q) (K:=λa' w'=>K (gb l a') w') hj (hq q (by simp)).1 (hq q (by simp)).2 hsj h
abbrev Cx.kp (c:Cx)(K:Nat->Option Obj):Cx:={ c with K:=K }
theorem ef.xW {c:Cx}{ρ:Ren}{H:Mem}{w:World}{K K':Nat->Option Obj}(he:ef (c.kp K) ρ H w)(h:∀r o,K' r=some o->K r=some o):ef (c.kp K') ρ H w:=by
 have no:∀{r},K r=none->K' r=none:=λ{r} hr=>by
  cases hk:K' r with
  |none=>rfl
  |some o=>rw[h r o hk]at hr;cases hr
 refine⟨⟨he.stay.below,λr o hr=>he.stay.kept r o (h r o hr)⟩,he.base,he.dom,he.lk,he.zF,he.ju,λi b hi hl=>?_,he.inj,λi b hi hm=>?_,he.vX⟩
 .obtain ⟨r,x,C,fr,s,h1,h2,h3⟩:=he.blk i b hi hl;exact⟨r,x,C,fr,s,h1,h2.imp (λg=>⟨g.1,no g.2⟩) (λg=>⟨g.1,no g.2⟩),h3⟩
 obtain⟨r,es,clock,h1,h2,h3⟩:=he.maps i b hi hm;exact⟨r,es,clock,h1,⟨h2.1,no h2.2⟩,h3⟩
theorem ef.Od {c:Cx}{ρ:Ren}{H:Mem}{w:World}{K:Nat->Option Obj}(he:ef (c.kp K) ρ H w)(o:Obj):ef (c.kp λr=>if r=w.heap.size then some o else K r) ρ H (w.alloc o):=by
 have lt:∀{r:Nat} {o:Obj},w.heap[r]? = some o->r<w.heap.size:=λh=>(aB.1 h).1
 have g:=he.stay.alloc he.base o;refine⟨⟨g.below,λr o' hr=>?_⟩,br he.base (by simp),he.dom,he.lk,he.zF,he.ju,λi b hi hl=>?_,he.inj,λi b hi hm=>?_,he.vX⟩
 .simp only at hr;split at hr
  .rename_i h;subst h;cases hr;show (w.heap.push _)[w.heap.size]? = _;simp
  exact g.kept r o' hr
 .obtain ⟨r,x,C,fr,s,h1,h2,h3,h4⟩:=he.blk i b hi hl;have hne:r≠w.heap.size:=l9 (lt h3);exact⟨r,x,C,fr,s,h1,h2.imp (λg=>⟨g.1,by show (if r=_ then _ else _)=_;rw[aa hne];exact g.2⟩) (λg=>⟨g.1,by show (if r=_ then _ else _)=_;rw[aa hne];exact g.2⟩),by rw[Below.heap_alloc _ _ _ (lt h3)];exact h3,h4⟩
 obtain⟨r,es,clock,h1,h2,h3,h4⟩:=he.maps i b hi hm;have hne:r≠w.heap.size:=l9 (lt h3);exact⟨r,es,clock,h1,⟨h2.1,by show (if r=_ then _ else _)=_;rw[aa hne];exact h2.2⟩,by rw[Below.heap_alloc _ _ _ (lt h3)];exact h3,h4⟩
theorem ef.aeM {c:Cx}{ρ:Ren}{H H':Mem}{w:World}{K:Nat->Option Obj}(he:ef (c.kp K) ρ H w){t:TypeId}{cs:List Value}{C:Array Value}{pa s:Nat}(hs:cR c.P t=some s)(hC:LR (bG ρ) cs C.toList)(hK:K pa=some (.cells C t))(hB:c.B<=pa)(hp:H.push ⟨cs,t,true,true⟩=some H') :
 ef (c.kp λr=>if r=pa then none else K r) (ρ.put H.size (pa,0)) H' w:=by
 have he':ef (c.kp λr=>if r=pa then none else K r) ρ H w:=he.xW λr o hr=>by
  split at hr
  .cases hr
  exact hr
 refine he'.add hp he'.stay he'.base he'.blk he'.maps (λi b r' y hi hl hr e=>?_) (he.stay.kept pa _ hK) ⟨hB,ag rfl⟩ (qx _) hs (by have:=hC.1;simp at this;omega) ?_ (λ_=>rfl) (DU.full (by have:=hC.1;simp at this;omega))
 .subst e;obtain⟨r,x,C,fr,s,h1,h2,h3⟩:=he.blk i b hi hl;rw[hr]at h1;cases h1;rcases h2 with h2|h2
  .have:=h2.2;simp only at this;rw[hK]at this;cases this
  have:=h2.2;simp only at this;rw[hK]at this;cases this
 have:=hC.begins;simpa using this
structure US (P:Program)(ops:Array Oper)(c:Cx)(K:Nat->Option Obj)(a:Act)(ρ:Ren)(ps:List (Nat×Nat×Option Nat)):Prop where
 each:∀q∈ps,c.B<=q.2.1/\c.K q.2.1=none/\∃o te cs C s d,ops[q.1]? = some o/\o.dst=some d/\rC P a.eval o=some (te,cs,q.2.2)/\cR P te=some s/\LR (bG ρ) cs C.toList/\K q.2.1=some (.cells C te)
 rest:∀r,(∀q∈ps,q.2.1≠r)->K r=c.K r
 nodup:(ps.map (·.2.1)).Nodup
 aeN:ps.Pairwise λq q'=>∀o o',ops[q.1]? = some o->ops[q'.1]? = some o'->o.dst≠o'.dst
theorem US.next {c:Cx}{K:Nat->Option Obj}{a:Act}{ρ ρ':Ren}{ps:List (Nat×Nat×Option Nat)}(h:US P ops c K a ρ ps)(hle:ρ.le ρ'){dst:Option Tmp}(v:Value)(hd:∀q∈ps,∀o,ops[q.1]? = some o->∀x,dst=some x->x ∉ o.looksAt ops):US P ops c K (a.put dst v) ρ' ps :=
 ⟨λq hq=>by
  obtain⟨g1,g2,o,te,cs,C,s,d,g3,g4,g5,g6,g7,g8⟩:=h.each q hq;exact⟨g1,g2,o,te,cs,C,s,d,g3,g4,by rw[wJ a v (hd q hq o g3)];exact g5,g6,g7.mono λ_ _=>bG.mono hle,g8⟩,h.rest,h.nodup,h.aeN⟩
def nv (ops:Array Oper)(ps:List (Nat×Nat×Option Nat)):List (Option Tmp×Value):=ps.map λq=>((ops[q.1]?).bind (·.dst),yx q.2.2 q.2.1)
theorem qK {o oi:Oper}(a:Act)(v:Value)(h:∀d,oi.dst=some d->d ∉ o.looksAt ops):∀x∈o.op.operands,(a.put oi.dst v).eval x=a.eval x:=λx hx=>Act.eval_put λd hd hxd=>h d hd (by
 subst hxd;exact eE _ (mJ.2 ⟨.tmp d,by simpa using hx,rfl⟩))
theorem K4 {o:Oper}{ev ev':Operand->Value}(hv:∀x∈o.op.operands,ev x=ev' x)(hsel:∀cs b,o.op ≠ .select cs b):gR P ev o=gR P ev' o:=by
 have hc:execOp ev o=execOp ev' o:=execOp_congr o hsel hv;have ho:dg ev o.op=dg ev' o.op:=by
  unfold dg;rw[bO,aK,aK];constructor
  .intro hh x hx;rw[<-hv x (by simpa using hx)];exact hh x hx
  intro hh x hx;rw[hv x (by simpa using hx)];exact hh x hx
 unfold gR;rw[hc,ho]
theorem zX {ev ev':Operand->Value}{ps:Array (Nat×Operand)}(h:∀q∈ps,ev q.2=ev' q.2):nY ev ps=nY ev' ps:=by
 unfold nY;apply jq;intro q hq;rw[h q (by simpa using hq)]
theorem GB {o:Oper}{ev ev':Operand->Value}(H:Mem)(hv:∀x∈o.op.operands,ev x=ev' x)(hsel:∀cs b,o.op ≠ .select cs b):jt P call ev o H=jt P call ev' o H:=by
 have hp:=K4 (P:=P) hv hsel;unfold jt;split;case h_1 hop=>rw[hv _ (by simp[hop,Op.operands])]
 case h_2 hop=>rw[hv _ (by simp[hop,Op.operands])]
 case h_3 c x y hop=>rw[hv c (by simp[hop,Op.operands]),hv x (by simp[hop,Op.operands]),hv y (by simp[hop,Op.operands])]
 case h_4 op t x y yt hop=>unfold wk;rw[hp,hv x (by simp[hop,Op.operands]),hv y (by simp[hop,Op.operands])]
 case h_5 hop=>rfl
 case h_6 t x hop=>rw[hv x (by simp[hop,Op.operands])]
 case h_7 t ps hop=>rw[zX λq hq=>hv q.2 (by simp[hop,Op.operands];exact⟨q.1,by simpa using hq⟩)]
 case h_8 t len ps hop=>rw[zX λq hq=>hv q.2 (by simp[hop,Op.operands];exact⟨q.1,by simpa using hq⟩)]
 case h_9 t x hop=>rw[hv x (by simp[hop,Op.operands])]
 case h_10 t x y hop=>rw[hv x (by simp[hop,Op.operands]),hv y (by simp[hop,Op.operands])]
 case h_11 x hop=>rw[hv x (by simp[hop,Op.operands])]
 case h_12 s x f hop=>rw[hv x (by simp[hop,Op.operands])]
 case h_13 t x ix hop=>rw[hv x (by simp[hop,Op.operands]),hv ix (by simp[hop,Op.operands])]
 case h_14 x k hop=>rw[hv x (by simp[hop,Op.operands])]
 case h_15 t l c hop=>rw[hv l (by simp[hop,Op.operands]),hv c (by simp[hop,Op.operands])]
 case h_16 fn first captured hop =>
  rw[Array.map_congr_left (xs:=first) λx hx=>hv x (by simp[hop,Op.operands,hx]),Array.map_congr_left (xs:=captured) λx hx=>hv x (by simp[hop,Op.operands,hx])]
 case h_17 t x lo hi hop =>
  have e1:lo.map ev=lo.map ev':=by cases lo with|none=>rfl|some y=>simp only[bK];rw[hv y (by simp[hop,Op.operands])]
  have e2:hi.map ev=hi.map ev':=by cases hi with|none=>rfl|some y=>simp only[bK];rw[hv y (by simp[hop,Op.operands])]
  unfold pJ;rw[hp,e1,e2,hv x (by simp[hop,Op.operands])]
 case h_18 t x f hop=>rw[hv x (by simp[hop,Op.operands])]
 case h_19 t x ix hop=>unfold Ij;rw[hp,hv x (by simp[hop,Op.operands]),hv ix (by simp[hop,Op.operands])]
 case h_20 s d x hop=>unfold kW;rw[hp,hv x (by simp[hop,Op.operands])]
 case h_21 cl hop =>
  have ow:∀x∈cl.args,ev x=ev' x:=λx hx=>hv x (by simp[hop,Op.operands,Call.operands,hx])
  unfold ez;split
  .rename_i f hf;unfold DN;rw[hp,hv f (by simp[hop,hf,Op.operands,Call.operands]),jq (l:=cl.args.toList) (f:=ev) (g:=ev') λx hx=>ow x (by simpa using hx)]
  .unfold r8;split
   .unfold zI;split
    .rename_i x t hx _;rw[ow x (aY hx),hp]
    rfl
   .unfold sx;split
    .rename_i s x st xt hs0 hx0 _ _;rw[ow s (aY hs0),ow x (aY hx0)]
    rfl
   .unfold A9;split
    .rename_i d x dt hd0 hx0 _;rw[ow d (aY hd0),ow x (aY hx0)]
    rfl
   .unfold uf;split
    .rename_i x t hx _;rw[ow x (aY hx)]
    rfl
   .unfold oV;split
    .rename_i x hx;rw[ow x (fq.1 (by rw[hx];simp))]
    rfl
   .unfold Ba;split
    .rename_i p n pt _ hx _;rw[ow p (fq.1 (by rw[hx];simp)),ow n (fq.1 (by rw[hx];simp))]
    rfl
   rw[hp]
  rfl
 case h_22 t r hop =>
  have e1:r.map ev=r.map ev':=by cases r with|none=>rfl|some y=>simp only[bK];rw[hv y (by simp[hop,Op.operands])]
  rw[e1]
 case h_23 t x k ok hop=>rw[hv x (by simp[hop,Op.operands]),hv k (by simp[hop,Op.operands])]
 case h_24 t m k x hop=>rw[hv m (by simp[hop,Op.operands]),hv k (by simp[hop,Op.operands]),hv x (by simp[hop,Op.operands])]
 case h_25 t m k x hop=>rw[hv m (by simp[hop,Op.operands]),hv k (by simp[hop,Op.operands]),hv x (by simp[hop,Op.operands])]
 case h_26=>rw[hp]
theorem GC {o oi:Oper}(a:Act)(v:Value)(H:Mem)(h1:∀d,oi.dst=some d->d ∉ o.looksAt ops)(h2:∀d,oi.dst=some d->o.dst≠some d)(hsel:∀cs b,o.op ≠ .select cs b) :
 jl P call ops o (a.put oi.dst v) H=(jl P call ops o a H).map λr=>(r.1.put oi.dst v,r.2):=by
 unfold jl;rw[wanted_put o a oi.dst v h1,GB (P:=P) (call:=call) H (qK a v h1) hsel];split
 .cases jt P call a.eval o H with
  |none=>rfl
  |some r=>simp[Act.put_comm a v r.1 h2]
 simp[Act.put_comm a v undef h2]
theorem Cp {op:Op}{s:Operand}(h:kJ op=some s):s∈op.operands:=by
 unfold kJ at h;split at h
 .rename_i args ats;have:=aY h;simp only[Op.operands,Call.operands];simpa using this
 cases h
theorem Gc {op:Op}{s:Operand}(h:mG op=some s):s∈op.operands:=by
 unfold mG at h;split at h
 .cases h;simp[Op.operands]
 cases h
theorem D6 {o oi:Oper}{R:Option (List Nat)}{lk:Bool}(a:Act)(v:Value)(H:Mem)(h1:∀d,oi.dst=some d->d ∉ o.looksAt ops)(h2:∀d,oi.dst=some d->o.dst≠some d)(hsel:∀cs b,o.op ≠ .select cs b) :
 og P call ops R lk o (a.put oi.dst v) H=(og P call ops R lk o a H).map λr=>(r.1.put oi.dst v,r.2):=by
 unfold og;rw[GC a v _ h1 h2 hsel,GC a v _ h1 h2 hsel];split
 .cases hb:kJ o.op with
  |some s =>
   simp only;rw[qK a v h1 s (Cp hb)];split
   .rfl
   rfl
  |none =>
   simp only;have hsc:iI R (a.put oi.dst v).eval o=iI R a.eval o:=by
    unfold iI;split
    .rename_i s hs;rw[qK a v h1 s (Gc hs)]
    rfl
   rw[hsc];split
   .rfl
   cases jl P call ops o a { H with lk:=H.size } with
   |none=>rfl
   |some r=>rfl
 rfl
theorem wK {o:Oper}{a a':Act}{H H':Mem}(h:jl P call ops o a H=some (a',H')):∃u,a'=a.put o.dst u:=by
 unfold jl at h;split at h
 .simp only[aL]at h;obtain⟨r,_,heq⟩:=h;cases heq;exact⟨_,rfl⟩
 cases h;exact⟨_,rfl⟩
theorem lW {o:Oper}{R:Option (List Nat)}{lk:Bool}{a a':Act}{H H':Mem}(h:og P call ops R lk o a H=some (a',H')):∃u,a'=a.put o.dst u:=by
 rcases rN h with⟨h,_⟩|⟨_,u,hu,heq⟩
 .exact wK h
 cases heq;exact wK hu
theorem ZU (hno:jd P){G:Nat}(hok:Uu G ops.toList=true)(hcall:qe P G GR call)(hk:fy call)(hsel:∀(j:Nat) (o:Oper) cs b,ops[j]? = some o->o.op ≠ .select cs b){c:Cx}(je:c.P=P)(iG:c.At G GR){Fin:Act->Mem->Prop}{Q:Exit->Act->World->Prop}
 {RL:List (Nat×Option Nat)} {x:Option Nat} {listed:Array Bool} {eV:List Nat} {a:Act} {H:Mem} (h:oM P call ops Fin RL x listed eV a H) :
 ∀(K:Nat->Option Obj) (ps:List (Nat×Nat×Option Nat)) (ρ:Ren) (w:World) (ar:Act),ps.map (·.1)=eV->US P ops c K a ρ ps->A5 ρ a ar->ef (c.kp K) ρ H w->(∀a' H' ρ' ar' w',Fin a' H'->ρ.le ρ'->A5 ρ' a' ar'->ef c ρ' H' w'->Q .normal ar' w') ->
  match x with
  |none=>∀n,cnt ops listed<=n->wpAny P .any ops Q n listed (gb (nv ops ps) ar) w
  |some i=>∀n,cnt ops (listed.setIfInBounds i true)<=n->wpOp P ops Q i (wpAny P .any ops Q n (listed.setIfInBounds i true)) (gb (nv ops ps) ar) w:=by
 have ajP:∀{i:Nat} {o:Oper},ops[i]? = some o->o.op.operands.toList.all (dW G)=true:=λ{i o} ho=>aK.1 hok o (by have:=aY ho;simpa using this)
 induction h with
 |@pay listed l1 l2 i o R lk a a' H H' ho hm hst hap h ih =>
  intro K ps ρ w ar hps hO hs he hQ n hn;obtain⟨ps1,ps2',rfl,hp1,UT⟩:=List.map_eq_append_iff.1 hps;obtain⟨q,ps2,rfl,hq,UT⟩:=List.map_eq_cons_iff.1 UT;obtain⟨hB,hc0,o',te,cs,C,s,d,ho',Gd,wH,hsz,hC,hK⟩:=hO.each q (by simp);rw[hq,ho]at ho';cases ho';obtain⟨te',cs',sh',hmade',hp,rfl⟩:=Bm hm hst;rw[wH]at hmade';cases hmade';have hnd:q.2.1 ∉ (ps1++ps2).map (·.2.1)/\((ps1++ps2).map (·.2.1)).Nodup:=by
   have h1:=hO.nodup;rw[eo,cP]at h1;have:=(List.perm_middle (a:=q.2.1) (l₁:=ps1.map (·.2.1)) (l₂:=ps2.map (·.2.1))).nodup_iff.1 h1
   rw[eo];exact lO.1 this
  have sub:∀{y:Nat×Nat×Option Nat},y∈ps1++ps2->y∈ps1++q::ps2:=λhx=>by
   rcases cz.1 hx with h1|h1
   .exact eE _ h1
   exact iN _ (bE _ h1)
  have hpw:=List.pairwise_append.1 hO.aeN;have hle:=he.wD (aC H.size) (q.2.1,0);have hmid:gb (nv ops (ps1++q::ps2)) ar=gb (nv ops (ps1++ps2)) (ar.put o.dst (yx q.2.2 q.2.1)):=by
   unfold nv;rw[eo,cP,eo];have e:(ops[q.1]?).bind (·.dst)=o.dst:=by rw[hq,ho];rfl
   rw[e];refine Oc _ _ _ λy hy x hx hd=>?_
   obtain⟨q',hq',rfl⟩:=bW.1 hy;obtain⟨_,_,o2,ZV,F2,C2,s2,d2,Dj,_⟩:=hO.each q' (by simp[hq']);simp only[Dj,aW]at hx;exact hpw.2.2 q' hq' q (by simp) o2 o Dj (by rw[hq];exact ho) (by rw[hx,hd])
  rw[hmid];subst je;have hO1:US c.P ops c (λr=>if r=q.2.1 then none else K r) a ρ (ps1++ps2):=by
   refine⟨λy hy=>?_,λr hr=>?_,hnd.2,?_⟩
   .obtain ⟨g1,g2,o2,ZV,F2,C2,s2,d2,g3,g4,g5,g6,g7,g8⟩:=hO.each y (sub hy);refine⟨g1,g2,o2,ZV,F2,C2,s2,d2,g3,g4,g5,g6,g7,?_⟩;have hne:y.2.1≠q.2.1:=λe=>hnd.1 (by rw[<-e];exact bW.2 ⟨y,hy,rfl⟩)
    rw[aa hne];exact g8
   .by_cases e:r=q.2.1
    .rw[ag e,e,hc0]
    rw[aa e];refine hO.rest r λy hy=>?_
    rcases cz.1 hy with h1|h1
    .exact hr y (eE _ h1)
    rcases bt.1 h1 with rfl|h1
    .exact jM e
    exact hr y (iN _ h1)
   exact List.pairwise_append.2 ⟨hpw.1,(List.pairwise_cons.1 hpw.2.1).2,λy hy y' hy'=>hpw.2.2 y hy y' (by simp[hy'])⟩
  refine ih _ (ps1++ps2) (ρ.put H.size (q.2.1,0)) w _ (by rw[eo,hp1,UT]) (hO1.next hle _ λy hy om Oe=>hap y.1 (by rw[<-hp1,<-UT,<-eo];exact bW.2 ⟨y,hy,rfl⟩) om Oe) ((hs.mono hle).put o.dst (UR _ (Ren.mg _ _ _))) (he.aeM hsz hC hK hB hp) (λa' H' ρ' ar' w' k0 k1=>hQ a' H' ρ' ar' w' k0 (Ren.le_trans hle k1)) n hn
 |@step listed eV a H h0 h ih =>
  intro K ps ρ w ar hps hO hs he hQ n hn;have fin:Region.ready .any ops listed=[]->Q .normal (gb (nv ops ps) ar) w:=λhr=>by
   obtain⟨h1,h2⟩:=h0 hr;subst h1;have:ps=[]:=List.map_eq_nil_iff.1 hps;subst this;have hKK:K=c.K:=funext λr=>hO.rest r λq hq=>by cases hq
   subst hKK;exact hQ _ _ ρ ar w h2 (Ren.le_refl _) hs he
  cases n with
  |zero =>
   have zY:Region.ready .any ops listed=[]:=gN.2 λi hi=>by
    have:=(Bl hi).2.2;omega
   exact⟨zY,fin zY⟩
  |succ n=>exact⟨fin,λi hi=>ih i hi K ps ρ w ar hps hO hs he hQ n (by have:=(Bl hi).2.2;omega)⟩
 |@sync listed eV i o R lk a a' H H' ho hst hR hap h ih =>
  intro K ps ρ w ar hps hO hs he hQ n hn;refine GA ho (λcs b=>hsel i o cs b ho) _ _ (λq hq=>?_) ?_
  .obtain ⟨y,hy,rfl⟩:=bW.1 hq;obtain⟨_,_,o2,ZV,F2,C2,s2,d2,Dj,_⟩:=hO.each y hy;have h1:=(hap y.1 (by rw[<-hps];exact bW.2 ⟨y,hy,rfl⟩) o2 Dj).1;simp only[Dj,aW];exact⟨λx hx=>(h1 x hx).1,λx hx=>(h1 x hx).2⟩
  obtain⟨u,rfl⟩:=lW hst;unfold wpOp;simp only[ho];exact Se hno hcall hk (ajP ho) hst (c:=c.kp K) je ⟨iG.g,iG.rows,iG.len⟩ hs he fun ρ' ar' w' h1 h2 h3=>ih K ps ρ' w' ar' hps (hO.next h1 u λy hy om Oe=>(hap y.1 (by rw[<-hps];exact bW.2 ⟨y,hy,rfl⟩) om Oe).2) h2 h3 (λa'' H'' ρ'' ar'' w'' k0 k1=>hQ a'' H'' ρ'' ar'' w'' k0 (Ren.le_trans h1 k1)) n hn
 |@owe listed eV i o a H ho hm wH hd h ih =>
  intro K ps ρ w ar hps hO hs he hQ n hn;obtain⟨hg,⟨d,Gd⟩,_⟩:=sC hm;obtain⟨⟨te,cs,sh⟩,hmd⟩:=bV.1 wH;have hw:∀ar:Act,Region.wanted o (yielded ops ar.tmps)=true:=λar=>by unfold Region.wanted;rw[hg]
  subst je;have hG0:=iG.g;subst hG0;have aoo:EvR ρ a.eval ar.eval o.op:=λx hx=>hs.eval he.ju (aK.1 (ajP ho) x (by simpa using hx))
  have hsame:∀(l:List (Option Tmp×Value)) (ar:Act),(∀q∈l,∀x,q.1=some x->x ∉ o.looksAt ops)->∀x∈o.op.operands,(gb l ar).eval x=ar.eval x:=by
   intro l;induction l with
   |nil=>intro ar _ x _;rfl
   |cons q l ih =>
    intro ar hq x hx;show (gb l (ar.put q.1 q.2)).eval x=_;rw[ih _ (λy hy=>hq y (by simp[hy])) x hx];exact qK (ops:=ops) (oi:={ o with dst:=q.1 }) ar q.2 (λd' hd'=>hq q (by simp) d' hd') x hx
  have ck:EvR ρ a.eval (gb (nv ops ps) ar).eval o.op:=λx hx=>by
   rw[hsame (nv ops ps) ar (λq hq y hy=>?_) x hx]
   .exact aoo x hx
   obtain⟨z,hz,rfl⟩:=bW.1 hq;obtain⟨_,_,o2,ZV,F2,C2,s2,d2,Dj,_⟩:=hO.each z hz;simp only[Dj,aW]at hy;exact(hd z.1 (by rw[<-hps];exact bW.2 ⟨z,hz,rfl⟩) o2 Dj).2 y hy
  obtain⟨⟨s,hsz⟩,C,hC,hrun⟩:=UQ ck hmd;unfold wpOp;simp only[ho];rw[ag (hw _)];refine .inl ?_;unfold Oper.wp;rw[hrun];simp only[Oper.upon];have fresh:=he.stay.fresh he.base;have hne:∀q∈ps,q.2.1≠w.heap.size:=λq hq e=>by
   obtain⟨_,_,o2,ZV,F2,C2,s2,d2,_,_,_,_,_,hK2⟩:=hO.each q hq;have:=fresh.2;simp only at this;rw[<-e,hK2]at this;cases this
  have hput:(gb (nv ops ps) ar).put o.dst (yx sh w.heap.size)=gb (nv ops ((i,w.heap.size,sh)::ps)) ar:=by
   have e:(ops[i]?).bind (·.dst)=o.dst:=by rw[ho];rfl
   unfold nv;rw[cP];simp only[gb];rw[e];refine(D5 _ _ λy hy x hx hxd=>?_).symm;obtain⟨q,hq,rfl⟩:=bW.1 hy;obtain⟨_,_,o2,ZV,F2,C2,s2,d2,Dj,_⟩:=hO.each q hq;simp only[Dj,aW]at hx;exact(hd q.1 (by rw[<-hps];exact bW.2 ⟨q,hq,rfl⟩) o2 Dj).1 (by rw[hx,hxd])
  rw[hput];refine ih _ ((i,w.heap.size,sh)::ps) ρ _ ar (by simp[hps]) ⟨λq hq=>?_,λr hr=>?_,?_,?_⟩ hs (he.Od (.cells C te)) hQ n hn
  .rcases bt.1 hq with rfl|hq
   .refine ⟨fresh.1,?_,o,te,cs,C,s,d,ho,Gd,hmd,hsz,hC,ag rfl⟩;rw[<-hO.rest w.heap.size hne];exact fresh.2
   obtain⟨g1,g2,o2,ZV,F2,C2,s2,d2,g3,g4,g5,g6,g7,g8⟩:=hO.each q hq;exact⟨g1,g2,o2,ZV,F2,C2,s2,d2,g3,g4,g5,g6,g7,by rw[aa (hne q hq)];exact g8⟩
  .have:=hr (i,w.heap.size,sh) (by simp);simp only at this;rw[aa (jM this)];exact hO.rest r λq hq=>hr q (by simp[hq])
  .rw[cP];refine lO.2 ⟨λhm'=>?_,hO.nodup⟩;obtain⟨q,hq,e⟩:=bW.1 hm';exact hne q hq e
  refine List.pairwise_cons.2 ⟨λq hq o1 o2 h1 h2 e=>?_,hO.aeN⟩;rw[ho]at h1;cases h1;exact(hd q.1 (by rw[<-hps];exact bW.2 ⟨q,hq,rfl⟩) o2 h2).1 e.symm
theorem gW {H H':Mem}{x:Option Value}{v:Value}(h:cE H x=some (v,H')):H'=H/\∀H2,cE H2 x=some (v,H2):=by
 obtain⟨rfl,rfl⟩:=bP h;exact⟨rfl,λ_=>rfl⟩
theorem Og {ev:Operand->Value}{o:Oper}{args:Array Operand}{ats:Array TypeId}{H H':Mem}{v:Value}(h:zI P ev o args ats H=some (v,H')):H'=H/\∀H2,zI P ev o args ats H2=some (v,H2):=by
 unfold zI at h ⊢;generalize args[0]? = x at h ⊢;generalize ats[0]? = y at h ⊢;cases x<;>cases y<;>first|(cases h;done)|exact gW h
theorem K5 {ev:Operand->Value}{o:Oper}{H H':Mem}{v:Value}(hq:quiet P o.op=true)(h:jt P call ev o H=some (v,H')) :
 H'=H/\(kX o.op=false->∀H2,jt P call ev o H2=some (v,H2))/\(∀H2,Ext H H2->jt P call ev o H2=some (v,H2)):=by
 have all:∀{f:Mem->Option (Value×Mem)},(H'=H/\∀H2,f H2=some (v,H2))->H'=H/\(kX o.op=false->∀H2,f H2=some (v,H2))/\(∀H2,Ext H H2->f H2=some (v,H2)):=λhh=>⟨hh.1,λ_=>hh.2,λH2 _=>hh.2 H2⟩
 unfold jt at h ⊢;split at h;case h_1 hop=>cases h;simp only[hop]at all ⊢;refine⟨?_,?_,?_⟩<;>intros<;>trivial
 case h_2 hop=>cases h;simp only[hop]at all ⊢;refine⟨?_,?_,?_⟩<;>intros<;>trivial
 case h_3 hop =>
  simp only[hop]at all ⊢;unfold DM at h ⊢;split at h
  .rename_i t ht;cases h;simp only;refine⟨?_,?_,?_⟩<;>intros<;>trivial
  cases h
 case h_4 hop=>simp only[hop]at all ⊢;exact all (gW h)
 case h_5 hop=>simp[hop,quiet]at hq
 case h_6 hop=>simp[hop,quiet]at hq
 case h_7 hop=>simp only[hop]at all ⊢;exact all (gW h)
 case h_8 hop=>simp[hop,quiet]at hq
 case h_9 t x hop =>
  obtain⟨hu,rfl⟩:=bP h;simp only[hop];refine⟨trivial,λhl=>by simp[kX]at hl,λH2 hx=>?_⟩;have hal:∀i b,alive H' i=some b->alive H2 i=some b:=by
   intro i b hb;obtain⟨h1,h2⟩:=dF hb;unfold alive;rw[hx i b h1];simp[h2]
  have:rB P H2 t (ev x)=some v:=by
   unfold rB at hu ⊢;split at hu
   .split at hu
    .rename_i n _ _;simp only[aL]at hu ⊢;obtain⟨l,hl,rfl⟩:=hu;refine⟨l,?_,rfl⟩;unfold fW at hl ⊢;split at hl
     .rename_i b hb;rw[hal _ _ hb];exact hl
     cases hl
    .split at hu
     .rename_i b hb;rw[hal _ _ hb];exact hu
     cases hu
    cases hu
   cases hu
  rw[this];rfl
 case h_10 hop=>simp[hop,quiet]at hq
 case h_11 hop =>
  simp only[hop]at all ⊢;unfold sw at h ⊢;split at h
  .rename_i q hx;cases h;simp only;refine⟨?_,?_,?_⟩<;>intros<;>trivial
  .rename_i q1 q2 q3 hx;cases h;simp only;refine⟨?_,?_,?_⟩<;>intros<;>trivial
  cases h
 case h_12 hop=>simp only[hop]at all ⊢;exact all (gW h)
 case h_13 hop=>simp only[hop]at all ⊢;exact all (gW h)
 case h_14 x k hop =>
  simp only[hop]at all ⊢;unfold r7 at h ⊢;generalize ev x=q at h ⊢;cases q<;>first|(cases h;done)|exact all (gW h)
 case h_15 hop=>simp[hop,quiet]at hq
 case h_16 hop=>cases h;simp only[hop]at all ⊢;refine⟨?_,?_,?_⟩<;>intros<;>trivial
 case h_17 hop =>
  simp only[hop]at all hq ⊢;simp only[quiet,aS]at hq;unfold pJ at h ⊢;rw[hq]at h ⊢;exact all (gW h)
 case h_18 hop=>simp only[hop]at all ⊢;exact all (gW h)
 case h_19 hop=>simp only[hop]at all ⊢;exact all (gW h)
 case h_20 s d x hop =>
  simp only[hop]at all hq ⊢;simp only[quiet,ak,aS]at hq;unfold kW at h ⊢;split at h
  .rename_i u hu;cases h;simp only;refine⟨?_,?_,?_⟩<;>intros<;>trivial
  exfalso;unfold jk at h;split at h
  .have hq1:=hq.1.1;clear h all hq;simp_all[wq]
  .have hq2:=hq.1.2;clear h all hq;simp_all[wq]
  .have hq1:=hq.1.1;clear h all hq;simp_all[wq]
  .have hq3:=hq.2;clear h all hq;simp_all[NU]
  .have hq3:=hq.2;clear h all hq;simp_all[NU]
  cases h
 case h_21 cl hop =>
  obtain⟨callee,args,ats⟩:=cl;simp only[hop]at all hq ⊢;unfold ez at h ⊢;cases callee with
  |value f=>simp[quiet]at hq
  |invoke r m=>cases h
  |builtin b =>
   simp only at h ⊢;unfold r8 at h ⊢;cases b;case append=>simp[quiet]at hq
   case copy=>simp[quiet]at hq
   case len =>
    exact all (Og h)
   case cap =>
    simp only at h ⊢;unfold uf at h ⊢;split at h
    .rename_i x t hx0 Zu;obtain⟨hu,rfl⟩:=bP h;refine⟨rfl,λhl=>by simp[kX]at hl,λH2 hx=>?_⟩;have:CT P H2 t (ev x)=some v:=by
      unfold CT at hu ⊢;split at hu
      .split at hu
       .rename_i b hb;have hal:∀i b,alive H' i=some b->alive H2 i=some b:=by
         intro i b hb;obtain⟨h1,h2⟩:=dF hb;unfold alive;rw[hx i b h1];simp[h2]
        rw[hal _ _ hb];exact hu
       cases hu
      .exact hu
      cases hu
     rw[this];rfl
    cases h
   all_goals first|(simp[quiet]at hq;done)|(simp only at h ⊢;exact all (gW h))
 case h_22 hop=>simp[hop,quiet]at hq
 case h_23 t x k ok hop =>
  obtain⟨hu,rfl⟩:=bP h;simp only[hop];refine⟨trivial,λhl=>by simp[kX]at hl,λH2 hx=>?_⟩;have hen:∀{y:Value} {cs:List Value},pK H' y=some cs->pK H2 y=some cs:=by
   intro y cs hy;unfold pK at hy ⊢;split at hy
   .exact hy
   .split at hy
    .rename_i b hb;obtain⟨h1,h2⟩:=u9 hb;simp only[mapOf,hx _ b h1,h2];exact hy
    cases hy
   cases hy
  have:vN P H2 t (ev x) (ev k) ok=some v:=by
   unfold vN at hu ⊢;split at hu
   .split at hu
    .rename_i hd hz hcs;rw[hen hcs,hd,hz];exact hu
    cases hu
   cases hu
  rw[this];rfl
 case h_24 hop=>simp[hop,quiet]at hq
 case h_25 hop=>simp[hop,quiet]at hq
 case h_26=>exact all (gW h)
def QY (P:Program)(call:cH)(ops:Array Oper)(o:Oper)(v:Value)(a:Act)(H:Mem):Prop :=
 (Region.wanted o (yielded ops a.tmps)=true/\jt P call a.eval o H=some (v,H))\/(Region.wanted o (yielded ops a.tmps)=false/\v=undef)
theorem QY.step {o:Oper}{v:Value}{a:Act}{H:Mem}(h:QY P call ops o v a H):jl P call ops o a H=some (a.put o.dst v,H):=by
 unfold jl;rcases h with⟨h1,h3⟩|⟨h1,rfl⟩
 .simp only[h1,fF,h3];rfl
 simp[h1]
theorem QY.ZW {o:Oper}{a a':Act}{H H':Mem}(hq:quiet P o.op=true)(h:jl P call ops o a H=some (a',H')):H'=H/\∃v,a'=a.put o.dst v/\QY P call ops o v a H:=by
 unfold jl at h;split at h
 .rename_i hw;simp only[aL]at h;obtain⟨⟨r1,r2⟩,hr,heq⟩:=h;cases heq;obtain⟨h1,_,_⟩:=K5 hq hr;rw[h1]at hr ⊢;exact⟨rfl,_,rfl,.inl ⟨hw,hr⟩⟩
 rename_i hw;cases h;exact⟨rfl,_,rfl,.inr ⟨by simpa using hw,rfl⟩⟩
theorem QY.move {o oj:Oper}{v u:Value}{a:Act}{H:Mem}(h:QY P call ops o v a H)(hap:∀d,oj.dst=some d->d ∉ o.looksAt ops)(hsel:∀cs b,o.op ≠ .select cs b):QY P call ops o v (a.put oj.dst u) H:=by
 unfold QY at *;rw[wanted_put o a oj.dst u hap,GB (P:=P) (call:=call) H (qK a u hap) hsel];exact h
theorem QY.mem {o:Oper}{v:Value}{a:Act}{H H':Mem}(hq:quiet P o.op=true)(h:QY P call ops o v a H)(hm:kX o.op=false\/Ext H H'):QY P call ops o v a H':=by
 rcases h with⟨h1,h3⟩|h
 .obtain ⟨_,k2,k3⟩:=K5 hq h3;rcases hm with hm|hm
  .exact .inl ⟨h1,k2 hm H'⟩
  exact .inl ⟨h1,k3 H' hm⟩
 exact .inr h
def sD (ops:Array Oper)(listed:Array Bool):Prop :=
 ∀k o,ops[k]? = some o->listed.getD k false=true->∀e∈o.after,Region.binds .any e=true->listed.getD e.on false=true
theorem sD.add {listed:Array Bool}(h:sD ops listed){i:Nat}(hi:i∈Region.ready .any ops listed):sD ops (listed.setIfInBounds i true):=by
 intro k o ho hk e he hb;apply getD_set_true;by_cases hik:i=k
 .subst hik;obtain⟨_,o',ho',hall⟩:=mem_ready.1 hi;rw[ho]at ho';cases ho';exact hall e he hb
 rw[getD_set_ne false hik]at hk;exact h k o ho hk e he hb
theorem zZ {listed:Array Bool}(hc:sD ops listed){i j:Nat}(h:Reach ops i j)(hi:listed.getD i false=true):listed.getD j false=true:=by
 induction h with
 |one ho he hb=>exact hc _ _ ho hi _ he hb
 |more ho he hb _ ih=>exact ih (hc _ _ ho hi _ he hb)
theorem K6 {listed:Array Bool}(hc:sD ops listed){i j:Nat}(hi:i∈Region.ready .any ops listed)(hj:j∈Region.ready .any ops listed):¬Reach ops j i:=by
 intro h;obtain⟨hi0,_⟩:=mem_ready.1 hi;have ajR:listed.getD i false=true->False:=by
  intro h1;by_cases hlt:i<listed.size
  .simp[Array.getD,hlt]at h1 hi0;rw[h1]at hi0;cases hi0
  simp[Array.getD,hlt]at h1
 obtain⟨_,o,ho,hall⟩:=mem_ready.1 hj;cases h with
 |one ho' he hb=>rw[ho]at ho';cases ho';exact ajR (hall _ he hb)
 |more ho' he hb h2=>rw[ho]at ho';cases ho';exact ajR (zZ hc h2 (hall _ he hb))
def QM (o:Oper)(a:Act)(pr:Option Nat):Prop:=pr=none\/∃b t x off m,pr=some b/\o.op = .load t x/\a.eval x = .pointer (some ⟨b,off,m⟩)
theorem QY.aop {o:Oper}{v:Value}{a:Act}{H H':Mem}(hq:quiet P o.op=true)(h:QY P call ops o v a H){pr:Option Nat}(hm:QM o a pr)(hp:KY pr H H'):QY P call ops o v a H':=by
 rcases hm with rfl|⟨b,t,x,off,m,rfl,hop,hx⟩
 .exact h.mem hq (.inr hp)
 rcases h with⟨h1,h3⟩|h
 .refine .inl ⟨h1,?_⟩;unfold jt at h3 ⊢;rw[hop]at h3 ⊢;simp only at h3 ⊢;obtain⟨hu,_⟩:=bP h3;have hal:∀k,alive H b=some k->alive H' b=some k:=by
   intro k hb;obtain⟨h1,h2⟩:=dF hb;unfold alive;rw[hp k h1];simp[h2]
  have:rB P H' t (a.eval x)=some v:=by
   rw[hx]at hu ⊢;unfold rB at hu ⊢;split at hu
   .rename_i heq;cases heq;split at hu
    .rename_i n _ _;simp only[aL]at hu ⊢;obtain⟨l,hl,rfl⟩:=hu;refine⟨l,?_,rfl⟩;unfold fW at hl ⊢;split at hl
     .rename_i k hb;rw[hal _ hb];exact hl
     cases hl
    .split at hu
     .rename_i k hb;rw[hal _ hb];exact hu
     cases hu
    cases hu
   cases hu
  rw[this];rfl
 exact .inr h
theorem QM.move {o:Oper}{a:Act}{pr:Option Nat}(h:QM o a pr){dst:Option Tmp}(u:Value)(hd:∀d,dst=some d->d ∉ o.looksAt ops):QM o (a.put dst u) pr:=by
 rcases h with rfl|⟨b,t,x,off,m,rfl,hop,hx⟩
 .exact .inl rfl
 refine .inr ⟨b,t,x,off,m,rfl,hop,?_⟩;rw[<-hx];exact Act.eval_put λd h1 h2=>hd d h1 (by
  subst h2;exact eE _ (mJ.2 ⟨.tmp d,by simp[hop,Op.operands],rfl⟩))
theorem oM.weak {Fin:Act->Mem->Prop}{RL RL':List (Nat×Option Nat)}(hsub:∀q∈RL,q∈RL'){x:Option Nat}{l:Array Bool}{eV:List Nat}{a:Act}{H:Mem}(h:oM P call ops Fin RL' x l eV a H):oM P call ops Fin RL x l eV a H:=by
 induction h with
 |pay ho hm hst hap _ ih=>exact .pay ho hm hst hap ih
 |step h0 _ ih=>exact .step h0 ih
 |sync ho hst hR hap _ ih=>exact .sync ho hst (λq hq=>hR q (hsub q hq)) hap ih
 |owe ho hm wH hd _ ih=>exact .owe ho hm wH hd ih
theorem Oh (hk:fy call){Fin:Act->Mem->Prop}(hsel:∀(j:Nat) (o:Oper) cs b,ops[j]? = some o->o.op ≠ .select cs b){i:Nat}{oi:Oper}{v:Value}(hi:ops[i]? = some oi)(hq:quiet P oi.op=true)
 {RL RL':List (Nat×Option Nat)} (hsub:∀q∈RL,q∈RL') {x:Option Nat} {l1:Array Bool} {eV:List Nat} {a1:Act} {H:Mem} (hA:oM P call ops Fin RL' x l1 eV a1 H):∀(listed:Array Bool) (a:Act),l1=listed.setIfInBounds i true->a1=a.put oi.dst v->(kX oi.op=false\/∃pr,(i,pr)∈RL'/\QM oi a pr) ->
  (∀(j:Nat) (oj:Oper),ops[j]? = some oj->j≠i->(listed.getD j true=false\/j∈eV)->(∀e∈oj.after,Region.binds .any e=true->e.on≠i)->oi.apart ops oj=true) ->
  (∀m∈eV,∀om,ops[m]? = some om->∀e∈om.after,Region.binds .any e=true->e.on≠i)->i ∉ eV ->
  sD ops listed->i∈Region.ready .any ops listed->QY P call ops oi v a H ->
  match x with
  |none=>oM P call ops Fin RL none listed eV a H
  |some j=>j≠i->j∈Region.ready .any ops listed->oM P call ops Fin RL (some j) listed eV a H:=by
 have hni:∀{m:Nat} {om:Oper},ops[m]? = some om->makes P om=true->m≠i:=λOe hm e=>by
  subst e;rw[hi]at Oe;cases Oe;rw[yV hm]at hq;cases hq
 induction hA with
 |@pay l1 p1 p2 m o R lk a1 a' H H' ho hm hst ajS h ih =>
  rintro listed a rfl rfl hrd hfree CW hnp ot hr hy;have hap:=hfree m o ho (hni ho hm) (.inr (by simp)) (CW m (by simp) o ho);obtain⟨q1,q2,q3⟩:=Oper.apart_spec hap;rw[D6 a v H q1 q2 (λcs b=>hsel m o cs b ho)]at hst;simp only[aL]at hst;obtain⟨⟨aj,Hj⟩,Sf,heq⟩:=hst;simp only[ay]at heq;obtain⟨rfl,rfl⟩:=heq;obtain⟨u,rfl⟩:=lW Sf;obtain⟨_,_,_,_,hp,_⟩:=Bm hm Sf;have aoq:Ext H Hj:=λk b hb=>by
   obtain⟨_,_,e3⟩:=Mem.dN hp;rw[e3,aa (l9 (Mem.eL hb))];exact hb
  have sub:∀{y:Nat},y∈p1++p2->y∈p1++m::p2:=λhx=>by
   rcases cz.1 hx with h1|h1
   .exact eE _ h1
   exact iN _ (bE _ h1)
  exact oM.pay ho hm Sf ajS (ih listed _ rfl rfl (hrd.imp id λ⟨pr,e1,e2⟩=>⟨pr,e1,e2.move u q3⟩) (λj oj hj hji hh=>hfree j oj hj hji (hh.imp id sub)) (λk hk'=>CW k (sub hk')) (λh=>hnp (sub h)) ot hr ((hy.move q3 (λcs b=>hsel i oi cs b hi)).mem hq (.inr aoq)))
 |@step l1 eV a1 H h0 h ih =>
  rintro listed a rfl rfl hrd hfree CW hnp ot hr hy;refine oM.step (λh=>(by rw[h]at hr;cases hr)) λj hj=>?_
  by_cases hji:j=i
  .subst hji;have hn:∀m∈eV,∀om,ops[m]? = some om->(∀x,om.dst=some x->x ∉ oi.looksAt ops/\oi.dst≠some x)/\∀x,oi.dst=some x->x ∉ om.looksAt ops:=by
    intro m hm om Oe;have hne:m≠j:=λe=>hnp (by rw[<-e];exact hm)
    obtain⟨q1,q2,q3⟩:=Oper.apart_spec (hfree m om Oe hne (.inr hm) (CW m hm om Oe));exact⟨λx hx=>⟨q3 x hx,λe=>q2 x e hx⟩,q1⟩
   exact oM.sync (R:=none) (lk:=false) hi (by unfold og;exact hy.step) (λq _=>.inr (KY.N9 λ_ _ hb=>hb)) hn (oM.weak hsub (oM.step h0 h))
  exact ih j (ready_mono hj hji) listed a rfl rfl hrd hfree CW hnp ot hr hy hji hj
 |@sync l1 eV j oj R lk a1 a' H H' yX hst hR hap h ih =>
  rintro listed a rfl rfl hrd hfree CW hnp ot hr hy hji hj;obtain⟨Sg,oj',hoj',hall⟩:=mem_ready.1 hj;rw[yX]at hoj';cases hoj';have hnot:∀e∈oj.after,Region.binds .any e=true->e.on≠i:=λe he hb heq=>by
   have h1:=hall e he hb;have h0:=(mem_ready.1 hr).1;rw[heq]at h1;rcases Nat.lt_or_ge i listed.size with h'|h'
   .simp[h']at h0 h1;rw[h0]at h1;cases h1
   simp[eR h']at h1
  obtain⟨p1,p2,p3⟩:=Oper.apart_spec (hfree j oj yX hji (.inl Sg) hnot);rw[D6 a v H p1 p2 (λcs b=>hsel j oj cs b yX)]at hst;simp only[aL]at hst;obtain⟨⟨aj,Hj⟩,Sf,heq⟩:=hst;simp only[ay]at heq;obtain⟨rfl,rfl⟩:=heq;refine oM.sync yX Sf (λq hq=>hR q (hsub q hq)) hap ?_;have hfree':∀(k:Nat) (ok:Oper),ops[k]? = some ok->k≠i->((listed.setIfInBounds j true).getD k true=false\/k∈eV) ->
   (∀e∈ok.after,Region.binds .any e=true->e.on≠i)->oi.apart ops ok=true:=λk ok hk' hki hun hno=>by
   refine hfree k ok hk' hki (hun.imp (λhun=>?_) id) hno;by_cases Iy:j=k
   .subst Iy;exact Sg
   rw[getD_set_ne true Iy]at hun;exact hun
  obtain⟨u,rfl⟩:=lW Sf;have hyj:QY P call ops oi v a Hj:=by
   rcases hrd with hld|⟨pr,e1,e2⟩
   .exact hy.mem hq (.inl hld)
   rcases hR _ e1 with h1|h1
   .exact absurd h1 (K6 ot hr hj)
   exact hy.aop hq e2 h1
  exact ih (listed.setIfInBounds j true) _ (Array.setIfInBounds_comm _ _ (jM hji)) rfl (hrd.imp id λ⟨pr,e1,e2⟩=>⟨pr,e1,e2.move u p3⟩) hfree' CW hnp (ot.add hj) (ready_mono hr (jM hji)) (hyj.move p3 (λcs b=>hsel i oi cs b hi))
 |@owe l1 eV j oj a1 H yX hm wH hd h ih =>
  rintro listed a rfl rfl hrd hfree CW hnp ot hr hy hji hj;obtain⟨Sg,oj',hoj',hall⟩:=mem_ready.1 hj;rw[yX]at hoj';cases hoj';have hnot:∀e∈oj.after,Region.binds .any e=true->e.on≠i:=λe he hb heq=>by
   have h1:=hall e he hb;have h0:=(mem_ready.1 hr).1;rw[heq]at h1;rcases Nat.lt_or_ge i listed.size with h'|h'
   .simp[h']at h0 h1;rw[h0]at h1;cases h1
   simp[eR h']at h1
  obtain⟨p1,_,_⟩:=Oper.apart_spec (hfree j oj yX hji (.inl Sg) hnot);rw[wJ a v p1]at wH;refine oM.owe yX hm wH hd (ih (listed.setIfInBounds j true) a (Array.setIfInBounds_comm _ _ (jM hji)) rfl hrd (λk ok hk' hki hun hno=>?_) (λk hk' ok hok'=>?_) (λhh=>by
   rcases bt.1 hh with e|hh
   .exact hji e.symm
   exact hnp hh) (ot.add hj) (ready_mono hr (jM hji)) hy)
  .rcases hun with hun|hun
   .refine hfree k ok hk' hki (.inl ?_) hno;by_cases Iy:j=k
    .subst Iy;exact Sg
    rw[getD_set_ne true Iy]at hun;exact hun
   rcases bt.1 hun with rfl|hun
   .exact hfree k ok hk' hki (.inl Sg) hno
   exact hfree k ok hk' hki (.inr hun) hno
  rcases bt.1 hk' with rfl|hk'
  .rw[yX]at hok';cases hok';exact hnot
  exact CW k hk' ok hok'
end
end Go.Ev
namespace Go.Ev
open Go.RowKit
section
variable {P:Program} {call:cH} {ops:Array Oper}
theorem vc (m i:Nat):bit m i=m.testBit i:=by
 unfold bit;rw[Nat.testBit_eq_decide_div_mod_eq];have e:Nat.land (Nat.shiftRight m i) 1=m/2 ^ i%2:=by
  show (m >>> i) &&& 1=_;rw[Nat.and_one_is_mod,Nat.shiftRight_eq_div_pow]
 rw[e,bO];simp[aO]
theorem IK (m i j:Nat):bit (tR m i) j=(bit m j||decide (i=j)):=by
 rw[vc,vc];show (m ||| (1 <<< i)).testBit j=_;rw[Nat.testBit_or,Nat.one_shiftLeft,Nat.testBit_two_pow]
theorem D7 (j:Nat):bit 0 j=false:=by rw[vc];simp
theorem Qx (p L:Nat):Nat.beq (Nat.land p L) p=true↔∀j,bit p j=true->bit L j=true:=by
 rw[aO];show (p &&& L)=p↔_;constructor
 .intro h j hj;rw[vc]at hj ⊢;rw[<-h,Nat.testBit_and]at hj;simp at hj;exact hj.2
 intro h;apply Nat.eq_of_testBit_eq;intro j;rw[Nat.testBit_and];cases hp:p.testBit j with
 |false=>rfl
 |true=>have:=h j (by rw[vc];exact hp);rw[vc]at this;simp[this]
theorem oZ (o:Oper)(j:Nat):bit (rJ o) j=true↔∃e∈o.after,Region.binds .any e=true/\e.on=j:=by
 have key:∀l:List Edge,bit (l.foldr (λe m=>ah (Region.binds .any e) (tR m e.on) m) 0) j=true↔∃e∈l,Region.binds .any e=true/\e.on=j:=by
  intro l;induction l with
  |nil=>simp[D7]
  |cons e l ih =>
   simp only[fC,bt,exists_eq_or_imp];cases hb:Region.binds .any e with
   |false=>show bit (l.foldr _ 0) j=true↔_;rw[ih];simp
   |true=>show bit (tR (l.foldr _ 0) e.on) j=true↔_;rw[IK,cJ,ih];simp[or_comm]
 have:=key o.after.toList;unfold rJ;rw[this];simp
theorem Ge (o:Oper)(d:Nat):bit (uk ops o) d=true↔d∈o.looksAt ops:=by
 have key:∀l:List Tmp,bit (l.foldr (λd m=>tR m d) 0) d=true↔d∈l:=by
  intro l;induction l with
  |nil=>simp[D7]
  |cons e l ih =>
   simp only[fC,bt];rw[IK,cJ,ih];simp;constructor
   .rintro (h|h)
    .exact .inr h
    exact .inl h.symm
   rintro (h|h)
   .exact .inr h.symm
   exact .inl h
 exact key _
structure POk (P:Program)(ops:Array Oper)(p:PO):Prop where
 o:ops[p.i]? = some p.o
 pre:p.pre=rJ p.o
 looks:p.looks=uk ops p.o
 q:p.q=quiet P p.o.op
 ld:p.ld=kX p.o.op
 Uv:p.Uv=makes P p.o
 Zr:∀j,bit p.Zr j=true->Reach ops p.i j
theorem ve (pre j:Nat):∀l:List PO,bit (tq pre l) j=true->bit pre j=true\/∃p∈l,bit pre p.i=true/\bit p.Zr j=true
 |[],h=>.inl h
 |p::l,h=>by
  unfold tq at h;rw[ax]at h;split at h
  .rename_i hb;have h':(p.Zr ||| tq pre l).testBit j=true:=by rw[<-vc];exact h
   rw[Nat.testBit_or,cJ]at h';rcases h' with h'|h'
   .exact .inr ⟨p,by simp,hb,by rw[vc];exact h'⟩
   rcases ve pre j l (by rw[vc];exact h') with h1|⟨q,hq,h2⟩
   .exact .inl h1
   exact .inr ⟨q,by simp[hq],h2⟩
  rcases ve pre j l h with h1|⟨q,hq,h2⟩
  .exact .inl h1
  exact .inr ⟨q,by simp[hq],h2⟩
theorem Cq:∀(l:List Oper) (i:Nat) (acc:List PO),(∀j,l[j]? = ops[i+j]?)->(∀p∈acc,POk P ops p)->(∀k,k<i->∃p∈acc,p.i=k) ->
 (∀p∈tS P ops l i acc,POk P ops p)/\(∀k,k<i+l.length->∃p∈tS P ops l i acc,p.i=k)
 |[],i,acc,_,h1,h2=>⟨h1,by simpa[tS] using h2⟩
 |o::l,i,acc,hl,h1,h2=>by
  unfold tS;have h0:ops[i]? = some o:=by simpa using (hl 0).symm
  have hp:POk P ops ⟨o,i,rJ o,tq (rJ o) acc,uk ops o,quiet P o.op,kX o.op,makes P o⟩:=by
   refine⟨h0,rfl,rfl,rfl,rfl,rfl,λj hj=>?_⟩;rcases ve _ _ _ hj with h|⟨p,hp,h3,h4⟩
   .obtain ⟨e,he,hb,rfl⟩:=(oZ o j).1 h;exact .one h0 he hb
   obtain⟨e,he,hb,heq⟩:=(oZ o p.i).1 h3;exact .more h0 he hb (by rw[heq];exact(h1 p hp).Zr j h4)
  have:=Cq l (i+1) (⟨o,i,rJ o,tq (rJ o) acc,uk ops o,quiet P o.op,kX o.op,makes P o⟩::acc)
   (λj=>by have:=hl (j+1);simpa[Nat.add_assoc,l8 1 j] using this)
   (λp hm=>by
    rcases bt.1 hm with rfl|hm
    .exact hp
    exact h1 p hm)
   (λk hk=>by
    by_cases hki:k=i
    .exact ⟨_,cF,hki.symm⟩
    obtain⟨p,hm,hpk⟩:=h2 k (by omega);exact⟨p,by simp[hm],hpk⟩)
  refine⟨this.1,λk hk=>this.2 k ?_⟩;simp only[aJ]at hk;omega
structure D8 (P:Program)(ops:Array Oper)(pos:List PO):Prop where
 each:∀p∈pos,POk P ops p
 all:∀k,k<ops.size->∃p∈pos,p.i=k
theorem adq:D8 P ops (tS P ops ops.toList 0 []).reverse:=by
 have:=Cq (P:=P) (ops:=ops) ops.toList 0 [] (by simp) (by simp) (by simp);exact⟨λp hp=>this.1 p (by simpa using hp),λk hk=>by
  obtain⟨p,hm,h⟩:=this.2 k (by simpa using hk);exact⟨p,by simpa using hm,h⟩⟩
structure Qy (ops:Array Oper)(L:Nat)(listed:Array Bool):Prop where
 size:listed.size=ops.size
 get:∀j,listed.getD j false=bit L j
theorem Qy.D9 {L:Nat}{listed:Array Bool}(h:Qy ops L listed){j:Nat}(hj:j<ops.size):listed.getD j true=bit L j:=by
 rw[<-h.get];have:j<listed.size:=by rw[h.size];exact hj
 simp[Array.getD,this]
theorem Qy.add {L:Nat}{listed:Array Bool}(h:Qy ops L listed){i:Nat}(hi:i<ops.size):Qy ops (tR L i) (listed.setIfInBounds i true):=by
 refine⟨by simpa using h.size,λj=>?_⟩;rw[IK];by_cases hij:i=j
 .subst hij;have:i<listed.size:=by rw[h.size];exact hi
  simp[this]
 rw[getD_set_ne false hij,h.get];simp[hij]
theorem Qy.zero:Qy ops 0 (Array.replicate ops.size false):=⟨by simp,λj=>by
 rw[D7];by_cases hlt:j<ops.size
 .simp[Array.getD,hlt]
 simp[Array.getD,hlt]⟩
theorem oN {pos:List PO}(hp:D8 P ops pos){L:Nat}{listed:Array Bool}(hl:Qy ops L listed){p:PO}(hm:p∈pos):tU L p=true↔p.i∈Region.ready .any ops listed:=by
 have ho:=(hp.each p hm).o;have hlt:p.i<ops.size:=(aB.1 ho).1;rw[mem_ready,hl.D9 hlt];unfold tU;rw[ax];constructor
 .intro h;split at h
  .cases h
  rename_i hb;refine⟨by simpa using hb,p.o,ho,λe he aor=>?_⟩;rw[hl.get];rw[(hp.each p hm).pre]at h;exact(Qx _ _).1 h e.on ((oZ p.o e.on).2 ⟨e,he,aor,rfl⟩)
 rintro⟨h1,o,ho',hall⟩;rw[ho]at ho';cases ho';rw[aa (by rw[h1];simp)];rw[(hp.each p hm).pre];refine(Qx _ _).2 λj hj=>?_
 obtain⟨e,he,hb,rfl⟩:=(oZ p.o j).1 hj;rw[<-hl.get];exact hall e he hb
theorem Ea {pos:List PO}(hp:D8 P ops pos){L:Nat}{listed:Array Bool}(hl:Qy ops L listed){i:Nat}(hi:i∈Region.ready .any ops listed):∃p∈pos,p.i=i/\tU L p=true:=by
 obtain⟨_,o,ho,_⟩:=mem_ready.1 hi;obtain⟨p,hm,rfl⟩:=hp.all i (aB.1 ho).1;exact⟨p,hm,rfl,(oN hp hl hm).2 hi⟩
theorem tv {x y:PO}(hx:POk P ops x)(hy:POk P ops y)(h:DR x y=true):x.o.apart ops y.o=true:=by
 unfold DR at h;have nl:∀{z:PO} (hz:POk P ops z) {d:Nat},bit z.looks d=false->(z.o.looksAt ops).contains d=false:=by
  intro z hz d hd;rw[hz.looks]at hd;rw[<-eB,List.contains_iff_mem,<-Ge,hd];simp
 unfold Oper.apart;split at h
 .rename_i d e hd he;simp only[ak,aS]at h;simp only[hd,he,nl hy h.1.1,nl hx h.2,Bool.not_false,dM,kP];have hne:¬(e=d):=by
   intro hh;subst hh;have:=h.1.2;rw[<-eB,aO]at this;exact this rfl
  simp[hne]
 .rename_i d hd he;simp only[aS]at h;rw[hd,he];simp only[nl hy h];simp
 .rename_i e hd he;simp only[aS]at h;rw[hd,he];simp only[nl hx h];simp
 rename_i hd he;rw[hd,he];rfl
theorem Eb {pos:List PO}(hp:D8 P ops pos){L:Nat}{listed:Array Bool}(hl:Qy ops L listed){p:PO}(hm:p∈pos)(h:adi pos L p=true) :
 ∀(j:Nat) (oj:Oper),ops[j]? = some oj->j≠p.i->listed.getD j true=false->(∀e∈oj.after,Region.binds .any e=true->e.on≠p.i)->p.o.apart ops oj=true:=by
 intro j oj hj hji hun hno;have hlt:j<ops.size:=(aB.1 hj).1;obtain⟨r,hr,ZX⟩:=hp.all j hlt;have hro:=(hp.each r hr).o;rw[ZX,hj]at hro;have Sh:oj=r.o:=by cases hro;rfl
 have:=aK.1 h r hr;simp only[cJ]at this;rcases this with ((h1|h1)|h1)|h1
 .rw[aO]at h1;exact absurd (ZX ▸ h1) hji
 .rw[ZX,<-hl.D9 hlt,hun]at h1;cases h1
 .rw[(hp.each r hr).pre]at h1;obtain⟨e,he,hb,heq⟩:=(oZ r.o p.i).1 h1;exact absurd heq (hno e (by rw[Sh];exact he) hb)
 rw[Sh];exact tv (hp.each p hm) (hp.each r hr) h1
theorem K7 {pos:List PO}(hp:D8 P ops pos){L:Nat}{listed:Array Bool}(hl:Qy ops L listed){p:PO}(hm:p∈pos)(h:NV pos L p=true):N8 ops listed p.i:=by
 intro j oj hj hld ajT;have hlt:j<ops.size:=(aB.1 hj).1;obtain⟨r,hr,ZX⟩:=hp.all j hlt;have hro:=(hp.each r hr).o;rw[ZX,hj]at hro;have Sh:oj=r.o:=by cases hro;rfl
 have:=aK.1 h r hr;simp only[cJ,aS]at this;rw[(hp.each r hr).ld,<-Sh,hld,ZX,<-hl.D9 hlt,ajT]at this;rcases this with (h1|h1)|h1
 .cases h1
 .cases h1
 exact(hp.each p hm).Zr j h1
noncomputable def uu (P:Program)(call:cH)(ops:Array Oper):List (Oper×Bool)->Option (List Nat)->Act->Mem->Option (Act×Mem)
 |[],_,a,H=>some (a,H)
 |(o,lk)::l,R,a,H=>match og P call ops R lk o a H with
  |some (a',H')=>uu P call ops l (qd a.eval o R) a' H'
  |none=>none
theorem K8 {ev:Operand->Value}{st xt:TypeId}{s x v:Value}{H H':Mem}(h:rH P H st xt s x=some (v,H')){j:Nat}(hj:∀b off m l c,s = .slice (some ⟨b,off,m⟩) l c->j≠b)(k:jJ)(hk:H.get j=some k):H'.get j=some k:=by
 unfold rH at h;split at h
 .split at h
  .split at h
   .split at h
    .cases h
    have push:∀{H1 H2:Mem} {e:TypeId} {cs:List Value} {n m:Nat} {u:Value},H1.get j=some k->kU H1 e cs n m=some (u,H2)->H2.get j=some k:=by
     intro H1 H2 e cs n m u h1 h2;obtain⟨hp,_⟩:=ov h2;obtain⟨_,_,e3⟩:=Mem.dN hp;rw[e3,aa (l9 (Mem.eL h1))];exact h1
    split at h
    .split at h
     .rename_i b off _ _ _;simp only[aL,ay]at h;obtain⟨H1,hw,_,rfl⟩:=h;unfold iH at hw;split at hw
      .cases hw;exact hk
      split at hw
      .split at hw
       .obtain ⟨_,_,_,_,e5⟩:=Mem.kY hw;rw[e5,aa (hj _ _ _ _ _ rfl)];exact hk
       cases hw
      cases hw
     .split at h
      .cases h;exact hk
      cases h
     cases h
    split at h
    .split at h
     .split at h
      .rename_i H1 fh;refine push ?_ h;obtain⟨_,_,_,e4,_⟩:=nM fh;rw[e4 j (hj _ _ _ _ _ rfl)];exact hk
      cases h
     cases h
    .exact push hk h
    cases h
   cases h
  cases h
 cases h
theorem UU {o:Oper}{s:Operand}(hb:kJ o.op=some s){a:Act}{H:Mem}{r:Act×Mem}(h:jl P call ops o a H=some r){j:Nat}(hj:∀b off m l c,a.eval s = .slice (some ⟨b,off,m⟩) l c->j≠b)(k:jJ)(hk:H.get j=some k):r.2.get j=some k:=by
 unfold jl at h;split at h
 .simp only[aL]at h;obtain⟨⟨v,H1⟩,h1,rfl⟩:=h;unfold kJ at hb;split at hb
  .rename_i args ats hop;unfold jt at h1;rw[hop]at h1;simp only at h1;unfold ez at h1;simp only at h1;unfold r8 at h1;simp only at h1;unfold sx at h1;split at h1
   .rename_i s0 x st xt h2 h3 h4 h5;rw[h2]at hb;cases hb;exact K8 (ev:=a.eval) h1 hj k hk
   cases h1
  cases hb
 cases h;exact hk
theorem Oi {o:Oper}{s:Operand}(hb:mG o.op=some s){a:Act}{H:Mem}{r:Act×Mem}(h:jl P call ops o a H=some r){j:Nat}(hj:∀b off m,a.eval s = .pointer (some ⟨b,off,m⟩)->j≠b)(k:jJ)(hk:H.get j=some k):r.2.get j=some k:=by
 unfold jl at h;split at h
 .simp only[aL]at h;obtain⟨⟨v,H1⟩,h1,rfl⟩:=h;unfold mG at hb;split at hb
  .rename_i t s' x hop;cases hb;unfold jt at h1;rw[hop]at h1;simp only at h1;unfold qt at h1;split at h1
   .rename_i H2 hst;cases h1;unfold su at hst;split at hst
    .rename_i i off n hp hn;split at hst
     .unfold iH at hst;split at hst
      .cases hst;exact hk
      split at hst
      .split at hst
       .obtain ⟨_,_,_,_,e5⟩:=Mem.kY hst;rw[e5,aa (hj _ _ _ hp)];exact hk
       cases hst
      cases hst
     cases hst
    cases hst
   cases h1
  cases hb
 cases h;exact hk
theorem vf {l:List PO}{p:PO}{ms:List PO}(h:Io l=some (p,ms)):p∈l/\(∀r∈l,r=p\/r∈ms)/\∀m∈ms,m∈l/\m.Uv=true:=by
 unfold Io at h;split at h
 .rename_i q hf;cases h;have hm:p∈l.filter λp => !p.Uv:=by rw[hf];simp
  refine⟨(cK.1 hm).1,λr hr=>?_,λm hm=>cK.1 hm⟩;by_cases hk:r.Uv=true
  .exact .inr (cK.2 ⟨hr,hk⟩)
  have:r∈l.filter λp => !p.Uv:=cK.2 ⟨hr,by simpa using hk⟩
  rw[hf]at this;exact .inl (by simpa using this)
 .rename_i hf;split at h
  .cases h;refine⟨by simp,λr hr=>by simpa using hr,λm hm=>⟨by simp[hm],?_⟩⟩;have:=List.filter_eq_nil_iff.1 hf m (by simp[hm]);simpa using this
  cases h
 cases h
structure Bn (ops:Array Oper)(base:Array Bool)(eV:List Nat)(listed:Array Bool):Prop where
 size:listed.size=ops.size
 get:∀j,listed.getD j false=true↔base.getD j false=true\/j∈eV
theorem Bn.D9 {base listed:Array Bool}{eV:List Nat}(h:Bn ops base eV listed)(hb:base.size=ops.size){j:Nat}(hj:j<ops.size):listed.getD j true=false↔base.getD j true=false/\j ∉ eV:=by
 have e1:listed.getD j true=listed.getD j false:=by have:=h.size;simp[Array.getD,this,hj]
 have e2:base.getD j true=base.getD j false:=by simp[Array.getD,hb,hj]
 have:=h.get j;rw[e1,e2,<-eB,<-eB,this];simp only[kQ]
theorem Bn.set {base listed:Array Bool}{eV:List Nat}(h:Bn ops base eV listed)(hb:base.size=ops.size){i:Nat}(hi:i<ops.size):Bn ops (base.setIfInBounds i true) eV (listed.setIfInBounds i true):=by
 refine⟨by simpa using h.size,λj=>?_⟩;by_cases hij:i=j
 .subst hij;have h1:i<listed.size:=by rw[h.size];exact hi
  have h2:i<base.size:=by rw[hb];exact hi
  simp[h1,h2]
 rw[getD_set_ne false hij,getD_set_ne false hij];exact h.get j
theorem Bn.owe {base listed:Array Bool}{eV:List Nat}(h:Bn ops base eV listed){i:Nat}(hi:i<ops.size):Bn ops base (i::eV) (listed.setIfInBounds i true):=by
 refine⟨by simpa using h.size,λj=>?_⟩;by_cases hij:i=j
 .subst hij;have h1:i<listed.size:=by rw[h.size];exact hi
  simp[h1]
 rw[getD_set_ne false hij,h.get];simp[jM hij]
theorem Bn.pay {base listed:Array Bool}{l1 l2:List Nat}{i:Nat}(h:Bn ops base (l1++i::l2) listed)(hb:base.size=ops.size)(hi:i<ops.size):Bn ops (base.setIfInBounds i true) (l1++l2) listed:=by
 refine⟨h.size,λj=>?_⟩;rw[h.get];have h2:i<base.size:=by rw[hb];exact hi
 by_cases hij:i=j
 .subst hij;simp[h2]
 rw[getD_set_ne false hij];simp[jM hij]
theorem K9 {listed:Array Bool}(hc:sD ops listed){j k:Nat}{o:Oper}(yX:ops[j]? = some o)(hall:∀e∈o.after,Region.binds .any e=true->listed.getD e.on false=true)(h:Reach ops j k):listed.getD k false=true:=by
 cases h with
 |one ho' he' hb'=>rw[yX]at ho';cases ho';exact hall _ he' hb'
 |more ho' he' hb' h2'=>rw[yX]at ho';cases ho';exact zZ hc h2' (hall _ he' hb')
theorem Si (_hk:fy call)(aqH:∀(j:Nat) (o:Oper) cs b,ops[j]? = some o->o.op ≠ .select cs b){pos:List PO}(hp:D8 P ops pos){af:Act}{Hf:Mem}:∀(n L:Nat) (base:Array Bool) (l:List (Oper×Bool)),vP pos n L=some l->Qy ops L base ->
 ∀m∈pos,m.Uv=true->tU L m=true->∀R a H,uu P call ops l R a H=some (af,Hf)->(rC P a.eval m.o).isSome=true:=by
 intro n;induction n with
 |zero =>
  intro L base l h hl m hmp hmk hrm R a H hd;unfold vP at h;split at h
  .rename_i hf;exact absurd hrm (List.find?_eq_none.1 hf m hmp)
  cases h
 |succ n ih =>
  intro L base l h hl m hmp hmk hrm R a H hd;have hmm:makes P m.o=true:=by rw[<-(hp.each m hmp).Uv];exact hmk
  have hmo:=(hp.each m hmp).o;have hmr:=(oN hp hl hmp).1 hrm;have go:∀{p:PO},p∈pos->m.i≠p.i->tU (tR L p.i) m=true:=λ{p} Oj hne=>by
   have hlt:p.i<ops.size:=(aB.1 (hp.each p Oj).o).1;exact(oN hp (hl.add hlt) hmp).2 (ready_mono hmr hne)
  unfold vP at h;split at h
  .rename_i p hf;have hm:=jg hf;have hqr:=List.find?_some hf;simp only[ak]at hqr;have hq:quiet P p.o.op=true:=by rw[<-(hp.each p hm).q];exact hqr.1
   have ho:=(hp.each p hm).o;have hlt:p.i<ops.size:=(aB.1 ho).1;have Un:=(oN hp hl hm).1 hqr.2;have hne:m.i≠p.i:=λe=>by
    rw[e,ho]at hmo;have e2:p.o=m.o:=bL hmo;rw[<-e2]at hmm;rw[yV hmm]at hq;cases hq
   rw[ax]at h;split at h;case isFalse=>cases h
   rename_i hfree;split at h;case h_2=>cases h
   rename_i l' hl';cases h;simp only[uu]at hd;split at hd;case h_2=>cases hd
   rename_i a1 H1 hst;obtain⟨u,rfl⟩:=lW hst;have hap:=Eb hp hl hm hfree m.i m.o hmo hne (mem_ready.1 hmr).1 (λe he hb heq=>by
    obtain⟨_,o2,Dj,hall⟩:=mem_ready.1 hmr;rw[hmo]at Dj;cases Dj;have h1:=hall e he hb;rw[heq]at h1;have h0:=(mem_ready.1 Un).1;have:base.getD p.i true=base.getD p.i false:=by have:=hl.size;simp[Array.getD,this,hlt]
    rw[this,h1]at h0;cases h0)
   rw[<-wJ (ops:=ops) a u (Oper.apart_spec hap).1];exact ih _ _ _ hl' (hl.add hlt) m hmp hmk (go hm hne) _ _ _ hd
  split at h
  .rename_i hf;have:m∈pos.filter (tU L):=cK.2 ⟨hmp,hrm⟩;rw[hf]at this;cases this
  rename_i q0 r0 hf;split at h;case h_2=>cases h
  rename_i p ms hch;obtain⟨c1,c2,c3⟩:=vf hch;rw[<-hf]at c1 c2 c3;obtain⟨hm,hr⟩:=cK.1 c1;have ho:=(hp.each p hm).o;have hlt:p.i<ops.size:=(aB.1 ho).1;rw[ax]at h;split at h;case isFalse=>cases h
  rename_i aeQ;split at h;case h_2=>cases h
  rename_i l' hl';cases h;simp only[uu]at hd;split at hd;case h_2=>cases hd
  rename_i a1 H1 hst;by_cases hne:m.i=p.i
  .rw[hne,ho]at hmo;have e2:p.o=m.o:=bL hmo;rw[e2]at hst;obtain⟨te,cs,sh,h1,_⟩:=Bm hmm hst;rw[h1];rfl
  obtain⟨u,rfl⟩:=lW hst;rcases c2 m (cK.2 ⟨hmp,hrm⟩) with rfl|hms
  .exact absurd rfl hne
  have h1:=aK.1 aeQ m hms;simp only[ak]at h1;rw[<-wJ (ops:=ops) a u (Oper.apart_spec (tv (hp.each m hmp) (hp.each p hm) h1.1.1)).2.2];exact ih _ _ _ hl' (hl.add hlt) m hmp hmk (go hm hne) _ _ _ hd
def vg (R:Option (List Nat))(RL:List (Nat×Option Nat)):Prop :=
 match R with
 |none=>True
 |some l=>∀q∈RL,∃b∈l,q.2=some b
theorem vg.next {R:Option (List Nat)}{RL:List (Nat×Option Nat)}(h:vg R RL)(ev:Operand->Value)(o:Oper):vg (qd ev o R) RL:=by
 unfold qd;split
 .split
  .rename_i l b _ _ _;exact λq hq=>by
    obtain⟨b',h1,h2⟩:=h q hq;exact⟨b',by simp[h1],h2⟩
  trivial
 rw[ax];split
 .trivial
 exact h
theorem Ok {R:Option (List Nat)}{RL:List (Nat×Option Nat)}(h:vg R RL)(a:Act)(o:Oper)(i:Nat)(hl:kX o.op=true):∃pr,QM o a pr/\vg (qd a.eval o R) ((i,pr)::RL):=by
 unfold qd;split
 .rename_i t x hop;split
  .rename_i l b off m hx;refine⟨some b,.inr ⟨b,t,x,off,m,rfl,hop,hx⟩,λq hq=>?_⟩;rcases bt.1 hq with rfl|hq
   .exact ⟨b,by simp,rfl⟩
   obtain⟨b',h1,h2⟩:=h q hq;exact⟨b',by simp[h1],h2⟩
  exact⟨none,.inl rfl,trivial⟩
 rw[ax,ag hl];exact⟨none,.inl rfl,trivial⟩
theorem Ol (hk:fy call){R:Option (List Nat)}{RL:List (Nat×Option Nat)}(h:vg R RL){o:Oper}{lk:Bool}{a:Act}{H:Mem}{r:Act×Mem}(hst:og P call ops R lk o a H=some r)(hl:lk=true):∀q∈RL,KY q.2 H r.2:=by
 intro q hq;rcases rN hst with⟨hs,hc⟩|⟨_,u,hu,rfl⟩
 .obtain ⟨s,hb,ot⟩:=hc hl;have key:∀j,(∀b off m l c,a.eval s = .slice (some ⟨b,off,m⟩) l c->j≠b)->(∀b off m,a.eval s = .pointer (some ⟨b,off,m⟩)->j≠b)->∀k,H.get j=some k->r.2.get j=some k:=λj hj hj2 k hkk=>by
   rcases hb with hb|hb
   .exact UU hb hs hj k hkk
   exact Oi hb hs hj2 k hkk
  unfold tV at ot;split at ot
  .rename_i hx;exact KY.N9 λj k hkk=>key j (λb off m l c e=>by rw[hx]at e;cases e) (λb off m e=>by rw[hx]at e;cases e) k hkk
  .rename_i b off m l c lr hx;obtain⟨b',h1,h2⟩:=h q hq;rw[h2];intro k hkk;refine key b' (λb2 off2 m2 l2 c2 e=>?_) (λb2 off2 m2 e=>by rw[hx]at e;cases e) k hkk;rw[hx]at e;cases e;have:=aK.1 ot b' h1;intro e2;rw[e2]at this;simp at this
  .rename_i b off m lr hx;obtain⟨b',h1,h2⟩:=h q hq;rw[h2];intro k hkk;refine key b' (λb2 off2 m2 l2 c2 e=>by rw[hx]at e;cases e) (λb2 off2 m2 e=>?_) k hkk;rw[hx]at e;cases e;have:=aK.1 ot b' h1;intro e2;rw[e2]at this;simp at this
  cases ot
 obtain⟨_,_,h3⟩:=KU hk hu;exact KY.N9 λj k hkk=>by
  have hlt:=Mem.eL hkk;show u.2.get j=some k;rw[h3 j hlt hlt];exact hkk
theorem Sj (hk:fy call)(hsel:∀(j:Nat) (o:Oper) cs b,ops[j]? = some o->o.op ≠ .select cs b){pos:List PO}(hp:D8 P ops pos){af:Act}{Hf:Mem}:∀(n L:Nat) (base:Array Bool) (l:List (Oper×Bool)),vP pos n L=some l->Qy ops L base->sD ops base ->
 ∀(eV:List Nat) (listed:Array Bool),Bn ops base eV listed->(∀m∈eV,m∈Region.ready .any ops base/\∃o,ops[m]? = some o/\makes P o=true)->eV.Nodup->(∀m∈eV,∀m'∈eV,m≠m'->∀o o',ops[m]? = some o->ops[m']? = some o'->o.dst≠o'.dst) ->
 ∀(RL:List (Nat×Option Nat)) (R:Option (List Nat)),(∀q∈RL,base.getD q.1 true=true/\∃o,ops[q.1]? = some o/\kX o.op=true)->vg R RL->∀a H,uu P call ops l R a H=some (af,Hf)->oM P call ops (λx y=>x=af/\y=Hf) RL none listed eV a H:=by
 intro n;induction n with
 |zero =>
  intro L base l h hl _ eV listed A7 nS _ _ RL R hRL Sk a H hd;unfold vP at h;split at h
  .rename_i hf;cases h;simp only[uu,aq]at hd;cases hd;have zY:∀i,i ∉ Region.ready .any ops base:=by
    intro i hi;obtain⟨p,hm,_,hr⟩:=Ea hp hl hi;have:=List.find?_eq_none.1 hf p hm;exact this hr
   have hpn:eV=[]:=gN.2 λm hm=>zY m (nS m hm).1
   subst hpn;refine oM.step (λ_=>⟨rfl,rfl,rfl⟩) λi hi=>absurd ?_ (zY i)
   obtain⟨h0,o,ho,hall⟩:=mem_ready.1 hi;have hlt:=(aB.1 ho).1;exact mem_ready.2 ⟨((A7.D9 hl.size hlt).1 h0).1,o,ho,λe he hb=>by simpa using (A7.get _).1 (hall e he hb)⟩
  cases h
 |succ n ih =>
  intro L base l h hl ot eV listed A7 nS hnd Gd RL R hRL Sk a H hd;have aeR:sD ops listed:=by
   intro k o ho hk' e he hb;rcases (A7.get k).1 hk' with h1|h1
   .exact (A7.get _).2 (.inl (ot k o ho h1 e he hb))
   obtain⟨_,o',ho',hall⟩:=mem_ready.1 (nS k h1).1;rw[ho]at ho';cases ho';exact(A7.get _).2 (.inl (hall e he hb))
  unfold vP at h;split at h
  .rename_i p hf;have hm:=jg hf;have hqr:=List.find?_some hf;simp only[ak]at hqr;have Un:=(oN hp hl hm).1 hqr.2;have hq:quiet P p.o.op=true:=by rw[<-(hp.each p hm).q];exact hqr.1
   have ho:=(hp.each p hm).o;have hlt:p.i<ops.size:=(aB.1 ho).1;have hnp:p.i ∉ eV:=λhpi=>by
    obtain⟨_,o,ho',hmk⟩:=nS _ hpi;rw[ho]at ho';cases ho';rw[yV hmk]at hq;cases hq
   rw[ax]at h;split at h
   .rename_i hfree;split at h
    .rename_i l' hl';cases h;simp only[uu]at hd;split at hd
     .rename_i a1 H1 hst;have hst':jl P call ops p.o a H=some (a1,H1):=by simpa[og] using hst
      obtain⟨rfl,v,rfl,hy⟩:=QY.ZW hq hst';have hfr:=Eb hp hl hm hfree;have ZY:p.i∈Region.ready .any ops listed:=by
       obtain⟨h0,o,ho',hall⟩:=mem_ready.1 Un;exact mem_ready.2 ⟨(A7.D9 hl.size hlt).2 ⟨h0,hnp⟩,o,ho',λe he hb=>(A7.get _).2 (.inl (hall e he hb))⟩
      have hno:∀m∈eV,∀o,ops[m]? = some o->∀e∈o.after,Region.binds .any e=true->e.on≠p.i:=by
       intro m hm' o ho' e he hb heq;obtain⟨_,o2,Dj,hall⟩:=mem_ready.1 (nS m hm').1;rw[ho']at Dj;cases Dj;have h1:=hall e he hb;rw[heq]at h1;have h0:=(mem_ready.1 Un).1;have:base.getD p.i true=base.getD p.i false:=by have:=hl.size;simp[Array.getD,this,hlt]
       rw[this,h1]at h0;cases h0
      have up:∀q∈RL,(base.setIfInBounds p.i true).getD q.1 true=true/\∃o,ops[q.1]? = some o/\kX o.op=true:=λq hq=>⟨by
       by_cases e:p.i=q.1
       .rw[<-e];by_cases hlt':p.i<base.size<;>simp[Array.getD,hlt']
       rw[getD_set_ne true e];exact(hRL q hq).1,(hRL q hq).2⟩
      have self:(base.setIfInBounds p.i true).getD p.i true=true:=by by_cases hlt':p.i<base.size<;>simp[Array.getD,hlt']
      have hpend':∀m∈eV,m∈Region.ready .any ops (base.setIfInBounds p.i true)/\∃o,ops[m]? = some o/\makes P o=true:=λm hm'=>⟨ready_mono (nS m hm').1 (λe=>hnp (by rw[<-e];exact hm')),(nS m hm').2⟩
      obtain⟨RL',hsub',hrd,aot⟩:∃RL',(∀q∈RL,q∈RL')/\(kX p.o.op=false\/∃pr,(p.i,pr)∈RL'/\QM p.o a pr)/\oM P call ops (λx y=>x=af/\y=Hf) RL' none (listed.setIfInBounds p.i true) eV (a.put p.o.dst v) H1:=by
       cases hld:kX p.o.op with
       |false=>exact⟨RL,λ_ h=>h,.inl rfl,ih _ _ _ hl' (hl.add hlt) (ot.add Un) eV (listed.setIfInBounds p.i true) (A7.set hl.size hlt) hpend' hnd Gd RL _ up (Sk.next _ _) _ _ hd⟩
       |true =>
        obtain⟨pr,e1,e2⟩:=Ok Sk a p.o p.i hld;exact⟨(p.i,pr)::RL,λq hq=>by simp[hq],.inr ⟨pr,by simp,e1⟩,ih _ _ _ hl' (hl.add hlt) (ot.add Un) eV (listed.setIfInBounds p.i true) (A7.set hl.size hlt) hpend' hnd Gd _ _ (λq hq=>by
         rcases bt.1 hq with rfl|hq
         .exact ⟨self,p.o,ho,hld⟩
         exact up q hq) e2 _ _ hd⟩
      refine Oh hk hsel ho hq hsub' aot listed a rfl rfl hrd ?_ hno hnp aeR ZY hy;rintro j oj yX hji (hj|hj) CW
      .exact hfr j oj yX hji ((A7.D9 hl.size (aB.1 yX).1).1 hj).1 CW
      exact hfr j oj yX hji (mem_ready.1 (nS j hj).1).1 CW
     cases hd
    cases h
   cases h
  split at h
  .rename_i hf;cases h;simp only[uu,aq]at hd;cases hd;have zY:∀i,i ∉ Region.ready .any ops base:=by
    intro i hi;obtain⟨p,hm,_,hr⟩:=Ea hp hl hi;have:p∈pos.filter (tU L):=cK.2 ⟨hm,hr⟩;rw[hf]at this;cases this
   have hpn:eV=[]:=gN.2 λm hm=>zY m (nS m hm).1
   subst hpn;refine oM.step (λ_=>⟨rfl,rfl,rfl⟩) λi hi=>absurd ?_ (zY i)
   obtain⟨h0,o,ho,hall⟩:=mem_ready.1 hi;have hlt:=(aB.1 ho).1;exact mem_ready.2 ⟨((A7.D9 hl.size hlt).1 h0).1,o,ho,λe he hb=>by simpa using (A7.get _).1 (hall e he hb)⟩
  rename_i q0 r0 hf;split at h;case h_2=>cases h
  rename_i p ms hch;obtain⟨c1,c2,c3⟩:=vf hch;rw[<-hf]at c1 c2 c3;obtain⟨hm,hr⟩:=cK.1 c1;have Un:=(oN hp hl hm).1 hr;have ho:=(hp.each p hm).o;have hlt:p.i<ops.size:=(aB.1 ho).1;rw[ax]at h;split at h;case isFalse=>cases h
  rename_i aeQ;split at h;case h_2=>cases h
  rename_i l' hl';cases h;simp only[uu]at hd;split at hd;case h_2=>cases hd
  rename_i a1 H1 hst
  -- what may wait
  have wait:∀m∈ms,m.o.apart ops p.o=true/\(∀r∈pos,bit r.pre m.i=true->Reach ops r.i p.i)/\∀m'∈ms,m.i≠m'.i->m.o.apart ops m'.o=true:=by
   intro m hmm;have hmp:=(cK.1 (c3 m hmm).1).1;have h1:=aK.1 aeQ m hmm;simp only[ak,aK,cJ,aS]at h1;refine⟨tv (hp.each m hmp) (hp.each p hm) h1.1.1,λr Zv hb=>?_,λm' hm' hne=>?_⟩
   .rcases h1.1.2 r Zv with h2|h2
    .rw[hb]at h2;cases h2
    exact(hp.each r Zv).Zr _ h2
   rcases h1.2 m' hm' with h2|h2
   .rw[aO]at h2;exact absurd h2 hne
   exact tv (hp.each m hmp) (hp.each m' (cK.1 (c3 m' hm').1).1) h2
  -- those that are ready are p,and those that may wait
  have cls:∀j∈Region.ready .any ops base,j=p.i\/∃m∈ms,m.i=j/\ops[j]? = some m.o/\makes P m.o=true:=by
   intro j hj;obtain⟨r,Zv,rfl,hrr⟩:=Ea hp hl hj;rcases c2 r (cK.2 ⟨Zv,hrr⟩) with rfl|Zs
   .exact .inl rfl
   exact .inr ⟨r,Zs,rfl,(hp.each r Zv).o,by rw[<-(hp.each r Zv).Uv];exact(c3 r Zs).2⟩
  have up:∀q∈RL,(base.setIfInBounds p.i true).getD q.1 true=true/\∃o,ops[q.1]? = some o/\kX o.op=true:=λq hq=>⟨by
   by_cases e:p.i=q.1
   .rw[<-e];by_cases hlt':p.i<base.size<;>simp[Array.getD,hlt']
   rw[getD_set_ne true e];exact(hRL q hq).1,(hRL q hq).2⟩
  by_cases Oj:p.i∈eV
  .
   -- it is done already: the row is paid
   obtain⟨l1,l2,rfl⟩:=List.append_of_mem Oj;obtain⟨_,o,ho',hmk⟩:=nS p.i Oj;rw[ho]at ho';cases ho';have hnd':p.i ∉ l1++l2/\(l1++l2).Nodup:=by
    have:=(List.perm_middle (a:=p.i) (l₁:=l1) (l₂:=l2)).nodup_iff.1 hnd;exact lO.1 this
   have hsub:∀{x},x∈l1++l2->x∈l1++p.i::l2:=λhx=>by
    rcases cz.1 hx with h1|h1
    .exact eE _ h1
    exact iN _ (bE _ h1)
   have hpl:∀m∈l1++l2,∀om,ops[m]? = some om->∀x,p.o.dst=some x->x ∉ om.looksAt ops:=by
    intro m hm' om Oe;rcases cls m (nS m (hsub hm')).1 with h2|⟨q,hqm,h2,h3,_⟩
    .exact absurd (by rw[<-h2];exact hm') hnd'.1
    rw[Oe]at h3;cases h3;exact(Oper.apart_spec (wait q hqm).1).2.2
   exact oM.pay ho hmk hst hpl (ih _ _ _ hl' (hl.add hlt) (ot.add Un) (l1++l2) listed (A7.pay hl.size hlt)
    (λm hm'=>⟨ready_mono (nS m (hsub hm')).1 (λe=>hnd'.1 (by rw[<-e];exact hm')),(nS m (hsub hm')).2⟩) hnd'.2 (λm Zw m' hm2=>Gd m (hsub Zw) m' (hsub hm2)) RL _ up (Sk.next _ _) _ _ hd)
  -- by how many may still be done ahead
  have key:∀(k:Nat) (eV:List Nat) (listed:Array Bool),cnt ops listed<=k->Bn ops base eV listed->(∀m∈eV,m∈Region.ready .any ops base/\∃o,ops[m]? = some o/\makes P o=true)->eV.Nodup->(∀m∈eV,∀m'∈eV,m≠m'->∀o o',ops[m]? = some o->ops[m']? = some o'->o.dst≠o'.dst)->p.i ∉ eV ->
   oM P call ops (λx y=>x=af/\y=Hf) RL none listed eV a H:=by
   intro k;induction k with
   |zero =>
    intro eV listed hk' A7 _ _ _ Oj;exfalso;obtain⟨h0,_⟩:=mem_ready.1 Un;have:=Qv (ops:=ops) hlt ((A7.D9 hl.size hlt).2 ⟨h0,Oj⟩);omega
   |succ k ihk =>
    intro eV listed hk' A7 nS hnd Gd Oj;have aeR:sD ops listed:=by
     intro k o ho hk' e he hb;rcases (A7.get k).1 hk' with h1|h1
     .exact (A7.get _).2 (.inl (ot k o ho h1 e he hb))
     obtain⟨_,o',ho',hall⟩:=mem_ready.1 (nS k h1).1;rw[ho]at ho';cases ho';exact(A7.get _).2 (.inl (hall e he hb))
    have aou:listed.getD p.i false=true->False:=λhh=>by
     rcases (A7.get _).1 hh with h1|h1
     .have h0:=(mem_ready.1 Un).1;have:base.getD p.i true=base.getD p.i false:=by have:=hl.size;simp[Array.getD,this,hlt]
      rw[this,h1]at h0;cases h0
     exact Oj h1
    have ZY:p.i∈Region.ready .any ops listed:=by
     obtain⟨h0,o,ho',hall⟩:=mem_ready.1 Un;exact mem_ready.2 ⟨(A7.D9 hl.size hlt).2 ⟨h0,Oj⟩,o,ho',λe he hb=>(A7.get _).2 (.inl (hall e he hb))⟩
    have back:∀j∈Region.ready .any ops listed,j∈Region.ready .any ops base/\j ∉ eV:=by
     intro j hj;obtain⟨h0,o,yX,hall⟩:=mem_ready.1 hj;have ZZ:=(aB.1 yX).1;obtain⟨b0,b1⟩:=(A7.D9 hl.size ZZ).1 h0;refine⟨mem_ready.2 ⟨b0,o,yX,λe he hb=>?_⟩,b1⟩;rcases (A7.get _).1 (hall e he hb) with h1|h1
     .exact h1
     exfalso;rcases cls _ (nS _ h1).1 with h2|⟨m,hmm,h2,_⟩
     .exact Oj (by rw[<-h2];exact h1)
     obtain⟨r,Zv,ZX⟩:=hp.all j ZZ;have hro:=(hp.each r Zv).o;rw[ZX,yX]at hro;have Sh:o=r.o:=by cases hro;rfl
     have UW:Reach ops r.i p.i:=(wait m hmm).2.1 r Zv (by
      rw[(hp.each r Zv).pre];exact(oZ r.o m.i).2 ⟨e,by rw[<-Sh];exact he,hb,h2.symm⟩)
     rw[ZX]at UW;exact aou (K9 aeR yX hall UW)
    refine oM.step (λh0=>(by rw[h0]at ZY;cases ZY)) λj hj=>?_
    obtain⟨hjb,hjp⟩:=back j hj;by_cases hji:j=p.i
    .subst hji;refine oM.sync ho hst (λq hq=>?_) (λm hm' om Oe=>?_) (ih _ _ _ hl' (hl.add hlt) (ot.add Un) eV _ (A7.set hl.size hlt) (λm hm'=>⟨ready_mono (nS m hm').1 (λe=>Oj (by rw[<-e];exact hm')),(nS m hm').2⟩) hnd Gd RL _ up (Sk.next _ _) _ _ hd)
     .cases hlk:(!NV pos L p) with
      |true=>rw[hlk]at hst;exact .inr (Ol hk Sk hst rfl q hq)
      |false =>
       obtain⟨e1,o2,e2,e3⟩:=hRL q hq;exact .inl (K7 hp hl hm (by simpa using hlk) q.1 o2 e2 e3 e1)
     rcases cls m (nS m hm').1 with h2|⟨q,hqm,h2,h3,_⟩
     .exact absurd (by rw[<-h2];exact hm') Oj
     rw[Oe]at h3;cases h3;obtain⟨p1,p2,p3⟩:=Oper.apart_spec (wait q hqm).1;exact⟨λx hx=>⟨p1 x hx,p2 x hx⟩,p3⟩
    rcases cls j hjb with h2|⟨q,hqm,h2,h3,h4⟩
    .exact absurd h2 hji
    have ZZ:=(aB.1 h3).1;have hq2:∀m∈eV,m≠j:=λm hm' e=>hjp (by rw[<-e];exact hm')
    have hdd:∀m∈eV,∀om,ops[m]? = some om->om.dst≠q.o.dst/\∀x,om.dst=some x->x ∉ q.o.looksAt ops:=by
     intro m hm' om Oe;rcases cls m (nS m hm').1 with h5|⟨q',hqm',h5,h6,_⟩
     .exact absurd (by rw[<-h5];exact hm') Oj
     rw[Oe]at h6;cases h6;obtain⟨p1,p2,_⟩:=Oper.apart_spec ((wait q' hqm').2.2 q hqm (by rw[h5,h2];exact hq2 m hm'));obtain⟨_,⟨d,hdq⟩,_⟩:=sC h4;exact⟨λe=>p2 d (by rw[e,hdq]) hdq,p1⟩
    have wH:(rC P a.eval q.o).isSome=true:=by
     obtain⟨u,rfl⟩:=lW hst;have hqp:=(cK.1 (c3 q hqm).1).1;rw[<-wJ (ops:=ops) a u (Oper.apart_spec (wait q hqm).1).2.2];exact Si hk hsel hp n _ _ _ hl' (hl.add hlt) q hqp (c3 q hqm).2 ((oN hp (hl.add hlt) hqp).2 (by rw[h2];exact ready_mono hjb hji)) _ _ _ hd
    refine oM.owe h3 h4 wH hdd (ihk (j::eV) _ (by have:=(Bl hj).2.2;omega) (A7.owe ZZ) (λm hm'=>?_) (lO.2 ⟨hjp,hnd⟩) (λm Zw m' hm2 hne o o' e1 e2=>?_) (λhpm=>?_))
    .rcases bt.1 hm' with rfl|hm'
     .exact ⟨hjb,q.o,h3,h4⟩
     exact nS m hm'
    .rcases bt.1 Zw with g1|g1
     .rw[g1,h3]at e1;cases e1;rcases bt.1 hm2 with g2|g2
      .exact absurd (g1.trans g2.symm) hne
      exact jM (hdd m' g2 o' e2).1
     rcases bt.1 hm2 with g2|g2
     .rw[g2,h3]at e2;cases e2;exact(hdd m g1 o e1).1
     exact Gd m g1 m' g2 hne o o' e1 e2
    rcases bt.1 hpm with e|hpm
    .exact hji e.symm
    exact Oj hpm
  exact key _ eV listed (aC _) A7 nS hnd Gd Oj
theorem Ec (o:Oper)(lk:Bool)(l:List (Oper×Bool))(R:Option (List Nat))(f:Fr)(H:Mem):yz P call ops.toList ((o,lk)::l) R f H=match qG P call ops.toList R lk o f H with|some (f',H')=>yz P call ops.toList l (qd f.eval o R) f' H'|none=>none:=by
 show Option.rec (motive:=λ_=>Option (Fr×Mem)) none (λr=>yz P call ops.toList l (qd f.eval o R) r.1 r.2) (qG P call ops.toList R lk o f H)=_;cases qG P call ops.toList R lk o f H with
 |none=>rfl
 |some r=>rfl
theorem GD:∀(l:List (Oper×Bool)) {R:Option (List Nat)} {f f':Fr} {a:Act} {H H':Mem},Dh f a->yz P call ops.toList l R f H=some (f',H')->∃a',uu P call ops l R a H=some (a',H')/\Dh f' a'
 |[],R,f,f',a,H,H',hr,h=>by
  have h':some (f,H)=some (f',H'):=h;cases h';exact⟨a,rfl,hr⟩
 |(o,lk)::l,R,f,f',a,H,H',hr,h=>by
  rw[Ec]at h;split at h
  .rename_i f1 H1 h1;obtain⟨a1,h2,h3⟩:=Sd hr h1;rw[hr.eval]at h;obtain⟨a',h4,h5⟩:=GD l h3 h;exact⟨a',by simp only[uu,h2];exact h4,h5⟩
  cases h
theorem UX {o:Oper}{s:Operand}(hb:mG o.op=some s){l:List Oper}{f f':Fr}{H H':Mem} (h:iA P call l o f { H with lk:=H.size }=some (f',H')) :
 iA P call l o f H=some (f',H)/\H'={ H with lk:=H.size }:=by
 unfold iA at h ⊢;rw[ax]at h ⊢;split at h
 .rename_i hw;rw[ag hw];unfold mG at hb;split at hb
  .rename_i t s' x hop;have e:∀M,jt P call f.eval o M=qt P t (f.eval s') (f.eval x) M:=λM=>by unfold jt;rw[hop]
   rw[e]at h ⊢;have key:∀{H2:Mem},su P { H with lk:=H.size } t (f.eval s') (f.eval x)=some H2->su P H t (f.eval s') (f.eval x)=some H/\H2={ H with lk:=H.size }:=by
    intro H2 hst;unfold su at hst ⊢;split at hst
    .split at hst
     .rename_i hsz;simp only[ag hsz];unfold iH at hst ⊢;split at hst
      .rename_i hem;cases hst;exact⟨ag hem,rfl⟩
      split at hst
      .split at hst
       .obtain ⟨q1,q2,q3,q4,q5⟩:=Mem.kY hst;exfalso;simp only at q1 q2;omega
       cases hst
      cases hst
     cases hst
    cases hst
   unfold qt at h ⊢;cases hst:su P { H with lk:=H.size } t (f.eval s') (f.eval x) with
   |none=>rw[hst]at h;cases h
   |some H2 =>
    obtain⟨k1,rfl⟩:=key hst;rw[hst]at h;rw[k1];unfold uh at h ⊢;simp only at h ⊢;split at h
    .rename_i f1 h1;cases h;exact⟨by simp only[h1],rfl⟩
    cases h
  cases hb
 rename_i hw;rw[aa hw];unfold uh at h ⊢;simp only at h ⊢;split at h
 .rename_i f1 h1;cases h;exact⟨by simp only[h1],rfl⟩
 cases h
theorem GF (o:Oper)(l:List Oper)(f:Fr)(H:Mem):Kt P call ops.toList (o::l) f H=match uj P call ops.toList o f H with|some (f',H')=>Kt P call ops.toList l f' H'|none=>none:=by
 show Option.rec (motive:=λ_=>Option (Fr×Mem)) none (λr=>Kt P call ops.toList l r.1 r.2) (uj P call ops.toList o f H)=_;cases uj P call ops.toList o f H with
 |none=>rfl
 |some r=>rfl
end
end Go.Ev
namespace Go.Ev
open Go.RowKit
def holds (c:Cx)(ρ:Ren)(H:Mem)(r:Nat):Prop:=r<c.B\/c.K r≠none\/∃i b x,H.get i=some b/\(b.live=true\/iS b=true)/\ρ i=some (r,x)
structure Ed (O:Nat->Prop)(W W':World):Prop where
 os:W'.os=W.os
 tape:W'.tape=W.tape
 output:W'.output=W.output
 size:W.heap.size<=W'.heap.size
 same:∀r,O r->W'.heap[r]? = W.heap[r]?
theorem ef.beside {c:Cx}{ρ:Ren}{H:Mem}{w w':World}(h:ef c ρ H w)(hb:Ed (holds c ρ H) w w'):ef c ρ H w':=by
 refine⟨⟨⟨hb.os.trans h.below.os,hb.tape.trans h.below.tape,hb.output.trans h.below.output,br h.below.size hb.size,λk hk=>(hb.same k (.inl hk)).trans (h.below.block k hk)⟩,λr o hr=>?_⟩,
  br h.base hb.size,h.dom,h.lk,h.zF,h.ju,λi b hi hl=>?_,h.inj,λi b hi hm=>?_,h.vX⟩
 .rw[hb.same r (.inr (.inl (by rw[hr];simp)))];exact h.stay.kept r o hr
 .obtain ⟨r,x,C,fr,s,h1,h2,h3,h4⟩:=h.blk i b hi hl;exact⟨r,x,C,fr,s,h1,h2,by rw[hb.same r (.inr (.inr ⟨i,b,x,hi,.inl hl,h1⟩))];exact h3,h4⟩
 obtain⟨r,es,clock,h1,h2,h3,h4⟩:=h.maps i b hi hm;exact⟨r,es,clock,h1,h2,by rw[hb.same r (.inr (.inr ⟨i,b,0,hi,.inr hm,h1⟩))];exact h3,h4⟩
theorem ef.La {c:Cx}{ρ:Ren}{H:Mem}{w:World}(h:ef c ρ H w){r:Nat}(hr:holds c ρ H r):r<w.heap.size:=by
 have lt:∀{k:Nat} {o:Obj},w.heap[k]? = some o->k<w.heap.size:=λh=>(aB.1 h).1
 rcases hr with hr|hr|⟨i,b,x,hi,hl,hρ⟩
 .exact cw hr h.base
 .cases hk:c.K r with
  |none=>exact absurd hk hr
  |some o=>exact lt (h.stay.kept r o hk)
 rcases hl with hl|hm
 .obtain ⟨r',x',C,fr,s,h1,_,h3,_⟩:=h.blk i b hi hl;rw[hρ]at h1;cases h1;exact lt h3
 obtain⟨r',es,clock,h1,_,h3,_⟩:=h.maps i b hi hm;rw[hρ]at h1;cases h1;exact lt h3
theorem ef.IL {c:Cx}{ρ:Ren}{H:Mem}{w:World}(h:ef c ρ H w){i:Nat}{b:jJ}{r x:Nat}(hi:H.get i=some b)(hl:b.live=true\/iS b=true)(hρ:ρ i=some (r,x)):c.K r=none:=by
 rcases hl with hl|hm
 .obtain ⟨r',x',C,fr,s,h1,h2,_⟩:=h.blk i b hi hl;rw[hρ]at h1;cases h1;rcases h2 with h2|h2<;>exact h2.2
 obtain⟨r',es,clock,h1,h2,_⟩:=h.maps i b hi hm;rw[hρ]at h1;cases h1;exact h2.2
open Classical in
noncomputable def z0 (c:Cx)(ρ:Ren)(H:Mem)(W:World)(r:Nat):Option Obj :=
 if c.K r≠none then c.K r else if holds c ρ H r then none else W.heap[r]?
theorem ef.hold {c:Cx}{ρ:Ren}{H:Mem}{w:World}(h:ef c ρ H w):ef (c.kp (z0 c ρ H w)) ρ H w:=by
 have no:∀{i:Nat} {b:jJ} {r x:Nat},H.get i=some b->(b.live=true\/iS b=true)->ρ i=some (r,x)->z0 c ρ H w r=none:=λ{i b r x} hi hl hρ=>by
  unfold z0;rw[aa (by rw[h.IL hi hl hρ];simp),ag (.inr (.inr ⟨i,b,x,hi,hl,hρ⟩))]
 refine⟨⟨h.below,λr o hr=>?_⟩,h.base,h.dom,h.lk,h.zF,h.ju,λi b hi hl=>?_,h.inj,λi b hi hm=>?_,h.vX⟩
 .have hr:z0 c ρ H w r=some o:=hr;unfold z0 at hr;split at hr
  .exact h.stay.kept r o hr
  split at hr
  .cases hr
  exact hr
 .obtain ⟨r,x,C,fr,s,h1,h2,h3⟩:=h.blk i b hi hl;have hn:(c.kp (z0 c ρ H w)).K r=none:=no hi (.inl hl) h1;exact⟨r,x,C,fr,s,h1,h2.imp (λg=>⟨g.1,hn⟩) (λg=>⟨g.1,hn⟩),h3⟩
 obtain⟨r,es,clock,h1,h2,h3⟩:=h.maps i b hi hm;exact⟨r,es,clock,h1,⟨h2.1,no hi (.inr hm) h1⟩,h3⟩
def qL (K:Nat->Option Obj)(m:Nat)(o:Obj):Nat->Option Obj:=λr=>if r=m then some o else K r
def Lb (K:Nat->Option Obj)(m:Nat):Nat->Option Obj:=λr=>if r=m then none else K r
theorem ef.IM {c:Cx}{ρ:Ren}{H:Mem}{w:World}{K:Nat->Option Obj}(h:ef (c.kp K) ρ H w){m:Nat}{o:Obj}(hK:K m=some o)(hB:c.B<=m)(o':Obj):ef (c.kp (qL K m o')) ρ H (w.putObj m o'):=by
 have hm:w.heap[m]? = some o:=h.stay.kept m o hK;have hlt:m<w.heap.size:=(aB.1 hm).1;have ne:∀{i:Nat} {b:jJ} {r x:Nat},H.get i=some b->(b.live=true\/iS b=true)->ρ i=some (r,x)->r≠m:=λ{i b r x} hi hl hρ e=>by
  subst e;have:=h.IL hi hl hρ;have:K r=none:=this;rw[hK]at this;cases this
 have Zx:∀r,r≠m->(w.putObj m o').heap[r]? = w.heap[r]? := λr hr=>World.putObj_heap_other hr
 have hK':∀{r:Nat},r≠m->qL K m o' r=K r:=λhr=>aa hr
 have hsz:(w.putObj m o').heap.size=w.heap.size:=by simp
 refine⟨⟨⟨h.below.os,h.below.tape,h.below.output,by rw[hsz];exact h.below.size,λk hk=>(Zx k (by have:k<c.B:=hk;omega)).trans (h.below.block k hk)⟩,λr o1 hr=>?_⟩,by rw[hsz];exact h.base,h.dom,h.lk,h.zF,h.ju,λi b hi hl=>?_,h.inj,λi b hi hb=>?_,h.vX⟩
 .have hr:qL K m o' r=some o1:=hr;by_cases e:r=m
  .subst e;unfold qL at hr;rw[ag rfl]at hr;cases hr;exact World.putObj_heap_same hlt
  rw[hK' e]at hr;rw[Zx r e];exact h.stay.kept r o1 hr
 .obtain ⟨r,x,C,fr,s,h1,h2,h3,h4⟩:=h.blk i b hi hl;have e:=ne hi (.inl hl) h1;have e2:(c.kp (qL K m o')).K r=(c.kp K).K r:=hK' e;exact⟨r,x,C,fr,s,h1,h2.imp (λg=>⟨g.1,e2.trans g.2⟩) (λg=>⟨g.1,e2.trans g.2⟩),(Zx r e).trans h3,h4⟩
 obtain⟨r,es,clock,h1,h2,h3,h4⟩:=h.maps i b hi hb;have e:=ne hi (.inr hb) h1;have e2:(c.kp (qL K m o')).K r=(c.kp K).K r:=hK' e;exact⟨r,es,clock,h1,⟨h2.1,e2.trans h2.2⟩,(Zx r e).trans h3,h4⟩
theorem ef.aeT {c:Cx}{ρ:Ren}{H:Mem}{w:World}(h:ef c ρ H w):ef { c with w0:=w } ρ H w :=
 ⟨⟨Below.refl _ _,h.stay.kept⟩,h.base,h.dom,h.lk,h.zF,h.ju,h.blk,h.inj,h.maps,h.vX⟩
theorem ef.aeU {c:Cx}{ρ:Ren}{H:Mem}{w W:World} (h:ef { c with w0:=W } ρ H w) (hb:Below c.B c.w0 W):ef c ρ H w :=
 ⟨⟨hb.trans h.below,h.stay.kept⟩,h.base,h.dom,h.lk,h.zF,h.ju,h.blk,h.inj,h.maps,h.vX⟩
def mark (m:Nat):Deferred:={ target:=.collected m,args := #[] }
def Marks (B:Nat)(K0:Nat->Option Obj):(Nat->Option Obj)->List Deferred->Prop
 |K,[]=>∀r o,K0 r=some o->K r=some o
 |K,d::D=>∃m,d=mark m/\B<=m/\K m=some (.deferred (some []))/\Marks B K0 (Lb K m) D
theorem Marks.mono {B:Nat}{K0:Nat->Option Obj}:∀{D:List Deferred} {K K':Nat->Option Obj},(∀r o,K r=some o->K' r=some o)->Marks B K0 K D->Marks B K0 K' D
 |[],K,K',h,hm=>λr o hr=>h r o (hm r o hr)
 |d::D,K,K',h,⟨m,h1,h2,h3,h4⟩=>⟨m,h1,h2,h _ _ h3,h4.mono λr o hr=>by
  unfold Lb at hr ⊢;split at hr
  .cases hr
  rename_i hne;rw[aa hne];exact h r o hr⟩
theorem Marks.push {B:Nat}{K0 K:Nat->Option Obj}{D:List Deferred}(h:Marks B K0 K D){m:Nat}(hB:B<=m)(hm:K m=none):Marks B K0 (qL K m (.deferred (some []))) (mark m::D) :=
 ⟨m,rfl,hB,ag rfl,h.mono λr o hr=>by
  have hne:r≠m:=λe=>by subst e;rw[hm]at hr;cases hr
  unfold Lb qL;rw[aa hne,aa hne];exact hr⟩
def IP (P:Program)(fid:FuncId)(s:ByteArray)(items:List Value):Prop :=
 (∀args w,(callFunc fid args).run P w = .ok (.enter fid args) w)/\∀(n l rs:Nat) (W:World) (O:Nat->Prop) (J:Nat->(Nat->Prop)->World->Prop) (Jx:(Nat->Prop)->World->Prop),9<=n ->
  W.cell? ⟨rs,0,none⟩=some (.string s)->W.frozen? ⟨rs,0,none⟩=false->¬O rs ->
  (∀i O W W',J i O W->Ed O W W'->J i O W')->(∀O W W',Jx O W->Ed O W W'->Jx O W')->(∀i O W,J i O W->∀r,O r->r<W.heap.size)->(∀O W,Jx O W->∀r,O r->r<W.heap.size) ->
  (∀i O W x,J i O W->items[i]? = some x->YieldAt Fence.wide n P l #[x] W λe W'=>∃O',W.heap.size<=W'.heap.size/\(∀r,O' r->O r\/W.heap.size<=r)/\(∀r,r<W.heap.size->¬O r->W'.heap[r]? = W.heap[r]?) /\
   ((e = .returned (.bool true)/\J (i+1) O' W')\/(e = .returned (.bool false)/\Jx O' W'))) ->
  J 0 O W->CallsIn Fence.wide n P fid #[.func (.yield l) #[] #[],.pointer (some ⟨rs,0,none⟩)] W λe W'=>(∃v,e = .returned v)/\∃O',J items.length O' W'\/Jx O' W'
section
variable {P:Program} {ops:Array Oper} {l n:Nat}
theorem ajV {Q:Exit->Act->World->Prop}(hQ:∀a w,¬Q .outgrown a w){o:Oper}(hd:sA o=true){K K':Act->World->Prop}(hK:∀a w,K a w->K' a w){a:Act}{w:World}
 (h:o.wp P a w K Q\/(o.asks P a w/\LetsOut Q)):o.wpIn (Fence.wide.inRound l) n P a w K' Q:=by
 rcases h with h|⟨_,a',w',h⟩;case inr=>exact absurd h (hQ _ _)
 have hnd:∀c,o.op ≠ .defer c:=λc e=>by unfold sA at hd;rw[e]at hd;cases hd
 refine⟨λ_ _=>trivial,?_⟩;have:(Fence.wide.inRound l).round=some l:=rfl;rw[this,Oper.semAt_some l a.eval o hnd];unfold Oper.wp at h;generalize (execOp a.eval o).run P w=r at h ⊢;have dn:(Fence.wide.inRound l).depth.isSome=true->1<=n:=λe=>by simp[Fence.wide]at e
 cases r with
 |ok x w' =>
  cases x<;>simp only[Oper.upon,Oper.uponIn]at h ⊢ <;>
   first
    |exact hK _ _ h
    |exact h.elim
    |exact⟨dn,callsIn_wide (n:=n-1) |>.2 (Calls.mono h (λe w'' he=>by cases e<;>first|exact hK _ _ he|exact he))⟩
    |exact⟨dn,λc cs _=>let ⟨v,w2,hv,hs⟩:=h c cs;⟨v,w2,hK _ _ hv,stepsIn_wide.2 hs⟩⟩
 |halt x w'=>cases x<;>simp only[Oper.upon,Oper.uponIn]at h ⊢ <;> exact h
theorem UY {Q:Exit->Act->World->Prop}(hQ:∀a w,¬Q .outgrown a w):∀(L:List Oper),L.all sA=true->∀(a:Act) (w:World),wpList P ops Q L a w->wpListIn (Fence.wide.inRound l) n P ops Q L a w
 |[],_,a,w,h=>h
 |o::L,hd,a,w,h=>by
  rw[bY,ak]at hd;have ih:=UY hQ L hd.2;simp only[wpList]at h;simp only[wpListIn];split
  .rename_i hw;rw[ag hw]at h;exact ajV hQ hd.1 ih h
  rename_i hw;rw[aa hw]at h;exact⟨λ_ _=>trivial,ih _ _ h⟩
theorem Qz {Q:Exit->Act->World->Prop}(hQ:∀a w,¬Q .outgrown a w)(hd:ops.toList.all sA=true):∀(fuel:Nat) (listed:Array Bool) (a:Act) (w:World),wpAny P .any ops Q fuel listed a w->wpAnyIn (Fence.wide.inRound l) n P .any ops Q fuel listed a w
 |0,listed,a,w,h=>h
 |fuel+1,listed,a,w,h=>by
  refine⟨h.1,λi hi=>?_⟩;have hh:=h.2 i hi;unfold wpOp at hh;unfold wpOpIn;split
  .rename_i ho;simp only[ho]at hh;exact Qz hQ hd fuel _ _ _ hh
  rename_i o ho;simp only[ho]at hh;have hod:sA o=true:=aK.1 hd o (by have:=aY ho;simpa using this);split
  .rename_i hw;rw[ag hw]at hh;exact ajV hQ hod (Qz hQ hd fuel _) hh
  rename_i hw;rw[aa hw]at hh;exact⟨λ_ _=>trivial,Qz hQ hd fuel _ _ _ hh⟩
end
end Go.Ev
namespace Go.Ev
open Go.RowKit
section
variable {P:Program} {call:cH} {ops:Array Oper} {GR:List jJ}
def Ee (K0:Nat->Option Obj)(c:Cx)(ρ:Ren)(f:Fr)(ar:Act):Prop:=∃a,Dh f a/\A5 ρ a ar/\Marks c.B K0 c.K a.defers
theorem IQ {f f1:Fr}{a a1:Act}{o:Oper}{H H1:Mem}(hr:Dh f a)(h:iA P call ops.toList o f H=some (f1,H1))(h2:jl P call ops o a H=some (a1,H1)):a1.defers=a.defers:=by
 obtain⟨u,rfl⟩:=wK h2;cases o.dst<;>rfl
theorem Cr {o:Oper}{f f':Fr}{H H':Mem}{l:List Oper}(h:uj P call l o f H=some (f',H')) :
 iA P call l o f H=some (f',H')\/∃v,nJ o l f=true/\F7 P f.eval o=some v/\f.put o.dst v=some f'/\H'=H:=by
 unfold uj at h;split at h
 .rename_i r hr;cases h;exact .inl hr
 rw[ax]at h;split at h
 .rename_i hw;unfold uh at h;split at h
  .rename_i v H1 hv;obtain⟨hv2,e2⟩:=bP hv;split at h
   .rename_i f1 hf;cases h;exact .inr ⟨v,hw,hv2,hf,e2⟩
   cases h
  cases h
 cases h
theorem UZ (hno:jd P){G:Nat}{o:Oper}{a ar:Act}{H:Mem}{v:Value}(hok:o.op.operands.toList.all (dW G)=true)(hw:Region.wanted o (yielded ops a.tmps)=true)(h:F7 P a.eval o=some v){c:Cx}(je:c.P=P)(iG:c.At G GR){w:World}{ρ:Ren}(hs:A5 ρ a ar)(he:ef c ρ H w)
 {Q:Exit->Act->World->Prop} {K:Act->World->Prop} (hK:∀ ρ' ar' w',ρ.le ρ'->A5 ρ' (a.put o.dst v) ar'->ef c ρ' H w'->K ar' w') :
 if Region.wanted o (yielded ops ar.tmps) then o.wp P ar w K Q\/(o.asks P ar w/\LetsOut Q) else K (ar.put o.dst undef) w:=by
 subst je;have hG0:=iG.g;subst hG0;have ck:EvR ρ a.eval ar.eval o.op:=λx hx=>hs.eval he.ju (aK.1 hok x (by simpa using hx))
 rw[D3 hs,ag hw];refine .inl ?_;unfold Oper.wp;obtain⟨ρ',w',v',h1,h2,h3,h4⟩:=aeJ he ck h;rcases h4 with h4|⟨h4,rfl⟩
 .rw[h4];exact hK ρ' _ _ h1 ((hs.mono h1).put o.dst h3) h2
 rw[h4];exact hK ρ' _ _ h1 ((hs.mono h1).put o.dst h3) h2
theorem IU (hno:jd P){G:Nat}(hcall:qe P G GR call){c:Cx}(je:c.P=P)(iG:c.At G GR){Q:Exit->Act->World->Prop}:∀(l:List Oper) {f f':Fr} {a ar:Act} {H H':Mem} {ρ:Ren} {w:World},(∀o∈l,o.op.operands.toList.all (dW G)=true)->Kt P call ops.toList l f H=some (f',H')->Dh f a->A5 ρ a ar->ef c ρ H w ->
 (∀ ρ' a' ar' w',ρ.le ρ'->Dh f' a'->a'.defers=a.defers->A5 ρ' a' ar'->ef c ρ' H' w'->Q .normal ar' w')->wpList P ops Q l ar w
 |[],f,f',a,ar,H,H',ρ,w,_,h,hr,hs,he,hK=>by
  have h':some (f,H)=some (f',H'):=h;cases h';exact hK ρ a ar w (Ren.le_refl _) hr rfl hs he
 |o::l,f,f',a,ar,H,H',ρ,w,hok,h,hr,hs,he,hK=>by
  rw[GF]at h;split at h
  .rename_i f1 H1 h1;rcases Cr h1 with h1|⟨v,hw,hv,hf,rfl⟩
   .obtain ⟨a1,h2,h3⟩:=ur hr h1;have hd:=IQ hr h1 h2;exact D4 (Q:=Q) hno hcall (hok o (by simp)) h2 je iG hs he fun ρ' ar' w' k1 k2 k3=>IU hno hcall je iG l (λx hx=>hok x (by simp[hx])) h h3 k2 k3 fun ρ'' a'' ar'' w'' m1 m0 md m2 m3=>hK ρ'' a'' ar'' w'' (Ren.le_trans k1 m1) m0 (md.trans hd) m2 m3
   have hd:(a.put o.dst v).defers=a.defers:=by cases o.dst<;>rfl
   rw[hr.wanted]at hw;rw[hr.eval]at hv;exact UZ (Q:=Q) hno (hok o (by simp)) hw hv je iG hs he fun ρ' ar' w' k1 k2 k3=>IU hno hcall je iG l (λx hx=>hok x (by simp[hx])) h (hr.put hf) k2 k3 fun ρ'' a'' ar'' w'' m1 m0 md m2 m3=>hK ρ'' a'' ar'' w'' (Ren.le_trans k1 m1) m0 (md.trans hd) m2 m3
  cases h
theorem Ef (hk:fy call):∀(l:List Oper) {f f':Fr} {H H':Mem},Kt P call ops.toList l f H=some (f',H')->gU H H'
 |[],f,f',H,H',h=>by
  have h':some (f,H)=some (f',H'):=h;cases h';exact .refl _
 |o::l,f,f',H,H',h=>by
  rw[GF]at h;split at h
  .rename_i f1 H1 h1;refine gU.trans ?_ (Ef hk l h);rcases Cr h1 with h1|⟨_,_,_,_,rfl⟩;case inr=>exact .refl _
   unfold iA at h1;rw[ax]at h1;split at h1
   .unfold uh at h1;split at h1
    .rename_i v H2 hop;split at h1
     .cases h1;exact Bj hk hop
     cases h1
    cases h1
   unfold uh at h1;simp only at h1;split at h1
   .cases h1;exact .refl _
   cases h1
  cases h
theorem Lc (hk:fy call){o:Oper}{R:Option (List Nat)}{lk:Bool}{f f':Fr}{H H':Mem}(h:qG P call ops.toList R lk o f H=some (f',H')):gU H H':=by
 have hst:∀{H H':Mem} {f':Fr},iA P call ops.toList o f H=some (f',H')->gU H H':=by
  intro H H' f' h1;unfold iA at h1;rw[ax]at h1;split at h1
  .unfold uh at h1;split at h1
   .rename_i v H2 hop;split at h1
    .cases h1;exact Bj hk hop
    cases h1
   cases h1
  unfold uh at h1;simp only at h1;split at h1
  .cases h1;exact .refl _
  cases h1
 unfold qG at h;rw[ax]at h;split at h
 .split at h
  .rw[ax]at h;split at h
   .exact hst h
   cases h
  rw[ax]at h;split at h
  .exact hst h
  split at h
  .rename_i f1 H1 h1;cases h;obtain⟨q1,_,q3⟩:=hst h1;exact⟨q1,rfl,λi _ hs=>q3 i hs hs⟩
  cases h
 exact hst h
theorem Cs (hk:fy call):∀(l:List (Oper×Bool)) {R:Option (List Nat)} {f f':Fr} {H H':Mem},yz P call ops.toList l R f H=some (f',H')->gU H H'
 |[],R,f,f',H,H',h=>by
  have h':some (f,H)=some (f',H'):=h;cases h';exact .refl _
 |(o,lk)::l,R,f,f',H,H',h=>by
  rw[Ec]at h;split at h
  .rename_i f1 H1 h1;exact(Lc hk h1).trans (Cs hk l h)
  cases h
def iL.exit':iL->Exit
 |.normal=>.normal
 |.exit id=>.exit id
 |.ret=>.ret
 |.goto l=>.goto l
def wL (P:Program)(G:Nat)(GR:List jJ)(g:Fr->Mem->Out)(cd:Code):Prop :=
 ∀f H lv f' H',g f H=some (lv,f',H')->gU H H'/\∀(c:Cx) (K0:Nat->Option Obj),c.P=P->c.At G GR->∀ ρ ar w,Ee K0 c ρ f ar->ef c ρ H w->∀Q:Exit->Act->World->Prop,
  (∀K' ρ' ar' w',ρ.le ρ'->Ee K0 (c.kp K') ρ' f' ar'->ef (c.kp K') ρ' H' w'->Q lv.exit' ar' w')->cd.wp P Q ar w
theorem Cx.At.kp {c:Cx}{G:Nat}(h:c.At G GR)(K:Nat->Option Obj):(c.kp K).At G GR:=⟨h.g,h.rows,h.len⟩
theorem wM (h:Gq ops.toList=true):∀(j:Nat) (o:Oper) cs b,ops[j]? = some o->o.op ≠ .select cs b:=by
 intro j o cs b hj he;have hm:o∈ops.toList:=by
  have:=aY hj;simpa using this
 have:=aK.1 h o hm;simp[he]at this
theorem Eg {r:Option (Fr×Mem)}{lv:iL}{f:Fr}{H:Mem}(h:atEnd r=some (lv,f,H)):lv = .normal/\r=some (f,H):=by
 cases r with
 |none=>cases h
 |some q =>
  have h':some (iL.normal,q.1,q.2)=some (lv,f,H):=h;cases h';exact⟨rfl,rfl⟩
theorem z6:∀(l:List (Oper×Bool)) {R:Option (List Nat)} {a a':Act} {H H':Mem},uu P call ops l R a H=some (a',H')->a'.defers=a.defers
 |[],R,a,a',H,H',h=>by
  have h':some (a,H)=some (a',H'):=h;cases h';rfl
 |(o,lk)::l,R,a,a',H,H',h=>by
  simp only[uu]at h;split at h
  .rename_i a1 H1 h1;obtain⟨u,rfl⟩:=lW h1;refine(z6 l h).trans ?_;cases o.dst<;>rfl
  cases h
theorem Ct (hno:jd P){G:Nat}(hcall:qe P G GR call)(hk:fy call){draw:Bool}{f f':Fr}{H H':Mem}{lv:iL}(h:qu P G call ops draw f H=some (lv,f',H')) :
 lv = .normal/\gU H H'/\∀(c:Cx),c.P=P->c.At G GR->∀ ρ a ar w,Dh f a->A5 ρ a ar->ef c ρ H w->∀Q:Exit->Act->World->Prop,
  (∀ ρ' a' ar' w',ρ.le ρ'->Dh f' a'->a'.defers=a.defers->A5 ρ' a' ar'->ef c ρ' H' w'->Q .normal ar' w') ->
  (draw=true->wpAny P .any ops Q ops.size (Array.replicate ops.size false) ar w.drew)/\(draw=false->wpList P ops Q ops.toList ar w):=by
 unfold qu at h;rw[ax]at h;split at h;case isFalse=>cases h
 rename_i hok;rw[ax]at h;split at h
 .rename_i hd;subst hd;cases hpl:plan P ops with
  |none=>rw[hpl]at h;cases h
  |some l =>
   rw[hpl]at h;obtain⟨rfl,hdr⟩:=Eg (r:=yz P call ops.toList l (some []) f H) h;unfold plan NW at hpl;rw[ax]at hpl;split at hpl;case isFalse=>cases hpl
   rename_i hns;refine⟨rfl,Cs hk l hdr,λc je iG ρ a ar w hr vZ he Q hQ=>⟨λ_=>?_,(λh=>by cases h)⟩⟩;obtain⟨a',hds,hr'⟩:=GD l hr hdr;have hdf:=z6 l hds;have ot:sD ops (Array.replicate ops.size false):=by
    intro k o _ hk';by_cases hlt:k<ops.size
    .simp[Array.getD,hlt]at hk'
    simp[Array.getD,hlt]at hk'
   have aeC:=Sj hk (wM hns) adq _ _ _ _ hpl Qy.zero ot [] (Array.replicate ops.size false) ⟨by simp,λj=>by simp⟩ (λm hm=>(by cases hm)) List.nodup_nil (λm hm=>(by cases hm)) [] (some []) (λq hq=>(by cases hq)) (λq hq=>(by cases hq)) a H hds;refine ZU hno hok hcall hk (wM hns) (c:=c) je iG aeC c.K [] ρ w.drew ar rfl ⟨λq hq=>(by cases hq),λr _=>rfl,List.nodup_nil,List.Pairwise.nil⟩ vZ he.drew ?_ ops.size (Qw _);rintro a'' H'' ρ' ar' w' ⟨rfl,rfl⟩ h1 h2 h3;exact hQ ρ' _ ar' w' h1 hr' hdf h2 h3
 rename_i hd;have hd':draw=false:=by simpa using hd
 subst hd';obtain⟨rfl,hop⟩:=Eg h;exact⟨rfl,Ef hk _ hop,λc je iG ρ a ar w hr hs he Q hQ=>⟨(λh=>by cases h),λ_=>IU hno hcall je iG ops.toList (λo ho=>aK.1 hok o ho) hop hr hs he hQ⟩⟩
theorem xX (hno:jd P){G:Nat}(hcall:qe P G GR call)(hk:fy call)(hm:P.follows .mixedOrders=true)(id:Nat)(draw:Bool):wL P G GR (qu P G call ops draw) (.region id ops draw):=by
 intro f H lv f' H' h;obtain⟨rfl,k1,w1⟩:=Ct hno hcall hk h;refine⟨k1,λc K0 je iG ρ ar w hs he Q hQ=>?_⟩;obtain⟨a,hr,vZ,hmk⟩:=hs;have g:=w1 c je iG ρ a ar w hr vZ he Q fun ρ' a' ar' w' m1 m2 m3 m4 m5=>hQ c.K ρ' ar' w' m1 ⟨a',m2,m4,by rw[m3];exact hmk⟩ m5
 cases draw with
 |true=>exact wp_region_any hm (g.1 rfl)
 |false=>exact wp_region_list (g.2 rfl)
def U0 (ρ:Ren)(f:Fr)(ar:Act):Prop:=∃a,Dh f a/\A5 ρ a ar/\a.defers=[]
def wN (P:Program)(G:Nat)(GR:List jJ)(l:Nat)(g:Fr->Mem->Out)(cd:Code):Prop :=
 ∀f H lv f' H',g f H=some (lv,f',H')->∀(c:Cx),c.P=P->c.At G GR->∀n ρ ar w,U0 ρ f ar->ef c ρ H w->∀Q:Exit->Act->World->Prop,
  (∀ ρ' ar' w',ρ.le ρ'->U0 ρ' f' ar'->ef c ρ' H' w'->Q lv.exit' ar' w')->cd.wpIn (Fence.wide.inRound l) n P Q ar w
theorem Ld (hno:jd P){G l:Nat}(hcall:qe P G GR call)(hk:fy call)(hm:P.follows .mixedOrders=true)(id:Nat)(draw:Bool)(hp:ops.toList.all sA=true):wN P G GR l (qu P G call ops draw) (.region id ops draw):=by
 intro f H lv f' H' h c je iG n ρ ar w hs he Q hQ;obtain⟨rfl,_,w1⟩:=Ct hno hcall hk h;obtain⟨a,hr,vZ,hmk⟩:=hs
 let Q':Exit->Act->World->Prop:=λe a w=>match e with
  |.normal=>Q .normal a w
  |_=>False
 have hQ':∀a w,¬Q' .outgrown a w:=λ_ _ h=>h
 have g:=w1 c je iG ρ a ar w hr vZ he Q' fun ρ' a' ar' w' m1 m2 m3 m4 m5=>hQ ρ' ar' w' m1 ⟨a',m2,m4,by rw[m3];exact hmk⟩ m5
 refine Go.wpIn_mono (Q:=Q') ?_ (λe a w h=>by cases e<;>first|exact h|exact h.elim);cases draw with
 |true=>exact wpIn_region_any hm (Qz hQ' hp _ _ _ _ (g.1 rfl))
 |false=>exact wpIn_region_list (UY hQ' _ hp _ _ (g.2 rfl))
theorem IV {G l:Nat}{g k:Fr->Mem->Out}{x y:Code}(hx:wN P G GR l g x)(hy:wN P G GR l k y):wN P G GR l (λf H=>andThen (g f H) k) (.seq x y):=by
 intro f H lv f' H' h0;have h:andThen (g f H) k=some (lv,f',H'):=h0;clear h0;intro c je iG n ρ ar w hs he Q hQ;unfold andThen at h;split at h
 .rename_i f1 H1 h1;exact wpIn_seq (hx _ _ _ _ _ h1 c je iG n ρ ar w hs he _ fun ρ' ar' w' m1 m2 m3=>hy _ _ _ _ _ h c je iG n ρ' ar' w' m2 m3 Q fun ρ'' ar'' w'' n1 n2 n3=>hQ ρ'' ar'' w'' (Ren.le_trans m1 n1) n2 n3)
 .rename_i id f1 H1 h1;cases h;exact wpIn_seq (hx _ _ _ _ _ h1 c je iG n ρ ar w hs he _ fun ρ' ar' w' m1 m2 m3=>hQ ρ' ar' w' m1 m2 m3)
 .rename_i f1 H1 h1;cases h;exact wpIn_seq (hx _ _ _ _ _ h1 c je iG n ρ ar w hs he _ fun ρ' ar' w' m1 m2 m3=>hQ ρ' ar' w' m1 m2 m3)
 .rename_i l f1 H1 h1;cases h;exact wpIn_seq (hx _ _ _ _ _ h1 c je iG n ρ ar w hs he _ fun ρ' ar' w' m1 m2 m3=>hQ ρ' ar' w' m1 m2 m3)
 cases h
theorem GG {G l:Nat}{g:Fr->Mem->Out}{cd:Code}(hb:wN P G GR l g cd):∀(m:Nat) f H lv f' H',yA g m f H=some (lv,f',H')->∀(c:Cx),c.P=P->c.At G GR->∀n ρ ar w,U0 ρ f ar->ef c ρ H w->∀Q:Exit->Act->World->Prop,
 (∀ ρ' ar' w',ρ.le ρ'->U0 ρ' f' ar'->ef c ρ' H' w'->Q lv.exit' ar' w')->Code.roundsIn (Fence.wide.inRound l) n P cd Q m ar w
 |0,f,H,lv,f',H',h=>by cases h
 |m+1,f,H,lv,f',H',h=>by
  intro c je iG n ρ ar w hs he Q hQ;have h0:andThen (g f H) (yA g m)=some (lv,f',H'):=h;show cd.wpIn _ n P (Exit.then (Code.roundsIn _ n P cd Q m) Q) ar w;unfold andThen at h0;split at h0
  .rename_i f1 H1 h1;exact hb _ _ _ _ _ h1 c je iG n ρ ar w hs he _ fun ρ' ar' w' m1 m2 m3=>GG hb m _ _ _ _ _ h0 c je iG n ρ' ar' w' m2 m3 Q fun ρ'' ar'' w'' n1 n2 n3=>hQ ρ'' ar'' w'' (Ren.le_trans m1 n1) n2 n3
  .rename_i id f1 H1 h1;cases h0;exact hb _ _ _ _ _ h1 c je iG n ρ ar w hs he _ fun ρ' ar' w' m1 m2 m3=>hQ ρ' ar' w' m1 m2 m3
  .rename_i f1 H1 h1;cases h0;exact hb _ _ _ _ _ h1 c je iG n ρ ar w hs he _ fun ρ' ar' w' m1 m2 m3=>hQ ρ' ar' w' m1 m2 m3
  .rename_i l f1 H1 h1;cases h0;exact hb _ _ _ _ _ h1 c je iG n ρ ar w hs he _ fun ρ' ar' w' m1 m2 m3=>hQ ρ' ar' w' m1 m2 m3
  cases h0
theorem GH (hno:jd P){G l:Nat}(hcall:qe P G GR call)(hk:fy call)(hm:P.follows .mixedOrders=true)(J:um)(rounds:Nat)(cd:Code):n9 cd=true->wN P G GR l (jQ P G call J rounds cd) cd:=by
 induction cd with
 |skip =>
  intro _ f H lv f' H' h c _ _ n ρ ar w hs he Q hQ;have h':some (iL.normal,f,H)=some (lv,f',H'):=h;cases h';exact wpIn_skip (hQ ρ ar w (Ren.le_refl _) hs he)
 |region id ops draw=>exact λhp=>Ld hno hcall hk hm id draw hp
 |seq x y Om On =>
  intro hp;have hp:(n9 x&&n9 y)=true:=hp;rw[ak]at hp;exact IV (Om hp.1) (On hp.2)
 |cond cc x y Om On =>
  intro hp;have hp:(n9 x&&n9 y)=true:=hp;rw[ak]at hp;intro f H lv f' H' h c je iG n ρ ar w hs he Q hQ;have h0:ah (dW G cc) (DS (f.eval cc) (jQ P G call J rounds x) (jQ P G call J rounds y) f H) none=some (lv,f',H'):=h;rw[ax]at h0;split at h0;case isFalse=>cases h0
  rename_i hok;unfold DS at h0;split at h0
  .rename_i b hb;have val:ar.eval cc = .bool b:=by
    obtain⟨a,hr,vZ,_⟩:=hs;have hv:=vZ.eval he.ju (x:=cc) (by rw[iG.g];exact hok);rw[<-hr.eval,hb]at hv;generalize ar.eval cc=q at hv;cases hv;rfl
   cases b with
   |true=>exact wpIn_cond_true val (Om hp.1 _ _ _ _ _ h0 c je iG n ρ ar w hs he Q hQ)
   |false=>exact wpIn_cond_false val (On hp.2 _ _ _ _ _ h0 c je iG n ρ ar w hs he Q hQ)
  cases h0
 |block id b ih =>
  intro hp f H lv f' H' h c je iG n ρ ar w hs he Q hQ;have h0:ni id (jQ P G call J rounds b f H)=some (lv,f',H'):=h;unfold ni at h0;split at h0
  .rename_i id' f1 H1 h1;rw[ax]at h0;split at h0
   .rename_i hid;cases h0;refine wpIn_block (ih hp _ _ _ _ _ h1 c je iG n ρ ar w hs he _ fun ρ' ar' w' m1 m2 m3=>?_);show (if id'=id then Q .normal ar' w' else Q (.exit id') ar' w');rw[ag (by rw[aO]at hid;exact hid)];exact hQ ρ' ar' w' m1 m2 m3
   rename_i hid;cases h0;refine wpIn_block (ih hp _ _ _ _ _ h1 c je iG n ρ ar w hs he _ fun ρ' ar' w' m1 m2 m3=>?_);show (if id'=id then Q .normal ar' w' else Q (.exit id') ar' w');rw[aa (by rw[aO]at hid;exact hid)];exact hQ ρ' ar' w' m1 m2 m3
  .rename_i f1 H1 h1;cases h0;exact wpIn_block (ih hp _ _ _ _ _ h1 c je iG n ρ ar w hs he _ fun ρ' ar' w' m1 m2 m3=>hQ ρ' ar' w' m1 m2 m3)
  .rename_i f1 H1 h1;cases h0;exact wpIn_block (ih hp _ _ _ _ _ h1 c je iG n ρ ar w hs he _ fun ρ' ar' w' m1 m2 m3=>hQ ρ' ar' w' m1 m2 m3)
  .rename_i l f1 H1 h1;cases h0;exact wpIn_block (ih hp _ _ _ _ _ h1 c je iG n ρ ar w hs he _ fun ρ' ar' w' m1 m2 m3=>hQ ρ' ar' w' m1 m2 m3)
  cases h0
 |loop b ih =>
  intro hp f H lv f' H' h c je iG n ρ ar w hs he Q hQ;exact wpIn_loop_rounds rounds (GG (ih hp) rounds f H lv f' H' h c je iG n ρ ar w hs he Q hQ)
 |exit id =>
  intro _ f H lv f' H' h c _ _ n ρ ar w hs he Q hQ;have h':some (iL.exit id,f,H)=some (lv,f',H'):=h;cases h';exact wpIn_exit (hQ ρ ar w (Ren.le_refl _) hs he)
 |ret =>
  intro _ f H lv f' H' h c _ _ n ρ ar w hs he Q hQ;have h':some (iL.ret,f,H)=some (lv,f',H'):=h;cases h';exact wpIn_ret (hQ ρ ar w (Ren.le_refl _) hs he)
 |rangeFunc=>intro hp;cases hp
 |scope b ih=>intro hp;cases hp
 |label l =>
  intro _ f H lv f' H' h c _ _ n ρ ar w hs he Q hQ;have h':some (iL.normal,f,H)=some (lv,f',H'):=h;cases h';exact wpIn_label (hQ ρ ar w (Ren.le_refl _) hs he)
 |goto l =>
  intro _ f H lv f' H' h c _ _ n ρ ar w hs he Q hQ;have h':some (iL.goto l,f,H)=some (lv,f',H'):=h;cases h';exact wpIn_goto (hQ ρ ar w (Ren.le_refl _) hs he)
 |refuse=>intro _ f H lv f' H' h;cases h
def z7 (P:Program)(call:cH):Prop :=
 ∀fid i H v H1,P.funcs[qZ fid]? = none->call (qZ fid) [.pointer (some ⟨i,0,none⟩)] H=some (v,H1)->∃(s:ByteArray) (items:Array Value) (b:jJ),v = .tuple (iB::items.toList).toArray/\alive H i=some b/\b.cells=[.string s]/\kill H i=some H1/\cG items.toList=true/\IP P fid s items.toList
theorem Cu (p:Tmp)(x y:Fr->Mem->Out)(f:Fr)(H:Mem):rK p x y f [] H=some (.normal,f,H):=rfl
theorem z8 (p:Tmp)(x y:Fr->Mem->Out)(f:Fr)(v:Value)(l:List Value)(H:Mem):rK p x y f (v::l) H=match f.put (some p) v with
 |some f1=>match x f1 H with
  |some (.normal,f2,H2)=>match y f2 H2 with
   |some (.normal,_,H3)=>rK p x y f l H3
   |some (.ret,_,H3)=>some (.ret,f,H3)
   |_=>none
  |_=>none
 |none=>none:=rfl
theorem z9 {p:Tmp}{x y:Fr->Mem->Out}{f:Fr}(hx:∀f H lv f' H',x f H=some (lv,f',H')->gU H H')(hy:∀f H lv f' H',y f H=some (lv,f',H')->gU H H'):∀(l:List Value) {H H':Mem} {lv:iL} {f':Fr},rK p x y f l H=some (lv,f',H')->gU H H'/\f'=f/\(lv = .normal\/lv = .ret)
 |[],H,H',lv,f',h=>by
  rw[Cu]at h;cases h;exact⟨.refl _,rfl,.inl rfl⟩
 |v::l,H,H',lv,f',h=>by
  rw[z8]at h;split at h;case h_2=>cases h
  split at h;case h_2=>cases h
  rename_i h2;split at h
  .rename_i h3;obtain⟨k,e⟩:=z9 hx hy l h;exact⟨((hx _ _ _ _ _ h2).trans (hy _ _ _ _ _ h3)).trans k,e⟩
  .rename_i h3;cases h;exact⟨(hx _ _ _ _ _ h2).trans (hy _ _ _ _ _ h3),rfl,.inr rfl⟩
  cases h
theorem Eh (hit:z7 P call){G:Nat}{x y:Fr->Mem->Out}{g:Operand}{ps:Array Tmp}{assign body:Code}{pl:Bool}
 (kx:∀f H lv f' H',x f H=some (lv,f',H')->gU H H') (ky:∀f H lv f' H',y f H=some (lv,f',H')->gU H H')
 (hx:pl=true->∀l,wN P G GR l x assign) (hy:pl=true->∀l,wN P G GR l y body):wL P G GR (Bb P G call g ps.toList pl x y) (.rangeFunc g ps assign body):=by
 intro f H lv f' H' h;unfold Bb at h;rw[ax]at h;split at h;case isFalse=>cases h
 rename_i hok;rw[ak]at hok;obtain⟨hok,hpl⟩:=hok;split at h;case h_2=>cases h
 rename_i p fid ta caps hps hfg;split at h;case h_2=>cases h
 rename_i i hta ajW hnone;split at h;case h_2=>cases h
 rename_i aoy H1 ot;split at h;case h_2=>cases h
 rename_i u0 itl aeV;obtain⟨s,items,b,e1,U1,hcells,fh,hfree,ajX⟩:=hit _ _ _ _ _ hnone ot;cases e1;have aeV:iB::items.toList=u0::itl:=by simpa using aeV
 cases aeV;obtain⟨hks,hff,hlv⟩:=z9 kx ky _ h;have hff:=hff.symm;subst hff;obtain⟨q1,q2,q3,q4,q5⟩:=nM fh;have hkk:gU H H1:=by
  unfold kill at fh;split at fh
  .exact .set fh
  cases fh
 refine⟨hkk.trans hks,λc K0 je iG ρ ar w hs he Q hQ=>?_⟩;subst je;obtain⟨a,hr,vZ,hmk⟩:=hs
 -- the function
 have hv:=vZ.eval he.ju (x:=g) (by rw[iG.g];exact hok);rw[<-hr.eval,hfg]at hv;obtain⟨hgi,Bc⟩:=dF U1;obtain⟨rs,rx,C,fr,sz,b1,b2,b3,b4,b5,b6,b7,b8⟩:=he.blk i b hgi Bc;have hiL:¬i<c.L:=by have:=he.lk;omega
 have hown:c.own rs:=b2.resolve_left λh=>hiL h.1
 have aoA:=b4.resolve_left hiL;have hgv:ar.eval g = .func (.func fid) #[] #[.pointer (some ⟨rs,0,none⟩)]:=by
  generalize ar.eval g=q at hv;cases hv with
  |func _ _ a' _ b' sa ha sb hb =>
   have ea:a' = #[]:=by
    have:ta.size=0:=by rw[<-lK,hta];rfl
    exact Array.size_eq_zero_iff.1 (by omega)
   have ec:caps = #[.pointer (some ⟨i,0,none⟩)]:=by rw[<-fu (xs:=caps),ajW]
   subst ec;have hs1:b'.size=1:=by simpa using sb.symm
   obtain⟨v',hb'⟩:∃v',b' = #[v']:=⟨b'[0],by
    apply Array.ext
    .simpa using hs1
    intro j h1 h2;have:j=0:=by simp at h2;omega
    subst this;rfl⟩
   subst hb';have:=hb 0 _ _ (by rfl) (by rfl);cases this with
   |ptr _ _ r' x' hr' =>
    rw[b1]at hr';cases hr';rw[ea]
 have hcell:C[0]? = some (.string s):=by
  obtain⟨v',m1,m2⟩:=b7.2 0 (.string s) (by rw[hcells];rfl) rfl;cases m2;exact m1
 have Ky:rs<w.heap.size:=(aB.1 b3).1
 -- the record
 have lt:∀{W:World} {k:Nat} {o:Obj},W.heap[k]? = some o->k<W.heap.size:=λh=>(aB.1 h).1
 have UL:ef c ρ H1 w:=he.kill fh;refine wpIn_wide (n:=20) |>.1 (wpIn_rangeFunc ?_);intro fn hfn;have hps':ps = #[p]:=by rw[<-fu (xs:=ps),hps]
 subst hps';obtain⟨rec,hrec⟩:∃rec:LoopState->Option Code->Loop,rec=λst pe=>{ state:=st,pending:=pe,fn,tmps:=ar.tmps,params := #[p],assign,body,defers:=w.heap.size }:=⟨_,rfl⟩
 obtain⟨W1,CX⟩:∃W1,(w.alloc (.deferred (some []))).alloc (.loop (rec .ready none))=W1:=⟨_,rfl⟩;obtain⟨m,hm⟩:∃m,m=w.heap.size:=⟨_,rfl⟩;have hBm:c.B<=m:=by rw[hm];exact he.base
 obtain⟨KJ,hKJ⟩:∃KJ:Loop->Nat->Option Obj,KJ=λr=>qL (qL c.K m (.deferred (some []))) (m+1) (.loop r):=⟨_,rfl⟩
 have Le:∀r k,KJ r k=if k=m+1 then some (.loop r) else if k=m then some (.deferred (some [])) else c.K k:=λr k=>by rw[hKJ];rfl
 have aoB:ef (c.kp (KJ (rec .ready none))) ρ H1 W1:=by
  have e0:=(show ef (c.kp c.K) ρ H1 w from UL).Od (.deferred (some []));have e1:=e0.Od (.loop (rec .ready none));rw[CX]at e1;refine e1.xW λr o hr=>?_
  rw[Le]at hr;rw[World.size_alloc,<-hm];exact hr
 have am6:W1.heap.size=m+2:=by rw[<-CX,World.size_alloc,World.size_alloc,hm]
 -- between two rounds
 let J:Nat->(Nat->Prop)->World->Prop:=λj O W=>∃Hj ρ',rK p x y f (items.toList.drop j) Hj=some (lv,f,H')/\gU H Hj/\ρ.le ρ'/\ef (c.kp (KJ (rec .ready none))) ρ' Hj W/\O=holds (c.kp (KJ (rec .ready none))) ρ' Hj
 let Jx:(Nat->Prop)->World->Prop:=λO W=>lv = .ret/\∃ ρ',ρ.le ρ'/\ef (c.kp (KJ (rec .done (some .ret)))) ρ' H' W/\O=holds (c.kp (KJ (rec .done (some .ret)))) ρ' H'
 have aoC:¬holds (c.kp (KJ (rec .ready none))) ρ H1 rs:=by
  rintro (h|h|⟨j,bj,xj,hj,uo,hρj⟩)
  .have:=hown.1;have h:rs<c.B:=h;omega
  .apply h;show KJ (rec .ready none) rs=none;rw[Le,aa (by omega),aa (by omega)];exact hown.2
  obtain⟨g1,g2⟩:=q3 j bj hj uo;rcases uo with uo|uo
  .exact g2 (he.inj j i bj b rs xj rx g1 uo hgi Bc hρj b1)
  obtain⟨r',es,clock,m1,m2,m3,_⟩:=he.maps j bj g1 uo;rw[hρj]at m1;cases m1;rw[b3]at m3;cases m3
 have ar0:∀r:Loop,KJ r m=some (.deferred (some [])):=λr=>by rw[Le,aa (by omega),ag rfl]
 have Aa:∀r:Loop,KJ r (m+1)=some (.loop r):=λr=>by rw[Le,ag rfl]
 have ar1:∀(r:Loop) (k:Nat),k≠m->k≠m+1->KJ r k=c.K k:=λr k h1 h2=>by rw[Le,aa h2,aa h1]
 have ajY:∀(r r':Loop) (k:Nat),k≠m+1->KJ r k=KJ r' k:=λr r' k h=>by rw[Le,Le,aa h,aa h]
 have aoD:c.K m=none:=by
  cases hc:c.K m with
  |none=>rfl
  |some o=>have:=lt (he.stay.kept m o hc);omega
 have ajZ:c.K (m+1)=none:=by
  cases hc:c.K (m+1) with
  |none=>rfl
  |some o=>have:=lt (he.stay.kept (m+1) o hc);omega
 -- one round
 have round:∀j O W v,J j O W->items.toList[j]? = some v->YieldAt Fence.wide 19 c.P (m+1) #[v] W λe W'=>∃O',W.heap.size<=W'.heap.size/\(∀r,O' r->O r\/W.heap.size<=r)/\(∀r,r<W.heap.size->¬O r->W'.heap[r]? = W.heap[r]?) /\
  ((e = .returned (.bool true)/\J (j+1) O' W')\/(e = .returned (.bool false)/\Jx O' W')):=by
  rintro j O W v ⟨Hj,ρ',hrun,hkj,hle,Z0,rfl⟩ hv;have hL:W.heap[m+1]? = some (.loop (rec .ready none)):=Z0.stay.kept (m+1) _ (Aa _);have hyd:=run_yield (P:=c.P) (args := #[v]) hL (by rw[hrec];rfl);have aj0:items.toList.drop j=v::items.toList.drop (j+1):=by
   have hlt:=(bx.1 hv).1;rw[l7 hlt];congr 1
   exact(bx.1 hv).2
  rw[aj0,z8]at hrun;split at hrun;case h_2=>cases hrun
  rename_i f1 hf1;split at hrun;case h_2=>cases hrun
  rename_i f2 H2 hxr;have aeW:aZ v=true:=oW hfree hv
  -- the frame of the round
  have aj1:U0 ρ' f1 { tmps:=((rec .ready none).params.zip #[v]).foldl (λt (t',a)=>t.setIfInBounds t' a) (rec .ready none).tmps,defers:=[] }:=by
   refine⟨{ tmps:=(a.put (some p) v).tmps,defers:=[] },?_,?_,rfl⟩
   .have:=hr.put hf1;exact⟨this.n,this.get⟩
   have h1:=(vZ.mono hle).put (some p) (dB v aeW);refine⟨?_,rfl⟩;have e:((rec .ready none).params.zip #[v]).foldl (λt (t',a)=>t.setIfInBounds t' a) (rec .ready none).tmps=(ar.put (some p) v).tmps:=by rw[hrec];simp[Act.put]
   rw[e];exact h1.tmps
  refine⟨_,_,_,_,hyd,?_⟩;have hbody:(rec .ready none).body=body:=by rw[hrec]
  have hassign:(rec .ready none).assign=assign:=by rw[hrec]
  rw[hbody,hassign];refine roundIn_of_wpIn (F:=Fence.wide) trivial ?_
  -- all other rows stay
  obtain⟨c1,hc1⟩:∃c1,c1=c.kp (KJ (rec .ready none)):=⟨_,rfl⟩;rw[<-hc1]at Z0;obtain⟨K2,hK2⟩:∃K2,K2=z0 c1 ρ' Hj W:=⟨_,rfl⟩;obtain⟨cW,hcW⟩:∃cW:Cx,cW={ c with w0:=W }:=⟨_,rfl⟩;have hbelow:Below c.B c.w0 W:=by have:=Z0.below;rw[hc1]at this;exact this
  have aeY:cW.At G GR:=by rw[hcW];exact⟨iG.g,Z0.IJ (by rw[hc1];exact iG.kp _),iG.len⟩
  have aeZ:cW.P=c.P:=by rw[hcW]
  have aoE:cW.B=c.B:=by rw[hcW]
  have ar5:cW.L=c.L:=by rw[hcW]
  have hh:ef (cW.kp K2) ρ' Hj W:=by
   have:=Z0.hold.aeT;rw[<-hK2,hc1]at this;rw[hcW];exact this
  have Oo:∀r o,KJ (rec .ready none) r=some o->K2 r=some o:=λr o h=>by
   rw[hK2];unfold z0;have:c1.K r=some o:=by rw[hc1];exact h
   rw[ag (by rw[this];simp),this]
  have ae0:∀r,r<W.heap.size->¬holds c1 ρ' Hj r->K2 r=W.heap[r]? := λr hr hn=>by
   rw[hK2];unfold z0;rw[aa (λh=>hn (.inr (.inl h))),aa hn]
  have Zw:holds c1 ρ' Hj (m+1):=.inr (.inl (by rw[hc1];show KJ _ _≠none;rw[Aa];simp));refine hx hpl (m+1) _ _ _ _ _ hxr (cW.kp K2) aeZ (aeY.kp K2) _ ρ' _ W aj1 hh _ fun ρ2 ar2 W2 le2 U2 aj2=>?_
  have hL2:W2.heap[m+1]? = some (.loop (rec .ready none)):=aj2.stay.kept (m+1) _ (Oo _ _ (Aa _));refine⟨_,run_beginRound hL2 (by rw[hrec]),?_⟩;have hB1:cW.B<=m+1:=by rw[aoE];omega
  have Z1:=ef.IM (c:=cW) aj2 (Oo _ _ (Aa _)) hB1 (.loop { rec .ready none with state:=.busy });obtain⟨K3,U3⟩:∃K3,K3=qL K2 (m+1) (.loop { rec .ready none with state:=.busy }):=⟨_,rfl⟩;rw[<-U3]at Z1;obtain⟨W3,hW3⟩:∃W3,W3=W2.putObj (m+1) (.loop { rec .ready none with state:=.busy }):=⟨_,rfl⟩;rw[<-hW3]at Z1 ⊢;have aj3:K3 (m+1)=some (.loop { rec .ready none with state:=.busy }):=by rw[U3];exact ag rfl
  have aj4:∀r,r≠m+1->K3 r=K2 r:=λr h=>by rw[U3];exact aa h
  have aj5:∀{lv3:iL} {f3:Fr} {H3:Mem},y f2 H2=some (lv3,f3,H3)->gU Hj H3:=λh=>(kx _ _ _ _ _ hxr).trans (ky _ _ _ _ _ h)
  -- what comes of it
  have fin:∀(lv3:iL) (f3:Fr) (H3:Mem) (jump:Option Code),y f2 H2=some (lv3,f3,H3)->∀(ρ4:Ren) (W4:World),ρ2.le ρ4->ef (cW.kp K3) ρ4 H3 W4 ->
   (Instr.endRound (m+1) jump).run c.P W4 = .ok (.bool jump.isNone) (W4.putObj (m+1) (.loop (rec (if jump.isNone then .ready else .done) jump))) /\
   ef (c.kp (KJ (rec (if jump.isNone then .ready else .done) jump))) ρ4 H3 (W4.putObj (m+1) (.loop (rec (if jump.isNone then .ready else .done) jump))) /\
   W.heap.size<=(W4.putObj (m+1) (.loop (rec (if jump.isNone then .ready else .done) jump))).heap.size /\
   (∀r,holds (c.kp (KJ (rec (if jump.isNone then .ready else .done) jump))) ρ4 H3 r->holds c1 ρ' Hj r\/W.heap.size<=r) /\
   (∀r,r<W.heap.size->¬holds c1 ρ' Hj r->(W4.putObj (m+1) (.loop (rec (if jump.isNone then .ready else .done) jump))).heap[r]? = W.heap[r]?):=by
   intro lv3 f3 H3 jump hyr ρ4 W4 le4 IW;have hL4:W4.heap[m+1]? = some (.loop { rec .ready none with state:=.busy }):=IW.stay.kept (m+1) _ aj3;have hend:=run_endRound (P:=c.P) jump hL4;have aoF:({ ({ rec .ready none with state:=.busy }:Loop) with state:=if jump.isNone then .ready else .done,pending:=jump }:Loop)=rec (if jump.isNone then .ready else .done) jump:=by rw[hrec]
   rw[aoF]at hend;have aj6:=ef.IM (c:=cW) IW aj3 hB1 (.loop (rec (if jump.isNone then .ready else .done) jump));obtain⟨rj,hrj⟩:∃rj,rj=rec (if jump.isNone then .ready else .done) jump:=⟨_,rfl⟩;rw[<-hrj]at hend aj6 ⊢;have aj7:ef (cW.kp (KJ rj)) ρ4 H3 (W4.putObj (m+1) (.loop rj)):=aj6.xW λr o hr=>by
    by_cases e:r=m+1
    .subst e;rw[Aa]at hr;cases hr;exact ag rfl
    unfold qL;rw[aa e,aj4 r e];rw[ajY rj (rec .ready none) r e]at hr;exact Oo r o hr
   have aoG:ef (c.kp (KJ rj)) ρ4 H3 (W4.putObj (m+1) (.loop rj)):=by
    rw[hcW]at aj7;exact ef.aeU (c:=c.kp (KJ rj)) (W:=W) aj7 hbelow
   have hsz:W.heap.size<=W4.heap.size:=by have:=IW.below.size;rw[hcW]at this;exact this
   have rest:∀r,r<W.heap.size->¬holds c1 ρ' Hj r->K3 r=W.heap[r]? := λr hr hn=>by
    rw[aj4 r (λe=>hn (by rw[e];exact Zw))];exact ae0 r hr hn
   refine⟨hend,aoG,by simp only[World.putObj,Array.size_set,Array.size_setIfInBounds];exact hsz,λr hr=>?_,λr hr hn=>?_⟩
   .rcases hr with hr|hr|⟨i1,bi,xi,g1,g2,g3⟩
    .exact .inl (.inl (by rw[hc1];exact hr))
    .refine .inl (.inr (.inl ?_));rw[hc1];show KJ (rec .ready none) r≠none;have hr:KJ rj r≠none:=hr;by_cases e:r=m+1
     .subst e;rw[Aa];simp
     rw[ajY (rec .ready none) rj r e];exact hr
    have kk:=aj5 hyr;by_cases asa:i1<c.L
    .have l1:c.L<=Hj.lk:=by have:=Z0.lk;rw[hc1]at this;exact this
     have l2:c.L<=Hj.size:=by have:=Z0.zF;rw[hc1]at this;exact this
     have g1':Hj.get i1=some bi:=by rw[<-kk.2.2 i1 (by omega) (by omega)];exact g1
     have aoH:∃x',ρ' i1=some (r,x'):=by
      rcases g2 with g2|g2
      .obtain ⟨r',x',_,_,_,m1,_⟩:=Z0.blk i1 bi g1' g2;have:=le4 _ _ (le2 _ _ m1);rw[g3]at this;cases this;exact⟨_,m1⟩
      obtain⟨r',_,_,m1,_⟩:=Z0.maps i1 bi g1' g2;have:=le4 _ _ (le2 _ _ m1);rw[g3]at this;cases this;exact⟨_,m1⟩
     obtain⟨x',hx'⟩:=aoH;exact .inl (.inr (.inr ⟨i1,bi,x',g1',g2,hx'⟩))
    by_cases hrW:r<W.heap.size
    .by_cases hh2:holds c1 ρ' Hj r
     .exact .inl hh2
     exfalso;have hK:=IW.IL g1 g2 g3;have hK:K3 r=none:=hK;rw[rest r hrW hh2]at hK;rw[bN hrW]at hK;cases hK
    exact .inr (by omega)
   have e:r≠m+1:=λe=>hn (by rw[e];exact Zw)
   rw[World.putObj_heap_other e];have hK:=rest r hr hn;rw[bN hr]at hK;have:=IW.stay.kept r _ hK;rw[this,bN hr]
  split at hrun
  .rename_i f3 H3 hyr;refine hy hpl (m+1) _ _ _ _ _ hyr (cW.kp K3) aeZ (aeY.kp K3) _ ρ2 ar2 W3 U2 Z1 _ fun ρ4 ar4 W4 le4 aoI IW=>?_
   obtain⟨d1,d2,d3,d4,d5⟩:=fin _ _ _ none hyr ρ4 W4 le4 IW;rw[hc1]at d4 d5;exact⟨_,_,d1,_,d3,d4,d5,.inl ⟨rfl,H3,ρ4,hrun,hkj.trans (aj5 hyr),Ren.le_trans hle (Ren.le_trans le2 le4),d2,rfl⟩⟩
  .rename_i f3 H3 hyr;cases hrun;refine hy hpl (m+1) _ _ _ _ _ hyr (cW.kp K3) aeZ (aeY.kp K3) _ ρ2 ar2 W3 U2 Z1 _ fun ρ4 ar4 W4 le4 aoI IW=>?_
   obtain⟨d1,d2,d3,d4,d5⟩:=fin _ _ _ (some .ret) hyr ρ4 W4 le4 IW;rw[hc1]at d4 d5;exact⟨_,_,d1,_,d3,d4,d5,.inr ⟨rfl,rfl,ρ4,Ren.le_trans hle (Ren.le_trans le2 le4),d2,rfl⟩⟩
  cases hrun
 have aj8:Below w.heap.size w W1:=by rw[<-CX];exact((Below.refl _ w).alloc (aC _) _).alloc (by simp) _
 have Z2:W1.cell? ⟨rs,0,none⟩=some (.string s):=by
  obtain⟨v',m1,m2⟩:=he.cell U1 b1 (show b.cells[0]? = some (.string s) by rw[hcells];rfl) rfl;cases m2;rw[<-m1];unfold World.cell?;simp only[aj8.block rs Ky]
 have aj9:W1.frozen? ⟨rs,0,none⟩=false:=by
  have h0:0<C.size:=(aB.1 hcell).1;have hno:=aoA.2 0 h0;unfold World.frozen?;simp only[aj8.block rs Ky,b3];simpa using hno
 refine⟨m+1,[mark m],W1,{ target:=.fn (.func fid) #[.pointer (some ⟨rs,0,none⟩)],args := #[.func (.yield (m+1)) #[] #[]] },W1,fid,#[.func (.yield (m+1)) #[] #[]] ++ #[.pointer (some ⟨rs,0,none⟩)],W1,?_,?_,?_,?_,λ_=>by omega,?_⟩
 .rw[<-CX,hrec,hm];exact run_enterLoop_outer _ _ _ _ _
 .simp only[resolve,hgv];simp[go_sem]
 .intro f' _;trivial
 .simp only[invoke];exact ajX.1 _ _
 refine(ajX.2 19 (m+1) rs W1 _ J Jx (by omega) Z2 aj9 aoC ?_ ?_ ?_ ?_ round ⟨H1,ρ,h,hkk,Ren.le_refl _,aoB,rfl⟩).mono ?_
 .rintro j O W W' ⟨Hj,ρ',k1,k2,k3,k4,rfl⟩ hb;exact⟨Hj,ρ',k1,k2,k3,k4.beside hb,rfl⟩
 .rintro O W W' ⟨k0,ρ',k3,k4,rfl⟩ hb;exact⟨k0,ρ',k3,k4.beside hb,rfl⟩
 .rintro j O W ⟨Hj,ρ',k1,k2,k3,k4,rfl⟩ r hr;exact k4.La hr
 .rintro O W ⟨k0,ρ',k3,k4,rfl⟩ r hr;exact k4.La hr
 have aka:∀(rj:Loop) (ρ':Ren) (W:World),ef (c.kp (KJ rj)) ρ' H' W->∀rj':Loop,ef (c.kp (qL c.K m (.deferred (some [])))) ρ' H' (W.putObj (m+1) (.loop rj')):=λrj ρ' W emb rj'=>by
  refine(ef.IM (c:=c) emb (Aa rj) (by omega) (.loop rj')).xW λr o hr=>?_
  by_cases e:r=m+1
  .subst e;unfold qL at hr;rw[aa (by omega),ajZ]at hr;cases hr
  have:qL (KJ rj) (m+1) (.loop rj') r=KJ rj r:=aa e;rw[this,Le,aa e];exact hr
 have U2:∀ ρ',ρ.le ρ'->Ee K0 (c.kp (qL c.K m (.deferred (some [])))) ρ' f { ar with defers:=[mark m]++ar.defers }:=fun ρ' hle =>
  ⟨{ a with defers:=mark m::a.defers },⟨hr.n,hr.get⟩,⟨(vZ.mono hle).tmps,by show mark m::ar.defers=_;rw[vZ.dr]⟩,Marks.push hmk hBm aoD⟩
 rintro e W2 ⟨⟨v,rfl⟩,O',⟨Hj,ρ',k1,k2,k3,k4,_⟩|⟨rfl,ρ',k3,k4,_⟩⟩
 .rw[List.drop_length]at k1;rw[Cu]at k1;cases k1;have hLr:W2.heap[m+1]? = some (.loop (rec .ready none)):=k4.stay.kept (m+1) _ (Aa _);have hel:=run_endLoop (P:=c.P) hLr (by rw[hrec];simp);have hp:(rec .ready none).pending=none:=by rw[hrec]
  rw[hp]at hel;refine⟨none,_,hel,?_⟩;exact hQ _ ρ' _ _ k3 (U2 ρ' k3) (aka _ _ _ k4 _)
 have hLr:W2.heap[m+1]? = some (.loop (rec .done (some .ret))):=k4.stay.kept (m+1) _ (Aa _);have hel:=run_endLoop (P:=c.P) hLr (by rw[hrec];simp);have hp:(rec .done (some .ret)).pending=some .ret:=by rw[hrec]
 rw[hp]at hel;refine⟨some .ret,_,hel,?_⟩;exact wpIn_ret (hQ _ ρ' _ _ k3 (U2 ρ' k3) (aka _ _ _ k4 _))
theorem andThen_ok {G:Nat}{g k:Fr->Mem->Out}{x y:Code}(hx:wL P G GR g x)(hy:wL P G GR k y):wL P G GR (λf H=>andThen (g f H) k) (.seq x y):=by
 intro f H lv f' H' h0;have h:andThen (g f H) k=some (lv,f',H'):=h0;clear h0;unfold andThen at h;split at h
 .rename_i f1 H1 h1;obtain⟨k1,w1⟩:=hx _ _ _ _ _ h1;obtain⟨k2,w2⟩:=hy _ _ _ _ _ h;refine⟨k1.trans k2,λc K0 je iG ρ ar w hs he Q hQ=>wp_seq (w1 c K0 je iG ρ ar w hs he _ λK1 ρ' ar' w' m1 m2 m3=>?_)⟩;exact w2 (c.kp K1) K0 je (iG.kp K1) ρ' ar' w' m2 m3 Q λK2 ρ'' ar'' w'' n1 n2 n3=>hQ K2 ρ'' ar'' w'' (Ren.le_trans m1 n1) n2 n3
 .rename_i id f1 H1 h1;cases h;obtain⟨k1,w1⟩:=hx _ _ _ _ _ h1;exact⟨k1,λc K0 je iG ρ ar w hs he Q hQ=>wp_seq (w1 c K0 je iG ρ ar w hs he _ λK1 ρ' ar' w' m1 m2 m3=>hQ K1 ρ' ar' w' m1 m2 m3)⟩
 .rename_i f1 H1 h1;cases h;obtain⟨k1,w1⟩:=hx _ _ _ _ _ h1;exact⟨k1,λc K0 je iG ρ ar w hs he Q hQ=>wp_seq (w1 c K0 je iG ρ ar w hs he _ λK1 ρ' ar' w' m1 m2 m3=>hQ K1 ρ' ar' w' m1 m2 m3)⟩
 .rename_i l f1 H1 h1;cases h;obtain⟨k1,w1⟩:=hx _ _ _ _ _ h1;exact⟨k1,λc K0 je iG ρ ar w hs he Q hQ=>wp_seq (w1 c K0 je iG ρ ar w hs he _ λK1 ρ' ar' w' m1 m2 m3=>hQ K1 ρ' ar' w' m1 m2 m3)⟩
 cases h
theorem xY {G:Nat}{g:Fr->Mem->Out}{cd:Code}(hb:wL P G GR g cd):∀(n:Nat) f H lv f' H',yA g n f H=some (lv,f',H')->gU H H'/\∀(c:Cx) (K0:Nat->Option Obj),c.P=P->c.At G GR->∀ ρ ar w,Ee K0 c ρ f ar->ef c ρ H w->∀Q:Exit->Act->World->Prop,
 (∀K' ρ' ar' w',ρ.le ρ'->Ee K0 (c.kp K') ρ' f' ar'->ef (c.kp K') ρ' H' w'->Q lv.exit' ar' w')->Code.rounds P cd Q n ar w
 |0,f,H,lv,f',H',h=>by cases h
 |n+1,f,H,lv,f',H',h=>by
  have h0:andThen (g f H) (yA g n)=some (lv,f',H'):=h;unfold andThen at h0;split at h0
  .rename_i f1 H1 h1;obtain⟨k1,w1⟩:=hb _ _ _ _ _ h1;obtain⟨k2,w2⟩:=xY hb n _ _ _ _ _ h0;refine⟨k1.trans k2,λc K0 je iG ρ ar w hs he Q hQ=>?_⟩;rw[rounds_succ];refine w1 c K0 je iG ρ ar w hs he _ λK1 ρ' ar' w' m1 m2 m3=>?_
   exact w2 (c.kp K1) K0 je (iG.kp K1) ρ' ar' w' m2 m3 Q λK2 ρ'' ar'' w'' n1 n2 n3=>hQ K2 ρ'' ar'' w'' (Ren.le_trans m1 n1) n2 n3
  .rename_i id f1 H1 h1;cases h0;obtain⟨k1,w1⟩:=hb _ _ _ _ _ h1;refine⟨k1,λc K0 je iG ρ ar w hs he Q hQ=>?_⟩;rw[rounds_succ];exact w1 c K0 je iG ρ ar w hs he _ λK1 ρ' ar' w' m1 m2 m3=>hQ K1 ρ' ar' w' m1 m2 m3
  .rename_i f1 H1 h1;cases h0;obtain⟨k1,w1⟩:=hb _ _ _ _ _ h1;refine⟨k1,λc K0 je iG ρ ar w hs he Q hQ=>?_⟩;rw[rounds_succ];exact w1 c K0 je iG ρ ar w hs he _ λK1 ρ' ar' w' m1 m2 m3=>hQ K1 ρ' ar' w' m1 m2 m3
  .rename_i l f1 H1 h1;cases h0;obtain⟨k1,w1⟩:=hb _ _ _ _ _ h1;refine⟨k1,λc K0 je iG ρ ar w hs he Q hQ=>?_⟩;rw[rounds_succ];exact w1 c K0 je iG ρ ar w hs he _ λK1 ρ' ar' w' m1 m2 m3=>hQ K1 ρ' ar' w' m1 m2 m3
  cases h0
def within (c:Code)(J:Code->Act->World->Prop)(Q:Exit->Act->World->Prop):Exit->Act->World->Prop
 |.goto l,a,w=>match findLabel c l with
  |some rest=>J rest a w
  |none=>Q (.goto l) a w
 |e,a,w=>Q e a w
def jumps (P:Program)(c:Code)(Q:Exit->Act->World->Prop):Nat->Code->Act->World->Prop
 |0,_,_,_=>False
 |n+1,d,a,w=>d.wp P (within c (jumps P c Q n) Q) a w
theorem wp_scope_within {c:Code}{Q:Exit->Act->World->Prop}{a:Act}{w:World}(n:Nat)(h:jumps P c Q n c a w):(Code.scope c).wp P Q a w:=by
 intro b k cs;have key:∀n d a w,jumps P c Q n d a w->∃e a' w',Q e a' w'/\Arrives P (lone (b.at a (.code d :: .inScope c::k)) cs w) b k cs e a' w':=by
  intro n;induction n with
  |zero=>intro d a w h;exact h.elim
  |succ n ih =>
   intro d a w h;obtain⟨e,a₁,w₁,hq,harr⟩:=h b (.inScope c::k) cs;cases e with
   |normal=>exact⟨.normal,a₁,w₁,hq,Steps.trans harr (.one step_inScope)⟩
   |exit id=>exact⟨.exit id,a₁,w₁,hq,λk' hk=>harr k' (by simp[exitTo,hk])⟩
   |goto l =>
    cases hf:findLabel c l with
    |some rest =>
     simp only[within,hf]at hq;obtain⟨e₂,a₂,w₂,hq₂,harr₂⟩:=ih rest a₁ w₁ hq;exact⟨e₂,a₂,w₂,hq₂,.of_steps (harr _ (by simp[gotoIn,hf])) harr₂⟩
    |none =>
     simp only[within,hf]at hq;exact⟨.goto l,a₁,w₁,hq,λk' hk=>harr k' (by simp[gotoIn,hf,hk])⟩
   |ret=>exact⟨_,a₁,w₁,hq,harr⟩
   |panic ch=>exact⟨_,a₁,w₁,hq,harr⟩
   |outgrown=>exact⟨_,a₁,w₁,hq,harr⟩
 obtain⟨e,a',w',hq,harr⟩:=key n c a w h;exact⟨e,a',w',hq,.of_steps (.one step_scope) harr⟩
def Oq (P:Program)(G:Nat)(GR:List jJ)(n:Nat)(J:um):Prop :=
 ∀s rest f H lv f' H',J s rest f H=some (lv,f',H')->gU H H'/\∀(c:Cx) (K0:Nat->Option Obj),c.P=P->c.At G GR->∀ ρ ar w,Ee K0 c ρ f ar->ef c ρ H w->∀Q:Exit->Act->World->Prop,
  (∀K' ρ' ar' w',ρ.le ρ'->Ee K0 (c.kp K') ρ' f' ar'->ef (c.kp K') ρ' H' w'->Q lv.exit' ar' w')->jumps P s Q n rest ar w
theorem yF {G n:Nat}{J:um}(hJ:Oq P G GR n J){g:Fr->Mem->Out}{d:Code}(hd:wL P G GR g d)(s:Code)(f:Fr)(H:Mem)(lv:iL)(f':Fr)(H':Mem)(h:lQ s J (g f H)=some (lv,f',H')) :
 gU H H'/\∀(c:Cx) (K0:Nat->Option Obj),c.P=P->c.At G GR->∀ ρ ar w,Ee K0 c ρ f ar->ef c ρ H w->∀Q:Exit->Act->World->Prop,
 (∀K' ρ' ar' w',ρ.le ρ'->Ee K0 (c.kp K') ρ' f' ar'->ef (c.kp K') ρ' H' w'->Q lv.exit' ar' w')->jumps P s Q (n+1) d ar w:=by
 unfold lQ at h;split at h
 .rename_i l f1 H1 h1;obtain⟨k1,w1⟩:=hd _ _ _ _ _ h1;split at h
  .rename_i rest hf;obtain⟨k2,w2⟩:=hJ _ _ _ _ _ _ _ h;refine⟨k1.trans k2,λc K0 je iG ρ ar w hs he Q hQ=>w1 c K0 je iG ρ ar w hs he _ λK1 ρ' ar' w' m1 m2 m3=>?_⟩;show within s (jumps P s Q n) Q (.goto l) ar' w';simp only[within,hf];exact w2 (c.kp K1) K0 je (iG.kp K1) ρ' ar' w' m2 m3 Q λK2 ρ'' ar'' w'' n1 n2 n3=>hQ K2 ρ'' ar'' w'' (Ren.le_trans m1 n1) n2 n3
  rename_i hf;cases h;refine⟨k1,λc K0 je iG ρ ar w hs he Q hQ=>w1 c K0 je iG ρ ar w hs he _ λK1 ρ' ar' w' m1 m2 m3=>?_⟩;show within s (jumps P s Q n) Q (.goto l) ar' w';simp only[within,hf];exact hQ K1 ρ' ar' w' m1 m2 m3
 .rename_i f1 H1 h1;cases h;obtain⟨k1,w1⟩:=hd _ _ _ _ _ h1;exact⟨k1,λc K0 je iG ρ ar w hs he Q hQ=>w1 c K0 je iG ρ ar w hs he _ λK1 ρ' ar' w' m1 m2 m3=>hQ K1 ρ' ar' w' m1 m2 m3⟩
 .rename_i id f1 H1 h1;cases h;obtain⟨k1,w1⟩:=hd _ _ _ _ _ h1;exact⟨k1,λc K0 je iG ρ ar w hs he Q hQ=>w1 c K0 je iG ρ ar w hs he _ λK1 ρ' ar' w' m1 m2 m3=>hQ K1 ρ' ar' w' m1 m2 m3⟩
 .rename_i f1 H1 h1;cases h;obtain⟨k1,w1⟩:=hd _ _ _ _ _ h1;exact⟨k1,λc K0 je iG ρ ar w hs he Q hQ=>w1 c K0 je iG ρ ar w hs he _ λK1 ρ' ar' w' m1 m2 m3=>hQ K1 ρ' ar' w' m1 m2 m3⟩
 cases h
theorem Lf (hno:jd P){G:Nat}(hcall:qe P G GR call)(hit:z7 P call)(hk:fy call)(hm:P.follows .mixedOrders=true){n:Nat}{J:um}(hJ:Oq P G GR n J)(rounds:Nat)(cd:Code):wL P G GR (jQ P G call J rounds cd) cd:=by
 induction cd with
 |skip =>
  intro f H lv f' H' h;have h':some (iL.normal,f,H)=some (lv,f',H'):=h;cases h';exact⟨.refl _,λc K0 _ _ ρ ar w hs he Q hQ=>wp_skip (hQ c.K ρ ar w (Ren.le_refl _) hs he)⟩
 |region id ops draw=>exact xX hno hcall hk hm id draw
 |seq x y Om On=>exact andThen_ok Om On
 |cond cc x y Om On =>
  intro f H lv f' H' h;have h0:ah (dW G cc) (DS (f.eval cc) (jQ P G call J rounds x) (jQ P G call J rounds y) f H) none=some (lv,f',H'):=h;rw[ax]at h0;split at h0;case isFalse=>cases h0
  rename_i hok;unfold DS at h0;split at h0
  .rename_i b hb;have val:∀{c:Cx} {K0:Nat->Option Obj} {ρ:Ren} {ar:Act} {w:World},c.At G GR->Ee K0 c ρ f ar->ef c ρ H w->ar.eval cc = .bool b:=by
    intro c K0 ρ ar w iG hs he;obtain⟨a,hr,vZ,_⟩:=hs;have hv:=vZ.eval he.ju (x:=cc) (by rw[iG.g];exact hok);rw[<-hr.eval,hb]at hv;generalize ar.eval cc=q at hv;cases hv;rfl
   cases b with
   |true =>
    obtain⟨k1,w1⟩:=Om _ _ _ _ _ h0;exact⟨k1,λc K0 je iG ρ ar w hs he Q hQ=>wp_cond_true (val iG hs he) (w1 c K0 je iG ρ ar w hs he Q hQ)⟩
   |false =>
    obtain⟨k1,w1⟩:=On _ _ _ _ _ h0;exact⟨k1,λc K0 je iG ρ ar w hs he Q hQ=>wp_cond_false (val iG hs he) (w1 c K0 je iG ρ ar w hs he Q hQ)⟩
  cases h0
 |block id b ih =>
  intro f H lv f' H' h;have h0:ni id (jQ P G call J rounds b f H)=some (lv,f',H'):=h;unfold ni at h0;split at h0
  .rename_i id' f1 H1 h1;obtain⟨k1,w1⟩:=ih _ _ _ _ _ h1;rw[ax]at h0;split at h0
   .rename_i hid;cases h0;refine⟨k1,λc K0 je iG ρ ar w hs he Q hQ=>wp_block (w1 c K0 je iG ρ ar w hs he _ λK1 ρ' ar' w' m1 m2 m3=>?_)⟩;show (if id'=id then Q .normal ar' w' else Q (.exit id') ar' w');rw[ag (by rw[aO]at hid;exact hid)];exact hQ K1 ρ' ar' w' m1 m2 m3
   rename_i hid;cases h0;refine⟨k1,λc K0 je iG ρ ar w hs he Q hQ=>wp_block (w1 c K0 je iG ρ ar w hs he _ λK1 ρ' ar' w' m1 m2 m3=>?_)⟩;show (if id'=id then Q .normal ar' w' else Q (.exit id') ar' w');rw[aa (by rw[aO]at hid;exact hid)];exact hQ K1 ρ' ar' w' m1 m2 m3
  .rename_i f1 H1 h1;cases h0;obtain⟨k1,w1⟩:=ih _ _ _ _ _ h1;exact⟨k1,λc K0 je iG ρ ar w hs he Q hQ=>wp_block (w1 c K0 je iG ρ ar w hs he _ λK1 ρ' ar' w' m1 m2 m3=>hQ K1 ρ' ar' w' m1 m2 m3)⟩
  .rename_i f1 H1 h1;cases h0;obtain⟨k1,w1⟩:=ih _ _ _ _ _ h1;exact⟨k1,λc K0 je iG ρ ar w hs he Q hQ=>wp_block (w1 c K0 je iG ρ ar w hs he _ λK1 ρ' ar' w' m1 m2 m3=>hQ K1 ρ' ar' w' m1 m2 m3)⟩
  .rename_i l f1 H1 h1;cases h0;obtain⟨k1,w1⟩:=ih _ _ _ _ _ h1;exact⟨k1,λc K0 je iG ρ ar w hs he Q hQ=>wp_block (w1 c K0 je iG ρ ar w hs he _ λK1 ρ' ar' w' m1 m2 m3=>hQ K1 ρ' ar' w' m1 m2 m3)⟩
  cases h0
 |loop b ih =>
  intro f H lv f' H' h;obtain⟨k1,w1⟩:=xY ih rounds f H lv f' H' h;exact⟨k1,λc K0 je iG ρ ar w hs he Q hQ=>wp_loop_rounds rounds (w1 c K0 je iG ρ ar w hs he Q hQ)⟩
 |exit id =>
  intro f H lv f' H' h;have h':some (iL.exit id,f,H)=some (lv,f',H'):=h;cases h';exact⟨.refl _,λc K0 _ _ ρ ar w hs he Q hQ=>wp_exit (hQ c.K ρ ar w (Ren.le_refl _) hs he)⟩
 |ret =>
  intro f H lv f' H' h;have h':some (iL.ret,f,H)=some (lv,f',H'):=h;cases h';exact⟨.refl _,λc K0 _ _ ρ ar w hs he Q hQ=>wp_ret (hQ c.K ρ ar w (Ren.le_refl _) hs he)⟩
 |rangeFunc g ps a b Uw Ux =>
  refine Eh hit (λf H lv f' H' h=>(Uw f H lv f' H' h).1) (λf H lv f' H' h=>(Ux f H lv f' H' h).1) (λhp l=>?_) (λhp l=>?_)
  .rw[ak]at hp;exact GH hno hcall hk hm J rounds a hp.1
  rw[ak]at hp;exact GH hno hcall hk hm J rounds b hp.2
 |scope b ih =>
  intro f H lv f' H' h;have h0:lQ b J (jQ P G call J rounds b f H)=some (lv,f',H'):=h;obtain⟨k1,w1⟩:=yF hJ ih b f H lv f' H' h0;exact⟨k1,λc K0 je iG ρ ar w hs he Q hQ=>wp_scope_within (n+1) (w1 c K0 je iG ρ ar w hs he Q hQ)⟩
 |label l =>
  intro f H lv f' H' h;have h':some (iL.normal,f,H)=some (lv,f',H'):=h;cases h';exact⟨.refl _,λc K0 _ _ ρ ar w hs he Q hQ=>wp_label (hQ c.K ρ ar w (Ren.le_refl _) hs he)⟩
 |goto l =>
  intro f H lv f' H' h;have h':some (iL.goto l,f,H)=some (lv,f',H'):=h;cases h';exact⟨.refl _,λc K0 _ _ ρ ar w hs he Q hQ=>wp_goto (hQ c.K ρ ar w (Ren.le_refl _) hs he)⟩
 |refuse=>intro f H lv f' H' h;cases h
theorem Bo (hno:jd P){G:Nat}(hcall:qe P G GR call)(hit:z7 P call)(hk:fy call)(hm:P.follows .mixedOrders=true)(rounds:Nat):∀n,Oq P G GR n (uZ P G call rounds n)
 |0=>λ_ _ _ _ _ _ _ h=>by cases h
 |n+1=>λs rest f H lv f' H' h=>by
  have h0:lQ s (uZ P G call rounds n) (jQ P G call (uZ P G call rounds n) rounds rest f H)=some (lv,f',H'):=h;exact yF (Bo hno hcall hit hk hm rounds n) (Lf hno hcall hit hk hm (Bo hno hcall hit hk hm rounds n) rounds rest) s f H lv f' H' h0
def mh (tmps:Array Value):ResultVar->Sem Value
 |.tmp t=>pure (tmps.getD t undef)
 |.cell x t=>do loadVar t (<- asAddr (tmps.getD x undef))
theorem Bq {c:Cx}{w:World}{ρ:Ren}{H:Mem}(he:ef c ρ H w){f:Fr}{a ar:Act}(hr:Dh f a)(hs:A5 ρ a ar){r:ResultVar}{v:Value}(h:zK c.P H f r=some v) :
 ∃v',bG ρ v v'/\(mh ar.tmps r).run c.P w = .ok v' w:=by
 cases r with
 |tmp t =>
  simp only[zK,aq]at h;subst h;rw[hr.get];exact⟨_,hs.tmps.getD t .undef,rfl⟩
 |cell x t =>
  simp only[zK]at h;rw[hr.get]at h;have hx:=hs.tmps.getD x .undef;obtain⟨v',h1,h2⟩:=Qo he hx h;refine⟨v',h2,?_⟩;unfold rB at h;split at h
  .rename_i i off heq;rw[heq]at hx;simp only[mh];generalize ar.tmps.getD x undef=q at hx h1 ⊢;cases hx with
   |ptr _ _ r y hr =>
    simp only[Instr.loadAt,Instr.sureAddr,Sem.run_bind,Sem.run_pure,Result.andThen_ok]at h1;simp only[asAddr,Sem.run_bind,Sem.run_pure,Result.andThen_ok];exact h1
  cases h
theorem Ab {c:Cx}{w:World}{ρ:Ren}{H:Mem}(he:ef c ρ H w){f:Fr}{a ar:Act}(hr:Dh f a)(hs:A5 ρ a ar):∀(rs:List ResultVar) {l:List Value},ko c.P H f rs=some l ->
 ∃l',LR (bG ρ) l l'/\(rs.mapM (mh ar.tmps)).run c.P w = .ok l' w
 |[],l,h=>by
  simp only[ko,aq]at h;subst h;exact⟨[],.nil,by simp⟩
 |r::rs,l,h=>by
  simp only[ko]at h;split at h
  .rename_i v vs hv hvs;cases h;obtain⟨v',h1,h2⟩:=Bq he hr hs hv;obtain⟨l',h3,h4⟩:=Ab he hr hs rs hvs;refine⟨v'::l',LR.cons h1 h3,?_⟩;rw[List.mapM_cons];simp only[Sem.run_bind,Sem.run_pure];rw[h2];simp only[Result.andThen_ok];rw[h4];rfl
  cases h
theorem vh {c:Cx}{w:World}{ρ:Ren}{H:Mem}(he:ef c ρ H w){f:Fr}{a ar:Act}(hr:Dh f a)(vZ:A5 ρ a ar){fn:Func}{l:List Value}(h:ko c.P H f fn.results.toList=some l) :
 ∃v',bG ρ (wz l) v'/\(results fn ar.tmps).run c.P w = .ok v' w:=by
 obtain⟨l',h1,h2⟩:=Ab he hr vZ _ h;have hrun:(results fn ar.tmps).run c.P w = .ok (if hh:l'.toArray.size=1 then l'.toArray[0] else .tuple l'.toArray) w:=by
  have e:results fn ar.tmps=(do let vs <- fn.results.mapM (mh ar.tmps);pure (if h:vs.size=1 then vs[0] else .tuple vs)):=rfl;rw[e,Array.mapM_eq_mapM_toList];simp only[Sem.run_bind,Sem.run_map];rw[h2];rfl
 refine⟨_,?_,hrun⟩
 match l,h1 with
 |[],h1=>rw[h1.Gr];exact .tuple _ _ rfl (λi x y hx=>by simp at hx)
 |[v],h1 =>
  obtain⟨v',t',rfl,hv,ht⟩:=h1.wB;rw[ht.Gr];exact hv
 |v::u::t,h1 =>
  obtain⟨v',t',rfl,hv,ht⟩:=h1.wB;obtain⟨u',t'',rfl,hu,ht'⟩:=ht.wB;have:¬((v'::u'::t'').toArray.size=1):=by simp
  rw[dif_neg this];have hA:=h1.array;exact .tuple _ _ hA.1 hA.2
theorem GI:∀(l:List Value) {f f':Fr} {i:Nat},f.fill i l=some f'->f'.n=f.n/\∀j,f'.get j=if i<=j/\j<i+l.length/\j<f.n then (l[j-i]?).getD undef else f.get j
 |[],f,f',i,h=>by
  simp only[Fr.fill,aq]at h;subst h;exact⟨rfl,λj=>by rw[aa];simp;omega⟩
 |v::l,f,f',i,h=>by
  simp only[Fr.fill]at h;split at h
  .rename_i f1 h1;obtain⟨e1,e2⟩:=Fr.gB h1;obtain⟨e3,e4⟩:=GI l h;refine⟨by rw[e3,e1],λj=>?_⟩;rw[e4,e2,e1];simp only[aq,aJ];by_cases hj:i+1<=j/\j<i+1+l.length/\j<f.n
   .rw[ag hj,ag (by omega)];have:j-i=(j-(i+1))+1:=by omega
    rw[this];simp
   rw[aa hj];by_cases hij:i=j/\j<f.n
   .obtain ⟨rfl,hlt⟩:=hij;rw[ag ⟨rfl,hlt⟩,ag (by omega)];simp
   rw[aa hij,aa (by omega)]
  cases h
theorem Ei {α:Type}:∀(d j:Nat),(Tr.full d:Tr α).get j=none
 |0,_=>rfl
 |d+1,j=>by
  show (Tr.n (Tr.full d) none (Tr.full d)).get j=none;rw[Tr.wC,Ei d,Ei d];simp
structure U4 (r:Nat)(w w':World):Prop where
 below:∀B,B<=r->Below B w w'
 rows:∀k,k≠r->k<w.heap.size->w'.heap[k]? = w.heap[k]?
 size:w.heap.size<=w'.heap.size
def ae1 (P:Program)(f:FuncId)(u:Value):Prop:=∀(w:World) (r n:Nat) (t:TypeId) (fr:Nat×Nat) (C:Array Value),w.heap[r]? = some (.cells C t fr)->qH C fr->n<=C.size->C.size<9223372036854775808->P.underlying t=some (.int .u8) ->
 (∀(j:Nat) v,C[j]? = some v->∃k:Int,v = .int .u8 k)->Calls P f #[.slice (some ⟨r,0,none⟩) n C.size] w λe w'=>e = .returned u/\U4 r w w'
theorem ef.turned {c:Cx}{ρ:Ren}{H:Mem}{w w':World}(h:ef c ρ H w){r:Nat}(hr:c.own r)(ht:U4 r w w')(hc:∃C t fr,w.heap[r]? = some (.cells C t fr))(hne:∀i b x y,H.get i=some b->b.live=true->ρ i=some (x,y)->x≠r):ef c ρ H w':=by
 have lt:∀{k:Nat} {o:Obj},w.heap[k]? = some o->k<w.heap.size:=λh=>(aB.1 h).1
 obtain⟨C0,t0,fr0,hC0⟩:=hc;refine⟨⟨h.stay.below.trans (ht.below _ hr.1),λk o hk=>?_⟩,br h.base ht.size,h.dom,h.lk,h.zF,h.ju,λi b hi hl=>?_,h.inj,λi b hi hm=>?_,h.vX⟩
 .have h1:=h.stay.kept k o hk;rw[ht.rows k (λe=>by subst e;rw[hr.2]at hk;cases hk) (lt h1)];exact h1
 .obtain ⟨q,x,C,fr,s,h1,h2,h3,h4⟩:=h.blk i b hi hl;exact⟨q,x,C,fr,s,h1,h2,by rw[ht.rows q (hne i b q x hi hl h1) (lt h3)];exact h3,h4⟩
 refine(h.maps i b hi hm).heap λq es clock hh=>?_
 rw[ht.rows q (λe=>by subst e;rw[hC0]at hh;cases hh) (lt hh)];exact hh
theorem Lg {t:TypeId}(h:Ip P t=true):P.underlying t=some (.int .u8)/\mc P t=some (.int .u8 0)/\cR P t=some 1:=by
 unfold Ip at h;split at h
 .rename_i h1 h2 h3;exact⟨h1,h2,h3⟩
 cases h
theorem U5 {v:Value}(h:Ku v=true):∃k:Int,v = .int .u8 k:=by
 unfold Ku at h;split at h
 .exact ⟨_,rfl⟩
 cases h
structure kq (P:Program)(GR:List jJ)(K:fe):Prop where
 calls:∀f args v,K f args=some v->cG args=true->∀w,lg GR w->Calls P f args.toArray w λe w'=>e = .returned v/\Below w.heap.size w w'
 U6:∀f u,K f pM=some u->ae1 P f u
 U7:∀f s items,K (qZ f) [iB,.string s]=some (.tuple items)->cG items.toList=true->IP P f s items.toList
abbrev xZ (P:Program)(K:fe):Prop:=kq P [] K
theorem xZ.of {K:fe}(h0:∀f,K f pM=none)(h1:∀f s,K (qZ f) [iB,.string s]=none)(h:∀f args v,K f args=some v->∀w,Calls P f args.toArray w λe w'=>e = .returned v/\Below w.heap.size w w'):xZ P K :=
 ⟨λf args v hk _ w _=>h f args v hk w,(λf u hk=>by rw[h0]at hk;cases hk),(λf s items hk=>by rw[h1]at hk;cases hk)⟩
theorem vi:xZ P qv:=.of (λ_=>rfl) (λ_ _=>rfl) λ_ _ _ h=>by simp[qv]at h
theorem LR.lS {ρ:Ren}{l l':List Value}(h:LR (bG ρ) l l')(hf:cG l=true):l'=l:=by
 apply kf;intro i;by_cases hi:i<l.length
 .have hi':i<l'.length:=h.1 ▸ hi;have hr:=h.2 i _ _ (aP hi) (aP hi');rw[aP hi,aP hi',Ev.lS hr (oW hf (aP hi))]
 rw[dK (eZ hi),dK (eZ (h.1 ▸ hi))]
theorem Lh {fn:Func}{r:Out}{v:Value}{H':Mem}(h:Df P fn r=some (v,H')):∃lv f l,r=some (lv,f,H')/\(lv = .normal\/lv = .ret)/\ko P H' f fn.results.toList=some l/\v=wz l:=by
 unfold Df at h;split at h
 .rename_i f H1;obtain⟨h1,rfl⟩:=bP h;simp only[aL]at h1;obtain⟨l,hl,rfl⟩:=h1;exact⟨_,_,_,rfl,.inl rfl,hl,rfl⟩
 .rename_i f H1;obtain⟨h1,rfl⟩:=bP h;simp only[aL]at h1;obtain⟨l,hl,rfl⟩:=h1;exact⟨_,_,_,rfl,.inr rfl,hl,rfl⟩
 cases h
theorem GJ {fn:Func}{c:Cx}{K0:Nat->Option Obj}{f1:Fr}{a ar:Act}{ρ:Ren}{H:Mem}{R:Ending->World->Prop}(hr:Dh f1 a)(hs:A5 ρ a ar){l:List Value}(hl:ko c.P H f1 fn.results.toList=some l)
 (hR:∀v' w,bG ρ (wz l) v'->ef (c.kp K0) ρ H w->R (.returned v') w):∀(D:List Deferred) (K:Nat->Option Obj) (w:World),Marks c.B K0 K D->ef (c.kp K) ρ H w->LeavesInM Fence.wide 20 c.P fn ar.tmps R D .returning w
 |[],K,w,hm,he=>by
  obtain⟨v',p1,p2⟩:=vh he hr hs hl;exact⟨v',p2,hR v' w p1 (he.xW hm)⟩
 |d::D,K,w,⟨m,hd,hB,hK,hm⟩,he=>by
  subst hd;have hw:w.heap[m]? = some (.deferred (some [])):=he.stay.kept m _ hK;refine⟨by simp,.inl ⟨m,_,rfl,run_takeDeferred hw,?_⟩⟩;refine GJ hr hs hl hR D (Lb K m) _ hm ((ef.IM (c:=c) he hK hB (.deferred none)).xW λr o hr=>?_);unfold Lb at hr;split at hr
  .cases hr
  rename_i e;unfold qL;rw[aa e];exact hr
theorem lp (hno:jd P){G:Nat}(hcall:qe P G GR call)(hit:z7 P call)(hk:fy call)(hm:P.follows .mixedOrders=true)(rounds:Nat){id:FuncId}{args:List Value}{H H':Mem}{v:Value}(h:lR P G call rounds id args H=some (v,H')) :
 gU H H'/\∀(c:Cx),c.P=P->c.At G GR->∀ ρ w args',ef c ρ H w->LR (bG ρ) args args' ->
  Calls P id args'.toArray w λe w'=>∃ ρ' v',e = .returned v'/\ρ.le ρ'/\bG ρ' v v'/\ef c ρ' H' w':=by
 unfold lR at h;split at h;case h_2=>cases h
 rename_i fn hfn;split at h;case h_2=>cases h
 rename_i cd hcd;split at h;case h_2=>cases h
 rename_i f0 hf0;rw[ax]at h;split at h;case isFalse=>cases h
 rename_i hlen;have hlen':args.length<=fn.ntmps:=by simpa[bu] using hlen
 obtain⟨lv,f1,l,hr,hlv,hl,rfl⟩:=Lh h;obtain⟨k1,w1⟩:=Lf hno hcall hit hk hm (Bo hno hcall hit hk hm rounds rounds) rounds cd _ _ _ _ _ hr;refine⟨k1,λc je iG ρ w args' he hargs=>callsIn_wide (n:=20) |>.1 (callsIn_of_wp_marks hfn hcd trivial (wpIn_wide.2 ?_))⟩;subst je;have vZ:Ee c.K c ρ f0 { tmps:=args'.toArray++Array.replicate (fn.ntmps-args'.toArray.size) undef,defers:=[] }:=by
  refine⟨{ tmps:=args.toArray++Array.replicate (fn.ntmps-args.toArray.size) undef,defers:=[] },?_,?_,λ_ _ h=>h⟩
  .obtain ⟨e1,e2⟩:=GI args hf0;refine⟨by rw[e1];simp;omega,λi=>?_⟩;rw[e2];by_cases hi:i<args.length
   .rw[ag (by simp;omega)];have:i<(args.toArray++Array.replicate (fn.ntmps-args.toArray.size) undef).size:=by simp;omega
    simp only[kM];rw[fY,ag (by simpa using hi)];simp
   have e3:(args.toArray++Array.replicate (fn.ntmps-args.toArray.size) undef).getD i undef=undef:=by
    simp only[kM];rw[fY,aa (by simpa using hi),Array.getElem?_replicate];split<;>rfl
   rw[aa (by omega),Fr.get_eq,Ei,e3];split<;>rfl
  refine⟨LR.of_array ?_,rfl⟩;have:args'.toArray.size=args.toArray.size:=by simp[hargs.1]
  rw[this];simp only[Array.toList_append];exact hargs.append ⟨rfl,λi x y hx hy=>by
   rw[hx]at hy;cases hy;have:x=undef:=by
    have:=bh hx;simp at this;exact this.2
   subst this;exact .undef⟩
 refine w1 c c.K rfl iG ρ _ w vZ he _ λK1 ρ' ar' w' m1 m2 m3=>?_
 obtain⟨a,hr',hs',hmk⟩:=m2;have hdr:=hs'.dr;have fin:=GJ (fn:=fn) (c:=c) (K0:=c.K) hr' hs' hl (R:=λe w'=>∃ ρ' v',e = .returned v'/\ρ.le ρ'/\bG ρ' (wz l) v'/\ef c ρ' H' w') (λv' w2 p1 p2=>⟨ρ',v',rfl,m1,p1,p2⟩) a.defers K1 w' hmk m3;rw[<-hdr]at fin;rcases hlv with rfl|rfl
 .exact fin
 exact fin
theorem yY (K:fe)(G rounds:Nat)(id:FuncId)(args:List Value)(H:Mem):nR P G K rounds 0 id args H=none:=rfl
theorem lX (K:fe)(G rounds n:Nat)(id:FuncId)(args:List Value)(H:Mem):nR P G K rounds (n+1) id args H=match K id args with|some v=>if cG args&&aZ v then some (v,H) else none|none=>nK (oL P K id args H) (nK (lR P G (nR P G K rounds n) rounds id args H) (yR P K id args H)):=by
 show Option.rec (motive:=λ_=>Option (Value×Mem)) (nK (oL P K id args H) (nK (lR P G (nR P G K rounds n) rounds id args H) (yR P K id args H))) (λv=>ah (cG args&&aZ v) (some (v,H)) none) (K id args)=_;cases K id args with
 |none=>rfl
 |some v=>exact ax _ _ _
theorem Ot {K:fe}{id:FuncId}(h:K id pM=none)(args:List Value)(H:Mem):oL P K id args H=none:=by
 unfold oL;split
 .rw[h]
 rfl
theorem U8 {K:fe}(hK:kq P GR K){id:FuncId}{args:List Value}{H H':Mem}{v:Value}(h:oL P K id args H=some (v,H')){c:Cx}(je:c.P=P){ρ:Ren}{w:World}{args':List Value}(he:ef c ρ H w)(hargs:LR (bG ρ) args args') :
 Calls P id args'.toArray w λe w'=>∃ ρ' v',e = .returned v'/\ρ.le ρ'/\bG ρ' v v'/\ef c ρ' H' w':=by
 subst je;unfold oL at h;split at h;case h_2=>cases h
 rename_i i n c0;split at h;case h_2=>cases h
 rename_i u b hu hb;rw[ax]at h;split at h;case isFalse=>cases h
 rename_i hcond;simp only[ak,aO]at hcond;obtain⟨⟨⟨⟨⟨f1,f2⟩,f3⟩,f4⟩,f5⟩,f6⟩:=hcond;have f2:=az f2;have f4:=az f4;obtain⟨t1,t2,t3⟩:=Lg f6;split at h;case h_2=>cases h
 rename_i H1 fh;cases h;obtain⟨v',t',rfl,hv,ht⟩:=hargs.wB;have ht':t'=[]:=ht.Gr;subst ht';obtain⟨k1,k2,k3,k4,k5⟩:=nM fh;obtain⟨hg,hl⟩:=dF hb;cases hv with
 |slice _ _ _ _ r x hr =>
  obtain⟨r',x',C,fr,s,e1,e2,e3,e4,e5,e6,e7,e8⟩:=he.blk i b hg hl;rw[hr]at e1;cases e1;have hL:¬i<c.L:=by have:=he.lk;omega
  have own:=e2.resolve_left λh=>hL h.1
  have unf:=e4.resolve_left hL;have hs:s=1:=by
   have:=e5.1.resolve_left hL;rw[t3]at this;cases this;rfl
  subst hs;have spare:=e8.resolve_left hL;have hC:C.size=c0+x:=by rw[e6,f3,Nat.mul_one]
  have h63:C.size<9223372036854775808:=by
   rcases spare.room with h1|h1|h1
   .omega
   .have:=h1 1 t3;omega
   omega
  have hbytes:∀(j:Nat) v,C[j]? = some v->∃k:Int,v = .int .u8 k:=by
   intro j v hv;by_cases hj:j<b.cells.length
   .have hc:=aP hj;obtain⟨k,hk⟩:=U5 (aK.1 f5 _ (jj hj));obtain⟨v2,m1,m2⟩:=e7.2 j _ hc (by rw[hk];rfl);rw[hv]at m1;cases m1;rw[hk]at m2;cases m2;exact⟨k,rfl⟩
   rcases spare.zero j v (by omega) hv with⟨z,hz,hm⟩|⟨_,rfl⟩
   .rw[t2]at hz;cases hz;simp[Value.cells]at hm;exact⟨0,hm⟩
   exact⟨0,rfl⟩
  have hcall:=hK.U6 id v hu w r n b.elem fr C e3 unf (by omega) h63 t1 hbytes;rw[hC]at hcall;refine hcall.mono ?_;rintro e w' ⟨rfl,htn⟩;refine⟨ρ,v,rfl,Ren.le_refl _,dB _ f1,(he.kill fh).turned own htn ⟨C,_,fr,e3⟩ λj bj q y hj uo hq e=>?_⟩;subst e;obtain⟨g1,g2⟩:=k3 j bj hj (.inl uo);exact g2 (he.inj j i bj b q y x g1 uo hg hl hq hr)
theorem Li {K:fe}{id:FuncId}{args:List Value}{H H':Mem}{v:Value}(h:oL P K id args H=some (v,H')):gU H H':=by
 unfold oL at h;split at h;case h_2=>cases h
 split at h;case h_2=>cases h
 rw[ax]at h;split at h;case isFalse=>cases h
 split at h;case h_2=>cases h
 rename_i H1 fh;cases h;unfold kill at fh;split at fh
 .exact .set fh
 cases fh
theorem yZ {K:fe}{id:FuncId}{args:List Value}{H H1:Mem}{v:Value}(h:yR P K id args H=some (v,H1)):∃(i:Nat) (s:ByteArray) (items:Array Value) (b:jJ),args=[.pointer (some ⟨i,0,none⟩)]/\P.funcs[id]? = none/\v = .tuple (iB::items.toList).toArray/\alive H i=some b/\b.cells=[.string s]/\kill H i=some H1/\cG items.toList=true/\K id [iB,.string s]=some (.tuple items):=by
 unfold yR at h;split at h;case h_2=>cases h
 rename_i i;split at h;case h_2=>cases h
 rename_i hnone;split at h;case h_2=>cases h
 rename_i b hb;split at h;case h_2=>cases h
 rename_i s hs;split at h;case h_2=>cases h
 rename_i items hki;rw[ax]at h;split at h;case isFalse=>cases h
 rename_i hfree;split at h;case h_2=>cases h
 rename_i H1 fh;cases h;exact⟨i,s,items,b,rfl,hnone,rfl,hb,hs,fh,hfree,hki⟩
theorem Lj {G rounds:Nat}{id:FuncId}{args:List Value}{H H':Mem}{v:Value}(h:lR P G call rounds id args H=some (v,H')):P.funcs[id]? ≠ none:=by
 unfold lR at h;split at h
 .rename_i fn hfn;rw[hfn];simp
 cases h
theorem Br (hno:jd P)(hm:P.follows .mixedOrders=true){K:fe}(hK:kq P GR K)(G rounds:Nat):∀n,qe P G GR (nR P G K rounds n)/\fy (nR P G K rounds n)/\z7 P (nR P G K rounds n)
 |0=>⟨λf args H v H' h=>(by rw[yY]at h;cases h),λf args H v H' h=>(by rw[yY]at h;cases h),λf i H v H' _ h=>(by rw[yY]at h;cases h)⟩
 |n+1=>by
  obtain⟨ih1,ih2,ih3⟩:=Br hno hm hK G rounds n;refine⟨λf args H v H' h Zt c je iG ρ w args' he hargs=>?_,λf args H v H' h=>?_,λf i H v H' hnone h=>?_⟩
  .rw[lX]at h;split at h
   .rename_i u hu;split at h
    .rename_i hf;cases h;simp only[ak]at hf;rw[hargs.lS hf.1];refine(hK.calls f args _ hu hf.1 w (he.IJ iG)).mono ?_;rintro e w' ⟨rfl,hb⟩;exact⟨ρ,_,rfl,Ren.le_refl _,dB _ hf.2,he.grow hb⟩
    cases h
   unfold nK at h;split at h
   .rename_i q hq;cases h;exact U8 hK hq je he hargs
   split at h
   .rename_i q hq;cases h;exact(lp hno ih1 ih3 ih2 hm rounds hq).2 c je iG ρ w args' he hargs
   obtain⟨_,_,items,_,_,hnone,rfl,_⟩:=yZ h;rcases Zt with Zt|Zt
   .exact absurd hnone Zt
   have:aZ (.tuple (iB::items.toList).toArray)=false:=rfl;rw[this]at Zt;cases Zt
  .rw[lX]at h;split at h
   .split at h
    .cases h;exact .refl _
    cases h
   unfold nK at h;split at h
   .rename_i q hq;cases h;exact Li hq
   split at h
   .rename_i q hq;cases h;exact(lp hno ih1 ih3 ih2 hm rounds hq).1
   obtain⟨i,_,_,_,_,_,_,_,_,fh,_⟩:=yZ h;unfold kill at fh;split at fh
   .exact .set fh
   cases fh
  rw[lX]at h;split at h
  .rename_i u hu;have:cG [.pointer (some ⟨i,0,none⟩)]=false:=rfl;rw[this]at h;simp at h
  unfold nK at h;split at h
  .rename_i q hq;simp[oL]at hq
  split at h
  .rename_i q hq;exact absurd hnone (Lj hq)
  obtain⟨i',s,items,b,e,_,rfl,k1,k2,k3,k4,k5⟩:=yZ h;cases e;exact⟨s,items,b,rfl,k1,k2,k3,k4,hK.U7 _ _ _ k5 k4⟩
theorem Ou (hno:jd P)(hm:P.follows .mixedOrders=true){K:fe}(hK:kq P GR K)(G rounds n:Nat):qe P G GR (nR P G K rounds n)/\fy (nR P G K rounds n) :=
 ⟨(Br hno hm hK G rounds n).1,(Br hno hm hK G rounds n).2.1⟩
theorem QA (hno:jd P)(hm:P.follows .mixedOrders=true){K:fe}(hK:kq P GR K){G rounds n:Nat}{f:FuncId}{args:List Value}{H H':Mem}{v:Value}(h:nR P G K rounds n f args H=some (v,H'))
 (Zt:P.funcs[f]? ≠ none\/aZ v=true) {c:Cx} (je:c.P=P) (iG:c.At G GR) {ρ:Ren} {w:World} {args':List Value} (he:ef c ρ H w) (hargs:LR (bG ρ) args args') :
 Calls P f args'.toArray w λe w'=>∃ ρ' v',e = .returned v'/\ρ.le ρ'/\bG ρ' v v'/\ef c ρ' H' w' :=
 (Ou hno hm hK G rounds n).1 f args H v H' h Zt c je iG ρ w args' he hargs
theorem wO:∀(l:List jJ) {H H':Mem},H.u7 l=some H'->H'.size=H.size+l.length/\H'.lk=H'.size/\∀i,H'.get i=if i<H.size then H.get i else l[i-H.size]?
 |[],H,H',h=>by
  simp only[Mem.u7,aq]at h;subst h;refine⟨rfl,rfl,λi=>?_⟩;show H.get i=_;split
  .rfl
  rename_i hi;cases hg:H.get i with
  |none=>simp
  |some b=>exact absurd (Mem.eL hg) hi
 |b::l,H,H',h=>by
  simp only[Mem.u7]at h;split at h
  .rename_i H1 hp;obtain⟨q1,q2,q3⟩:=Mem.dN hp;obtain⟨r1,r2,r3⟩:=wO l h;refine⟨by rw[r1,q1];simp;omega,r2,λi=>?_⟩;rw[r3,q1,q3];by_cases h1:i<H.size
   .rw[ag (by omega),ag h1,aa (by omega)]
   by_cases h2:i=H.size
   .subst h2;rw[ag (by omega),aa h1,ag rfl];simp
   rw[aa (by omega),aa h1];have:i-H.size=(i-(H.size+1))+1:=by omega
   rw[this];simp
  cases h
theorem ef.rows {rows:List jJ}{H:Mem}(hH:Mem.u7 Mem.empty rows=some H){w:World}(hw:lg rows w)(hfree:∀b∈rows,cG b.cells=true/\iS b=false) :
 ef ⟨P,w.heap.size,rows.length,rows.length,w,λ_=>none⟩ (λi=>if i<rows.length then some (i,0) else none) H w:=by
 obtain⟨e1,e2,e3⟩:=wO rows hH;have es:H.size=rows.length:=by rw[e1];simp[Mem.empty]
 have eg:∀i,H.get i=rows[i]? := λi=>by rw[e3,aa (by simp[Mem.empty])];simp[Mem.empty]
 refine⟨⟨Below.refl _ _,λr o h=>by cases h⟩,aC _,λi x h=>?_,?_,?_,λg hg=>ag hg,λi b hi hl=>?_,λi j bi bj r x y hi _ hj _ hr hr'=>?_,λi b hi hm=>?_,λi j bi bj r x y hi hm=>?_⟩
 .rw[es];split at h
  .assumption
  cases h
 .rw[e2,es];exact aC _
 .rw[es];exact aC _
 .rw[eg]at hi;have hlt:i<rows.length:=(bx.1 hi).1;obtain⟨fr,h1,h2⟩:=hw.2 i b hi hl;refine⟨i,0,b.cells.toArray,fr,0,ag hlt,.inl ⟨hlt,rfl⟩,h1,.inr h2,⟨.inl hlt,λ_=>rfl⟩,by simp,⟨by simp,λj v hv _=>⟨v,by simpa using hv,?_⟩⟩,.inl hlt⟩;exact dB _ (oW (hfree b (bh hi)).1 hv)
 .split at hr
  .split at hr'
   .cases hr;cases hr';rfl
   cases hr'
  cases hr
 .rw[eg]at hi;rw[(hfree b (bh hi)).2]at hm;cases hm
 rw[eg]at hi;rw[(hfree bi (bh hi)).2]at hm;cases hm
theorem Ll (hno:jd P)(hm:P.follows .mixedOrders=true){K:fe}{rows:List jJ}(hK:kq P rows K){rounds depth:Nat}{f:FuncId}{args:List Value}{v:Value}(h:Iq P K rows rounds depth f args=some v)(w:World)(hw:lg rows w) :
 Calls P f args.toArray w λe w'=>e = .returned v/\Below w.heap.size w w':=by
 unfold Iq at h;split at h
 .rename_i H hH;split at h
  .rename_i u H' hc;rw[ax]at h;split at h
   .rename_i hf;cases h;simp only[ak,aK,aS]at hf;refine(QA hno hm hK hc (.inr hf.1.1) (c:=⟨P,w.heap.size,rows.length,rows.length,w,λ_=>none⟩) rfl ⟨rfl,hw,hw.1⟩ (ef.rows hH hw hf.2) (args':=args) ⟨rfl,tW args hf.1.2⟩).mono ?_;rintro e w' ⟨ρ',v',rfl,h1,h2,h3⟩;exact⟨by rw[Ev.lS h2 hf.1.1],h3.below⟩
   cases h
  cases h
 cases h
theorem Lm (h:(P.funcs.toList.all λfn => !(fn.name == "runtime.NumGoroutine"))=true):jd P:=by
 intro id fn hfn hname;have hm:fn∈P.funcs.toList:=by have:=aY hfn;simpa using this
 have:=aK.1 h fn hm;simp[hname]at this
end
end Go.Ev
namespace Go.Ev
open Go.WideShapes
end Go.Ev
namespace Go.Ev
def QB {H:Type}:DataW H->Value
 |.lit (.int k n)=>.int k n
 |.lit (.string s)=>.string ⟨s.toArray⟩
 |.lit (.bool b)=>.bool b
 |_=>undef
section
variable {P:Program} {w:World}
theorem Ov {H:Type}{enc:TypeId×Value->H}{sp:Nat->Bool}{held:Bool}{base fuel n:Nat}{t e:TypeId}{cs:List Value}{ds:List (DataW H)}{p:List MemPlace}(ht:P.underlying t=some (.array n e))(he:(∃k,P.underlying e=some (.int k))\/P.underlying e=some .string)
 (hc:P.cellsOf e=1) (hct:P.cellsOf t=n) (h:DataW.trod enc P w base sp held fuel t cs=some (.agg ds,p)):cs=ds.map QB:=by
 obtain⟨xs,m,_,ex,hlen,hxl,hel⟩:=DataW.trod_array ht h;have hds:ds=xs.map (·.1):=DataW.agg.inj (jN ex).1
 subst hds;apply kf;intro i;by_cases hi:i<n
 .have h1:=hel i hi;rw[hc,Nat.mul_one,aP (by omega:i<xs.length)]at h1;have h2:∃v,(cs.drop i).take 1=[v]/\v=QB (xs[i]'(by omega)).1:=by
   rcases he with⟨k,he⟩|he
   .obtain ⟨z,e1,e2,_⟩:=DataW.trod_int he h1;exact⟨_,e1,by rw[e2];rfl⟩
   obtain⟨s,e1,e2,_⟩:=DataW.trod_string he h1;exact⟨_,e1,by rw[e2];simp[QB]⟩
  obtain⟨v,e1,e2⟩:=h2;have e3:cs[i]? = some v:=by
   have h0:((cs.drop i).take 1)[0]? = some v:=by rw[e1];rfl
   simpa using h0
  rw[e3,e2,cB,cB,aP (by omega:i<xs.length)];rfl
 rw[dK (by omega),dK (by simp;omega)]
theorem laid_mem:∀{laid:List (String×DataW Unit)} {ps:List MemPlace},DataW.LaidVars P w laid ps->∀{nm:String} {d:DataW Unit},(nm,d)∈laid ->
 ∃g t cs fuel p,P.globalNamed nm=some g/\(P.globals[g]?).map (·.type)=some t/\w.var? P nm=some cs/\DataW.trod (λ_=>()) P w 0 (λ_=>true) false fuel t cs.toList=some (d,p)/\∀x∈MemPlace.row ⟨g,0,none⟩ cs.size,x∈ps
 |[],_,_,_,_,hm=>by cases hm
 |(n,d)::r,ps,h,nm,d',hm=>by
  obtain⟨g,t,cs,fuel,p,q,h1,h2,h3,h4,h5,rfl⟩:=h;rcases bt.1 hm with heq|hm
  .cases heq;exact⟨g,t,cs,fuel,p,h1,h2,h3,h4,λx hx=>by simp[hx]⟩
  obtain⟨g',t',cs',fuel',p',k1,k2,k3,k4,k5⟩:=laid_mem h5 hm;exact⟨g',t',cs',fuel',p',k1,k2,k3,k4,λx hx=>by simp[k5 x hx]⟩
def akb {H:Type}:DataW H->Option (List Value)
 |.agg ds=>some (ds.map QB)
 |_=>none
theorem laid_at {laid:List (String×DataW Unit)}(h:laidMet P laid w){nm:String}{d:DataW Unit}{k:Nat}(hm:laid[k]? = some (nm,d)){cv:List Value}(hd:akb d=some cv){g n:Nat}{t e:TypeId}(hg:P.globalNamed nm=some g)(ht:(P.globals[g]?).map (·.type)=some t)
 (hu:P.underlying t=some (.array n e)) (he:(∃k,P.underlying e=some (.int k))\/P.underlying e=some .string) (hc:P.cellsOf e=1) (hct:P.cellsOf t=n) (hn:cv.isEmpty=false) :
 ∃t',w.heap[g]? = some (.cells cv.toArray t' (0,0)):=by
 obtain⟨ps,h1,_,h2⟩:=h;obtain⟨g',t',cs,fuel,p,k1,k2,k3,k4,k5⟩:=laid_mem h1 (bh hm);rw[hg]at k1;cases k1;rw[ht]at k2;cases k2;cases d with
 |agg ds =>
  simp only[akb,aq]at hd;have e1:cs.toList=cv:=by rw[<-hd];exact Ov hu he hc hct k4
  have hpos:0<cs.size:=by
   have h4:cs.size=cv.length:=by rw[<-e1];simp
   have h3:cv.length≠0:=by intro h0;rw[aQ.1 h0]at hn;cases hn
   omega
  have hrow:MemPlace.cell g 0∈MemPlace.row ⟨g,0,none⟩ cs.size:=by
   unfold MemPlace.row;simp only[bW,List.mem_range];exact⟨0,hpos,by simp⟩
  obtain⟨⟨c,u,hh⟩,_⟩:=h2 g 0 (k5 _ hrow);simp only[World.var?,hg,aW,hh,aq]at k3;subst k3;exact⟨u,by rw[hh,<-e1]⟩
 |_=>cases hd
def vk:jJ:=⟨[],0,false,false⟩
theorem U9 {cv:List Value}{t':TypeId}{g:Nat}(h:w.heap[g]? = some (.cells cv.toArray t' (0,0))):∃fr,w.heap[g]? = some (.cells (jJ.mk cv t' true false).cells.toArray (jJ.mk cv t' true false).elem fr)/\qH (jJ.mk cv t' true false).cells.toArray fr :=
 ⟨(0,0),h,qx _⟩
theorem ae2 {o:Obj}{g:Nat}(h:w.heap[g]? = some o):g<w.heap.size:=(aB.1 h).1
end
end Go.Ev

/- Regions whose order is drawn. Plans for regions whose order is drawn. Ranges over functions: rows beside the run's own, what an iterator promises, code in a round. Bodies and calls: the evaluator's answer is the machine's. Structs that came in by value: their cells. Package-level variables that read as given data: the rows that the evaluator starts with. -/
import Derived.Test.YtbeckacfibledaaGreatDoorLyb
import Derived.RangeFuncLeaves
import Derived.RangeFuncRecord
import Derived.RangeFuncSeq
import Derived.OrdersIn
import Derived.TacticsIn
import Derived.LoopNIn
import Derived.Scope
import Derived.WideShapes
import Derived.ProofKit
import Derived.OpenShut
import Derived.ChangeArms
import Derived.FnData
import GoSem.ClaimJoined
set_option linter.unusedVariables false
set_option linter.unusedSimpArgs false

namespace Go.Ev
open Go.RowKit
section
variable {P:Program} {call:cG} {ops:Array Oper} {GR:List jC}
inductive Reach (ops:Array Oper):Nat->Nat->Prop where
 |one {i:Nat} {o:Oper} {e:Edge} (ho:ops[i]? = some o) (he:e∈o.after) (hb:Region.binds .any e=true):Reach ops i e.on
 |more {i:Nat} {o:Oper} {e:Edge} {j:Nat} (ho:ops[i]? = some o) (he:e∈o.after) (hb:Region.binds .any e=true) (h:Reach ops e.on j):Reach ops i j
def NB (ops:Array Oper)(listed:Array Bool)(i:Nat):Prop:=∀(j:Nat) (oj:Oper),ops[j]? = some oj->kP oj.op=true->listed.getD j true=true->Reach ops i j
def KD (listed:Array Bool):Nat->Nat
 |0=>0
 |n+1=>KD listed n+if listed.getD n true=true then 0 else 1
theorem KE {listed:Array Bool}{i:Nat}:∀n,KD (listed.setIfInBounds i true) n+(if i<n/\listed.getD i true=false then 1 else 0)=KD listed n
 |0=>by simp[KD]
 |n+1=>by
  have ih:=KE (listed:=listed) (i:=i) n;simp only[KD];by_cases hin:i=n
  .subst hin;rw[aa (by omega)]at ih;have e:(listed.setIfInBounds i true).getD i true=true:=by
    by_cases hlt:i<listed.size<;>simp[Array.getD,hlt]
   rw[e];cases hb:listed.getD i true with
   |true=>simp;omega
   |false=>simp;omega
  rw[getD_set_ne true hin];by_cases h1:i<n
  .have:i<n+1:=by omega
   simp only[h1,this,jw]at ih ⊢;omega
  have:¬i<n+1:=by omega
  simp only[h1,this,false_and,ee]at ih ⊢;omega
def cnt (ops:Array Oper)(listed:Array Bool):Nat:=KD listed ops.size
theorem Qe {listed:Array Bool}{i:Nat}(hi:i<ops.size)(h:listed.getD i true=false):cnt ops (listed.setIfInBounds i true)+1=cnt ops listed:=by
 have:=KE (listed:=listed) (i:=i) ops.size;rw[ag ⟨hi,h⟩]at this;exact this
theorem Qf {listed:Array Bool}:∀n,KD listed n<=n
 |0=>aC _
 |n+1=>by
  have:=Qf (listed:=listed) n;simp only[KD];split<;>omega
theorem A9 {listed:Array Bool}{i:Nat}(hi:i∈Region.ready .any ops listed):i<ops.size/\listed.getD i true=false/\cnt ops (listed.setIfInBounds i true)+1=cnt ops listed:=by
 obtain⟨h0,o,ho,_⟩:=mem_ready.1 hi;have hlt:=(aB.1 ho).1;exact⟨hlt,h0,Qe hlt h0⟩
def Ext (H H2:Mem):Prop:=∀(i:Nat) (b:jC),H.get i=some b->H2.get i=some b
def KF:Option Nat->Mem->Mem->Prop
 |none,H,H2=>Ext H H2
 |some i,H,H2=>∀b:jC,H.get i=some b->H2.get i=some b
theorem KF.NF {pr:Option Nat}{H H2:Mem}(h:Ext H H2):KF pr H H2:=by
 cases pr with
 |none=>exact h
 |some i=>exact h i
inductive oG (P:Program)(call:cG)(ops:Array Oper)(Fin:Act->Mem->Prop)(RL:List (Nat×Option Nat)):Option Nat->Array Bool->List Nat->Act->Mem->Prop where
 |pay {listed:Array Bool} {l1 l2:List Nat} {i:Nat} {o:Oper} {R:Option (List Nat)} {lk:Bool} {a a':Act} {H H':Mem} (ho:ops[i]? = some o) (hm:makes P o=true) (hst:nW P call ops R lk o a H=some (a',H')) (hap:∀m∈l1++l2,∀om,ops[m]? = some om->∀x,o.dst=some x->x ∉ om.looksAt ops)
  (h:oG P call ops Fin RL none listed (l1++l2) a' H'):oG P call ops Fin RL none listed (l1++i::l2) a H
 |step {listed:Array Bool} {eU:List Nat} {a:Act} {H:Mem} (h0:Region.ready .any ops listed=[]->eU=[]/\Fin a H) (h:∀i∈Region.ready .any ops listed,oG P call ops Fin RL (some i) listed eU a H):oG P call ops Fin RL none listed eU a H
 |sync {listed:Array Bool} {eU:List Nat} {i:Nat} {o:Oper} {R:Option (List Nat)} {lk:Bool} {a a':Act} {H H':Mem} (ho:ops[i]? = some o) (hst:nW P call ops R lk o a H=some (a',H')) (hR:∀q∈RL,Reach ops i q.1\/KF q.2 H H') (hap:∀m∈eU,∀om,ops[m]? = some om->(∀x,om.dst=some x->x ∉ o.looksAt ops/\o.dst≠some x)/\∀x,o.dst=some x->x ∉ om.looksAt ops)
  (h:oG P call ops Fin RL none (listed.setIfInBounds i true) eU a' H'):oG P call ops Fin RL (some i) listed eU a H
 |owe {listed:Array Bool} {eU:List Nat} {i:Nat} {o:Oper} {a:Act} {H:Mem} (ho:ops[i]? = some o) (hm:makes P o=true) (wz:(rf P a.eval o).isSome=true) (hd:∀m∈eU,∀om,ops[m]? = some om->om.dst≠o.dst/\∀x,om.dst=some x->x ∉ o.looksAt ops)
  (h:oG P call ops Fin RL none (listed.setIfInBounds i true) (i::eU) a H):oG P call ops Fin RL (some i) listed eU a H
theorem sn {o:Oper}(h:makes P o=true):o.guard=none/\(∃d,o.dst=some d)/\((∃t,o.op = .alloc t)\/∃t len ps,o.op = .buildSlice t len ps):=by
 unfold makes at h;split at h
 .rename_i h1 h2 h3;exact⟨h2,⟨_,h3⟩,.inl ⟨_,h1⟩⟩
 .rename_i h1 h2 h3;exact⟨h2,⟨_,h3⟩,.inr ⟨_,_,_,h1⟩⟩
 cases h
theorem yL {o:Oper}(h:makes P o=true):quiet P o.op=false:=by
 obtain⟨_,_,⟨t,h1⟩|⟨t,l,ps,h1⟩⟩:=sn h<;>(rw[h1];rfl)
theorem Zo {H H1:Mem}{n:Nat}{b:jC} (h:({ H with lk:=n }:Mem).push b=some H1):H.push b=some { H1 with lk:=H.lk }:=by
 unfold Mem.push at h ⊢;cases hs:H.t.set H.size b with
 |none=>simp only[hs]at h;cases h
 |some t=>simp only[hs]at h;cases h;rfl
theorem Zp {o:Oper}(hm:makes P o=true){ev:Operand->Value}{H H':Mem}{v:Value}(h:jn P call ev o H=some (v,H')) :
 ∃te cs sh,rf P ev o=some (te,cs,sh)/\H.push ⟨cs,te,true,true⟩=some H'/\v=yh sh H.size:=by
 obtain⟨_,_,⟨t,h1⟩|⟨t,len,ps,h1⟩⟩:=sn hm
 .unfold jn at h;rw[h1]at h;simp only at h;unfold rz at h;split at h
  .rename_i z hz;obtain⟨h2,h3⟩:=s9 h;exact⟨t,z.cells.toList,none,by unfold rf;rw[h1];simp only[hz],h2,h3⟩
  cases h
 unfold jn at h;rw[h1]at h;simp only at h;unfold mW at h;split at h
 .rename_i e hu;split at h
  .rename_i s z hs hz;split at h
   .cases h
   rename_i hsz;split at h
   .rename_i cs hf;obtain⟨h2,h3⟩:=rD h;exact⟨e,cs.toList,some len,by unfold rf;rw[h1];simp only[hu,hs,hz,aa hsz,hf],h2,h3⟩
   cases h
  cases h
 cases h
theorem Ba {o:Oper}{R:Option (List Nat)}{lk:Bool}{a a':Act}{H H':Mem}(hm:makes P o=true)(h:nW P call ops R lk o a H=some (a',H')) :
 ∃te cs sh,rf P a.eval o=some (te,cs,sh)/\H.push ⟨cs,te,true,true⟩=some H'/\a'=a.put o.dst (yh sh H.size):=by
 obtain⟨hg,_,_⟩:=sn hm;have hw:Region.wanted o (yielded ops a.tmps)=true:=by unfold Region.wanted;rw[hg]
 have one:∀{H H':Mem} {a':Act},jg P call ops o a H=some (a',H')->∃te cs sh,rf P a.eval o=some (te,cs,sh)/\H.push ⟨cs,te,true,true⟩=some H'/\a'=a.put o.dst (yh sh H.size):=by
  intro H H' a' h;unfold jg at h;rw[ag hw]at h;simp only[aL]at h;obtain⟨⟨v,H1⟩,h1,heq⟩:=h;cases heq;obtain⟨te,cs,sh,e1,e2,e3⟩:=Zp hm h1;exact⟨te,cs,sh,e1,e2,by rw[e3]⟩
 rcases rE h with⟨h,_⟩|⟨_,⟨a1,H1⟩,h1,heq⟩
 .exact one h
 cases heq;obtain⟨te,cs,sh,e1,e2,e3⟩:=one h1;exact⟨te,cs,sh,e1,Zo e2,e3⟩
theorem KH {ev ev':Operand->Value}{ps:Array (Nat×Operand)}(h:∀q∈ps,ev q.2=ev' q.2):nR ev ps=nR ev' ps:=by
 unfold nR;apply lI;intro q hq;rw[h q (by simpa using hq)]
theorem NG {ev ev':Operand->Value}{o:Oper}(h:∀x∈o.op.operands,ev x=ev' x):rf P ev o=rf P ev' o:=by
 unfold rf;split
 .rfl
 .rename_i t len ps hop;rw[KH λq hq=>h q.2 (by rw[hop];simp[Op.operands];exact⟨q.1,by simpa using hq⟩)]
 rfl
theorem wA {o:Oper}(a:Act){dst:Option Tmp}(v:Value)(h:∀d,dst=some d->d ∉ o.looksAt ops):rf P (a.put dst v).eval o=rf P a.eval o :=
 NG λx hx=>Act.eval_put λd hd hxd=>h d hd (by
  subst hxd;exact eE _ (mF.2 ⟨.tmp d,by simpa using hx,rfl⟩))
theorem Uu {ρ:Ren}{o:Oper}{ev ev':Operand->Value}(cg:EvR ρ ev ev' o.op){te:TypeId}{cs:List Value}{sh:Option Nat}(h:rf P ev o=some (te,cs,sh)) :
 (∃s,cQ P te=some s)/\∃C:Array Value,LR (bG ρ) cs C.toList/\∀w:World,(execOp ev' o).run P w = .ok (.value (yh sh w.heap.size)) (w.alloc (.cells C te)):=by
 unfold rf at h;split at h
 .rename_i t hop;split at h
  .rename_i z hz;cases h;obtain⟨_,h2,_⟩:=mZ hz (default:World);refine⟨zB hz,z.cells,(dA (ρ:=ρ) z h2).cells.list,λw=>?_⟩;obtain⟨h1,_⟩:=mZ hz w;have:(Instr.alloc te true (.tuple #[])).run P w = .ok (.pointer (some ⟨w.heap.size,0,none⟩)) (w.alloc (.cells z.cells te)):=by simp[Instr.alloc,h1,newVar,newRow]
   simp[execOp,hop,this,yh]
  cases h
 .rename_i t len ps hop;have hp:=PR.parts (ev:=ev) (ev':=ev') ps.toList λq hq=>cg q.2 (by simp[hop,Op.operands];exact⟨q.1,by simpa using hq⟩)
  split at h
  .rename_i e hu;split at h
   .rename_i s z hs hz;split at h
    .cases h
    rename_i hsz;split at h
    .rename_i cs' hf;cases h;obtain⟨s',hs',hzz,hzn,_⟩:=DL (ρ:=ρ) hz (default:World);rw[hs]at hs';cases hs';obtain⟨C,hf',hcs⟩:=wo _ _ _ _ _ hp hzz hf;refine⟨⟨s,hs⟩,C,hcs.list,λw=>?_⟩;have FW:Instr.fill (λi=>some (i*s,s)) z (ps.toList.map λq=>(q.1,ev' q.2))=some C:=hf';have hrun:(Instr.buildSlice t len (ps.toList.map λq=>(q.1,ev' q.2)).toArray).run P w = .ok (.slice (some ⟨w.heap.size,0,none⟩) len len) (w.alloc (.cells C te)):=by
      rcases wq hs hz with⟨h0,rfl⟩|⟨h0,y,hy,rfl⟩
      .have Ui:Array.range 0 = #[]:=rfl;simp[Instr.buildSlice,run_underlying hu,gN hs,h0,Ui,FW,newRow]
      obtain⟨hy1,_⟩:=mZ hy w;have hsz':¬(16777216<len*s):=by simpa using hsz
      simp[Instr.buildSlice,run_underlying hu,gN hs,h0,hsz',hy1,FW,newRow]
     have e1:(ps.map λq=>(q.1,ev' q.2))=(ps.toList.map λq=>(q.1,ev' q.2)).toArray:=by apply jv;simp
     simp only[execOp,hop];simp only[Sem.run_bind];have:(Instr.buildSlice t len (ps.map λ(i,x)=>(i,ev' x))).run P w = .ok (.slice (some ⟨w.heap.size,0,none⟩) len len) (w.alloc (.cells C te)):=by
      rw[<-hrun,<-e1]
     rw[this];rfl
    cases h
   cases h
  cases h
 cases h
theorem Uv {ρ:Ren}{i pa:Nat}(sh:Option Nat)(h:ρ i=some (pa,0)):bG ρ (yh sh i) (yh sh pa):=by
 cases sh with
 |none=>exact .ptr _ _ _ _ h
 |some len=>exact .slice _ _ _ _ _ _ h
def fY:List (Option Tmp×Value)->Act->Act
 |[],a=>a
 |q::l,a=>fY l (a.put q.1 q.2)
theorem DU {d:Option Tmp}{v:Value}:∀(l:List (Option Tmp×Value)) (a:Act),(∀q∈l,∀x,q.1=some x->d≠some x)->fY l (a.put d v)=(fY l a).put d v
 |[],a,_=>rfl
 |q::l,a,h=>by
  simp only[fY];rw[<-DU l (a.put q.1 q.2) λx hx=>h x (by simp[hx])];rw[Act.put_comm a q.2 v (h q (by simp))]
theorem NH {d:Option Tmp}{v:Value}(l1 l2:List (Option Tmp×Value))(a:Act)(h:∀q∈l1,∀x,q.1=some x->d≠some x):fY (l1++(d,v)::l2) a=fY (l1++l2) (a.put d v):=by
 induction l1 generalizing a with
 |nil=>rfl
 |cons q l1 ih =>
  simp only[fO,fY];rw[ih (a.put q.1 q.2) λx hx=>h x (by simp[hx])];rw[Act.put_comm a q.2 v (h q (by simp))]
def C7 (Q:Exit->Act->World->Prop):Exit->Act->World->Prop:=λe a w=>match e with
 |.outgrown=>Q .outgrown a w
 |_=>False
theorem zL {Q:Exit->Act->World->Prop}(h:LetsOut (C7 Q)):LetsOut Q:=by
 obtain⟨a,w,h⟩:=h;exact⟨a,w,h⟩
theorem Gm {j:Nat}{oj:Oper}{d:Option Tmp}{v:Value}(hj:ops[j]? = some oj)(h1:∀x,d=some x->x ∉ oj.looksAt ops)(h2:∀x,d=some x->oj.dst≠some x)(hsj:∀cs b,oj.op ≠ .select cs b)
 {Q:Exit->Act->World->Prop} {K:Act->World->Prop} {a:Act} {w:World} (h:wpOp P ops (C7 Q) j (λa' w'=>K (a'.put d v) w') a w):wpOp P ops Q j K (a.put d v) w:=by
 unfold wpOp at *;simp only[hj]at *;rw[wanted_put oj a d v h1];split
 .rename_i hw;rw[ag hw]at h;rcases h with h|⟨hasks,ajf⟩;case inr=>exact .inr ⟨by unfold Oper.asks at *;rw[execOp_put oj hsj a d v h1];exact hasks,zL ajf⟩
  refine .inl ?_;unfold Oper.wp at *;rw[execOp_put oj hsj a d v h1];generalize (execOp a.eval oj).run P w=r at *;cases r with
  |ok n w' =>
   cases n<;>simp only[Oper.upon]at h ⊢;case value u=>rw[Act.put_comm a v u h2];exact h
   case skip=>rw[Act.put_comm a v undef h2];exact h
   case defer df =>
    rw[Act.put_defers,Act.put_comm _ v undef h2];exact h
   case enter f args =>
    refine Calls.mono h λe w'' he=>?_
    cases e with
    |returned u=>show K ((a.put d v).put oj.dst u) w'';rw[Act.put_comm a v u h2];exact he
    |panicked c=>exact he.elim
    |outgrown=>exact zL he
   case row row args=>exact Rows.mono h λu w'' he=>by rw[Act.put_comm a v u h2];exact he
  |halt x w' =>
   cases x<;>simp only[Oper.upon]at h ⊢;case panic u=>exact h.elim
 rename_i hw;rw[aa hw]at h;rw[Act.put_comm a v undef h2];exact h
theorem Gn {j:Nat}{oj:Oper}(hj:ops[j]? = some oj)(hsj:∀cs b,oj.op ≠ .select cs b){Q:Exit->Act->World->Prop}{K:Act->World->Prop}{w:World}:∀(l:List (Option Tmp×Value)) (a:Act),
 (∀q∈l,(∀x,q.1=some x->x ∉ oj.looksAt ops)/\∀x,q.1=some x->oj.dst≠some x)->wpOp P ops (C7 Q) j (λa' w'=>K (fY l a') w') a w->wpOp P ops Q j K (fY l a) w
 |[],a,_,h=>by
  have:=Gm (d:=none) (v:=undef) (K:=K) hj (λx h=>by cases h) (λx h=>by cases h) hsj (a:=a) (w:=w) h;exact this
 |q::l,a,hq,h=>by
  refine Gn hj hsj l (a.put q.1 q.2) (λx hx=>hq x (by simp[hx])) ?_;exact Gm (Q:=C7 Q) (K:=λa' w'=>K (fY l a') w') hj (hq q (by simp)).1 (hq q (by simp)).2 hsj h
abbrev Cx.kp (c:Cx)(K:Nat->Option Obj):Cx:={ c with K:=K }
theorem ei.xL {c:Cx}{ρ:Ren}{H:Mem}{w:World}{K K':Nat->Option Obj}(he:ei (c.kp K) ρ H w)(h:∀r o,K' r=some o->K r=some o):ei (c.kp K') ρ H w:=by
 have no:∀{r},K r=none->K' r=none:=λ{r} hr=>by
  cases hk:K' r with
  |none=>rfl
  |some o=>rw[h r o hk]at hr;cases hr
 refine⟨⟨he.stay.below,λr o hr=>he.stay.kept r o (h r o hr)⟩,he.base,he.dom,he.lk,he.zo,he.jo,λi b hi hl=>?_,he.inj,λi b hi hm=>?_,he.vQ⟩
 .obtain ⟨r,x,C,fr,s,h1,h2,h3⟩:=he.blk i b hi hl;exact⟨r,x,C,fr,s,h1,h2.imp (λg=>⟨g.1,no g.2⟩) (λg=>⟨g.1,no g.2⟩),h3⟩
 obtain⟨r,es,clock,h1,h2,h3⟩:=he.maps i b hi hm;exact⟨r,es,clock,h1,⟨h2.1,no h2.2⟩,h3⟩
theorem ei.NJ {c:Cx}{ρ:Ren}{H:Mem}{w:World}{K:Nat->Option Obj}(he:ei (c.kp K) ρ H w)(o:Obj):ei (c.kp λr=>if r=w.heap.size then some o else K r) ρ H (w.alloc o):=by
 have lt:∀{r:Nat} {o:Obj},w.heap[r]? = some o->r<w.heap.size:=λh=>(aB.1 h).1
 have g:=he.stay.alloc he.base o;refine⟨⟨g.below,λr o' hr=>?_⟩,br he.base (by simp),he.dom,he.lk,he.zo,he.jo,λi b hi hl=>?_,he.inj,λi b hi hm=>?_,he.vQ⟩
 .simp only at hr;split at hr
  .rename_i h;subst h;cases hr;show (w.heap.push _)[w.heap.size]? = _;simp
  exact g.kept r o' hr
 .obtain ⟨r,x,C,fr,s,h1,h2,h3,h4⟩:=he.blk i b hi hl;have hne:r≠w.heap.size:=l7 (lt h3);exact⟨r,x,C,fr,s,h1,h2.imp (λg=>⟨g.1,by show (if r=_ then _ else _)=_;rw[aa hne];exact g.2⟩) (λg=>⟨g.1,by show (if r=_ then _ else _)=_;rw[aa hne];exact g.2⟩),by rw[Below.heap_alloc _ _ _ (lt h3)];exact h3,h4⟩
 obtain⟨r,es,clock,h1,h2,h3,h4⟩:=he.maps i b hi hm;have hne:r≠w.heap.size:=l7 (lt h3);exact⟨r,es,clock,h1,⟨h2.1,by show (if r=_ then _ else _)=_;rw[aa hne];exact h2.2⟩,by rw[Below.heap_alloc _ _ _ (lt h3)];exact h3,h4⟩
theorem ei.aeh {c:Cx}{ρ:Ren}{H H':Mem}{w:World}{K:Nat->Option Obj}(he:ei (c.kp K) ρ H w){t:TypeId}{cs:List Value}{C:Array Value}{pa s:Nat}(hs:cQ c.P t=some s)(hC:LR (bG ρ) cs C.toList)(hK:K pa=some (.cells C t))(hB:c.B<=pa)(hp:H.push ⟨cs,t,true,true⟩=some H') :
 ei (c.kp λr=>if r=pa then none else K r) (ρ.put H.size (pa,0)) H' w:=by
 have he':ei (c.kp λr=>if r=pa then none else K r) ρ H w:=he.xL λr o hr=>by
  split at hr
  .cases hr
  exact hr
 refine he'.add hp he'.stay he'.base he'.blk he'.maps (λi b r' y hi hl hr e=>?_) (he.stay.kept pa _ hK) ⟨hB,ag rfl⟩ (qm _) hs (by have:=hC.1;simp at this;omega) ?_ (λ_=>rfl) (DI.full (by have:=hC.1;simp at this;omega))
 .subst e;obtain⟨r,x,C,fr,s,h1,h2,h3⟩:=he.blk i b hi hl;rw[hr]at h1;cases h1;rcases h2 with h2|h2
  .have:=h2.2;simp only at this;rw[hK]at this;cases this
  have:=h2.2;simp only at this;rw[hK]at this;cases this
 have:=hC.begins;simpa using this
structure Uw (P:Program)(ops:Array Oper)(c:Cx)(K:Nat->Option Obj)(a:Act)(ρ:Ren)(ps:List (Nat×Nat×Option Nat)):Prop where
 each:∀q∈ps,c.B<=q.2.1/\c.K q.2.1=none/\∃o te cs C s d,ops[q.1]? = some o/\o.dst=some d/\rf P a.eval o=some (te,cs,q.2.2)/\cQ P te=some s/\LR (bG ρ) cs C.toList/\K q.2.1=some (.cells C te)
 rest:∀r,(∀q∈ps,q.2.1≠r)->K r=c.K r
 nodup:(ps.map (·.2.1)).Nodup
 aei:ps.Pairwise λq q'=>∀o o',ops[q.1]? = some o->ops[q'.1]? = some o'->o.dst≠o'.dst
theorem Uw.next {c:Cx}{K:Nat->Option Obj}{a:Act}{ρ ρ':Ren}{ps:List (Nat×Nat×Option Nat)}(h:Uw P ops c K a ρ ps)(hle:ρ.le ρ'){dst:Option Tmp}(v:Value)(hd:∀q∈ps,∀o,ops[q.1]? = some o->∀x,dst=some x->x ∉ o.looksAt ops):Uw P ops c K (a.put dst v) ρ' ps :=
 ⟨λq hq=>by
  obtain⟨g1,g2,o,te,cs,C,s,d,g3,g4,g5,g6,g7,g8⟩:=h.each q hq;exact⟨g1,g2,o,te,cs,C,s,d,g3,g4,by rw[wA a v (hd q hq o g3)];exact g5,g6,g7.mono λ_ _=>bG.mono hle,g8⟩,h.rest,h.nodup,h.aei⟩
def ng (ops:Array Oper)(ps:List (Nat×Nat×Option Nat)):List (Option Tmp×Value):=ps.map λq=>((ops[q.1]?).bind (·.dst),yh q.2.2 q.2.1)
theorem qA {o oi:Oper}(a:Act)(v:Value)(h:∀d,oi.dst=some d->d ∉ o.looksAt ops):∀x∈o.op.operands,(a.put oi.dst v).eval x=a.eval x:=λx hx=>Act.eval_put λd hd hxd=>h d hd (by
 subst hxd;exact eE _ (mF.2 ⟨.tmp d,by simpa using hx,rfl⟩))
theorem KK {o:Oper}{ev ev':Operand->Value}(hv:∀x∈o.op.operands,ev x=ev' x)(hsel:∀cs b,o.op ≠ .select cs b):gM P ev o=gM P ev' o:=by
 have hc:execOp ev o=execOp ev' o:=execOp_congr o hsel hv;have ho:de ev o.op=de ev' o.op:=by
  unfold de;rw[bO,aK,aK];constructor
  .intro hh x hx;rw[<-hv x (by simpa using hx)];exact hh x hx
  intro hh x hx;rw[hv x (by simpa using hx)];exact hh x hx
 unfold gM;rw[hc,ho]
theorem zM {ev ev':Operand->Value}{ps:Array (Nat×Operand)}(h:∀q∈ps,ev q.2=ev' q.2):nR ev ps=nR ev' ps:=by
 unfold nR;apply lI;intro q hq;rw[h q (by simpa using hq)]
theorem Gp {o:Oper}{ev ev':Operand->Value}(H:Mem)(hv:∀x∈o.op.operands,ev x=ev' x)(hsel:∀cs b,o.op ≠ .select cs b):jn P call ev o H=jn P call ev' o H:=by
 have hp:=KK (P:=P) hv hsel;unfold jn;split;case h_1 hop=>rw[hv _ (by simp[hop,Op.operands])]
 case h_2 hop=>rw[hv _ (by simp[hop,Op.operands])]
 case h_3 c x y hop=>rw[hv c (by simp[hop,Op.operands]),hv x (by simp[hop,Op.operands]),hv y (by simp[hop,Op.operands])]
 case h_4 op t x y yt hop=>unfold vX;rw[hp,hv x (by simp[hop,Op.operands]),hv y (by simp[hop,Op.operands])]
 case h_5 hop=>rfl
 case h_6 t x hop=>rw[hv x (by simp[hop,Op.operands])]
 case h_7 t ps hop=>rw[zM λq hq=>hv q.2 (by simp[hop,Op.operands];exact⟨q.1,by simpa using hq⟩)]
 case h_8 t len ps hop=>rw[zM λq hq=>hv q.2 (by simp[hop,Op.operands];exact⟨q.1,by simpa using hq⟩)]
 case h_9 t x hop=>rw[hv x (by simp[hop,Op.operands])]
 case h_10 t x y hop=>rw[hv x (by simp[hop,Op.operands]),hv y (by simp[hop,Op.operands])]
 case h_11 x hop=>rw[hv x (by simp[hop,Op.operands])]
 case h_12 s x f hop=>rw[hv x (by simp[hop,Op.operands])]
 case h_13 t x ix hop=>rw[hv x (by simp[hop,Op.operands]),hv ix (by simp[hop,Op.operands])]
 case h_14 x k hop=>rw[hv x (by simp[hop,Op.operands])]
 case h_15 t l c hop=>rw[hv l (by simp[hop,Op.operands]),hv c (by simp[hop,Op.operands])]
 case h_16 fn first captured hop =>
  rw[Array.map_congr_left (xs:=first) λx hx=>hv x (by simp[hop,Op.operands,hx]),Array.map_congr_left (xs:=captured) λx hx=>hv x (by simp[hop,Op.operands,hx])]
 case h_17 t x lo hi hop =>
  have e1:lo.map ev=lo.map ev':=by cases lo with|none=>rfl|some y=>simp only[bL];rw[hv y (by simp[hop,Op.operands])]
  have e2:hi.map ev=hi.map ev':=by cases hi with|none=>rfl|some y=>simp only[bL];rw[hv y (by simp[hop,Op.operands])]
  unfold pn;rw[hp,e1,e2,hv x (by simp[hop,Op.operands])]
 case h_18 t x f hop=>rw[hv x (by simp[hop,Op.operands])]
 case h_19 t x ix hop=>unfold HZ;rw[hp,hv x (by simp[hop,Op.operands]),hv ix (by simp[hop,Op.operands])]
 case h_20 s d x hop=>unfold kO;rw[hp,hv x (by simp[hop,Op.operands])]
 case h_21 cl hop =>
  have og:∀x∈cl.args,ev x=ev' x:=λx hx=>hv x (by simp[hop,Op.operands,Call.operands,hx])
  unfold eu;split
  .rename_i f hf;unfold DC;rw[hp,hv f (by simp[hop,hf,Op.operands,Call.operands]),lI (l:=cl.args.toList) (f:=ev) (g:=ev') λx hx=>og x (by simpa using hx)]
  .unfold rT;split
   .unfold zw;split
    .rename_i x t hx _;rw[og x (aY hx),hp]
    rfl
   .unfold se;split
    .rename_i s x st xt hs0 hx0 _ _;rw[og s (aY hs0),og x (aY hx0)]
    rfl
   .unfold AW;split
    .rename_i d x dt hd0 hx0 _;rw[og d (aY hd0),og x (aY hx0)]
    rfl
   .unfold tU;split
    .rename_i x t hx _;rw[og x (aY hx)]
    rfl
   .unfold oN;split
    .rename_i x hx;rw[og x (fm.1 (by rw[hx];simp))]
    rfl
   .unfold AX;split
    .rename_i p n pt _ hx _;rw[og p (fm.1 (by rw[hx];simp)),og n (fm.1 (by rw[hx];simp))]
    rfl
   rw[hp]
  rfl
 case h_22 t r hop =>
  have e1:r.map ev=r.map ev':=by cases r with|none=>rfl|some y=>simp only[bL];rw[hv y (by simp[hop,Op.operands])]
  rw[e1]
 case h_23 t x k ok hop=>rw[hv x (by simp[hop,Op.operands]),hv k (by simp[hop,Op.operands])]
 case h_24 t m k x hop=>rw[hv m (by simp[hop,Op.operands]),hv k (by simp[hop,Op.operands]),hv x (by simp[hop,Op.operands])]
 case h_25 t m k x hop=>rw[hv m (by simp[hop,Op.operands]),hv k (by simp[hop,Op.operands]),hv x (by simp[hop,Op.operands])]
 case h_26=>rw[hp]
theorem Gq {o oi:Oper}(a:Act)(v:Value)(H:Mem)(h1:∀d,oi.dst=some d->d ∉ o.looksAt ops)(h2:∀d,oi.dst=some d->o.dst≠some d)(hsel:∀cs b,o.op ≠ .select cs b) :
 jg P call ops o (a.put oi.dst v) H=(jg P call ops o a H).map λr=>(r.1.put oi.dst v,r.2):=by
 unfold jg;rw[wanted_put o a oi.dst v h1,Gp (P:=P) (call:=call) H (qA a v h1) hsel];split
 .cases jn P call a.eval o H with
  |none=>rfl
  |some r=>simp[Act.put_comm a v r.1 h2]
 simp[Act.put_comm a v undef h2]
theorem Cc {op:Op}{s:Operand}(h:kE op=some s):s∈op.operands:=by
 unfold kE at h;split at h
 .rename_i args ats;have:=aY h;simp only[Op.operands,Call.operands];simpa using this
 cases h
theorem FY {op:Op}{s:Operand}(h:mC op=some s):s∈op.operands:=by
 unfold mC at h;split at h
 .cases h;simp[Op.operands]
 cases h
theorem DV {o oi:Oper}{R:Option (List Nat)}{lk:Bool}(a:Act)(v:Value)(H:Mem)(h1:∀d,oi.dst=some d->d ∉ o.looksAt ops)(h2:∀d,oi.dst=some d->o.dst≠some d)(hsel:∀cs b,o.op ≠ .select cs b) :
 nW P call ops R lk o (a.put oi.dst v) H=(nW P call ops R lk o a H).map λr=>(r.1.put oi.dst v,r.2):=by
 unfold nW;rw[Gq a v _ h1 h2 hsel,Gq a v _ h1 h2 hsel];split
 .cases hb:kE o.op with
  |some s =>
   simp only;rw[qA a v h1 s (Cc hb)];split
   .rfl
   rfl
  |none =>
   simp only;have hsc:iD R (a.put oi.dst v).eval o=iD R a.eval o:=by
    unfold iD;split
    .rename_i s hs;rw[qA a v h1 s (FY hs)]
    rfl
   rw[hsc];split
   .rfl
   cases jg P call ops o a { H with lk:=H.size } with
   |none=>rfl
   |some r=>rfl
 rfl
theorem wB {o:Oper}{a a':Act}{H H':Mem}(h:jg P call ops o a H=some (a',H')):∃u,a'=a.put o.dst u:=by
 unfold jg at h;split at h
 .simp only[aL]at h;obtain⟨r,_,heq⟩:=h;cases heq;exact⟨_,rfl⟩
 cases h;exact⟨_,rfl⟩
theorem lS {o:Oper}{R:Option (List Nat)}{lk:Bool}{a a':Act}{H H':Mem}(h:nW P call ops R lk o a H=some (a',H')):∃u,a'=a.put o.dst u:=by
 rcases rE h with⟨h,_⟩|⟨_,u,hu,heq⟩
 .exact wB h
 cases heq;exact wB hu
theorem Zq (hno:iX P){G:Nat}(hok:T8 G ops.toList=true)(hcall:pZ P G GR call)(hk:fu call)(hsel:∀(j:Nat) (o:Oper) cs b,ops[j]? = some o->o.op ≠ .select cs b){c:Cx}(iY:c.P=P)(iA:c.At G GR){Fin:Act->Mem->Prop}{Q:Exit->Act->World->Prop}
 {RL:List (Nat×Option Nat)} {x:Option Nat} {listed:Array Bool} {eU:List Nat} {a:Act} {H:Mem} (h:oG P call ops Fin RL x listed eU a H) :
 ∀(K:Nat->Option Obj) (ps:List (Nat×Nat×Option Nat)) (ρ:Ren) (w:World) (ar:Act),ps.map (·.1)=eU->Uw P ops c K a ρ ps->AP ρ a ar->ei (c.kp K) ρ H w->(∀a' H' ρ' ar' w',Fin a' H'->ρ.le ρ'->AP ρ' a' ar'->ei c ρ' H' w'->Q .normal ar' w') ->
  match x with
  |none=>∀n,cnt ops listed<=n->wpAny P .any ops Q n listed (fY (ng ops ps) ar) w
  |some i=>∀n,cnt ops (listed.setIfInBounds i true)<=n->wpOp P ops Q i (wpAny P .any ops Q n (listed.setIfInBounds i true)) (fY (ng ops ps) ar) w:=by
 have ajg:∀{i:Nat} {o:Oper},ops[i]? = some o->o.op.operands.toList.all (dW G)=true:=λ{i o} ho=>aK.1 hok o (by have:=aY ho;simpa using this)
 induction h with
 |@pay listed l1 l2 i o R lk a a' H H' ho hm hst hap h ih =>
  intro K ps ρ w ar hps hO hs he hQ n hn;obtain⟨ps1,ps2',rfl,hp1,Ux⟩:=List.map_eq_append_iff.1 hps;obtain⟨q,ps2,rfl,hq,Ux⟩:=List.map_eq_cons_iff.1 Ux;obtain⟨hB,hc0,o',te,cs,C,s,d,ho',FZ,wz,hsz,hC,hK⟩:=hO.each q (by simp);rw[hq,ho]at ho';cases ho';obtain⟨te',cs',sh',hmade',hp,rfl⟩:=Ba hm hst;rw[wz]at hmade';cases hmade';have hnd:q.2.1 ∉ (ps1++ps2).map (·.2.1)/\((ps1++ps2).map (·.2.1)).Nodup:=by
   have h1:=hO.nodup;rw[fC,cO]at h1;have:=(List.perm_middle (a:=q.2.1) (l₁:=ps1.map (·.2.1)) (l₂:=ps2.map (·.2.1))).nodup_iff.1 h1
   rw[fC];exact lJ.1 this
  have sub:∀{y:Nat×Nat×Option Nat},y∈ps1++ps2->y∈ps1++q::ps2:=λhx=>by
   rcases cJ.1 hx with h1|h1
   .exact eE _ h1
   exact iJ _ (bD _ h1)
  have hpw:=List.pairwise_append.1 hO.aei;have hle:=he.wm (aC H.size) (q.2.1,0);have hmid:fY (ng ops (ps1++q::ps2)) ar=fY (ng ops (ps1++ps2)) (ar.put o.dst (yh q.2.2 q.2.1)):=by
   unfold ng;rw[fC,cO,fC];have e:(ops[q.1]?).bind (·.dst)=o.dst:=by rw[hq,ho];rfl
   rw[e];refine NH _ _ _ λy hy x hx hd=>?_
   obtain⟨q',hq',rfl⟩:=bZ.1 hy;obtain⟨_,_,o2,Zr,FP,C2,s2,d2,C8,_⟩:=hO.each q' (by simp[hq']);simp only[C8,aW]at hx;exact hpw.2.2 q' hq' q (by simp) o2 o C8 (by rw[hq];exact ho) (by rw[hx,hd])
  rw[hmid];subst iY;have hO1:Uw c.P ops c (λr=>if r=q.2.1 then none else K r) a ρ (ps1++ps2):=by
   refine⟨λy hy=>?_,λr hr=>?_,hnd.2,?_⟩
   .obtain ⟨g1,g2,o2,Zr,FP,C2,s2,d2,g3,g4,g5,g6,g7,g8⟩:=hO.each y (sub hy);refine⟨g1,g2,o2,Zr,FP,C2,s2,d2,g3,g4,g5,g6,g7,?_⟩;have hne:y.2.1≠q.2.1:=λe=>hnd.1 (by rw[<-e];exact bZ.2 ⟨y,hy,rfl⟩)
    rw[aa hne];exact g8
   .by_cases e:r=q.2.1
    .rw[ag e,e,hc0]
    rw[aa e];refine hO.rest r λy hy=>?_
    rcases cJ.1 hy with h1|h1
    .exact hr y (eE _ h1)
    rcases bx.1 h1 with rfl|h1
    .exact jH e
    exact hr y (iJ _ h1)
   exact List.pairwise_append.2 ⟨hpw.1,(List.pairwise_cons.1 hpw.2.1).2,λy hy y' hy'=>hpw.2.2 y hy y' (by simp[hy'])⟩
  refine ih _ (ps1++ps2) (ρ.put H.size (q.2.1,0)) w _ (by rw[fC,hp1,Ux]) (hO1.next hle _ λy hy om NK=>hap y.1 (by rw[<-hp1,<-Ux,<-fC];exact bZ.2 ⟨y,hy,rfl⟩) om NK) ((hs.mono hle).put o.dst (Uv _ (Ren.mb _ _ _))) (he.aeh hsz hC hK hB hp) (λa' H' ρ' ar' w' k0 k1=>hQ a' H' ρ' ar' w' k0 (Ren.le_trans hle k1)) n hn
 |@step listed eU a H h0 h ih =>
  intro K ps ρ w ar hps hO hs he hQ n hn;have fin:Region.ready .any ops listed=[]->Q .normal (fY (ng ops ps) ar) w:=λhr=>by
   obtain⟨h1,h2⟩:=h0 hr;subst h1;have:ps=[]:=List.map_eq_nil_iff.1 hps;subst this;have hKK:K=c.K:=funext λr=>hO.rest r λq hq=>by cases hq
   subst hKK;exact hQ _ _ ρ ar w h2 (Ren.le_refl _) hs he
  cases n with
  |zero =>
   have zN:Region.ready .any ops listed=[]:=gD.2 λi hi=>by
    have:=(A9 hi).2.2;omega
   exact⟨zN,fin zN⟩
  |succ n=>exact⟨fin,λi hi=>ih i hi K ps ρ w ar hps hO hs he hQ n (by have:=(A9 hi).2.2;omega)⟩
 |@sync listed eU i o R lk a a' H H' ho hst hR hap h ih =>
  intro K ps ρ w ar hps hO hs he hQ n hn;refine Gn ho (λcs b=>hsel i o cs b ho) _ _ (λq hq=>?_) ?_
  .obtain ⟨y,hy,rfl⟩:=bZ.1 hq;obtain⟨_,_,o2,Zr,FP,C2,s2,d2,C8,_⟩:=hO.each y hy;have h1:=(hap y.1 (by rw[<-hps];exact bZ.2 ⟨y,hy,rfl⟩) o2 C8).1;simp only[C8,aW];exact⟨λx hx=>(h1 x hx).1,λx hx=>(h1 x hx).2⟩
  obtain⟨u,rfl⟩:=lS hst;unfold wpOp;simp only[ho];exact RU hno hcall hk (ajg ho) hst (c:=c.kp K) iY ⟨iA.g,iA.rows,iA.len⟩ hs he fun ρ' ar' w' h1 h2 h3=>ih K ps ρ' w' ar' hps (hO.next h1 u λy hy om NK=>(hap y.1 (by rw[<-hps];exact bZ.2 ⟨y,hy,rfl⟩) om NK).2) h2 h3 (λa'' H'' ρ'' ar'' w'' k0 k1=>hQ a'' H'' ρ'' ar'' w'' k0 (Ren.le_trans h1 k1)) n hn
 |@owe listed eU i o a H ho hm wz hd h ih =>
  intro K ps ρ w ar hps hO hs he hQ n hn;obtain⟨hg,⟨d,FZ⟩,_⟩:=sn hm;obtain⟨⟨te,cs,sh⟩,hmd⟩:=bU.1 wz;have hw:∀ar:Act,Region.wanted o (yielded ops ar.tmps)=true:=λar=>by unfold Region.wanted;rw[hg]
  subst iY;have hG0:=iA.g;subst hG0;have anO:EvR ρ a.eval ar.eval o.op:=λx hx=>hs.eval he.jo (aK.1 (ajg ho) x (by simpa using hx))
  have hsame:∀(l:List (Option Tmp×Value)) (ar:Act),(∀q∈l,∀x,q.1=some x->x ∉ o.looksAt ops)->∀x∈o.op.operands,(fY l ar).eval x=ar.eval x:=by
   intro l;induction l with
   |nil=>intro ar _ x _;rfl
   |cons q l ih =>
    intro ar hq x hx;show (fY l (ar.put q.1 q.2)).eval x=_;rw[ih _ (λy hy=>hq y (by simp[hy])) x hx];exact qA (ops:=ops) (oi:={ o with dst:=q.1 }) ar q.2 (λd' hd'=>hq q (by simp) d' hd') x hx
  have cg:EvR ρ a.eval (fY (ng ops ps) ar).eval o.op:=λx hx=>by
   rw[hsame (ng ops ps) ar (λq hq y hy=>?_) x hx]
   .exact anO x hx
   obtain⟨z,hz,rfl⟩:=bZ.1 hq;obtain⟨_,_,o2,Zr,FP,C2,s2,d2,C8,_⟩:=hO.each z hz;simp only[C8,aW]at hy;exact(hd z.1 (by rw[<-hps];exact bZ.2 ⟨z,hz,rfl⟩) o2 C8).2 y hy
  obtain⟨⟨s,hsz⟩,C,hC,hrun⟩:=Uu cg hmd;unfold wpOp;simp only[ho];rw[ag (hw _)];refine .inl ?_;unfold Oper.wp;rw[hrun];simp only[Oper.upon];have fresh:=he.stay.fresh he.base;have hne:∀q∈ps,q.2.1≠w.heap.size:=λq hq e=>by
   obtain⟨_,_,o2,Zr,FP,C2,s2,d2,_,_,_,_,_,hK2⟩:=hO.each q hq;have:=fresh.2;simp only at this;rw[<-e,hK2]at this;cases this
  have hput:(fY (ng ops ps) ar).put o.dst (yh sh w.heap.size)=fY (ng ops ((i,w.heap.size,sh)::ps)) ar:=by
   have e:(ops[i]?).bind (·.dst)=o.dst:=by rw[ho];rfl
   unfold ng;rw[cO];simp only[fY];rw[e];refine(DU _ _ λy hy x hx hxd=>?_).symm;obtain⟨q,hq,rfl⟩:=bZ.1 hy;obtain⟨_,_,o2,Zr,FP,C2,s2,d2,C8,_⟩:=hO.each q hq;simp only[C8,aW]at hx;exact(hd q.1 (by rw[<-hps];exact bZ.2 ⟨q,hq,rfl⟩) o2 C8).1 (by rw[hx,hxd])
  rw[hput];refine ih _ ((i,w.heap.size,sh)::ps) ρ _ ar (by simp[hps]) ⟨λq hq=>?_,λr hr=>?_,?_,?_⟩ hs (he.NJ (.cells C te)) hQ n hn
  .rcases bx.1 hq with rfl|hq
   .refine ⟨fresh.1,?_,o,te,cs,C,s,d,ho,FZ,hmd,hsz,hC,ag rfl⟩;rw[<-hO.rest w.heap.size hne];exact fresh.2
   obtain⟨g1,g2,o2,Zr,FP,C2,s2,d2,g3,g4,g5,g6,g7,g8⟩:=hO.each q hq;exact⟨g1,g2,o2,Zr,FP,C2,s2,d2,g3,g4,g5,g6,g7,by rw[aa (hne q hq)];exact g8⟩
  .have:=hr (i,w.heap.size,sh) (by simp);simp only at this;rw[aa (jH this)];exact hO.rest r λq hq=>hr q (by simp[hq])
  .rw[cO];refine lJ.2 ⟨λhm'=>?_,hO.nodup⟩;obtain⟨q,hq,e⟩:=bZ.1 hm';exact hne q hq e
  refine List.pairwise_cons.2 ⟨λq hq o1 o2 h1 h2 e=>?_,hO.aei⟩;rw[ho]at h1;cases h1;exact(hd q.1 (by rw[<-hps];exact bZ.2 ⟨q,hq,rfl⟩) o2 h2).1 e.symm
theorem gQ {H H':Mem}{x:Option Value}{v:Value}(h:cB H x=some (v,H')):H'=H/\∀H2,cB H2 x=some (v,H2):=by
 obtain⟨rfl,rfl⟩:=bP h;exact⟨rfl,λ_=>rfl⟩
theorem NM {ev:Operand->Value}{o:Oper}{args:Array Operand}{ats:Array TypeId}{H H':Mem}{v:Value}(h:zw P ev o args ats H=some (v,H')):H'=H/\∀H2,zw P ev o args ats H2=some (v,H2):=by
 unfold zw at h ⊢;generalize args[0]? = x at h ⊢;generalize ats[0]? = y at h ⊢;cases x<;>cases y<;>first|(cases h;done)|exact gQ h
theorem KL {ev:Operand->Value}{o:Oper}{H H':Mem}{v:Value}(hq:quiet P o.op=true)(h:jn P call ev o H=some (v,H')) :
 H'=H/\(kP o.op=false->∀H2,jn P call ev o H2=some (v,H2))/\(∀H2,Ext H H2->jn P call ev o H2=some (v,H2)):=by
 have all:∀{f:Mem->Option (Value×Mem)},(H'=H/\∀H2,f H2=some (v,H2))->H'=H/\(kP o.op=false->∀H2,f H2=some (v,H2))/\(∀H2,Ext H H2->f H2=some (v,H2)):=λhh=>⟨hh.1,λ_=>hh.2,λH2 _=>hh.2 H2⟩
 unfold jn at h ⊢;split at h;case h_1 hop=>cases h;simp only[hop]at all ⊢;refine⟨?_,?_,?_⟩<;>intros<;>trivial
 case h_2 hop=>cases h;simp only[hop]at all ⊢;refine⟨?_,?_,?_⟩<;>intros<;>trivial
 case h_3 hop =>
  simp only[hop]at all ⊢;unfold DB at h ⊢;split at h
  .rename_i t ht;cases h;simp only;refine⟨?_,?_,?_⟩<;>intros<;>trivial
  cases h
 case h_4 hop=>simp only[hop]at all ⊢;exact all (gQ h)
 case h_5 hop=>simp[hop,quiet]at hq
 case h_6 hop=>simp[hop,quiet]at hq
 case h_7 hop=>simp only[hop]at all ⊢;exact all (gQ h)
 case h_8 hop=>simp[hop,quiet]at hq
 case h_9 t x hop =>
  obtain⟨hu,rfl⟩:=bP h;simp only[hop];refine⟨trivial,λhl=>by simp[kP]at hl,λH2 hx=>?_⟩;have hal:∀i b,alive H' i=some b->alive H2 i=some b:=by
   intro i b hb;obtain⟨h1,h2⟩:=dF hb;unfold alive;rw[hx i b h1];simp[h2]
  have:qZ P H2 t (ev x)=some v:=by
   unfold qZ at hu ⊢;split at hu
   .split at hu
    .rename_i n _ _;simp only[aL]at hu ⊢;obtain⟨l,hl,rfl⟩:=hu;refine⟨l,?_,rfl⟩;unfold fU at hl ⊢;split at hl
     .rename_i b hb;rw[hal _ _ hb];exact hl
     cases hl
    .split at hu
     .rename_i b hb;rw[hal _ _ hb];exact hu
     cases hu
    cases hu
   cases hu
  rw[this];rfl
 case h_10 hop=>simp[hop,quiet]at hq
 case h_11 hop =>
  simp only[hop]at all ⊢;unfold r9 at h ⊢;split at h
  .rename_i q hx;cases h;simp only;refine⟨?_,?_,?_⟩<;>intros<;>trivial
  .rename_i q1 q2 q3 hx;cases h;simp only;refine⟨?_,?_,?_⟩<;>intros<;>trivial
  cases h
 case h_12 hop=>simp only[hop]at all ⊢;exact all (gQ h)
 case h_13 hop=>simp only[hop]at all ⊢;exact all (gQ h)
 case h_14 x k hop =>
  simp only[hop]at all ⊢;unfold rS at h ⊢;generalize ev x=q at h ⊢;cases q<;>first|(cases h;done)|exact all (gQ h)
 case h_15 hop=>simp[hop,quiet]at hq
 case h_16 hop=>cases h;simp only[hop]at all ⊢;refine⟨?_,?_,?_⟩<;>intros<;>trivial
 case h_17 hop =>
  simp only[hop]at all hq ⊢;simp only[quiet,aS]at hq;unfold pn at h ⊢;rw[hq]at h ⊢;exact all (gQ h)
 case h_18 hop=>simp only[hop]at all ⊢;exact all (gQ h)
 case h_19 hop=>simp only[hop]at all ⊢;exact all (gQ h)
 case h_20 s d x hop =>
  simp only[hop]at all hq ⊢;simp only[quiet,ak,aS]at hq;unfold kO at h ⊢;split at h
  .rename_i u hu;cases h;simp only;refine⟨?_,?_,?_⟩<;>intros<;>trivial
  exfalso;unfold jf at h;split at h
  .have hq1:=hq.1.1;clear h all hq;simp_all[v9]
  .have hq2:=hq.1.2;clear h all hq;simp_all[v9]
  .have hq1:=hq.1.1;clear h all hq;simp_all[v9]
  .have hq3:=hq.2;clear h all hq;simp_all[Nr]
  .have hq3:=hq.2;clear h all hq;simp_all[Nr]
  cases h
 case h_21 cl hop =>
  obtain⟨callee,args,ats⟩:=cl;simp only[hop]at all hq ⊢;unfold eu at h ⊢;cases callee with
  |value f=>simp[quiet]at hq
  |invoke r m=>cases h
  |builtin b =>
   simp only at h ⊢;unfold rT at h ⊢;cases b;case append=>simp[quiet]at hq
   case copy=>simp[quiet]at hq
   case len =>
    exact all (NM h)
   case cap =>
    simp only at h ⊢;unfold tU at h ⊢;split at h
    .rename_i x t hx0 Y0;obtain⟨hu,rfl⟩:=bP h;refine⟨rfl,λhl=>by simp[kP]at hl,λH2 hx=>?_⟩;have:CF P H2 t (ev x)=some v:=by
      unfold CF at hu ⊢;split at hu
      .split at hu
       .rename_i b hb;have hal:∀i b,alive H' i=some b->alive H2 i=some b:=by
         intro i b hb;obtain⟨h1,h2⟩:=dF hb;unfold alive;rw[hx i b h1];simp[h2]
        rw[hal _ _ hb];exact hu
       cases hu
      .exact hu
      cases hu
     rw[this];rfl
    cases h
   all_goals first|(simp[quiet]at hq;done)|(simp only at h ⊢;exact all (gQ h))
 case h_22 hop=>simp[hop,quiet]at hq
 case h_23 t x k ok hop =>
  obtain⟨hu,rfl⟩:=bP h;simp only[hop];refine⟨trivial,λhl=>by simp[kP]at hl,λH2 hx=>?_⟩;have hen:∀{y:Value} {cs:List Value},pq H' y=some cs->pq H2 y=some cs:=by
   intro y cs hy;unfold pq at hy ⊢;split at hy
   .exact hy
   .split at hy
    .rename_i b hb;obtain⟨h1,h2⟩:=uS hb;simp only[mapOf,hx _ b h1,h2];exact hy
    cases hy
   cases hy
  have:vD P H2 t (ev x) (ev k) ok=some v:=by
   unfold vD at hu ⊢;split at hu
   .split at hu
    .rename_i hd hz hcs;rw[hen hcs,hd,hz];exact hu
    cases hu
   cases hu
  rw[this];rfl
 case h_24 hop=>simp[hop,quiet]at hq
 case h_25 hop=>simp[hop,quiet]at hq
 case h_26=>exact all (gQ h)
def QY (P:Program)(call:cG)(ops:Array Oper)(o:Oper)(v:Value)(a:Act)(H:Mem):Prop :=
 (Region.wanted o (yielded ops a.tmps)=true/\jn P call a.eval o H=some (v,H))\/(Region.wanted o (yielded ops a.tmps)=false/\v=undef)
theorem QY.step {o:Oper}{v:Value}{a:Act}{H:Mem}(h:QY P call ops o v a H):jg P call ops o a H=some (a.put o.dst v,H):=by
 unfold jg;rcases h with⟨h1,h3⟩|⟨h1,rfl⟩
 .simp only[h1,fF,h3];rfl
 simp[h1]
theorem QY.Zs {o:Oper}{a a':Act}{H H':Mem}(hq:quiet P o.op=true)(h:jg P call ops o a H=some (a',H')):H'=H/\∃v,a'=a.put o.dst v/\QY P call ops o v a H:=by
 unfold jg at h;split at h
 .rename_i hw;simp only[aL]at h;obtain⟨⟨r1,r2⟩,hr,heq⟩:=h;cases heq;obtain⟨h1,_,_⟩:=KL hq hr;rw[h1]at hr ⊢;exact⟨rfl,_,rfl,.inl ⟨hw,hr⟩⟩
 rename_i hw;cases h;exact⟨rfl,_,rfl,.inr ⟨by simpa using hw,rfl⟩⟩
theorem QY.move {o oj:Oper}{v u:Value}{a:Act}{H:Mem}(h:QY P call ops o v a H)(hap:∀d,oj.dst=some d->d ∉ o.looksAt ops)(hsel:∀cs b,o.op ≠ .select cs b):QY P call ops o v (a.put oj.dst u) H:=by
 unfold QY at *;rw[wanted_put o a oj.dst u hap,Gp (P:=P) (call:=call) H (qA a u hap) hsel];exact h
theorem QY.mem {o:Oper}{v:Value}{a:Act}{H H':Mem}(hq:quiet P o.op=true)(h:QY P call ops o v a H)(hm:kP o.op=false\/Ext H H'):QY P call ops o v a H':=by
 rcases h with⟨h1,h3⟩|h
 .obtain ⟨_,k2,k3⟩:=KL hq h3;rcases hm with hm|hm
  .exact .inl ⟨h1,k2 hm H'⟩
  exact .inl ⟨h1,k3 H' hm⟩
 exact .inr h
def sq (ops:Array Oper)(listed:Array Bool):Prop :=
 ∀k o,ops[k]? = some o->listed.getD k false=true->∀e∈o.after,Region.binds .any e=true->listed.getD e.on false=true
theorem sq.add {listed:Array Bool}(h:sq ops listed){i:Nat}(hi:i∈Region.ready .any ops listed):sq ops (listed.setIfInBounds i true):=by
 intro k o ho hk e he hb;apply getD_set_true;by_cases hik:i=k
 .subst hik;obtain⟨_,o',ho',hall⟩:=mem_ready.1 hi;rw[ho]at ho';cases ho';exact hall e he hb
 rw[getD_set_ne false hik]at hk;exact h k o ho hk e he hb
theorem zO {listed:Array Bool}(hc:sq ops listed){i j:Nat}(h:Reach ops i j)(hi:listed.getD i false=true):listed.getD j false=true:=by
 induction h with
 |one ho he hb=>exact hc _ _ ho hi _ he hb
 |more ho he hb _ ih=>exact ih (hc _ _ ho hi _ he hb)
theorem KM {listed:Array Bool}(hc:sq ops listed){i j:Nat}(hi:i∈Region.ready .any ops listed)(hj:j∈Region.ready .any ops listed):¬Reach ops j i:=by
 intro h;obtain⟨hi0,_⟩:=mem_ready.1 hi;have aji:listed.getD i false=true->False:=by
  intro h1;by_cases hlt:i<listed.size
  .simp[Array.getD,hlt]at h1 hi0;rw[h1]at hi0;cases hi0
  simp[Array.getD,hlt]at h1
 obtain⟨_,o,ho,hall⟩:=mem_ready.1 hj;cases h with
 |one ho' he hb=>rw[ho]at ho';cases ho';exact aji (hall _ he hb)
 |more ho' he hb h2=>rw[ho]at ho';cases ho';exact aji (zO hc h2 (hall _ he hb))
def QM (o:Oper)(a:Act)(pr:Option Nat):Prop:=pr=none\/∃b t x off m,pr=some b/\o.op = .load t x/\a.eval x = .pointer (some ⟨b,off,m⟩)
theorem QY.anQ {o:Oper}{v:Value}{a:Act}{H H':Mem}(hq:quiet P o.op=true)(h:QY P call ops o v a H){pr:Option Nat}(hm:QM o a pr)(hp:KF pr H H'):QY P call ops o v a H':=by
 rcases hm with rfl|⟨b,t,x,off,m,rfl,hop,hx⟩
 .exact h.mem hq (.inr hp)
 rcases h with⟨h1,h3⟩|h
 .refine .inl ⟨h1,?_⟩;unfold jn at h3 ⊢;rw[hop]at h3 ⊢;simp only at h3 ⊢;obtain⟨hu,_⟩:=bP h3;have hal:∀k,alive H b=some k->alive H' b=some k:=by
   intro k hb;obtain⟨h1,h2⟩:=dF hb;unfold alive;rw[hp k h1];simp[h2]
  have:qZ P H' t (a.eval x)=some v:=by
   rw[hx]at hu ⊢;unfold qZ at hu ⊢;split at hu
   .rename_i heq;cases heq;split at hu
    .rename_i n _ _;simp only[aL]at hu ⊢;obtain⟨l,hl,rfl⟩:=hu;refine⟨l,?_,rfl⟩;unfold fU at hl ⊢;split at hl
     .rename_i k hb;rw[hal _ hb];exact hl
     cases hl
    .split at hu
     .rename_i k hb;rw[hal _ hb];exact hu
     cases hu
    cases hu
   cases hu
  rw[this];rfl
 exact .inr h
theorem QM.move {o:Oper}{a:Act}{pr:Option Nat}(h:QM o a pr){dst:Option Tmp}(u:Value)(hd:∀d,dst=some d->d ∉ o.looksAt ops):QM o (a.put dst u) pr:=by
 rcases h with rfl|⟨b,t,x,off,m,rfl,hop,hx⟩
 .exact .inl rfl
 refine .inr ⟨b,t,x,off,m,rfl,hop,?_⟩;rw[<-hx];exact Act.eval_put λd h1 h2=>hd d h1 (by
  subst h2;exact eE _ (mF.2 ⟨.tmp d,by simp[hop,Op.operands],rfl⟩))
theorem oG.weak {Fin:Act->Mem->Prop}{RL RL':List (Nat×Option Nat)}(hsub:∀q∈RL,q∈RL'){x:Option Nat}{l:Array Bool}{eU:List Nat}{a:Act}{H:Mem}(h:oG P call ops Fin RL' x l eU a H):oG P call ops Fin RL x l eU a H:=by
 induction h with
 |pay ho hm hst hap _ ih=>exact .pay ho hm hst hap ih
 |step h0 _ ih=>exact .step h0 ih
 |sync ho hst hR hap _ ih=>exact .sync ho hst (λq hq=>hR q (hsub q hq)) hap ih
 |owe ho hm wz hd _ ih=>exact .owe ho hm wz hd ih
theorem NN (hk:fu call){Fin:Act->Mem->Prop}(hsel:∀(j:Nat) (o:Oper) cs b,ops[j]? = some o->o.op ≠ .select cs b){i:Nat}{oi:Oper}{v:Value}(hi:ops[i]? = some oi)(hq:quiet P oi.op=true)
 {RL RL':List (Nat×Option Nat)} (hsub:∀q∈RL,q∈RL') {x:Option Nat} {l1:Array Bool} {eU:List Nat} {a1:Act} {H:Mem} (hA:oG P call ops Fin RL' x l1 eU a1 H):∀(listed:Array Bool) (a:Act),l1=listed.setIfInBounds i true->a1=a.put oi.dst v->(kP oi.op=false\/∃pr,(i,pr)∈RL'/\QM oi a pr) ->
  (∀(j:Nat) (oj:Oper),ops[j]? = some oj->j≠i->(listed.getD j true=false\/j∈eU)->(∀e∈oj.after,Region.binds .any e=true->e.on≠i)->oi.apart ops oj=true) ->
  (∀m∈eU,∀om,ops[m]? = some om->∀e∈om.after,Region.binds .any e=true->e.on≠i)->i ∉ eU ->
  sq ops listed->i∈Region.ready .any ops listed->QY P call ops oi v a H ->
  match x with
  |none=>oG P call ops Fin RL none listed eU a H
  |some j=>j≠i->j∈Region.ready .any ops listed->oG P call ops Fin RL (some j) listed eU a H:=by
 have hni:∀{m:Nat} {om:Oper},ops[m]? = some om->makes P om=true->m≠i:=λNK hm e=>by
  subst e;rw[hi]at NK;cases NK;rw[yL hm]at hq;cases hq
 induction hA with
 |@pay l1 p1 p2 m o R lk a1 a' H H' ho hm hst ajj h ih =>
  rintro listed a rfl rfl hrd hfree CJ hnp n9 hr hy;have hap:=hfree m o ho (hni ho hm) (.inr (by simp)) (CJ m (by simp) o ho);obtain⟨q1,q2,q3⟩:=Oper.apart_spec hap;rw[DV a v H q1 q2 (λcs b=>hsel m o cs b ho)]at hst;simp only[aL]at hst;obtain⟨⟨aj,Hj⟩,RV,heq⟩:=hst;simp only[ax]at heq;obtain⟨rfl,rfl⟩:=heq;obtain⟨u,rfl⟩:=lS RV;obtain⟨_,_,_,_,hp,_⟩:=Ba hm RV;have anU:Ext H Hj:=λk b hb=>by
   obtain⟨_,_,e3⟩:=Mem.dN hp;rw[e3,aa (l7 (Mem.eL hb))];exact hb
  have sub:∀{y:Nat},y∈p1++p2->y∈p1++m::p2:=λhx=>by
   rcases cJ.1 hx with h1|h1
   .exact eE _ h1
   exact iJ _ (bD _ h1)
  exact oG.pay ho hm RV ajj (ih listed _ rfl rfl (hrd.imp id λ⟨pr,e1,e2⟩=>⟨pr,e1,e2.move u q3⟩) (λj oj hj hji hh=>hfree j oj hj hji (hh.imp id sub)) (λk hk'=>CJ k (sub hk')) (λh=>hnp (sub h)) n9 hr ((hy.move q3 (λcs b=>hsel i oi cs b hi)).mem hq (.inr anU)))
 |@step l1 eU a1 H h0 h ih =>
  rintro listed a rfl rfl hrd hfree CJ hnp n9 hr hy;refine oG.step (λh=>(by rw[h]at hr;cases hr)) λj hj=>?_
  by_cases hji:j=i
  .subst hji;have hn:∀m∈eU,∀om,ops[m]? = some om->(∀x,om.dst=some x->x ∉ oi.looksAt ops/\oi.dst≠some x)/\∀x,oi.dst=some x->x ∉ om.looksAt ops:=by
    intro m hm om NK;have hne:m≠j:=λe=>hnp (by rw[<-e];exact hm)
    obtain⟨q1,q2,q3⟩:=Oper.apart_spec (hfree m om NK hne (.inr hm) (CJ m hm om NK));exact⟨λx hx=>⟨q3 x hx,λe=>q2 x e hx⟩,q1⟩
   exact oG.sync (R:=none) (lk:=false) hi (by unfold nW;exact hy.step) (λq _=>.inr (KF.NF λ_ _ hb=>hb)) hn (oG.weak hsub (oG.step h0 h))
  exact ih j (ready_mono hj hji) listed a rfl rfl hrd hfree CJ hnp n9 hr hy hji hj
 |@sync l1 eU j oj R lk a1 a' H H' yM hst hR hap h ih =>
  rintro listed a rfl rfl hrd hfree CJ hnp n9 hr hy hji hj;obtain⟨RW,oj',hoj',hall⟩:=mem_ready.1 hj;rw[yM]at hoj';cases hoj';have hnot:∀e∈oj.after,Region.binds .any e=true->e.on≠i:=λe he hb heq=>by
   have h1:=hall e he hb;have h0:=(mem_ready.1 hr).1;rw[heq]at h1;rcases Nat.lt_or_ge i listed.size with h'|h'
   .simp[h']at h0 h1;rw[h0]at h1;cases h1
   simp[eP h']at h1
  obtain⟨p1,p2,p3⟩:=Oper.apart_spec (hfree j oj yM hji (.inl RW) hnot);rw[DV a v H p1 p2 (λcs b=>hsel j oj cs b yM)]at hst;simp only[aL]at hst;obtain⟨⟨aj,Hj⟩,RV,heq⟩:=hst;simp only[ax]at heq;obtain⟨rfl,rfl⟩:=heq;refine oG.sync yM RV (λq hq=>hR q (hsub q hq)) hap ?_;have hfree':∀(k:Nat) (ok:Oper),ops[k]? = some ok->k≠i->((listed.setIfInBounds j true).getD k true=false\/k∈eU) ->
   (∀e∈ok.after,Region.binds .any e=true->e.on≠i)->oi.apart ops ok=true:=λk ok hk' hki hun hno=>by
   refine hfree k ok hk' hki (hun.imp (λhun=>?_) id) hno;by_cases Ih:j=k
   .subst Ih;exact RW
   rw[getD_set_ne true Ih]at hun;exact hun
  obtain⟨u,rfl⟩:=lS RV;have hyj:QY P call ops oi v a Hj:=by
   rcases hrd with hld|⟨pr,e1,e2⟩
   .exact hy.mem hq (.inl hld)
   rcases hR _ e1 with h1|h1
   .exact absurd h1 (KM n9 hr hj)
   exact hy.anQ hq e2 h1
  exact ih (listed.setIfInBounds j true) _ (Array.setIfInBounds_comm _ _ (jH hji)) rfl (hrd.imp id λ⟨pr,e1,e2⟩=>⟨pr,e1,e2.move u p3⟩) hfree' CJ hnp (n9.add hj) (ready_mono hr (jH hji)) (hyj.move p3 (λcs b=>hsel i oi cs b hi))
 |@owe l1 eU j oj a1 H yM hm wz hd h ih =>
  rintro listed a rfl rfl hrd hfree CJ hnp n9 hr hy hji hj;obtain⟨RW,oj',hoj',hall⟩:=mem_ready.1 hj;rw[yM]at hoj';cases hoj';have hnot:∀e∈oj.after,Region.binds .any e=true->e.on≠i:=λe he hb heq=>by
   have h1:=hall e he hb;have h0:=(mem_ready.1 hr).1;rw[heq]at h1;rcases Nat.lt_or_ge i listed.size with h'|h'
   .simp[h']at h0 h1;rw[h0]at h1;cases h1
   simp[eP h']at h1
  obtain⟨p1,_,_⟩:=Oper.apart_spec (hfree j oj yM hji (.inl RW) hnot);rw[wA a v p1]at wz;refine oG.owe yM hm wz hd (ih (listed.setIfInBounds j true) a (Array.setIfInBounds_comm _ _ (jH hji)) rfl hrd (λk ok hk' hki hun hno=>?_) (λk hk' ok hok'=>?_) (λhh=>by
   rcases bx.1 hh with e|hh
   .exact hji e.symm
   exact hnp hh) (n9.add hj) (ready_mono hr (jH hji)) hy)
  .rcases hun with hun|hun
   .refine hfree k ok hk' hki (.inl ?_) hno;by_cases Ih:j=k
    .subst Ih;exact RW
    rw[getD_set_ne true Ih]at hun;exact hun
   rcases bx.1 hun with rfl|hun
   .exact hfree k ok hk' hki (.inl RW) hno
   exact hfree k ok hk' hki (.inr hun) hno
  rcases bx.1 hk' with rfl|hk'
  .rw[yM]at hok';cases hok';exact hnot
  exact CJ k hk' ok hok'
end
end Go.Ev
namespace Go.Ev
open Go.RowKit
section
variable {P:Program} {call:cG} {ops:Array Oper}
theorem uT (m i:Nat):bit m i=m.testBit i:=by
 unfold bit;rw[Nat.testBit_eq_decide_div_mod_eq];have e:Nat.land (Nat.shiftRight m i) 1=m/2 ^ i%2:=by
  show (m >>> i) &&& 1=_;rw[Nat.and_one_is_mod,Nat.shiftRight_eq_div_pow]
 rw[e,bO];simp[aO]
theorem Iu (m i j:Nat):bit (tG m i) j=(bit m j||decide (i=j)):=by
 rw[uT,uT];show (m ||| (1 <<< i)).testBit j=_;rw[Nat.testBit_or,Nat.one_shiftLeft,Nat.testBit_two_pow]
theorem DW (j:Nat):bit 0 j=false:=by rw[uT];simp
theorem Qg (p L:Nat):Nat.beq (Nat.land p L) p=true↔∀j,bit p j=true->bit L j=true:=by
 rw[aO];show (p &&& L)=p↔_;constructor
 .intro h j hj;rw[uT]at hj ⊢;rw[<-h,Nat.testBit_and]at hj;simp at hj;exact hj.2
 intro h;apply Nat.eq_of_testBit_eq;intro j;rw[Nat.testBit_and];cases hp:p.testBit j with
 |false=>rfl
 |true=>have:=h j (by rw[uT];exact hp);rw[uT]at this;simp[this]
theorem oR (o:Oper)(j:Nat):bit (rA o) j=true↔∃e∈o.after,Region.binds .any e=true/\e.on=j:=by
 have key:∀l:List Edge,bit (l.foldr (λe m=>ah (Region.binds .any e) (tG m e.on) m) 0) j=true↔∃e∈l,Region.binds .any e=true/\e.on=j:=by
  intro l;induction l with
  |nil=>simp[DW]
  |cons e l ih =>
   simp only[fB,bx,exists_eq_or_imp];cases hb:Region.binds .any e with
   |false=>show bit (l.foldr _ 0) j=true↔_;rw[ih];simp
   |true=>show bit (tG (l.foldr _ 0) e.on) j=true↔_;rw[Iu,cI,ih];simp[or_comm]
 have:=key o.after.toList;unfold rA;rw[this];simp
theorem F1 (o:Oper)(d:Nat):bit (tY ops o) d=true↔d∈o.looksAt ops:=by
 have key:∀l:List Tmp,bit (l.foldr (λd m=>tG m d) 0) d=true↔d∈l:=by
  intro l;induction l with
  |nil=>simp[DW]
  |cons e l ih =>
   simp only[fB,bx];rw[Iu,cI,ih];simp;constructor
   .rintro (h|h)
    .exact .inr h
    exact .inl h.symm
   rintro (h|h)
   .exact .inr h.symm
   exact .inl h
 exact key _
structure POk (P:Program)(ops:Array Oper)(p:PO):Prop where
 o:ops[p.i]? = some p.o
 pre:p.pre=rA p.o
 looks:p.looks=tY ops p.o
 q:p.q=quiet P p.o.op
 ld:p.ld=kP p.o.op
 T9:p.T9=makes P p.o
 YX:∀j,bit p.YX j=true->Reach ops p.i j
theorem uU (pre j:Nat):∀l:List PO,bit (s8 pre l) j=true->bit pre j=true\/∃p∈l,bit pre p.i=true/\bit p.YX j=true
 |[],h=>.inl h
 |p::l,h=>by
  unfold s8 at h;rw[au]at h;split at h
  .rename_i hb;have h':(p.YX ||| s8 pre l).testBit j=true:=by rw[<-uT];exact h
   rw[Nat.testBit_or,cI]at h';rcases h' with h'|h'
   .exact .inr ⟨p,by simp,hb,by rw[uT];exact h'⟩
   rcases uU pre j l (by rw[uT];exact h') with h1|⟨q,hq,h2⟩
   .exact .inl h1
   exact .inr ⟨q,by simp[hq],h2⟩
  rcases uU pre j l h with h1|⟨q,hq,h2⟩
  .exact .inl h1
  exact .inr ⟨q,by simp[hq],h2⟩
theorem Cd:∀(l:List Oper) (i:Nat) (acc:List PO),(∀j,l[j]? = ops[i+j]?)->(∀p∈acc,POk P ops p)->(∀k,k<i->∃p∈acc,p.i=k) ->
 (∀p∈tH P ops l i acc,POk P ops p)/\(∀k,k<i+l.length->∃p∈tH P ops l i acc,p.i=k)
 |[],i,acc,_,h1,h2=>⟨h1,by simpa[tH] using h2⟩
 |o::l,i,acc,hl,h1,h2=>by
  unfold tH;have h0:ops[i]? = some o:=by simpa using (hl 0).symm
  have hp:POk P ops ⟨o,i,rA o,s8 (rA o) acc,tY ops o,quiet P o.op,kP o.op,makes P o⟩:=by
   refine⟨h0,rfl,rfl,rfl,rfl,rfl,λj hj=>?_⟩;rcases uU _ _ _ hj with h|⟨p,hp,h3,h4⟩
   .obtain ⟨e,he,hb,rfl⟩:=(oR o j).1 h;exact .one h0 he hb
   obtain⟨e,he,hb,heq⟩:=(oR o p.i).1 h3;exact .more h0 he hb (by rw[heq];exact(h1 p hp).YX j h4)
  have:=Cd l (i+1) (⟨o,i,rA o,s8 (rA o) acc,tY ops o,quiet P o.op,kP o.op,makes P o⟩::acc)
   (λj=>by have:=hl (j+1);simpa[Nat.add_assoc,l6 1 j] using this)
   (λp hm=>by
    rcases bx.1 hm with rfl|hm
    .exact hp
    exact h1 p hm)
   (λk hk=>by
    by_cases hki:k=i
    .exact ⟨_,cD,hki.symm⟩
    obtain⟨p,hm,hpk⟩:=h2 k (by omega);exact⟨p,by simp[hm],hpk⟩)
  refine⟨this.1,λk hk=>this.2 k ?_⟩;simp only[aJ]at hk;omega
structure DX (P:Program)(ops:Array Oper)(pos:List PO):Prop where
 each:∀p∈pos,POk P ops p
 all:∀k,k<ops.size->∃p∈pos,p.i=k
theorem acT:DX P ops (tH P ops ops.toList 0 []).reverse:=by
 have:=Cd (P:=P) (ops:=ops) ops.toList 0 [] (by simp) (by simp) (by simp);exact⟨λp hp=>this.1 p (by simpa using hp),λk hk=>by
  obtain⟨p,hm,h⟩:=this.2 k (by simpa using hk);exact⟨p,by simpa using hm,h⟩⟩
structure Qh (ops:Array Oper)(L:Nat)(listed:Array Bool):Prop where
 size:listed.size=ops.size
 get:∀j,listed.getD j false=bit L j
theorem Qh.DY {L:Nat}{listed:Array Bool}(h:Qh ops L listed){j:Nat}(hj:j<ops.size):listed.getD j true=bit L j:=by
 rw[<-h.get];have:j<listed.size:=by rw[h.size];exact hj
 simp[Array.getD,this]
theorem Qh.add {L:Nat}{listed:Array Bool}(h:Qh ops L listed){i:Nat}(hi:i<ops.size):Qh ops (tG L i) (listed.setIfInBounds i true):=by
 refine⟨by simpa using h.size,λj=>?_⟩;rw[Iu];by_cases hij:i=j
 .subst hij;have:i<listed.size:=by rw[h.size];exact hi
  simp[this]
 rw[getD_set_ne false hij,h.get];simp[hij]
theorem Qh.zero:Qh ops 0 (Array.replicate ops.size false):=⟨by simp,λj=>by
 rw[DW];by_cases hlt:j<ops.size
 .simp[Array.getD,hlt]
 simp[Array.getD,hlt]⟩
theorem oH {pos:List PO}(hp:DX P ops pos){L:Nat}{listed:Array Bool}(hl:Qh ops L listed){p:PO}(hm:p∈pos):tI L p=true↔p.i∈Region.ready .any ops listed:=by
 have ho:=(hp.each p hm).o;have hlt:p.i<ops.size:=(aB.1 ho).1;rw[mem_ready,hl.DY hlt];unfold tI;rw[au];constructor
 .intro h;split at h
  .cases h
  rename_i hb;refine⟨by simpa using hb,p.o,ho,λe he anV=>?_⟩;rw[hl.get];rw[(hp.each p hm).pre]at h;exact(Qg _ _).1 h e.on ((oR p.o e.on).2 ⟨e,he,anV,rfl⟩)
 rintro⟨h1,o,ho',hall⟩;rw[ho]at ho';cases ho';rw[aa (by rw[h1];simp)];rw[(hp.each p hm).pre];refine(Qg _ _).2 λj hj=>?_
 obtain⟨e,he,hb,rfl⟩:=(oR p.o j).1 hj;rw[<-hl.get];exact hall e he hb
theorem DZ {pos:List PO}(hp:DX P ops pos){L:Nat}{listed:Array Bool}(hl:Qh ops L listed){i:Nat}(hi:i∈Region.ready .any ops listed):∃p∈pos,p.i=i/\tI L p=true:=by
 obtain⟨_,o,ho,_⟩:=mem_ready.1 hi;obtain⟨p,hm,rfl⟩:=hp.all i (aB.1 ho).1;exact⟨p,hm,rfl,(oH hp hl hm).2 hi⟩
theorem tc {x y:PO}(hx:POk P ops x)(hy:POk P ops y)(h:DF x y=true):x.o.apart ops y.o=true:=by
 unfold DF at h;have nl:∀{z:PO} (hz:POk P ops z) {d:Nat},bit z.looks d=false->(z.o.looksAt ops).contains d=false:=by
  intro z hz d hd;rw[hz.looks]at hd;rw[<-eB,List.contains_iff_mem,<-F1,hd];simp
 unfold Oper.apart;split at h
 .rename_i d e hd he;simp only[ak,aS]at h;simp only[hd,he,nl hy h.1.1,nl hx h.2,Bool.not_false,dM,kK];have hne:¬(e=d):=by
   intro hh;subst hh;have:=h.1.2;rw[<-eB,aO]at this;exact this rfl
  simp[hne]
 .rename_i d hd he;simp only[aS]at h;rw[hd,he];simp only[nl hy h];simp
 .rename_i e hd he;simp only[aS]at h;rw[hd,he];simp only[nl hx h];simp
 rename_i hd he;rw[hd,he];rfl
theorem D0 {pos:List PO}(hp:DX P ops pos){L:Nat}{listed:Array Bool}(hl:Qh ops L listed){p:PO}(hm:p∈pos)(h:acL pos L p=true) :
 ∀(j:Nat) (oj:Oper),ops[j]? = some oj->j≠p.i->listed.getD j true=false->(∀e∈oj.after,Region.binds .any e=true->e.on≠p.i)->p.o.apart ops oj=true:=by
 intro j oj hj hji hun hno;have hlt:j<ops.size:=(aB.1 hj).1;obtain⟨r,hr,Zt⟩:=hp.all j hlt;have hro:=(hp.each r hr).o;rw[Zt,hj]at hro;have RX:oj=r.o:=by cases hro;rfl
 have:=aK.1 h r hr;simp only[cI]at this;rcases this with ((h1|h1)|h1)|h1
 .rw[aO]at h1;exact absurd (Zt ▸ h1) hji
 .rw[Zt,<-hl.DY hlt,hun]at h1;cases h1
 .rw[(hp.each r hr).pre]at h1;obtain⟨e,he,hb,heq⟩:=(oR r.o p.i).1 h1;exact absurd heq (hno e (by rw[RX];exact he) hb)
 rw[RX];exact tc (hp.each p hm) (hp.each r hr) h1
theorem KO {pos:List PO}(hp:DX P ops pos){L:Nat}{listed:Array Bool}(hl:Qh ops L listed){p:PO}(hm:p∈pos)(h:Ns pos L p=true):NB ops listed p.i:=by
 intro j oj hj hld ajk;have hlt:j<ops.size:=(aB.1 hj).1;obtain⟨r,hr,Zt⟩:=hp.all j hlt;have hro:=(hp.each r hr).o;rw[Zt,hj]at hro;have RX:oj=r.o:=by cases hro;rfl
 have:=aK.1 h r hr;simp only[cI,aS]at this;rw[(hp.each r hr).ld,<-RX,hld,Zt,<-hl.DY hlt,ajk]at this;rcases this with (h1|h1)|h1
 .cases h1
 .cases h1
 exact(hp.each p hm).YX j h1
noncomputable def ue (P:Program)(call:cG)(ops:Array Oper):List (Oper×Bool)->Option (List Nat)->Act->Mem->Option (Act×Mem)
 |[],_,a,H=>some (a,H)
 |(o,lk)::l,R,a,H=>match nW P call ops R lk o a H with
  |some (a',H')=>ue P call ops l (pY a.eval o R) a' H'
  |none=>none
theorem KQ {ev:Operand->Value}{st xt:TypeId}{s x v:Value}{H H':Mem}(h:ry P H st xt s x=some (v,H')){j:Nat}(hj:∀b off m l c,s = .slice (some ⟨b,off,m⟩) l c->j≠b)(k:jC)(hk:H.get j=some k):H'.get j=some k:=by
 unfold ry at h;split at h
 .split at h
  .split at h
   .split at h
    .cases h
    have push:∀{H1 H2:Mem} {e:TypeId} {cs:List Value} {n m:Nat} {u:Value},H1.get j=some k->kM H1 e cs n m=some (u,H2)->H2.get j=some k:=by
     intro H1 H2 e cs n m u h1 h2;obtain⟨hp,_⟩:=od h2;obtain⟨_,_,e3⟩:=Mem.dN hp;rw[e3,aa (l7 (Mem.eL h1))];exact h1
    split at h
    .split at h
     .rename_i b off _ _ _;simp only[aL,ax]at h;obtain⟨H1,hw,_,rfl⟩:=h;unfold iC at hw;split at hw
      .cases hw;exact hk
      split at hw
      .split at hw
       .obtain ⟨_,_,_,_,e5⟩:=Mem.kQ hw;rw[e5,aa (hj _ _ _ _ _ rfl)];exact hk
       cases hw
      cases hw
     .split at h
      .cases h;exact hk
      cases h
     cases h
    split at h
    .split at h
     .split at h
      .rename_i H1 fe;refine push ?_ h;obtain⟨_,_,_,e4,_⟩:=nF fe;rw[e4 j (hj _ _ _ _ _ rfl)];exact hk
      cases h
     cases h
    .exact push hk h
    cases h
   cases h
  cases h
 cases h
theorem Uy {o:Oper}{s:Operand}(hb:kE o.op=some s){a:Act}{H:Mem}{r:Act×Mem}(h:jg P call ops o a H=some r){j:Nat}(hj:∀b off m l c,a.eval s = .slice (some ⟨b,off,m⟩) l c->j≠b)(k:jC)(hk:H.get j=some k):r.2.get j=some k:=by
 unfold jg at h;split at h
 .simp only[aL]at h;obtain⟨⟨v,H1⟩,h1,rfl⟩:=h;unfold kE at hb;split at hb
  .rename_i args ats hop;unfold jn at h1;rw[hop]at h1;simp only at h1;unfold eu at h1;simp only at h1;unfold rT at h1;simp only at h1;unfold se at h1;split at h1
   .rename_i s0 x st xt h2 h3 h4 h5;rw[h2]at hb;cases hb;exact KQ (ev:=a.eval) h1 hj k hk
   cases h1
  cases hb
 cases h;exact hk
theorem NT {o:Oper}{s:Operand}(hb:mC o.op=some s){a:Act}{H:Mem}{r:Act×Mem}(h:jg P call ops o a H=some r){j:Nat}(hj:∀b off m,a.eval s = .pointer (some ⟨b,off,m⟩)->j≠b)(k:jC)(hk:H.get j=some k):r.2.get j=some k:=by
 unfold jg at h;split at h
 .simp only[aL]at h;obtain⟨⟨v,H1⟩,h1,rfl⟩:=h;unfold mC at hb;split at hb
  .rename_i t s' x hop;cases hb;unfold jn at h1;rw[hop]at h1;simp only at h1;unfold qi at h1;split at h1
   .rename_i H2 hst;cases h1;unfold r7 at hst;split at hst
    .rename_i i off n hp hn;split at hst
     .unfold iC at hst;split at hst
      .cases hst;exact hk
      split at hst
      .split at hst
       .obtain ⟨_,_,_,_,e5⟩:=Mem.kQ hst;rw[e5,aa (hj _ _ _ hp)];exact hk
       cases hst
      cases hst
     cases hst
    cases hst
   cases h1
  cases hb
 cases h;exact hk
theorem uV {l:List PO}{p:PO}{ms:List PO}(h:H9 l=some (p,ms)):p∈l/\(∀r∈l,r=p\/r∈ms)/\∀m∈ms,m∈l/\m.T9=true:=by
 unfold H9 at h;split at h
 .rename_i q hf;cases h;have hm:p∈l.filter λp => !p.T9:=by rw[hf];simp
  refine⟨(cK.1 hm).1,λr hr=>?_,λm hm=>cK.1 hm⟩;by_cases hk:r.T9=true
  .exact .inr (cK.2 ⟨hr,hk⟩)
  have:r∈l.filter λp => !p.T9:=cK.2 ⟨hr,by simpa using hk⟩
  rw[hf]at this;exact .inl (by simpa using this)
 .rename_i hf;split at h
  .cases h;refine⟨by simp,λr hr=>by simpa using hr,λm hm=>⟨by simp[hm],?_⟩⟩;have:=List.filter_eq_nil_iff.1 hf m (by simp[hm]);simpa using this
  cases h
 cases h
structure Bb (ops:Array Oper)(base:Array Bool)(eU:List Nat)(listed:Array Bool):Prop where
 size:listed.size=ops.size
 get:∀j,listed.getD j false=true↔base.getD j false=true\/j∈eU
theorem Bb.DY {base listed:Array Bool}{eU:List Nat}(h:Bb ops base eU listed)(hb:base.size=ops.size){j:Nat}(hj:j<ops.size):listed.getD j true=false↔base.getD j true=false/\j ∉ eU:=by
 have e1:listed.getD j true=listed.getD j false:=by have:=h.size;simp[Array.getD,this,hj]
 have e2:base.getD j true=base.getD j false:=by simp[Array.getD,hb,hj]
 have:=h.get j;rw[e1,e2,<-eB,<-eB,this];simp only[kL]
theorem Bb.set {base listed:Array Bool}{eU:List Nat}(h:Bb ops base eU listed)(hb:base.size=ops.size){i:Nat}(hi:i<ops.size):Bb ops (base.setIfInBounds i true) eU (listed.setIfInBounds i true):=by
 refine⟨by simpa using h.size,λj=>?_⟩;by_cases hij:i=j
 .subst hij;have h1:i<listed.size:=by rw[h.size];exact hi
  have h2:i<base.size:=by rw[hb];exact hi
  simp[h1,h2]
 rw[getD_set_ne false hij,getD_set_ne false hij];exact h.get j
theorem Bb.owe {base listed:Array Bool}{eU:List Nat}(h:Bb ops base eU listed){i:Nat}(hi:i<ops.size):Bb ops base (i::eU) (listed.setIfInBounds i true):=by
 refine⟨by simpa using h.size,λj=>?_⟩;by_cases hij:i=j
 .subst hij;have h1:i<listed.size:=by rw[h.size];exact hi
  simp[h1]
 rw[getD_set_ne false hij,h.get];simp[jH hij]
theorem Bb.pay {base listed:Array Bool}{l1 l2:List Nat}{i:Nat}(h:Bb ops base (l1++i::l2) listed)(hb:base.size=ops.size)(hi:i<ops.size):Bb ops (base.setIfInBounds i true) (l1++l2) listed:=by
 refine⟨h.size,λj=>?_⟩;rw[h.get];have h2:i<base.size:=by rw[hb];exact hi
 by_cases hij:i=j
 .subst hij;simp[h2]
 rw[getD_set_ne false hij];simp[jH hij]
theorem KR {listed:Array Bool}(hc:sq ops listed){j k:Nat}{o:Oper}(yM:ops[j]? = some o)(hall:∀e∈o.after,Region.binds .any e=true->listed.getD e.on false=true)(h:Reach ops j k):listed.getD k false=true:=by
 cases h with
 |one ho' he' hb'=>rw[yM]at ho';cases ho';exact hall _ he' hb'
 |more ho' he' hb' h2'=>rw[yM]at ho';cases ho';exact zO hc h2' (hall _ he' hb')
theorem RY (_hk:fu call)(aqb:∀(j:Nat) (o:Oper) cs b,ops[j]? = some o->o.op ≠ .select cs b){pos:List PO}(hp:DX P ops pos){af:Act}{Hf:Mem}:∀(n L:Nat) (base:Array Bool) (l:List (Oper×Bool)),vG pos n L=some l->Qh ops L base ->
 ∀m∈pos,m.T9=true->tI L m=true->∀R a H,ue P call ops l R a H=some (af,Hf)->(rf P a.eval m.o).isSome=true:=by
 intro n;induction n with
 |zero =>
  intro L base l h hl m hmp hmk hrm R a H hd;unfold vG at h;split at h
  .rename_i hf;exact absurd hrm (List.find?_eq_none.1 hf m hmp)
  cases h
 |succ n ih =>
  intro L base l h hl m hmp hmk hrm R a H hd;have hmm:makes P m.o=true:=by rw[<-(hp.each m hmp).T9];exact hmk
  have hmo:=(hp.each m hmp).o;have hmr:=(oH hp hl hmp).1 hrm;have go:∀{p:PO},p∈pos->m.i≠p.i->tI (tG L p.i) m=true:=λ{p} NU hne=>by
   have hlt:p.i<ops.size:=(aB.1 (hp.each p NU).o).1;exact(oH hp (hl.add hlt) hmp).2 (ready_mono hmr hne)
  unfold vG at h;split at h
  .rename_i p hf;have hm:=jb hf;have hqr:=List.find?_some hf;simp only[ak]at hqr;have hq:quiet P p.o.op=true:=by rw[<-(hp.each p hm).q];exact hqr.1
   have ho:=(hp.each p hm).o;have hlt:p.i<ops.size:=(aB.1 ho).1;have T1:=(oH hp hl hm).1 hqr.2;have hne:m.i≠p.i:=λe=>by
    rw[e,ho]at hmo;have e2:p.o=m.o:=bM hmo;rw[<-e2]at hmm;rw[yL hmm]at hq;cases hq
   rw[au]at h;split at h;case isFalse=>cases h
   rename_i hfree;split at h;case h_2=>cases h
   rename_i l' hl';cases h;simp only[ue]at hd;split at hd;case h_2=>cases hd
   rename_i a1 H1 hst;obtain⟨u,rfl⟩:=lS hst;have hap:=D0 hp hl hm hfree m.i m.o hmo hne (mem_ready.1 hmr).1 (λe he hb heq=>by
    obtain⟨_,o2,C8,hall⟩:=mem_ready.1 hmr;rw[hmo]at C8;cases C8;have h1:=hall e he hb;rw[heq]at h1;have h0:=(mem_ready.1 T1).1;have:base.getD p.i true=base.getD p.i false:=by have:=hl.size;simp[Array.getD,this,hlt]
    rw[this,h1]at h0;cases h0)
   rw[<-wA (ops:=ops) a u (Oper.apart_spec hap).1];exact ih _ _ _ hl' (hl.add hlt) m hmp hmk (go hm hne) _ _ _ hd
  split at h
  .rename_i hf;have:m∈pos.filter (tI L):=cK.2 ⟨hmp,hrm⟩;rw[hf]at this;cases this
  rename_i q0 r0 hf;split at h;case h_2=>cases h
  rename_i p ms hch;obtain⟨c1,c2,c3⟩:=uV hch;rw[<-hf]at c1 c2 c3;obtain⟨hm,hr⟩:=cK.1 c1;have ho:=(hp.each p hm).o;have hlt:p.i<ops.size:=(aB.1 ho).1;rw[au]at h;split at h;case isFalse=>cases h
  rename_i ael;split at h;case h_2=>cases h
  rename_i l' hl';cases h;simp only[ue]at hd;split at hd;case h_2=>cases hd
  rename_i a1 H1 hst;by_cases hne:m.i=p.i
  .rw[hne,ho]at hmo;have e2:p.o=m.o:=bM hmo;rw[e2]at hst;obtain⟨te,cs,sh,h1,_⟩:=Ba hmm hst;rw[h1];rfl
  obtain⟨u,rfl⟩:=lS hst;rcases c2 m (cK.2 ⟨hmp,hrm⟩) with rfl|hms
  .exact absurd rfl hne
  have h1:=aK.1 ael m hms;simp only[ak]at h1;rw[<-wA (ops:=ops) a u (Oper.apart_spec (tc (hp.each m hmp) (hp.each p hm) h1.1.1)).2.2];exact ih _ _ _ hl' (hl.add hlt) m hmp hmk (go hm hne) _ _ _ hd
def uW (R:Option (List Nat))(RL:List (Nat×Option Nat)):Prop :=
 match R with
 |none=>True
 |some l=>∀q∈RL,∃b∈l,q.2=some b
theorem uW.next {R:Option (List Nat)}{RL:List (Nat×Option Nat)}(h:uW R RL)(ev:Operand->Value)(o:Oper):uW (pY ev o R) RL:=by
 unfold pY;split
 .split
  .rename_i l b _ _ _;exact λq hq=>by
    obtain⟨b',h1,h2⟩:=h q hq;exact⟨b',by simp[h1],h2⟩
  trivial
 rw[au];split
 .trivial
 exact h
theorem NV {R:Option (List Nat)}{RL:List (Nat×Option Nat)}(h:uW R RL)(a:Act)(o:Oper)(i:Nat)(hl:kP o.op=true):∃pr,QM o a pr/\uW (pY a.eval o R) ((i,pr)::RL):=by
 unfold pY;split
 .rename_i t x hop;split
  .rename_i l b off m hx;refine⟨some b,.inr ⟨b,t,x,off,m,rfl,hop,hx⟩,λq hq=>?_⟩;rcases bx.1 hq with rfl|hq
   .exact ⟨b,by simp,rfl⟩
   obtain⟨b',h1,h2⟩:=h q hq;exact⟨b',by simp[h1],h2⟩
  exact⟨none,.inl rfl,trivial⟩
 rw[au,ag hl];exact⟨none,.inl rfl,trivial⟩
theorem NW (hk:fu call){R:Option (List Nat)}{RL:List (Nat×Option Nat)}(h:uW R RL){o:Oper}{lk:Bool}{a:Act}{H:Mem}{r:Act×Mem}(hst:nW P call ops R lk o a H=some r)(hl:lk=true):∀q∈RL,KF q.2 H r.2:=by
 intro q hq;rcases rE hst with⟨hs,hc⟩|⟨_,u,hu,rfl⟩
 .obtain ⟨s,hb,n9⟩:=hc hl;have key:∀j,(∀b off m l c,a.eval s = .slice (some ⟨b,off,m⟩) l c->j≠b)->(∀b off m,a.eval s = .pointer (some ⟨b,off,m⟩)->j≠b)->∀k,H.get j=some k->r.2.get j=some k:=λj hj hj2 k hkk=>by
   rcases hb with hb|hb
   .exact Uy hb hs hj k hkk
   exact NT hb hs hj2 k hkk
  unfold tJ at n9;split at n9
  .rename_i hx;exact KF.NF λj k hkk=>key j (λb off m l c e=>by rw[hx]at e;cases e) (λb off m e=>by rw[hx]at e;cases e) k hkk
  .rename_i b off m l c lr hx;obtain⟨b',h1,h2⟩:=h q hq;rw[h2];intro k hkk;refine key b' (λb2 off2 m2 l2 c2 e=>?_) (λb2 off2 m2 e=>by rw[hx]at e;cases e) k hkk;rw[hx]at e;cases e;have:=aK.1 n9 b' h1;intro e2;rw[e2]at this;simp at this
  .rename_i b off m lr hx;obtain⟨b',h1,h2⟩:=h q hq;rw[h2];intro k hkk;refine key b' (λb2 off2 m2 l2 c2 e=>by rw[hx]at e;cases e) (λb2 off2 m2 e=>?_) k hkk;rw[hx]at e;cases e;have:=aK.1 n9 b' h1;intro e2;rw[e2]at this;simp at this
  cases n9
 obtain⟨_,_,h3⟩:=KB hk hu;exact KF.NF λj k hkk=>by
  have hlt:=Mem.eL hkk;show u.2.get j=some k;rw[h3 j hlt hlt];exact hkk
theorem RZ (hk:fu call)(hsel:∀(j:Nat) (o:Oper) cs b,ops[j]? = some o->o.op ≠ .select cs b){pos:List PO}(hp:DX P ops pos){af:Act}{Hf:Mem}:∀(n L:Nat) (base:Array Bool) (l:List (Oper×Bool)),vG pos n L=some l->Qh ops L base->sq ops base ->
 ∀(eU:List Nat) (listed:Array Bool),Bb ops base eU listed->(∀m∈eU,m∈Region.ready .any ops base/\∃o,ops[m]? = some o/\makes P o=true)->eU.Nodup->(∀m∈eU,∀m'∈eU,m≠m'->∀o o',ops[m]? = some o->ops[m']? = some o'->o.dst≠o'.dst) ->
 ∀(RL:List (Nat×Option Nat)) (R:Option (List Nat)),(∀q∈RL,base.getD q.1 true=true/\∃o,ops[q.1]? = some o/\kP o.op=true)->uW R RL->∀a H,ue P call ops l R a H=some (af,Hf)->oG P call ops (λx y=>x=af/\y=Hf) RL none listed eU a H:=by
 intro n;induction n with
 |zero =>
  intro L base l h hl _ eU listed AQ nL _ _ RL R hRL R2 a H hd;unfold vG at h;split at h
  .rename_i hf;cases h;simp only[ue,aq]at hd;cases hd;have zN:∀i,i ∉ Region.ready .any ops base:=by
    intro i hi;obtain⟨p,hm,_,hr⟩:=DZ hp hl hi;have:=List.find?_eq_none.1 hf p hm;exact this hr
   have hpn:eU=[]:=gD.2 λm hm=>zN m (nL m hm).1
   subst hpn;refine oG.step (λ_=>⟨rfl,rfl,rfl⟩) λi hi=>absurd ?_ (zN i)
   obtain⟨h0,o,ho,hall⟩:=mem_ready.1 hi;have hlt:=(aB.1 ho).1;exact mem_ready.2 ⟨((AQ.DY hl.size hlt).1 h0).1,o,ho,λe he hb=>by simpa using (AQ.get _).1 (hall e he hb)⟩
  cases h
 |succ n ih =>
  intro L base l h hl n9 eU listed AQ nL hnd FZ RL R hRL R2 a H hd;have aem:sq ops listed:=by
   intro k o ho hk' e he hb;rcases (AQ.get k).1 hk' with h1|h1
   .exact (AQ.get _).2 (.inl (n9 k o ho h1 e he hb))
   obtain⟨_,o',ho',hall⟩:=mem_ready.1 (nL k h1).1;rw[ho]at ho';cases ho';exact(AQ.get _).2 (.inl (hall e he hb))
  unfold vG at h;split at h
  .rename_i p hf;have hm:=jb hf;have hqr:=List.find?_some hf;simp only[ak]at hqr;have T1:=(oH hp hl hm).1 hqr.2;have hq:quiet P p.o.op=true:=by rw[<-(hp.each p hm).q];exact hqr.1
   have ho:=(hp.each p hm).o;have hlt:p.i<ops.size:=(aB.1 ho).1;have hnp:p.i ∉ eU:=λhpi=>by
    obtain⟨_,o,ho',hmk⟩:=nL _ hpi;rw[ho]at ho';cases ho';rw[yL hmk]at hq;cases hq
   rw[au]at h;split at h
   .rename_i hfree;split at h
    .rename_i l' hl';cases h;simp only[ue]at hd;split at hd
     .rename_i a1 H1 hst;have hst':jg P call ops p.o a H=some (a1,H1):=by simpa[nW] using hst
      obtain⟨rfl,v,rfl,hy⟩:=QY.Zs hq hst';have hfr:=D0 hp hl hm hfree;have Zu:p.i∈Region.ready .any ops listed:=by
       obtain⟨h0,o,ho',hall⟩:=mem_ready.1 T1;exact mem_ready.2 ⟨(AQ.DY hl.size hlt).2 ⟨h0,hnp⟩,o,ho',λe he hb=>(AQ.get _).2 (.inl (hall e he hb))⟩
      have hno:∀m∈eU,∀o,ops[m]? = some o->∀e∈o.after,Region.binds .any e=true->e.on≠p.i:=by
       intro m hm' o ho' e he hb heq;obtain⟨_,o2,C8,hall⟩:=mem_ready.1 (nL m hm').1;rw[ho']at C8;cases C8;have h1:=hall e he hb;rw[heq]at h1;have h0:=(mem_ready.1 T1).1;have:base.getD p.i true=base.getD p.i false:=by have:=hl.size;simp[Array.getD,this,hlt]
       rw[this,h1]at h0;cases h0
      have up:∀q∈RL,(base.setIfInBounds p.i true).getD q.1 true=true/\∃o,ops[q.1]? = some o/\kP o.op=true:=λq hq=>⟨by
       by_cases e:p.i=q.1
       .rw[<-e];by_cases hlt':p.i<base.size<;>simp[Array.getD,hlt']
       rw[getD_set_ne true e];exact(hRL q hq).1,(hRL q hq).2⟩
      have self:(base.setIfInBounds p.i true).getD p.i true=true:=by by_cases hlt':p.i<base.size<;>simp[Array.getD,hlt']
      have hpend':∀m∈eU,m∈Region.ready .any ops (base.setIfInBounds p.i true)/\∃o,ops[m]? = some o/\makes P o=true:=λm hm'=>⟨ready_mono (nL m hm').1 (λe=>hnp (by rw[<-e];exact hm')),(nL m hm').2⟩
      obtain⟨RL',hsub',hrd,anX⟩:∃RL',(∀q∈RL,q∈RL')/\(kP p.o.op=false\/∃pr,(p.i,pr)∈RL'/\QM p.o a pr)/\oG P call ops (λx y=>x=af/\y=Hf) RL' none (listed.setIfInBounds p.i true) eU (a.put p.o.dst v) H1:=by
       cases hld:kP p.o.op with
       |false=>exact⟨RL,λ_ h=>h,.inl rfl,ih _ _ _ hl' (hl.add hlt) (n9.add T1) eU (listed.setIfInBounds p.i true) (AQ.set hl.size hlt) hpend' hnd FZ RL _ up (R2.next _ _) _ _ hd⟩
       |true =>
        obtain⟨pr,e1,e2⟩:=NV R2 a p.o p.i hld;exact⟨(p.i,pr)::RL,λq hq=>by simp[hq],.inr ⟨pr,by simp,e1⟩,ih _ _ _ hl' (hl.add hlt) (n9.add T1) eU (listed.setIfInBounds p.i true) (AQ.set hl.size hlt) hpend' hnd FZ _ _ (λq hq=>by
         rcases bx.1 hq with rfl|hq
         .exact ⟨self,p.o,ho,hld⟩
         exact up q hq) e2 _ _ hd⟩
      refine NN hk hsel ho hq hsub' anX listed a rfl rfl hrd ?_ hno hnp aem Zu hy;rintro j oj yM hji (hj|hj) CJ
      .exact hfr j oj yM hji ((AQ.DY hl.size (aB.1 yM).1).1 hj).1 CJ
      exact hfr j oj yM hji (mem_ready.1 (nL j hj).1).1 CJ
     cases hd
    cases h
   cases h
  split at h
  .rename_i hf;cases h;simp only[ue,aq]at hd;cases hd;have zN:∀i,i ∉ Region.ready .any ops base:=by
    intro i hi;obtain⟨p,hm,_,hr⟩:=DZ hp hl hi;have:p∈pos.filter (tI L):=cK.2 ⟨hm,hr⟩;rw[hf]at this;cases this
   have hpn:eU=[]:=gD.2 λm hm=>zN m (nL m hm).1
   subst hpn;refine oG.step (λ_=>⟨rfl,rfl,rfl⟩) λi hi=>absurd ?_ (zN i)
   obtain⟨h0,o,ho,hall⟩:=mem_ready.1 hi;have hlt:=(aB.1 ho).1;exact mem_ready.2 ⟨((AQ.DY hl.size hlt).1 h0).1,o,ho,λe he hb=>by simpa using (AQ.get _).1 (hall e he hb)⟩
  rename_i q0 r0 hf;split at h;case h_2=>cases h
  rename_i p ms hch;obtain⟨c1,c2,c3⟩:=uV hch;rw[<-hf]at c1 c2 c3;obtain⟨hm,hr⟩:=cK.1 c1;have T1:=(oH hp hl hm).1 hr;have ho:=(hp.each p hm).o;have hlt:p.i<ops.size:=(aB.1 ho).1;rw[au]at h;split at h;case isFalse=>cases h
  rename_i ael;split at h;case h_2=>cases h
  rename_i l' hl';cases h;simp only[ue]at hd;split at hd;case h_2=>cases hd
  rename_i a1 H1 hst
  -- what may wait
  have wait:∀m∈ms,m.o.apart ops p.o=true/\(∀r∈pos,bit r.pre m.i=true->Reach ops r.i p.i)/\∀m'∈ms,m.i≠m'.i->m.o.apart ops m'.o=true:=by
   intro m hmm;have hmp:=(cK.1 (c3 m hmm).1).1;have h1:=aK.1 ael m hmm;simp only[ak,aK,cI,aS]at h1;refine⟨tc (hp.each m hmp) (hp.each p hm) h1.1.1,λr Y1 hb=>?_,λm' hm' hne=>?_⟩
   .rcases h1.1.2 r Y1 with h2|h2
    .rw[hb]at h2;cases h2
    exact(hp.each r Y1).YX _ h2
   rcases h1.2 m' hm' with h2|h2
   .rw[aO]at h2;exact absurd h2 hne
   exact tc (hp.each m hmp) (hp.each m' (cK.1 (c3 m' hm').1).1) h2
  -- those that are ready are p,and those that may wait
  have cls:∀j∈Region.ready .any ops base,j=p.i\/∃m∈ms,m.i=j/\ops[j]? = some m.o/\makes P m.o=true:=by
   intro j hj;obtain⟨r,Y1,rfl,hrr⟩:=DZ hp hl hj;rcases c2 r (cK.2 ⟨Y1,hrr⟩) with rfl|YY
   .exact .inl rfl
   exact .inr ⟨r,YY,rfl,(hp.each r Y1).o,by rw[<-(hp.each r Y1).T9];exact(c3 r YY).2⟩
  have up:∀q∈RL,(base.setIfInBounds p.i true).getD q.1 true=true/\∃o,ops[q.1]? = some o/\kP o.op=true:=λq hq=>⟨by
   by_cases e:p.i=q.1
   .rw[<-e];by_cases hlt':p.i<base.size<;>simp[Array.getD,hlt']
   rw[getD_set_ne true e];exact(hRL q hq).1,(hRL q hq).2⟩
  by_cases NU:p.i∈eU
  .
   -- it is done already: the row is paid
   obtain⟨l1,l2,rfl⟩:=List.append_of_mem NU;obtain⟨_,o,ho',hmk⟩:=nL p.i NU;rw[ho]at ho';cases ho';have hnd':p.i ∉ l1++l2/\(l1++l2).Nodup:=by
    have:=(List.perm_middle (a:=p.i) (l₁:=l1) (l₂:=l2)).nodup_iff.1 hnd;exact lJ.1 this
   have hsub:∀{x},x∈l1++l2->x∈l1++p.i::l2:=λhx=>by
    rcases cJ.1 hx with h1|h1
    .exact eE _ h1
    exact iJ _ (bD _ h1)
   have hpl:∀m∈l1++l2,∀om,ops[m]? = some om->∀x,p.o.dst=some x->x ∉ om.looksAt ops:=by
    intro m hm' om NK;rcases cls m (nL m (hsub hm')).1 with h2|⟨q,hqm,h2,h3,_⟩
    .exact absurd (by rw[<-h2];exact hm') hnd'.1
    rw[NK]at h3;cases h3;exact(Oper.apart_spec (wait q hqm).1).2.2
   exact oG.pay ho hmk hst hpl (ih _ _ _ hl' (hl.add hlt) (n9.add T1) (l1++l2) listed (AQ.pay hl.size hlt)
    (λm hm'=>⟨ready_mono (nL m (hsub hm')).1 (λe=>hnd'.1 (by rw[<-e];exact hm')),(nL m (hsub hm')).2⟩) hnd'.2 (λm Y2 m' hm2=>FZ m (hsub Y2) m' (hsub hm2)) RL _ up (R2.next _ _) _ _ hd)
  -- by how many may still be done ahead
  have key:∀(k:Nat) (eU:List Nat) (listed:Array Bool),cnt ops listed<=k->Bb ops base eU listed->(∀m∈eU,m∈Region.ready .any ops base/\∃o,ops[m]? = some o/\makes P o=true)->eU.Nodup->(∀m∈eU,∀m'∈eU,m≠m'->∀o o',ops[m]? = some o->ops[m']? = some o'->o.dst≠o'.dst)->p.i ∉ eU ->
   oG P call ops (λx y=>x=af/\y=Hf) RL none listed eU a H:=by
   intro k;induction k with
   |zero =>
    intro eU listed hk' AQ _ _ _ NU;exfalso;obtain⟨h0,_⟩:=mem_ready.1 T1;have:=Qe (ops:=ops) hlt ((AQ.DY hl.size hlt).2 ⟨h0,NU⟩);omega
   |succ k ihk =>
    intro eU listed hk' AQ nL hnd FZ NU;have aem:sq ops listed:=by
     intro k o ho hk' e he hb;rcases (AQ.get k).1 hk' with h1|h1
     .exact (AQ.get _).2 (.inl (n9 k o ho h1 e he hb))
     obtain⟨_,o',ho',hall⟩:=mem_ready.1 (nL k h1).1;rw[ho]at ho';cases ho';exact(AQ.get _).2 (.inl (hall e he hb))
    have anY:listed.getD p.i false=true->False:=λhh=>by
     rcases (AQ.get _).1 hh with h1|h1
     .have h0:=(mem_ready.1 T1).1;have:base.getD p.i true=base.getD p.i false:=by have:=hl.size;simp[Array.getD,this,hlt]
      rw[this,h1]at h0;cases h0
     exact NU h1
    have Zu:p.i∈Region.ready .any ops listed:=by
     obtain⟨h0,o,ho',hall⟩:=mem_ready.1 T1;exact mem_ready.2 ⟨(AQ.DY hl.size hlt).2 ⟨h0,NU⟩,o,ho',λe he hb=>(AQ.get _).2 (.inl (hall e he hb))⟩
    have back:∀j∈Region.ready .any ops listed,j∈Region.ready .any ops base/\j ∉ eU:=by
     intro j hj;obtain⟨h0,o,yM,hall⟩:=mem_ready.1 hj;have Zv:=(aB.1 yM).1;obtain⟨b0,b1⟩:=(AQ.DY hl.size Zv).1 h0;refine⟨mem_ready.2 ⟨b0,o,yM,λe he hb=>?_⟩,b1⟩;rcases (AQ.get _).1 (hall e he hb) with h1|h1
     .exact h1
     exfalso;rcases cls _ (nL _ h1).1 with h2|⟨m,hmm,h2,_⟩
     .exact NU (by rw[<-h2];exact h1)
     obtain⟨r,Y1,Zt⟩:=hp.all j Zv;have hro:=(hp.each r Y1).o;rw[Zt,yM]at hro;have RX:o=r.o:=by cases hro;rfl
     have Uz:Reach ops r.i p.i:=(wait m hmm).2.1 r Y1 (by
      rw[(hp.each r Y1).pre];exact(oR r.o m.i).2 ⟨e,by rw[<-RX];exact he,hb,h2.symm⟩)
     rw[Zt]at Uz;exact anY (KR aem yM hall Uz)
    refine oG.step (λh0=>(by rw[h0]at Zu;cases Zu)) λj hj=>?_
    obtain⟨hjb,hjp⟩:=back j hj;by_cases hji:j=p.i
    .subst hji;refine oG.sync ho hst (λq hq=>?_) (λm hm' om NK=>?_) (ih _ _ _ hl' (hl.add hlt) (n9.add T1) eU _ (AQ.set hl.size hlt) (λm hm'=>⟨ready_mono (nL m hm').1 (λe=>NU (by rw[<-e];exact hm')),(nL m hm').2⟩) hnd FZ RL _ up (R2.next _ _) _ _ hd)
     .cases hlk:(!Ns pos L p) with
      |true=>rw[hlk]at hst;exact .inr (NW hk R2 hst rfl q hq)
      |false =>
       obtain⟨e1,o2,e2,e3⟩:=hRL q hq;exact .inl (KO hp hl hm (by simpa using hlk) q.1 o2 e2 e3 e1)
     rcases cls m (nL m hm').1 with h2|⟨q,hqm,h2,h3,_⟩
     .exact absurd (by rw[<-h2];exact hm') NU
     rw[NK]at h3;cases h3;obtain⟨p1,p2,p3⟩:=Oper.apart_spec (wait q hqm).1;exact⟨λx hx=>⟨p1 x hx,p2 x hx⟩,p3⟩
    rcases cls j hjb with h2|⟨q,hqm,h2,h3,h4⟩
    .exact absurd h2 hji
    have Zv:=(aB.1 h3).1;have hq2:∀m∈eU,m≠j:=λm hm' e=>hjp (by rw[<-e];exact hm')
    have hdd:∀m∈eU,∀om,ops[m]? = some om->om.dst≠q.o.dst/\∀x,om.dst=some x->x ∉ q.o.looksAt ops:=by
     intro m hm' om NK;rcases cls m (nL m hm').1 with h5|⟨q',hqm',h5,h6,_⟩
     .exact absurd (by rw[<-h5];exact hm') NU
     rw[NK]at h6;cases h6;obtain⟨p1,p2,_⟩:=Oper.apart_spec ((wait q' hqm').2.2 q hqm (by rw[h5,h2];exact hq2 m hm'));obtain⟨_,⟨d,hdq⟩,_⟩:=sn h4;exact⟨λe=>p2 d (by rw[e,hdq]) hdq,p1⟩
    have wz:(rf P a.eval q.o).isSome=true:=by
     obtain⟨u,rfl⟩:=lS hst;have hqp:=(cK.1 (c3 q hqm).1).1;rw[<-wA (ops:=ops) a u (Oper.apart_spec (wait q hqm).1).2.2];exact RY hk hsel hp n _ _ _ hl' (hl.add hlt) q hqp (c3 q hqm).2 ((oH hp (hl.add hlt) hqp).2 (by rw[h2];exact ready_mono hjb hji)) _ _ _ hd
    refine oG.owe h3 h4 wz hdd (ihk (j::eU) _ (by have:=(A9 hj).2.2;omega) (AQ.owe Zv) (λm hm'=>?_) (lJ.2 ⟨hjp,hnd⟩) (λm Y2 m' hm2 hne o o' e1 e2=>?_) (λhpm=>?_))
    .rcases bx.1 hm' with rfl|hm'
     .exact ⟨hjb,q.o,h3,h4⟩
     exact nL m hm'
    .rcases bx.1 Y2 with g1|g1
     .rw[g1,h3]at e1;cases e1;rcases bx.1 hm2 with g2|g2
      .exact absurd (g1.trans g2.symm) hne
      exact jH (hdd m' g2 o' e2).1
     rcases bx.1 hm2 with g2|g2
     .rw[g2,h3]at e2;cases e2;exact(hdd m g1 o e1).1
     exact FZ m g1 m' g2 hne o o' e1 e2
    rcases bx.1 hpm with e|hpm
    .exact hji e.symm
    exact NU hpm
  exact key _ eU listed (aC _) AQ nL hnd FZ NU
theorem D1 (o:Oper)(lk:Bool)(l:List (Oper×Bool))(R:Option (List Nat))(f:Fr)(H:Mem):yj P call ops.toList ((o,lk)::l) R f H=match qw P call ops.toList R lk o f H with|some (f',H')=>yj P call ops.toList l (pY f.eval o R) f' H'|none=>none:=by
 show Option.rec (motive:=λ_=>Option (Fr×Mem)) none (λr=>yj P call ops.toList l (pY f.eval o R) r.1 r.2) (qw P call ops.toList R lk o f H)=_;cases qw P call ops.toList R lk o f H with
 |none=>rfl
 |some r=>rfl
theorem Gr:∀(l:List (Oper×Bool)) {R:Option (List Nat)} {f f':Fr} {a:Act} {H H':Mem},C6 f a->yj P call ops.toList l R f H=some (f',H')->∃a',ue P call ops l R a H=some (a',H')/\C6 f' a'
 |[],R,f,f',a,H,H',hr,h=>by
  have h':some (f,H)=some (f',H'):=h;cases h';exact⟨a,rfl,hr⟩
 |(o,lk)::l,R,f,f',a,H,H',hr,h=>by
  rw[D1]at h;split at h
  .rename_i f1 H1 h1;obtain⟨a1,h2,h3⟩:=RR hr h1;rw[hr.eval]at h;obtain⟨a',h4,h5⟩:=Gr l h3 h;exact⟨a',by simp only[ue,h2];exact h4,h5⟩
  cases h
theorem UA {o:Oper}{s:Operand}(hb:mC o.op=some s){l:List Oper}{f f':Fr}{H H':Mem} (h:ij P call l o f { H with lk:=H.size }=some (f',H')) :
 ij P call l o f H=some (f',H)/\H'={ H with lk:=H.size }:=by
 unfold ij at h ⊢;rw[au]at h ⊢;split at h
 .rename_i hw;rw[ag hw];unfold mC at hb;split at hb
  .rename_i t s' x hop;have e:∀M,jn P call f.eval o M=qi P t (f.eval s') (f.eval x) M:=λM=>by unfold jn;rw[hop]
   rw[e]at h ⊢;have key:∀{H2:Mem},r7 P { H with lk:=H.size } t (f.eval s') (f.eval x)=some H2->r7 P H t (f.eval s') (f.eval x)=some H/\H2={ H with lk:=H.size }:=by
    intro H2 hst;unfold r7 at hst ⊢;split at hst
    .split at hst
     .rename_i hsz;simp only[ag hsz];unfold iC at hst ⊢;split at hst
      .rename_i hem;cases hst;exact⟨ag hem,rfl⟩
      split at hst
      .split at hst
       .obtain ⟨q1,q2,q3,q4,q5⟩:=Mem.kQ hst;exfalso;simp only at q1 q2;omega
       cases hst
      cases hst
     cases hst
    cases hst
   unfold qi at h ⊢;cases hst:r7 P { H with lk:=H.size } t (f.eval s') (f.eval x) with
   |none=>rw[hst]at h;cases h
   |some H2 =>
    obtain⟨k1,rfl⟩:=key hst;rw[hst]at h;rw[k1];unfold tW at h ⊢;simp only at h ⊢;split at h
    .rename_i f1 h1;cases h;exact⟨by simp only[h1],rfl⟩
    cases h
  cases hb
 rename_i hw;rw[aa hw];unfold tW at h ⊢;simp only at h ⊢;split at h
 .rename_i f1 h1;cases h;exact⟨by simp only[h1],rfl⟩
 cases h
theorem Gs (o:Oper)(l:List Oper)(f:Fr)(H:Mem):Kf P call ops.toList (o::l) f H=match tX P call ops.toList o f H with|some (f',H')=>Kf P call ops.toList l f' H'|none=>none:=by
 show Option.rec (motive:=λ_=>Option (Fr×Mem)) none (λr=>Kf P call ops.toList l r.1 r.2) (tX P call ops.toList o f H)=_;cases tX P call ops.toList o f H with
 |none=>rfl
 |some r=>rfl
end
end Go.Ev
namespace Go.Ev
open Go.RowKit
def holds (c:Cx)(ρ:Ren)(H:Mem)(r:Nat):Prop:=r<c.B\/c.K r≠none\/∃i b x,H.get i=some b/\(b.live=true\/iN b=true)/\ρ i=some (r,x)
structure D2 (O:Nat->Prop)(W W':World):Prop where
 os:W'.os=W.os
 tape:W'.tape=W.tape
 output:W'.output=W.output
 size:W.heap.size<=W'.heap.size
 same:∀r,O r->W'.heap[r]? = W.heap[r]?
theorem ei.beside {c:Cx}{ρ:Ren}{H:Mem}{w w':World}(h:ei c ρ H w)(hb:D2 (holds c ρ H) w w'):ei c ρ H w':=by
 refine⟨⟨⟨hb.os.trans h.below.os,hb.tape.trans h.below.tape,hb.output.trans h.below.output,br h.below.size hb.size,λk hk=>(hb.same k (.inl hk)).trans (h.below.block k hk)⟩,λr o hr=>?_⟩,
  br h.base hb.size,h.dom,h.lk,h.zo,h.jo,λi b hi hl=>?_,h.inj,λi b hi hm=>?_,h.vQ⟩
 .rw[hb.same r (.inr (.inl (by rw[hr];simp)))];exact h.stay.kept r o hr
 .obtain ⟨r,x,C,fr,s,h1,h2,h3,h4⟩:=h.blk i b hi hl;exact⟨r,x,C,fr,s,h1,h2,by rw[hb.same r (.inr (.inr ⟨i,b,x,hi,.inl hl,h1⟩))];exact h3,h4⟩
 obtain⟨r,es,clock,h1,h2,h3,h4⟩:=h.maps i b hi hm;exact⟨r,es,clock,h1,h2,by rw[hb.same r (.inr (.inr ⟨i,b,0,hi,.inr hm,h1⟩))];exact h3,h4⟩
theorem ei.KS {c:Cx}{ρ:Ren}{H:Mem}{w:World}(h:ei c ρ H w){r:Nat}(hr:holds c ρ H r):r<w.heap.size:=by
 have lt:∀{k:Nat} {o:Obj},w.heap[k]? = some o->k<w.heap.size:=λh=>(aB.1 h).1
 rcases hr with hr|hr|⟨i,b,x,hi,hl,hρ⟩
 .exact ct hr h.base
 .cases hk:c.K r with
  |none=>exact absurd hk hr
  |some o=>exact lt (h.stay.kept r o hk)
 rcases hl with hl|hm
 .obtain ⟨r',x',C,fr,s,h1,_,h3,_⟩:=h.blk i b hi hl;rw[hρ]at h1;cases h1;exact lt h3
 obtain⟨r',es,clock,h1,_,h3,_⟩:=h.maps i b hi hm;rw[hρ]at h1;cases h1;exact lt h3
theorem ei.Iw {c:Cx}{ρ:Ren}{H:Mem}{w:World}(h:ei c ρ H w){i:Nat}{b:jC}{r x:Nat}(hi:H.get i=some b)(hl:b.live=true\/iN b=true)(hρ:ρ i=some (r,x)):c.K r=none:=by
 rcases hl with hl|hm
 .obtain ⟨r',x',C,fr,s,h1,h2,_⟩:=h.blk i b hi hl;rw[hρ]at h1;cases h1;rcases h2 with h2|h2<;>exact h2.2
 obtain⟨r',es,clock,h1,h2,_⟩:=h.maps i b hi hm;rw[hρ]at h1;cases h1;exact h2.2
open Classical in
noncomputable def zP (c:Cx)(ρ:Ren)(H:Mem)(W:World)(r:Nat):Option Obj :=
 if c.K r≠none then c.K r else if holds c ρ H r then none else W.heap[r]?
theorem ei.hold {c:Cx}{ρ:Ren}{H:Mem}{w:World}(h:ei c ρ H w):ei (c.kp (zP c ρ H w)) ρ H w:=by
 have no:∀{i:Nat} {b:jC} {r x:Nat},H.get i=some b->(b.live=true\/iN b=true)->ρ i=some (r,x)->zP c ρ H w r=none:=λ{i b r x} hi hl hρ=>by
  unfold zP;rw[aa (by rw[h.Iw hi hl hρ];simp),ag (.inr (.inr ⟨i,b,x,hi,hl,hρ⟩))]
 refine⟨⟨h.below,λr o hr=>?_⟩,h.base,h.dom,h.lk,h.zo,h.jo,λi b hi hl=>?_,h.inj,λi b hi hm=>?_,h.vQ⟩
 .have hr:zP c ρ H w r=some o:=hr;unfold zP at hr;split at hr
  .exact h.stay.kept r o hr
  split at hr
  .cases hr
  exact hr
 .obtain ⟨r,x,C,fr,s,h1,h2,h3⟩:=h.blk i b hi hl;have hn:(c.kp (zP c ρ H w)).K r=none:=no hi (.inl hl) h1;exact⟨r,x,C,fr,s,h1,h2.imp (λg=>⟨g.1,hn⟩) (λg=>⟨g.1,hn⟩),h3⟩
 obtain⟨r,es,clock,h1,h2,h3⟩:=h.maps i b hi hm;exact⟨r,es,clock,h1,⟨h2.1,no hi (.inr hm) h1⟩,h3⟩
def qB (K:Nat->Option Obj)(m:Nat)(o:Obj):Nat->Option Obj:=λr=>if r=m then some o else K r
def KU (K:Nat->Option Obj)(m:Nat):Nat->Option Obj:=λr=>if r=m then none else K r
theorem ei.Iy {c:Cx}{ρ:Ren}{H:Mem}{w:World}{K:Nat->Option Obj}(h:ei (c.kp K) ρ H w){m:Nat}{o:Obj}(hK:K m=some o)(hB:c.B<=m)(o':Obj):ei (c.kp (qB K m o')) ρ H (w.putObj m o'):=by
 have hm:w.heap[m]? = some o:=h.stay.kept m o hK;have hlt:m<w.heap.size:=(aB.1 hm).1;have ne:∀{i:Nat} {b:jC} {r x:Nat},H.get i=some b->(b.live=true\/iN b=true)->ρ i=some (r,x)->r≠m:=λ{i b r x} hi hl hρ e=>by
  subst e;have:=h.Iw hi hl hρ;have:K r=none:=this;rw[hK]at this;cases this
 have Y3:∀r,r≠m->(w.putObj m o').heap[r]? = w.heap[r]? := λr hr=>World.putObj_heap_other hr
 have hK':∀{r:Nat},r≠m->qB K m o' r=K r:=λhr=>aa hr
 have hsz:(w.putObj m o').heap.size=w.heap.size:=by simp
 refine⟨⟨⟨h.below.os,h.below.tape,h.below.output,by rw[hsz];exact h.below.size,λk hk=>(Y3 k (by have:k<c.B:=hk;omega)).trans (h.below.block k hk)⟩,λr o1 hr=>?_⟩,by rw[hsz];exact h.base,h.dom,h.lk,h.zo,h.jo,λi b hi hl=>?_,h.inj,λi b hi hb=>?_,h.vQ⟩
 .have hr:qB K m o' r=some o1:=hr;by_cases e:r=m
  .subst e;unfold qB at hr;rw[ag rfl]at hr;cases hr;exact World.putObj_heap_same hlt
  rw[hK' e]at hr;rw[Y3 r e];exact h.stay.kept r o1 hr
 .obtain ⟨r,x,C,fr,s,h1,h2,h3,h4⟩:=h.blk i b hi hl;have e:=ne hi (.inl hl) h1;have e2:(c.kp (qB K m o')).K r=(c.kp K).K r:=hK' e;exact⟨r,x,C,fr,s,h1,h2.imp (λg=>⟨g.1,e2.trans g.2⟩) (λg=>⟨g.1,e2.trans g.2⟩),(Y3 r e).trans h3,h4⟩
 obtain⟨r,es,clock,h1,h2,h3,h4⟩:=h.maps i b hi hb;have e:=ne hi (.inr hb) h1;have e2:(c.kp (qB K m o')).K r=(c.kp K).K r:=hK' e;exact⟨r,es,clock,h1,⟨h2.1,e2.trans h2.2⟩,(Y3 r e).trans h3,h4⟩
theorem ei.aeo {c:Cx}{ρ:Ren}{H:Mem}{w:World}(h:ei c ρ H w):ei { c with w0:=w } ρ H w :=
 ⟨⟨Below.refl _ _,h.stay.kept⟩,h.base,h.dom,h.lk,h.zo,h.jo,h.blk,h.inj,h.maps,h.vQ⟩
theorem ei.aep {c:Cx}{ρ:Ren}{H:Mem}{w W:World} (h:ei { c with w0:=W } ρ H w) (hb:Below c.B c.w0 W):ei c ρ H w :=
 ⟨⟨hb.trans h.below,h.stay.kept⟩,h.base,h.dom,h.lk,h.zo,h.jo,h.blk,h.inj,h.maps,h.vQ⟩
def mark (m:Nat):Deferred:={ target:=.collected m,args := #[] }
def Marks (B:Nat)(K0:Nat->Option Obj):(Nat->Option Obj)->List Deferred->Prop
 |K,[]=>∀r o,K0 r=some o->K r=some o
 |K,d::D=>∃m,d=mark m/\B<=m/\K m=some (.deferred (some []))/\Marks B K0 (KU K m) D
theorem Marks.mono {B:Nat}{K0:Nat->Option Obj}:∀{D:List Deferred} {K K':Nat->Option Obj},(∀r o,K r=some o->K' r=some o)->Marks B K0 K D->Marks B K0 K' D
 |[],K,K',h,hm=>λr o hr=>h r o (hm r o hr)
 |d::D,K,K',h,⟨m,h1,h2,h3,h4⟩=>⟨m,h1,h2,h _ _ h3,h4.mono λr o hr=>by
  unfold KU at hr ⊢;split at hr
  .cases hr
  rename_i hne;rw[aa hne];exact h r o hr⟩
theorem Marks.push {B:Nat}{K0 K:Nat->Option Obj}{D:List Deferred}(h:Marks B K0 K D){m:Nat}(hB:B<=m)(hm:K m=none):Marks B K0 (qB K m (.deferred (some []))) (mark m::D) :=
 ⟨m,rfl,hB,ag rfl,h.mono λr o hr=>by
  have hne:r≠m:=λe=>by subst e;rw[hm]at hr;cases hr
  unfold KU qB;rw[aa hne,aa hne];exact hr⟩
def Iz (P:Program)(fid:FuncId)(s:ByteArray)(items:List Value):Prop :=
 (∀args w,(callFunc fid args).run P w = .ok (.enter fid args) w)/\∀(n l rs:Nat) (W:World) (O:Nat->Prop) (J:Nat->(Nat->Prop)->World->Prop) (Jx:(Nat->Prop)->World->Prop),9<=n ->
  W.cell? ⟨rs,0,none⟩=some (.string s)->W.frozen? ⟨rs,0,none⟩=false->¬O rs ->
  (∀i O W W',J i O W->D2 O W W'->J i O W')->(∀O W W',Jx O W->D2 O W W'->Jx O W')->(∀i O W,J i O W->∀r,O r->r<W.heap.size)->(∀O W,Jx O W->∀r,O r->r<W.heap.size) ->
  (∀i O W x,J i O W->items[i]? = some x->YieldAt Fence.wide n P l #[x] W λe W'=>∃O',W.heap.size<=W'.heap.size/\(∀r,O' r->O r\/W.heap.size<=r)/\(∀r,r<W.heap.size->¬O r->W'.heap[r]? = W.heap[r]?) /\
   ((e = .returned (.bool true)/\J (i+1) O' W')\/(e = .returned (.bool false)/\Jx O' W'))) ->
  J 0 O W->CallsIn Fence.wide n P fid #[.func (.yield l) #[] #[],.pointer (some ⟨rs,0,none⟩)] W λe W'=>(∃v,e = .returned v)/\∃O',J items.length O' W'\/Jx O' W'
section
variable {P:Program} {ops:Array Oper} {l n:Nat}
theorem ajm {Q:Exit->Act->World->Prop}(hQ:∀a w,¬Q .outgrown a w){o:Oper}(hd:sj o=true){K K':Act->World->Prop}(hK:∀a w,K a w->K' a w){a:Act}{w:World}
 (h:o.wp P a w K Q\/(o.asks P a w/\LetsOut Q)):o.wpIn (Fence.wide.inRound l) n P a w K' Q:=by
 rcases h with h|⟨_,a',w',h⟩;case inr=>exact absurd h (hQ _ _)
 have hnd:∀c,o.op ≠ .defer c:=λc e=>by unfold sj at hd;rw[e]at hd;cases hd
 refine⟨λ_ _=>trivial,?_⟩;have:(Fence.wide.inRound l).round=some l:=rfl;rw[this,Oper.semAt_some l a.eval o hnd];unfold Oper.wp at h;generalize (execOp a.eval o).run P w=r at h ⊢;have dn:(Fence.wide.inRound l).depth.isSome=true->1<=n:=λe=>by simp[Fence.wide]at e
 cases r with
 |ok x w' =>
  cases x<;>simp only[Oper.upon,Oper.uponIn]at h ⊢ <;>
   first
    |exact hK _ _ h
    |exact h.elim
    |exact⟨dn,callsIn_wide (n:=n-1) |>.2 (Calls.mono h (λe w'' he=>by cases e<;>first|exact hK _ _ he|exact he))⟩
    |exact⟨dn,λc cs _=>let ⟨v,w2,hv,hs⟩:=h c cs;⟨v,w2,hK _ _ hv,stepsIn_wide.2 hs⟩⟩
 |halt x w'=>cases x<;>simp only[Oper.upon,Oper.uponIn]at h ⊢ <;> exact h
theorem UB {Q:Exit->Act->World->Prop}(hQ:∀a w,¬Q .outgrown a w):∀(L:List Oper),L.all sj=true->∀(a:Act) (w:World),wpList P ops Q L a w->wpListIn (Fence.wide.inRound l) n P ops Q L a w
 |[],_,a,w,h=>h
 |o::L,hd,a,w,h=>by
  rw[bW,ak]at hd;have ih:=UB hQ L hd.2;simp only[wpList]at h;simp only[wpListIn];split
  .rename_i hw;rw[ag hw]at h;exact ajm hQ hd.1 ih h
  rename_i hw;rw[aa hw]at h;exact⟨λ_ _=>trivial,ih _ _ h⟩
theorem Qi {Q:Exit->Act->World->Prop}(hQ:∀a w,¬Q .outgrown a w)(hd:ops.toList.all sj=true):∀(fuel:Nat) (listed:Array Bool) (a:Act) (w:World),wpAny P .any ops Q fuel listed a w->wpAnyIn (Fence.wide.inRound l) n P .any ops Q fuel listed a w
 |0,listed,a,w,h=>h
 |fuel+1,listed,a,w,h=>by
  refine⟨h.1,λi hi=>?_⟩;have hh:=h.2 i hi;unfold wpOp at hh;unfold wpOpIn;split
  .rename_i ho;simp only[ho]at hh;exact Qi hQ hd fuel _ _ _ hh
  rename_i o ho;simp only[ho]at hh;have hod:sj o=true:=aK.1 hd o (by have:=aY ho;simpa using this);split
  .rename_i hw;rw[ag hw]at hh;exact ajm hQ hod (Qi hQ hd fuel _) hh
  rename_i hw;rw[aa hw]at hh;exact⟨λ_ _=>trivial,Qi hQ hd fuel _ _ _ hh⟩
end
end Go.Ev
namespace Go.Ev
open Go.RowKit
section
variable {P:Program} {call:cG} {ops:Array Oper} {GR:List jC}
def D3 (K0:Nat->Option Obj)(c:Cx)(ρ:Ren)(f:Fr)(ar:Act):Prop:=∃a,C6 f a/\AP ρ a ar/\Marks c.B K0 c.K a.defers
theorem IA {f f1:Fr}{a a1:Act}{o:Oper}{H H1:Mem}(hr:C6 f a)(h:ij P call ops.toList o f H=some (f1,H1))(h2:jg P call ops o a H=some (a1,H1)):a1.defers=a.defers:=by
 obtain⟨u,rfl⟩:=wB h2;cases o.dst<;>rfl
theorem Ce {o:Oper}{f f':Fr}{H H':Mem}{l:List Oper}(h:tX P call l o f H=some (f',H')) :
 ij P call l o f H=some (f',H')\/∃v,nC o l f=true/\FT P f.eval o=some v/\f.put o.dst v=some f'/\H'=H:=by
 unfold tX at h;split at h
 .rename_i r hr;cases h;exact .inl hr
 rw[au]at h;split at h
 .rename_i hw;unfold tW at h;split at h
  .rename_i v H1 hv;obtain⟨hv2,e2⟩:=bP hv;split at h
   .rename_i f1 hf;cases h;exact .inr ⟨v,hw,hv2,hf,e2⟩
   cases h
  cases h
 cases h
theorem UC (hno:iX P){G:Nat}{o:Oper}{a ar:Act}{H:Mem}{v:Value}(hok:o.op.operands.toList.all (dW G)=true)(hw:Region.wanted o (yielded ops a.tmps)=true)(h:FT P a.eval o=some v){c:Cx}(iY:c.P=P)(iA:c.At G GR){w:World}{ρ:Ren}(hs:AP ρ a ar)(he:ei c ρ H w)
 {Q:Exit->Act->World->Prop} {K:Act->World->Prop} (hK:∀ ρ' ar' w',ρ.le ρ'->AP ρ' (a.put o.dst v) ar'->ei c ρ' H w'->K ar' w') :
 if Region.wanted o (yielded ops ar.tmps) then o.wp P ar w K Q\/(o.asks P ar w/\LetsOut Q) else K (ar.put o.dst undef) w:=by
 subst iY;have hG0:=iA.g;subst hG0;have cg:EvR ρ a.eval ar.eval o.op:=λx hx=>hs.eval he.jo (aK.1 hok x (by simpa using hx))
 rw[DS hs,ag hw];refine .inl ?_;unfold Oper.wp;obtain⟨ρ',w',v',h1,h2,h3,h4⟩:=aee he cg h;rcases h4 with h4|⟨h4,rfl⟩
 .rw[h4];exact hK ρ' _ _ h1 ((hs.mono h1).put o.dst h3) h2
 rw[h4];exact hK ρ' _ _ h1 ((hs.mono h1).put o.dst h3) h2
theorem IB (hno:iX P){G:Nat}(hcall:pZ P G GR call){c:Cx}(iY:c.P=P)(iA:c.At G GR){Q:Exit->Act->World->Prop}:∀(l:List Oper) {f f':Fr} {a ar:Act} {H H':Mem} {ρ:Ren} {w:World},(∀o∈l,o.op.operands.toList.all (dW G)=true)->Kf P call ops.toList l f H=some (f',H')->C6 f a->AP ρ a ar->ei c ρ H w ->
 (∀ ρ' a' ar' w',ρ.le ρ'->C6 f' a'->a'.defers=a.defers->AP ρ' a' ar'->ei c ρ' H' w'->Q .normal ar' w')->wpList P ops Q l ar w
 |[],f,f',a,ar,H,H',ρ,w,_,h,hr,hs,he,hK=>by
  have h':some (f,H)=some (f',H'):=h;cases h';exact hK ρ a ar w (Ren.le_refl _) hr rfl hs he
 |o::l,f,f',a,ar,H,H',ρ,w,hok,h,hr,hs,he,hK=>by
  rw[Gs]at h;split at h
  .rename_i f1 H1 h1;rcases Ce h1 with h1|⟨v,hw,hv,hf,rfl⟩
   .obtain ⟨a1,h2,h3⟩:=ud hr h1;have hd:=IA hr h1 h2;exact DT (Q:=Q) hno hcall (hok o (by simp)) h2 iY iA hs he fun ρ' ar' w' k1 k2 k3=>IB hno hcall iY iA l (λx hx=>hok x (by simp[hx])) h h3 k2 k3 fun ρ'' a'' ar'' w'' m1 m0 md m2 m3=>hK ρ'' a'' ar'' w'' (Ren.le_trans k1 m1) m0 (md.trans hd) m2 m3
   have hd:(a.put o.dst v).defers=a.defers:=by cases o.dst<;>rfl
   rw[hr.wanted]at hw;rw[hr.eval]at hv;exact UC (Q:=Q) hno (hok o (by simp)) hw hv iY iA hs he fun ρ' ar' w' k1 k2 k3=>IB hno hcall iY iA l (λx hx=>hok x (by simp[hx])) h (hr.put hf) k2 k3 fun ρ'' a'' ar'' w'' m1 m0 md m2 m3=>hK ρ'' a'' ar'' w'' (Ren.le_trans k1 m1) m0 (md.trans hd) m2 m3
  cases h
theorem D4 (hk:fu call):∀(l:List Oper) {f f':Fr} {H H':Mem},Kf P call ops.toList l f H=some (f',H')->gO H H'
 |[],f,f',H,H',h=>by
  have h':some (f,H)=some (f',H'):=h;cases h';exact .refl _
 |o::l,f,f',H,H',h=>by
  rw[Gs]at h;split at h
  .rename_i f1 H1 h1;refine gO.trans ?_ (D4 hk l h);rcases Ce h1 with h1|⟨_,_,_,_,rfl⟩;case inr=>exact .refl _
   unfold ij at h1;rw[au]at h1;split at h1
   .unfold tW at h1;split at h1
    .rename_i v H2 hop;split at h1
     .cases h1;exact A8 hk hop
     cases h1
    cases h1
   unfold tW at h1;simp only at h1;split at h1
   .cases h1;exact .refl _
   cases h1
  cases h
theorem KV (hk:fu call){o:Oper}{R:Option (List Nat)}{lk:Bool}{f f':Fr}{H H':Mem}(h:qw P call ops.toList R lk o f H=some (f',H')):gO H H':=by
 have hst:∀{H H':Mem} {f':Fr},ij P call ops.toList o f H=some (f',H')->gO H H':=by
  intro H H' f' h1;unfold ij at h1;rw[au]at h1;split at h1
  .unfold tW at h1;split at h1
   .rename_i v H2 hop;split at h1
    .cases h1;exact A8 hk hop
    cases h1
   cases h1
  unfold tW at h1;simp only at h1;split at h1
  .cases h1;exact .refl _
  cases h1
 unfold qw at h;rw[au]at h;split at h
 .split at h
  .rw[au]at h;split at h
   .exact hst h
   cases h
  rw[au]at h;split at h
  .exact hst h
  split at h
  .rename_i f1 H1 h1;cases h;obtain⟨q1,_,q3⟩:=hst h1;exact⟨q1,rfl,λi _ hs=>q3 i hs hs⟩
  cases h
 exact hst h
theorem Cf (hk:fu call):∀(l:List (Oper×Bool)) {R:Option (List Nat)} {f f':Fr} {H H':Mem},yj P call ops.toList l R f H=some (f',H')->gO H H'
 |[],R,f,f',H,H',h=>by
  have h':some (f,H)=some (f',H'):=h;cases h';exact .refl _
 |(o,lk)::l,R,f,f',H,H',h=>by
  rw[D1]at h;split at h
  .rename_i f1 H1 h1;exact(KV hk h1).trans (Cf hk l h)
  cases h
def iG.exit':iG->Exit
 |.normal=>.normal
 |.exit id=>.exit id
 |.ret=>.ret
 |.goto l=>.goto l
def wC (P:Program)(G:Nat)(GR:List jC)(g:Fr->Mem->Out)(cd:Code):Prop :=
 ∀f H lv f' H',g f H=some (lv,f',H')->gO H H'/\∀(c:Cx) (K0:Nat->Option Obj),c.P=P->c.At G GR->∀ ρ ar w,D3 K0 c ρ f ar->ei c ρ H w->∀Q:Exit->Act->World->Prop,
  (∀K' ρ' ar' w',ρ.le ρ'->D3 K0 (c.kp K') ρ' f' ar'->ei (c.kp K') ρ' H' w'->Q lv.exit' ar' w')->cd.wp P Q ar w
theorem Cx.At.kp {c:Cx}{G:Nat}(h:c.At G GR)(K:Nat->Option Obj):(c.kp K).At G GR:=⟨h.g,h.rows,h.len⟩
theorem wD (h:Gb ops.toList=true):∀(j:Nat) (o:Oper) cs b,ops[j]? = some o->o.op ≠ .select cs b:=by
 intro j o cs b hj he;have hm:o∈ops.toList:=by
  have:=aY hj;simpa using this
 have:=aK.1 h o hm;simp[he]at this
theorem D5 {r:Option (Fr×Mem)}{lv:iG}{f:Fr}{H:Mem}(h:atEnd r=some (lv,f,H)):lv = .normal/\r=some (f,H):=by
 cases r with
 |none=>cases h
 |some q =>
  have h':some (iG.normal,q.1,q.2)=some (lv,f,H):=h;cases h';exact⟨rfl,rfl⟩
theorem zQ:∀(l:List (Oper×Bool)) {R:Option (List Nat)} {a a':Act} {H H':Mem},ue P call ops l R a H=some (a',H')->a'.defers=a.defers
 |[],R,a,a',H,H',h=>by
  have h':some (a,H)=some (a',H'):=h;cases h';rfl
 |(o,lk)::l,R,a,a',H,H',h=>by
  simp only[ue]at h;split at h
  .rename_i a1 H1 h1;obtain⟨u,rfl⟩:=lS h1;refine(zQ l h).trans ?_;cases o.dst<;>rfl
  cases h
theorem Cg (hno:iX P){G:Nat}(hcall:pZ P G GR call)(hk:fu call){draw:Bool}{f f':Fr}{H H':Mem}{lv:iG}(h:qj P G call ops draw f H=some (lv,f',H')) :
 lv = .normal/\gO H H'/\∀(c:Cx),c.P=P->c.At G GR->∀ ρ a ar w,C6 f a->AP ρ a ar->ei c ρ H w->∀Q:Exit->Act->World->Prop,
  (∀ ρ' a' ar' w',ρ.le ρ'->C6 f' a'->a'.defers=a.defers->AP ρ' a' ar'->ei c ρ' H' w'->Q .normal ar' w') ->
  (draw=true->wpAny P .any ops Q ops.size (Array.replicate ops.size false) ar w.drew)/\(draw=false->wpList P ops Q ops.toList ar w):=by
 unfold qj at h;rw[au]at h;split at h;case isFalse=>cases h
 rename_i hok;rw[au]at h;split at h
 .rename_i hd;subst hd;cases hpl:plan P ops with
  |none=>rw[hpl]at h;cases h
  |some l =>
   rw[hpl]at h;obtain⟨rfl,hdr⟩:=D5 (r:=yj P call ops.toList l (some []) f H) h;unfold plan Nt at hpl;rw[au]at hpl;split at hpl;case isFalse=>cases hpl
   rename_i hns;refine⟨rfl,Cf hk l hdr,λc iY iA ρ a ar w hr vS he Q hQ=>⟨λ_=>?_,(λh=>by cases h)⟩⟩;obtain⟨a',hds,hr'⟩:=Gr l hr hdr;have hdf:=zQ l hds;have n9:sq ops (Array.replicate ops.size false):=by
    intro k o _ hk';by_cases hlt:k<ops.size
    .simp[Array.getD,hlt]at hk'
    simp[Array.getD,hlt]at hk'
   have ad7:=RZ hk (wD hns) acT _ _ _ _ hpl Qh.zero n9 [] (Array.replicate ops.size false) ⟨by simp,λj=>by simp⟩ (λm hm=>(by cases hm)) List.nodup_nil (λm hm=>(by cases hm)) [] (some []) (λq hq=>(by cases hq)) (λq hq=>(by cases hq)) a H hds;refine Zq hno hok hcall hk (wD hns) (c:=c) iY iA ad7 c.K [] ρ w.drew ar rfl ⟨λq hq=>(by cases hq),λr _=>rfl,List.nodup_nil,List.Pairwise.nil⟩ vS he.drew ?_ ops.size (Qf _);rintro a'' H'' ρ' ar' w' ⟨rfl,rfl⟩ h1 h2 h3;exact hQ ρ' _ ar' w' h1 hr' hdf h2 h3
 rename_i hd;have hd':draw=false:=by simpa using hd
 subst hd';obtain⟨rfl,hop⟩:=D5 h;exact⟨rfl,D4 hk _ hop,λc iY iA ρ a ar w hr hs he Q hQ=>⟨(λh=>by cases h),λ_=>IB hno hcall iY iA ops.toList (λo ho=>aK.1 hok o ho) hop hr hs he hQ⟩⟩
theorem xM (hno:iX P){G:Nat}(hcall:pZ P G GR call)(hk:fu call)(hm:P.follows .mixedOrders=true)(id:Nat)(draw:Bool):wC P G GR (qj P G call ops draw) (.region id ops draw):=by
 intro f H lv f' H' h;obtain⟨rfl,k1,w1⟩:=Cg hno hcall hk h;refine⟨k1,λc K0 iY iA ρ ar w hs he Q hQ=>?_⟩;obtain⟨a,hr,vS,hmk⟩:=hs;have g:=w1 c iY iA ρ a ar w hr vS he Q fun ρ' a' ar' w' m1 m2 m3 m4 m5=>hQ c.K ρ' ar' w' m1 ⟨a',m2,m4,by rw[m3];exact hmk⟩ m5
 cases draw with
 |true=>exact wp_region_any hm (g.1 rfl)
 |false=>exact wp_region_list (g.2 rfl)
def UD (ρ:Ren)(f:Fr)(ar:Act):Prop:=∃a,C6 f a/\AP ρ a ar/\a.defers=[]
def wE (P:Program)(G:Nat)(GR:List jC)(l:Nat)(g:Fr->Mem->Out)(cd:Code):Prop :=
 ∀f H lv f' H',g f H=some (lv,f',H')->∀(c:Cx),c.P=P->c.At G GR->∀n ρ ar w,UD ρ f ar->ei c ρ H w->∀Q:Exit->Act->World->Prop,
  (∀ ρ' ar' w',ρ.le ρ'->UD ρ' f' ar'->ei c ρ' H' w'->Q lv.exit' ar' w')->cd.wpIn (Fence.wide.inRound l) n P Q ar w
theorem KW (hno:iX P){G l:Nat}(hcall:pZ P G GR call)(hk:fu call)(hm:P.follows .mixedOrders=true)(id:Nat)(draw:Bool)(hp:ops.toList.all sj=true):wE P G GR l (qj P G call ops draw) (.region id ops draw):=by
 intro f H lv f' H' h c iY iA n ρ ar w hs he Q hQ;obtain⟨rfl,_,w1⟩:=Cg hno hcall hk h;obtain⟨a,hr,vS,hmk⟩:=hs
 let Q':Exit->Act->World->Prop:=λe a w=>match e with
  |.normal=>Q .normal a w
  |_=>False
 have hQ':∀a w,¬Q' .outgrown a w:=λ_ _ h=>h
 have g:=w1 c iY iA ρ a ar w hr vS he Q' fun ρ' a' ar' w' m1 m2 m3 m4 m5=>hQ ρ' ar' w' m1 ⟨a',m2,m4,by rw[m3];exact hmk⟩ m5
 refine Go.wpIn_mono (Q:=Q') ?_ (λe a w h=>by cases e<;>first|exact h|exact h.elim);cases draw with
 |true=>exact wpIn_region_any hm (Qi hQ' hp _ _ _ _ (g.1 rfl))
 |false=>exact wpIn_region_list (UB hQ' _ hp _ _ (g.2 rfl))
theorem IC {G l:Nat}{g k:Fr->Mem->Out}{x y:Code}(hx:wE P G GR l g x)(hy:wE P G GR l k y):wE P G GR l (λf H=>andThen (g f H) k) (.seq x y):=by
 intro f H lv f' H' h0;have h:andThen (g f H) k=some (lv,f',H'):=h0;clear h0;intro c iY iA n ρ ar w hs he Q hQ;unfold andThen at h;split at h
 .rename_i f1 H1 h1;exact wpIn_seq (hx _ _ _ _ _ h1 c iY iA n ρ ar w hs he _ fun ρ' ar' w' m1 m2 m3=>hy _ _ _ _ _ h c iY iA n ρ' ar' w' m2 m3 Q fun ρ'' ar'' w'' n1 n2 n3=>hQ ρ'' ar'' w'' (Ren.le_trans m1 n1) n2 n3)
 .rename_i id f1 H1 h1;cases h;exact wpIn_seq (hx _ _ _ _ _ h1 c iY iA n ρ ar w hs he _ fun ρ' ar' w' m1 m2 m3=>hQ ρ' ar' w' m1 m2 m3)
 .rename_i f1 H1 h1;cases h;exact wpIn_seq (hx _ _ _ _ _ h1 c iY iA n ρ ar w hs he _ fun ρ' ar' w' m1 m2 m3=>hQ ρ' ar' w' m1 m2 m3)
 .rename_i l f1 H1 h1;cases h;exact wpIn_seq (hx _ _ _ _ _ h1 c iY iA n ρ ar w hs he _ fun ρ' ar' w' m1 m2 m3=>hQ ρ' ar' w' m1 m2 m3)
 cases h
theorem Gt {G l:Nat}{g:Fr->Mem->Out}{cd:Code}(hb:wE P G GR l g cd):∀(m:Nat) f H lv f' H',yl g m f H=some (lv,f',H')->∀(c:Cx),c.P=P->c.At G GR->∀n ρ ar w,UD ρ f ar->ei c ρ H w->∀Q:Exit->Act->World->Prop,
 (∀ ρ' ar' w',ρ.le ρ'->UD ρ' f' ar'->ei c ρ' H' w'->Q lv.exit' ar' w')->Code.roundsIn (Fence.wide.inRound l) n P cd Q m ar w
 |0,f,H,lv,f',H',h=>by cases h
 |m+1,f,H,lv,f',H',h=>by
  intro c iY iA n ρ ar w hs he Q hQ;have h0:andThen (g f H) (yl g m)=some (lv,f',H'):=h;show cd.wpIn _ n P (Exit.then (Code.roundsIn _ n P cd Q m) Q) ar w;unfold andThen at h0;split at h0
  .rename_i f1 H1 h1;exact hb _ _ _ _ _ h1 c iY iA n ρ ar w hs he _ fun ρ' ar' w' m1 m2 m3=>Gt hb m _ _ _ _ _ h0 c iY iA n ρ' ar' w' m2 m3 Q fun ρ'' ar'' w'' n1 n2 n3=>hQ ρ'' ar'' w'' (Ren.le_trans m1 n1) n2 n3
  .rename_i id f1 H1 h1;cases h0;exact hb _ _ _ _ _ h1 c iY iA n ρ ar w hs he _ fun ρ' ar' w' m1 m2 m3=>hQ ρ' ar' w' m1 m2 m3
  .rename_i f1 H1 h1;cases h0;exact hb _ _ _ _ _ h1 c iY iA n ρ ar w hs he _ fun ρ' ar' w' m1 m2 m3=>hQ ρ' ar' w' m1 m2 m3
  .rename_i l f1 H1 h1;cases h0;exact hb _ _ _ _ _ h1 c iY iA n ρ ar w hs he _ fun ρ' ar' w' m1 m2 m3=>hQ ρ' ar' w' m1 m2 m3
  cases h0
theorem Gu (hno:iX P){G l:Nat}(hcall:pZ P G GR call)(hk:fu call)(hm:P.follows .mixedOrders=true)(J:tZ)(rounds:Nat)(cd:Code):nT cd=true->wE P G GR l (jK P G call J rounds cd) cd:=by
 induction cd with
 |skip =>
  intro _ f H lv f' H' h c _ _ n ρ ar w hs he Q hQ;have h':some (iG.normal,f,H)=some (lv,f',H'):=h;cases h';exact wpIn_skip (hQ ρ ar w (Ren.le_refl _) hs he)
 |region id ops draw=>exact λhp=>KW hno hcall hk hm id draw hp
 |seq x y NX NY =>
  intro hp;have hp:(nT x&&nT y)=true:=hp;rw[ak]at hp;exact IC (NX hp.1) (NY hp.2)
 |cond cc x y NX NY =>
  intro hp;have hp:(nT x&&nT y)=true:=hp;rw[ak]at hp;intro f H lv f' H' h c iY iA n ρ ar w hs he Q hQ;have h0:ah (dW G cc) (DG (f.eval cc) (jK P G call J rounds x) (jK P G call J rounds y) f H) none=some (lv,f',H'):=h;rw[au]at h0;split at h0;case isFalse=>cases h0
  rename_i hok;unfold DG at h0;split at h0
  .rename_i b hb;have val:ar.eval cc = .bool b:=by
    obtain⟨a,hr,vS,_⟩:=hs;have hv:=vS.eval he.jo (x:=cc) (by rw[iA.g];exact hok);rw[<-hr.eval,hb]at hv;generalize ar.eval cc=q at hv;cases hv;rfl
   cases b with
   |true=>exact wpIn_cond_true val (NX hp.1 _ _ _ _ _ h0 c iY iA n ρ ar w hs he Q hQ)
   |false=>exact wpIn_cond_false val (NY hp.2 _ _ _ _ _ h0 c iY iA n ρ ar w hs he Q hQ)
  cases h0
 |block id b ih =>
  intro hp f H lv f' H' h c iY iA n ρ ar w hs he Q hQ;have h0:mX id (jK P G call J rounds b f H)=some (lv,f',H'):=h;unfold mX at h0;split at h0
  .rename_i id' f1 H1 h1;rw[au]at h0;split at h0
   .rename_i hid;cases h0;refine wpIn_block (ih hp _ _ _ _ _ h1 c iY iA n ρ ar w hs he _ fun ρ' ar' w' m1 m2 m3=>?_);show (if id'=id then Q .normal ar' w' else Q (.exit id') ar' w');rw[ag (by rw[aO]at hid;exact hid)];exact hQ ρ' ar' w' m1 m2 m3
   rename_i hid;cases h0;refine wpIn_block (ih hp _ _ _ _ _ h1 c iY iA n ρ ar w hs he _ fun ρ' ar' w' m1 m2 m3=>?_);show (if id'=id then Q .normal ar' w' else Q (.exit id') ar' w');rw[aa (by rw[aO]at hid;exact hid)];exact hQ ρ' ar' w' m1 m2 m3
  .rename_i f1 H1 h1;cases h0;exact wpIn_block (ih hp _ _ _ _ _ h1 c iY iA n ρ ar w hs he _ fun ρ' ar' w' m1 m2 m3=>hQ ρ' ar' w' m1 m2 m3)
  .rename_i f1 H1 h1;cases h0;exact wpIn_block (ih hp _ _ _ _ _ h1 c iY iA n ρ ar w hs he _ fun ρ' ar' w' m1 m2 m3=>hQ ρ' ar' w' m1 m2 m3)
  .rename_i l f1 H1 h1;cases h0;exact wpIn_block (ih hp _ _ _ _ _ h1 c iY iA n ρ ar w hs he _ fun ρ' ar' w' m1 m2 m3=>hQ ρ' ar' w' m1 m2 m3)
  cases h0
 |loop b ih =>
  intro hp f H lv f' H' h c iY iA n ρ ar w hs he Q hQ;exact wpIn_loop_rounds rounds (Gt (ih hp) rounds f H lv f' H' h c iY iA n ρ ar w hs he Q hQ)
 |exit id =>
  intro _ f H lv f' H' h c _ _ n ρ ar w hs he Q hQ;have h':some (iG.exit id,f,H)=some (lv,f',H'):=h;cases h';exact wpIn_exit (hQ ρ ar w (Ren.le_refl _) hs he)
 |ret =>
  intro _ f H lv f' H' h c _ _ n ρ ar w hs he Q hQ;have h':some (iG.ret,f,H)=some (lv,f',H'):=h;cases h';exact wpIn_ret (hQ ρ ar w (Ren.le_refl _) hs he)
 |rangeFunc=>intro hp;cases hp
 |scope b ih=>intro hp;cases hp
 |label l =>
  intro _ f H lv f' H' h c _ _ n ρ ar w hs he Q hQ;have h':some (iG.normal,f,H)=some (lv,f',H'):=h;cases h';exact wpIn_label (hQ ρ ar w (Ren.le_refl _) hs he)
 |goto l =>
  intro _ f H lv f' H' h c _ _ n ρ ar w hs he Q hQ;have h':some (iG.goto l,f,H)=some (lv,f',H'):=h;cases h';exact wpIn_goto (hQ ρ ar w (Ren.le_refl _) hs he)
 |refuse=>intro _ f H lv f' H' h;cases h
def zR (P:Program)(call:cG):Prop :=
 ∀fid i H v H1,P.funcs[qO fid]? = none->call (qO fid) [.pointer (some ⟨i,0,none⟩)] H=some (v,H1)->∃(s:ByteArray) (items:Array Value) (b:jC),v = .tuple (iq::items.toList).toArray/\alive H i=some b/\b.cells=[.string s]/\kill H i=some H1/\cE items.toList=true/\Iz P fid s items.toList
theorem Ch (p:Tmp)(x y:Fr->Mem->Out)(f:Fr)(H:Mem):rB p x y f [] H=some (.normal,f,H):=rfl
theorem zS (p:Tmp)(x y:Fr->Mem->Out)(f:Fr)(v:Value)(l:List Value)(H:Mem):rB p x y f (v::l) H=match f.put (some p) v with
 |some f1=>match x f1 H with
  |some (.normal,f2,H2)=>match y f2 H2 with
   |some (.normal,_,H3)=>rB p x y f l H3
   |some (.ret,_,H3)=>some (.ret,f,H3)
   |_=>none
  |_=>none
 |none=>none:=rfl
theorem zT {p:Tmp}{x y:Fr->Mem->Out}{f:Fr}(hx:∀f H lv f' H',x f H=some (lv,f',H')->gO H H')(hy:∀f H lv f' H',y f H=some (lv,f',H')->gO H H'):∀(l:List Value) {H H':Mem} {lv:iG} {f':Fr},rB p x y f l H=some (lv,f',H')->gO H H'/\f'=f/\(lv = .normal\/lv = .ret)
 |[],H,H',lv,f',h=>by
  rw[Ch]at h;cases h;exact⟨.refl _,rfl,.inl rfl⟩
 |v::l,H,H',lv,f',h=>by
  rw[zS]at h;split at h;case h_2=>cases h
  split at h;case h_2=>cases h
  rename_i h2;split at h
  .rename_i h3;obtain⟨k,e⟩:=zT hx hy l h;exact⟨((hx _ _ _ _ _ h2).trans (hy _ _ _ _ _ h3)).trans k,e⟩
  .rename_i h3;cases h;exact⟨(hx _ _ _ _ _ h2).trans (hy _ _ _ _ _ h3),rfl,.inr rfl⟩
  cases h
theorem D6 (hit:zR P call){G:Nat}{x y:Fr->Mem->Out}{g:Operand}{ps:Array Tmp}{assign body:Code}{pl:Bool}
 (kx:∀f H lv f' H',x f H=some (lv,f',H')->gO H H') (ky:∀f H lv f' H',y f H=some (lv,f',H')->gO H H')
 (hx:pl=true->∀l,wE P G GR l x assign) (hy:pl=true->∀l,wE P G GR l y body):wC P G GR (AY P G call g ps.toList pl x y) (.rangeFunc g ps assign body):=by
 intro f H lv f' H' h;unfold AY at h;rw[au]at h;split at h;case isFalse=>cases h
 rename_i hok;rw[ak]at hok;obtain⟨hok,hpl⟩:=hok;split at h;case h_2=>cases h
 rename_i p fid ta caps hps hfg;split at h;case h_2=>cases h
 rename_i i hta ajn hnone;split at h;case h_2=>cases h
 rename_i an3 H1 n9;split at h;case h_2=>cases h
 rename_i u0 itl aeq;obtain⟨s,items,b,e1,UE,hcells,fe,hfree,ajo⟩:=hit _ _ _ _ _ hnone n9;cases e1;have aeq:iq::items.toList=u0::itl:=by simpa using aeq
 cases aeq;obtain⟨hks,hff,hlv⟩:=zT kx ky _ h;have hff:=hff.symm;subst hff;obtain⟨q1,q2,q3,q4,q5⟩:=nF fe;have hkk:gO H H1:=by
  unfold kill at fe;split at fe
  .exact .set fe
  cases fe
 refine⟨hkk.trans hks,λc K0 iY iA ρ ar w hs he Q hQ=>?_⟩;subst iY;obtain⟨a,hr,vS,hmk⟩:=hs
 -- the function
 have hv:=vS.eval he.jo (x:=g) (by rw[iA.g];exact hok);rw[<-hr.eval,hfg]at hv;obtain⟨hgi,AZ⟩:=dF UE;obtain⟨rs,rx,C,fr,sz,b1,b2,b3,b4,b5,b6,b7,b8⟩:=he.blk i b hgi AZ;have hiL:¬i<c.L:=by have:=he.lk;omega
 have hown:c.own rs:=b2.resolve_left λh=>hiL h.1
 have an5:=b4.resolve_left hiL;have hgv:ar.eval g = .func (.func fid) #[] #[.pointer (some ⟨rs,0,none⟩)]:=by
  generalize ar.eval g=q at hv;cases hv with
  |func _ _ a' _ b' sa ha sb hb =>
   have ea:a' = #[]:=by
    have:ta.size=0:=by rw[<-lG,hta];rfl
    exact Array.size_eq_zero_iff.1 (by omega)
   have ec:caps = #[.pointer (some ⟨i,0,none⟩)]:=by rw[<-fq (xs:=caps),ajn]
   subst ec;have hs1:b'.size=1:=by simpa using sb.symm
   obtain⟨v',hb'⟩:∃v',b' = #[v']:=⟨b'[0],by
    apply Array.ext
    .simpa using hs1
    intro j h1 h2;have:j=0:=by simp at h2;omega
    subst this;rfl⟩
   subst hb';have:=hb 0 _ _ (by rfl) (by rfl);cases this with
   |ptr _ _ r' x' hr' =>
    rw[b1]at hr';cases hr';rw[ea]
 have hcell:C[0]? = some (.string s):=by
  obtain⟨v',m1,m2⟩:=b7.2 0 (.string s) (by rw[hcells];rfl) rfl;cases m2;exact m1
 have Kk:rs<w.heap.size:=(aB.1 b3).1
 -- the record
 have lt:∀{W:World} {k:Nat} {o:Obj},W.heap[k]? = some o->k<W.heap.size:=λh=>(aB.1 h).1
 have Up:ei c ρ H1 w:=he.kill fe;refine wpIn_wide (n:=20) |>.1 (wpIn_rangeFunc ?_);intro fn hfn;have hps':ps = #[p]:=by rw[<-fq (xs:=ps),hps]
 subst hps';obtain⟨rec,hrec⟩:∃rec:LoopState->Option Code->Loop,rec=λst pe=>{ state:=st,pending:=pe,fn,tmps:=ar.tmps,params := #[p],assign,body,defers:=w.heap.size }:=⟨_,rfl⟩
 obtain⟨W1,CK⟩:∃W1,(w.alloc (.deferred (some []))).alloc (.loop (rec .ready none))=W1:=⟨_,rfl⟩;obtain⟨m,hm⟩:∃m,m=w.heap.size:=⟨_,rfl⟩;have hBm:c.B<=m:=by rw[hm];exact he.base
 obtain⟨KJ,hKJ⟩:∃KJ:Loop->Nat->Option Obj,KJ=λr=>qB (qB c.K m (.deferred (some []))) (m+1) (.loop r):=⟨_,rfl⟩
 have KX:∀r k,KJ r k=if k=m+1 then some (.loop r) else if k=m then some (.deferred (some [])) else c.K k:=λr k=>by rw[hKJ];rfl
 have an6:ei (c.kp (KJ (rec .ready none))) ρ H1 W1:=by
  have e0:=(show ei (c.kp c.K) ρ H1 w from Up).NJ (.deferred (some []));have e1:=e0.NJ (.loop (rec .ready none));rw[CK]at e1;refine e1.xL λr o hr=>?_
  rw[KX]at hr;rw[World.size_alloc,<-hm];exact hr
 have amC:W1.heap.size=m+2:=by rw[<-CK,World.size_alloc,World.size_alloc,hm]
 -- between two rounds
 let J:Nat->(Nat->Prop)->World->Prop:=λj O W=>∃Hj ρ',rB p x y f (items.toList.drop j) Hj=some (lv,f,H')/\gO H Hj/\ρ.le ρ'/\ei (c.kp (KJ (rec .ready none))) ρ' Hj W/\O=holds (c.kp (KJ (rec .ready none))) ρ' Hj
 let Jx:(Nat->Prop)->World->Prop:=λO W=>lv = .ret/\∃ ρ',ρ.le ρ'/\ei (c.kp (KJ (rec .done (some .ret)))) ρ' H' W/\O=holds (c.kp (KJ (rec .done (some .ret)))) ρ' H'
 have an7:¬holds (c.kp (KJ (rec .ready none))) ρ H1 rs:=by
  rintro (h|h|⟨j,bj,xj,hj,ua,hρj⟩)
  .have:=hown.1;have h:rs<c.B:=h;omega
  .apply h;show KJ (rec .ready none) rs=none;rw[KX,aa (by omega),aa (by omega)];exact hown.2
  obtain⟨g1,g2⟩:=q3 j bj hj ua;rcases ua with ua|ua
  .exact g2 (he.inj j i bj b rs xj rx g1 ua hgi AZ hρj b1)
  obtain⟨r',es,clock,m1,m2,m3,_⟩:=he.maps j bj g1 ua;rw[hρj]at m1;cases m1;rw[b3]at m3;cases m3
 have arq:∀r:Loop,KJ r m=some (.deferred (some [])):=λr=>by rw[KX,aa (by omega),ag rfl]
 have zU:∀r:Loop,KJ r (m+1)=some (.loop r):=λr=>by rw[KX,ag rfl]
 have ars:∀(r:Loop) (k:Nat),k≠m->k≠m+1->KJ r k=c.K k:=λr k h1 h2=>by rw[KX,aa h2,aa h1]
 have ajp:∀(r r':Loop) (k:Nat),k≠m+1->KJ r k=KJ r' k:=λr r' k h=>by rw[KX,KX,aa h,aa h]
 have an8:c.K m=none:=by
  cases hc:c.K m with
  |none=>rfl
  |some o=>have:=lt (he.stay.kept m o hc);omega
 have ajq:c.K (m+1)=none:=by
  cases hc:c.K (m+1) with
  |none=>rfl
  |some o=>have:=lt (he.stay.kept (m+1) o hc);omega
 -- one round
 have round:∀j O W v,J j O W->items.toList[j]? = some v->YieldAt Fence.wide 19 c.P (m+1) #[v] W λe W'=>∃O',W.heap.size<=W'.heap.size/\(∀r,O' r->O r\/W.heap.size<=r)/\(∀r,r<W.heap.size->¬O r->W'.heap[r]? = W.heap[r]?) /\
  ((e = .returned (.bool true)/\J (j+1) O' W')\/(e = .returned (.bool false)/\Jx O' W')):=by
  rintro j O W v ⟨Hj,ρ',hrun,hkj,hle,Zw,rfl⟩ hv;have hL:W.heap[m+1]? = some (.loop (rec .ready none)):=Zw.stay.kept (m+1) _ (zU _);have hyd:=run_yield (P:=c.P) (args := #[v]) hL (by rw[hrec];rfl);have ajr:items.toList.drop j=v::items.toList.drop (j+1):=by
   have hlt:=(bw.1 hv).1;rw[l5 hlt];congr 1
   exact(bw.1 hv).2
  rw[ajr,zS]at hrun;split at hrun;case h_2=>cases hrun
  rename_i f1 hf1;split at hrun;case h_2=>cases hrun
  rename_i f2 H2 hxr;have aer:aZ v=true:=oO hfree hv
  -- the frame of the round
  have ajs:UD ρ' f1 { tmps:=((rec .ready none).params.zip #[v]).foldl (λt (t',a)=>t.setIfInBounds t' a) (rec .ready none).tmps,defers:=[] }:=by
   refine⟨{ tmps:=(a.put (some p) v).tmps,defers:=[] },?_,?_,rfl⟩
   .have:=hr.put hf1;exact⟨this.n,this.get⟩
   have h1:=(vS.mono hle).put (some p) (dA v aer);refine⟨?_,rfl⟩;have e:((rec .ready none).params.zip #[v]).foldl (λt (t',a)=>t.setIfInBounds t' a) (rec .ready none).tmps=(ar.put (some p) v).tmps:=by rw[hrec];simp[Act.put]
   rw[e];exact h1.tmps
  refine⟨_,_,_,_,hyd,?_⟩;have hbody:(rec .ready none).body=body:=by rw[hrec]
  have hassign:(rec .ready none).assign=assign:=by rw[hrec]
  rw[hbody,hassign];refine roundIn_of_wpIn (F:=Fence.wide) trivial ?_
  -- all other rows stay
  obtain⟨c1,hc1⟩:∃c1,c1=c.kp (KJ (rec .ready none)):=⟨_,rfl⟩;rw[<-hc1]at Zw;obtain⟨K2,hK2⟩:∃K2,K2=zP c1 ρ' Hj W:=⟨_,rfl⟩;obtain⟨cW,hcW⟩:∃cW:Cx,cW={ c with w0:=W }:=⟨_,rfl⟩;have hbelow:Below c.B c.w0 W:=by have:=Zw.below;rw[hc1]at this;exact this
  have aet:cW.At G GR:=by rw[hcW];exact⟨iA.g,Zw.Ir (by rw[hc1];exact iA.kp _),iA.len⟩
  have aeu:cW.P=c.P:=by rw[hcW]
  have an9:cW.B=c.B:=by rw[hcW]
  have aru:cW.L=c.L:=by rw[hcW]
  have hh:ei (cW.kp K2) ρ' Hj W:=by
   have:=Zw.hold.aeo;rw[<-hK2,hc1]at this;rw[hcW];exact this
  have NZ:∀r o,KJ (rec .ready none) r=some o->K2 r=some o:=λr o h=>by
   rw[hK2];unfold zP;have:c1.K r=some o:=by rw[hc1];exact h
   rw[ag (by rw[this];simp),this]
  have aev:∀r,r<W.heap.size->¬holds c1 ρ' Hj r->K2 r=W.heap[r]? := λr hr hn=>by
   rw[hK2];unfold zP;rw[aa (λh=>hn (.inr (.inl h))),aa hn]
  have Y2:holds c1 ρ' Hj (m+1):=.inr (.inl (by rw[hc1];show KJ _ _≠none;rw[zU];simp));refine hx hpl (m+1) _ _ _ _ _ hxr (cW.kp K2) aeu (aet.kp K2) _ ρ' _ W ajs hh _ fun ρ2 ar2 W2 le2 UF ajt=>?_
  have hL2:W2.heap[m+1]? = some (.loop (rec .ready none)):=ajt.stay.kept (m+1) _ (NZ _ _ (zU _));refine⟨_,run_beginRound hL2 (by rw[hrec]),?_⟩;have hB1:cW.B<=m+1:=by rw[an9];omega
  have Zx:=ei.Iy (c:=cW) ajt (NZ _ _ (zU _)) hB1 (.loop { rec .ready none with state:=.busy });obtain⟨K3,UG⟩:∃K3,K3=qB K2 (m+1) (.loop { rec .ready none with state:=.busy }):=⟨_,rfl⟩;rw[<-UG]at Zx;obtain⟨W3,hW3⟩:∃W3,W3=W2.putObj (m+1) (.loop { rec .ready none with state:=.busy }):=⟨_,rfl⟩;rw[<-hW3]at Zx ⊢;have aju:K3 (m+1)=some (.loop { rec .ready none with state:=.busy }):=by rw[UG];exact ag rfl
  have ajv:∀r,r≠m+1->K3 r=K2 r:=λr h=>by rw[UG];exact aa h
  have ajw:∀{lv3:iG} {f3:Fr} {H3:Mem},y f2 H2=some (lv3,f3,H3)->gO Hj H3:=λh=>(kx _ _ _ _ _ hxr).trans (ky _ _ _ _ _ h)
  -- what comes of it
  have fin:∀(lv3:iG) (f3:Fr) (H3:Mem) (jump:Option Code),y f2 H2=some (lv3,f3,H3)->∀(ρ4:Ren) (W4:World),ρ2.le ρ4->ei (cW.kp K3) ρ4 H3 W4 ->
   (Instr.endRound (m+1) jump).run c.P W4 = .ok (.bool jump.isNone) (W4.putObj (m+1) (.loop (rec (if jump.isNone then .ready else .done) jump))) /\
   ei (c.kp (KJ (rec (if jump.isNone then .ready else .done) jump))) ρ4 H3 (W4.putObj (m+1) (.loop (rec (if jump.isNone then .ready else .done) jump))) /\
   W.heap.size<=(W4.putObj (m+1) (.loop (rec (if jump.isNone then .ready else .done) jump))).heap.size /\
   (∀r,holds (c.kp (KJ (rec (if jump.isNone then .ready else .done) jump))) ρ4 H3 r->holds c1 ρ' Hj r\/W.heap.size<=r) /\
   (∀r,r<W.heap.size->¬holds c1 ρ' Hj r->(W4.putObj (m+1) (.loop (rec (if jump.isNone then .ready else .done) jump))).heap[r]? = W.heap[r]?):=by
   intro lv3 f3 H3 jump hyr ρ4 W4 le4 ID;have hL4:W4.heap[m+1]? = some (.loop { rec .ready none with state:=.busy }):=ID.stay.kept (m+1) _ aju;have hend:=run_endRound (P:=c.P) jump hL4;have aoa:({ ({ rec .ready none with state:=.busy }:Loop) with state:=if jump.isNone then .ready else .done,pending:=jump }:Loop)=rec (if jump.isNone then .ready else .done) jump:=by rw[hrec]
   rw[aoa]at hend;have ajx:=ei.Iy (c:=cW) ID aju hB1 (.loop (rec (if jump.isNone then .ready else .done) jump));obtain⟨rj,hrj⟩:∃rj,rj=rec (if jump.isNone then .ready else .done) jump:=⟨_,rfl⟩;rw[<-hrj]at hend ajx ⊢;have ajy:ei (cW.kp (KJ rj)) ρ4 H3 (W4.putObj (m+1) (.loop rj)):=ajx.xL λr o hr=>by
    by_cases e:r=m+1
    .subst e;rw[zU]at hr;cases hr;exact ag rfl
    unfold qB;rw[aa e,ajv r e];rw[ajp rj (rec .ready none) r e]at hr;exact NZ r o hr
   have aob:ei (c.kp (KJ rj)) ρ4 H3 (W4.putObj (m+1) (.loop rj)):=by
    rw[hcW]at ajy;exact ei.aep (c:=c.kp (KJ rj)) (W:=W) ajy hbelow
   have hsz:W.heap.size<=W4.heap.size:=by have:=ID.below.size;rw[hcW]at this;exact this
   have rest:∀r,r<W.heap.size->¬holds c1 ρ' Hj r->K3 r=W.heap[r]? := λr hr hn=>by
    rw[ajv r (λe=>hn (by rw[e];exact Y2))];exact aev r hr hn
   refine⟨hend,aob,by simp only[World.putObj,Array.size_set,Array.size_setIfInBounds];exact hsz,λr hr=>?_,λr hr hn=>?_⟩
   .rcases hr with hr|hr|⟨i1,bi,xi,g1,g2,g3⟩
    .exact .inl (.inl (by rw[hc1];exact hr))
    .refine .inl (.inr (.inl ?_));rw[hc1];show KJ (rec .ready none) r≠none;have hr:KJ rj r≠none:=hr;by_cases e:r=m+1
     .subst e;rw[zU];simp
     rw[ajp (rec .ready none) rj r e];exact hr
    have kk:=ajw hyr;by_cases arz:i1<c.L
    .have l1:c.L<=Hj.lk:=by have:=Zw.lk;rw[hc1]at this;exact this
     have l2:c.L<=Hj.size:=by have:=Zw.zo;rw[hc1]at this;exact this
     have g1':Hj.get i1=some bi:=by rw[<-kk.2.2 i1 (by omega) (by omega)];exact g1
     have aoc:∃x',ρ' i1=some (r,x'):=by
      rcases g2 with g2|g2
      .obtain ⟨r',x',_,_,_,m1,_⟩:=Zw.blk i1 bi g1' g2;have:=le4 _ _ (le2 _ _ m1);rw[g3]at this;cases this;exact⟨_,m1⟩
      obtain⟨r',_,_,m1,_⟩:=Zw.maps i1 bi g1' g2;have:=le4 _ _ (le2 _ _ m1);rw[g3]at this;cases this;exact⟨_,m1⟩
     obtain⟨x',hx'⟩:=aoc;exact .inl (.inr (.inr ⟨i1,bi,x',g1',g2,hx'⟩))
    by_cases hrW:r<W.heap.size
    .by_cases hh2:holds c1 ρ' Hj r
     .exact .inl hh2
     exfalso;have hK:=ID.Iw g1 g2 g3;have hK:K3 r=none:=hK;rw[rest r hrW hh2]at hK;rw[bN hrW]at hK;cases hK
    exact .inr (by omega)
   have e:r≠m+1:=λe=>hn (by rw[e];exact Y2)
   rw[World.putObj_heap_other e];have hK:=rest r hr hn;rw[bN hr]at hK;have:=ID.stay.kept r _ hK;rw[this,bN hr]
  split at hrun
  .rename_i f3 H3 hyr;refine hy hpl (m+1) _ _ _ _ _ hyr (cW.kp K3) aeu (aet.kp K3) _ ρ2 ar2 W3 UF Zx _ fun ρ4 ar4 W4 le4 aod ID=>?_
   obtain⟨d1,d2,d3,d4,d5⟩:=fin _ _ _ none hyr ρ4 W4 le4 ID;rw[hc1]at d4 d5;exact⟨_,_,d1,_,d3,d4,d5,.inl ⟨rfl,H3,ρ4,hrun,hkj.trans (ajw hyr),Ren.le_trans hle (Ren.le_trans le2 le4),d2,rfl⟩⟩
  .rename_i f3 H3 hyr;cases hrun;refine hy hpl (m+1) _ _ _ _ _ hyr (cW.kp K3) aeu (aet.kp K3) _ ρ2 ar2 W3 UF Zx _ fun ρ4 ar4 W4 le4 aod ID=>?_
   obtain⟨d1,d2,d3,d4,d5⟩:=fin _ _ _ (some .ret) hyr ρ4 W4 le4 ID;rw[hc1]at d4 d5;exact⟨_,_,d1,_,d3,d4,d5,.inr ⟨rfl,rfl,ρ4,Ren.le_trans hle (Ren.le_trans le2 le4),d2,rfl⟩⟩
  cases hrun
 have ajz:Below w.heap.size w W1:=by rw[<-CK];exact((Below.refl _ w).alloc (aC _) _).alloc (by simp) _
 have Zy:W1.cell? ⟨rs,0,none⟩=some (.string s):=by
  obtain⟨v',m1,m2⟩:=he.cell UE b1 (show b.cells[0]? = some (.string s) by rw[hcells];rfl) rfl;cases m2;rw[<-m1];unfold World.cell?;simp only[ajz.block rs Kk]
 have ajA:W1.frozen? ⟨rs,0,none⟩=false:=by
  have h0:0<C.size:=(aB.1 hcell).1;have hno:=an5.2 0 h0;unfold World.frozen?;simp only[ajz.block rs Kk,b3];simpa using hno
 refine⟨m+1,[mark m],W1,{ target:=.fn (.func fid) #[.pointer (some ⟨rs,0,none⟩)],args := #[.func (.yield (m+1)) #[] #[]] },W1,fid,#[.func (.yield (m+1)) #[] #[]] ++ #[.pointer (some ⟨rs,0,none⟩)],W1,?_,?_,?_,?_,λ_=>by omega,?_⟩
 .rw[<-CK,hrec,hm];exact run_enterLoop_outer _ _ _ _ _
 .simp only[resolve,hgv];simp[go_sem]
 .intro f' _;trivial
 .simp only[invoke];exact ajo.1 _ _
 refine(ajo.2 19 (m+1) rs W1 _ J Jx (by omega) Zy ajA an7 ?_ ?_ ?_ ?_ round ⟨H1,ρ,h,hkk,Ren.le_refl _,an6,rfl⟩).mono ?_
 .rintro j O W W' ⟨Hj,ρ',k1,k2,k3,k4,rfl⟩ hb;exact⟨Hj,ρ',k1,k2,k3,k4.beside hb,rfl⟩
 .rintro O W W' ⟨k0,ρ',k3,k4,rfl⟩ hb;exact⟨k0,ρ',k3,k4.beside hb,rfl⟩
 .rintro j O W ⟨Hj,ρ',k1,k2,k3,k4,rfl⟩ r hr;exact k4.KS hr
 .rintro O W ⟨k0,ρ',k3,k4,rfl⟩ r hr;exact k4.KS hr
 have ajB:∀(rj:Loop) (ρ':Ren) (W:World),ei (c.kp (KJ rj)) ρ' H' W->∀rj':Loop,ei (c.kp (qB c.K m (.deferred (some [])))) ρ' H' (W.putObj (m+1) (.loop rj')):=λrj ρ' W emb rj'=>by
  refine(ei.Iy (c:=c) emb (zU rj) (by omega) (.loop rj')).xL λr o hr=>?_
  by_cases e:r=m+1
  .subst e;unfold qB at hr;rw[aa (by omega),ajq]at hr;cases hr
  have:qB (KJ rj) (m+1) (.loop rj') r=KJ rj r:=aa e;rw[this,KX,aa e];exact hr
 have UF:∀ ρ',ρ.le ρ'->D3 K0 (c.kp (qB c.K m (.deferred (some [])))) ρ' f { ar with defers:=[mark m]++ar.defers }:=fun ρ' hle =>
  ⟨{ a with defers:=mark m::a.defers },⟨hr.n,hr.get⟩,⟨(vS.mono hle).tmps,by show mark m::ar.defers=_;rw[vS.dr]⟩,Marks.push hmk hBm an8⟩
 rintro e W2 ⟨⟨v,rfl⟩,O',⟨Hj,ρ',k1,k2,k3,k4,_⟩|⟨rfl,ρ',k3,k4,_⟩⟩
 .rw[List.drop_length]at k1;rw[Ch]at k1;cases k1;have hLr:W2.heap[m+1]? = some (.loop (rec .ready none)):=k4.stay.kept (m+1) _ (zU _);have hel:=run_endLoop (P:=c.P) hLr (by rw[hrec];simp);have hp:(rec .ready none).pending=none:=by rw[hrec]
  rw[hp]at hel;refine⟨none,_,hel,?_⟩;exact hQ _ ρ' _ _ k3 (UF ρ' k3) (ajB _ _ _ k4 _)
 have hLr:W2.heap[m+1]? = some (.loop (rec .done (some .ret))):=k4.stay.kept (m+1) _ (zU _);have hel:=run_endLoop (P:=c.P) hLr (by rw[hrec];simp);have hp:(rec .done (some .ret)).pending=some .ret:=by rw[hrec]
 rw[hp]at hel;refine⟨some .ret,_,hel,?_⟩;exact wpIn_ret (hQ _ ρ' _ _ k3 (UF ρ' k3) (ajB _ _ _ k4 _))
theorem andThen_ok {G:Nat}{g k:Fr->Mem->Out}{x y:Code}(hx:wC P G GR g x)(hy:wC P G GR k y):wC P G GR (λf H=>andThen (g f H) k) (.seq x y):=by
 intro f H lv f' H' h0;have h:andThen (g f H) k=some (lv,f',H'):=h0;clear h0;unfold andThen at h;split at h
 .rename_i f1 H1 h1;obtain⟨k1,w1⟩:=hx _ _ _ _ _ h1;obtain⟨k2,w2⟩:=hy _ _ _ _ _ h;refine⟨k1.trans k2,λc K0 iY iA ρ ar w hs he Q hQ=>wp_seq (w1 c K0 iY iA ρ ar w hs he _ λK1 ρ' ar' w' m1 m2 m3=>?_)⟩;exact w2 (c.kp K1) K0 iY (iA.kp K1) ρ' ar' w' m2 m3 Q λK2 ρ'' ar'' w'' n1 n2 n3=>hQ K2 ρ'' ar'' w'' (Ren.le_trans m1 n1) n2 n3
 .rename_i id f1 H1 h1;cases h;obtain⟨k1,w1⟩:=hx _ _ _ _ _ h1;exact⟨k1,λc K0 iY iA ρ ar w hs he Q hQ=>wp_seq (w1 c K0 iY iA ρ ar w hs he _ λK1 ρ' ar' w' m1 m2 m3=>hQ K1 ρ' ar' w' m1 m2 m3)⟩
 .rename_i f1 H1 h1;cases h;obtain⟨k1,w1⟩:=hx _ _ _ _ _ h1;exact⟨k1,λc K0 iY iA ρ ar w hs he Q hQ=>wp_seq (w1 c K0 iY iA ρ ar w hs he _ λK1 ρ' ar' w' m1 m2 m3=>hQ K1 ρ' ar' w' m1 m2 m3)⟩
 .rename_i l f1 H1 h1;cases h;obtain⟨k1,w1⟩:=hx _ _ _ _ _ h1;exact⟨k1,λc K0 iY iA ρ ar w hs he Q hQ=>wp_seq (w1 c K0 iY iA ρ ar w hs he _ λK1 ρ' ar' w' m1 m2 m3=>hQ K1 ρ' ar' w' m1 m2 m3)⟩
 cases h
theorem xN {G:Nat}{g:Fr->Mem->Out}{cd:Code}(hb:wC P G GR g cd):∀(n:Nat) f H lv f' H',yl g n f H=some (lv,f',H')->gO H H'/\∀(c:Cx) (K0:Nat->Option Obj),c.P=P->c.At G GR->∀ ρ ar w,D3 K0 c ρ f ar->ei c ρ H w->∀Q:Exit->Act->World->Prop,
 (∀K' ρ' ar' w',ρ.le ρ'->D3 K0 (c.kp K') ρ' f' ar'->ei (c.kp K') ρ' H' w'->Q lv.exit' ar' w')->Code.rounds P cd Q n ar w
 |0,f,H,lv,f',H',h=>by cases h
 |n+1,f,H,lv,f',H',h=>by
  have h0:andThen (g f H) (yl g n)=some (lv,f',H'):=h;unfold andThen at h0;split at h0
  .rename_i f1 H1 h1;obtain⟨k1,w1⟩:=hb _ _ _ _ _ h1;obtain⟨k2,w2⟩:=xN hb n _ _ _ _ _ h0;refine⟨k1.trans k2,λc K0 iY iA ρ ar w hs he Q hQ=>?_⟩;rw[rounds_succ];refine w1 c K0 iY iA ρ ar w hs he _ λK1 ρ' ar' w' m1 m2 m3=>?_
   exact w2 (c.kp K1) K0 iY (iA.kp K1) ρ' ar' w' m2 m3 Q λK2 ρ'' ar'' w'' n1 n2 n3=>hQ K2 ρ'' ar'' w'' (Ren.le_trans m1 n1) n2 n3
  .rename_i id f1 H1 h1;cases h0;obtain⟨k1,w1⟩:=hb _ _ _ _ _ h1;refine⟨k1,λc K0 iY iA ρ ar w hs he Q hQ=>?_⟩;rw[rounds_succ];exact w1 c K0 iY iA ρ ar w hs he _ λK1 ρ' ar' w' m1 m2 m3=>hQ K1 ρ' ar' w' m1 m2 m3
  .rename_i f1 H1 h1;cases h0;obtain⟨k1,w1⟩:=hb _ _ _ _ _ h1;refine⟨k1,λc K0 iY iA ρ ar w hs he Q hQ=>?_⟩;rw[rounds_succ];exact w1 c K0 iY iA ρ ar w hs he _ λK1 ρ' ar' w' m1 m2 m3=>hQ K1 ρ' ar' w' m1 m2 m3
  .rename_i l f1 H1 h1;cases h0;obtain⟨k1,w1⟩:=hb _ _ _ _ _ h1;refine⟨k1,λc K0 iY iA ρ ar w hs he Q hQ=>?_⟩;rw[rounds_succ];exact w1 c K0 iY iA ρ ar w hs he _ λK1 ρ' ar' w' m1 m2 m3=>hQ K1 ρ' ar' w' m1 m2 m3
  cases h0
def within (c:Code)(J:Code->Act->World->Prop)(Q:Exit->Act->World->Prop):Exit->Act->World->Prop
 |.goto l,a,w=>match findLabel c l with
  |some rest=>J rest a w
  |none=>Q (.goto l) a w
 |e,a,w=>Q e a w
def jumps (P:Program)(c:Code)(Q:Exit->Act->World->Prop):Nat->Code->Act->World->Prop
 |0,_,_,_=>False
 |n+1,d,a,w=>d.wp P (within c (jumps P c Q n) Q) a w
theorem wp_scope_within {c:Code}{Q:Exit->Act->World->Prop}{a:Act}{w:World}(n:Nat)(h:jumps P c Q n c a w):(Code.scope c).wp P Q a w:=by
 intro b k cs;have key:∀n d a w,jumps P c Q n d a w->∃e a' w',Q e a' w'/\Arrives P (lone (b.at a (.code d :: .inScope c::k)) cs w) b k cs e a' w':=by
  intro n;induction n with
  |zero=>intro d a w h;exact h.elim
  |succ n ih =>
   intro d a w h;obtain⟨e,a₁,w₁,hq,harr⟩:=h b (.inScope c::k) cs;cases e with
   |normal=>exact⟨.normal,a₁,w₁,hq,Steps.trans harr (.one step_inScope)⟩
   |exit id=>exact⟨.exit id,a₁,w₁,hq,λk' hk=>harr k' (by simp[exitTo,hk])⟩
   |goto l =>
    cases hf:findLabel c l with
    |some rest =>
     simp only[within,hf]at hq;obtain⟨e₂,a₂,w₂,hq₂,harr₂⟩:=ih rest a₁ w₁ hq;exact⟨e₂,a₂,w₂,hq₂,.of_steps (harr _ (by simp[gotoIn,hf])) harr₂⟩
    |none =>
     simp only[within,hf]at hq;exact⟨.goto l,a₁,w₁,hq,λk' hk=>harr k' (by simp[gotoIn,hf,hk])⟩
   |ret=>exact⟨_,a₁,w₁,hq,harr⟩
   |panic ch=>exact⟨_,a₁,w₁,hq,harr⟩
   |outgrown=>exact⟨_,a₁,w₁,hq,harr⟩
 obtain⟨e,a',w',hq,harr⟩:=key n c a w h;exact⟨e,a',w',hq,.of_steps (.one step_scope) harr⟩
def N5 (P:Program)(G:Nat)(GR:List jC)(n:Nat)(J:tZ):Prop :=
 ∀s rest f H lv f' H',J s rest f H=some (lv,f',H')->gO H H'/\∀(c:Cx) (K0:Nat->Option Obj),c.P=P->c.At G GR->∀ ρ ar w,D3 K0 c ρ f ar->ei c ρ H w->∀Q:Exit->Act->World->Prop,
  (∀K' ρ' ar' w',ρ.le ρ'->D3 K0 (c.kp K') ρ' f' ar'->ei (c.kp K') ρ' H' w'->Q lv.exit' ar' w')->jumps P s Q n rest ar w
theorem yq {G n:Nat}{J:tZ}(hJ:N5 P G GR n J){g:Fr->Mem->Out}{d:Code}(hd:wC P G GR g d)(s:Code)(f:Fr)(H:Mem)(lv:iG)(f':Fr)(H':Mem)(h:lM s J (g f H)=some (lv,f',H')) :
 gO H H'/\∀(c:Cx) (K0:Nat->Option Obj),c.P=P->c.At G GR->∀ ρ ar w,D3 K0 c ρ f ar->ei c ρ H w->∀Q:Exit->Act->World->Prop,
 (∀K' ρ' ar' w',ρ.le ρ'->D3 K0 (c.kp K') ρ' f' ar'->ei (c.kp K') ρ' H' w'->Q lv.exit' ar' w')->jumps P s Q (n+1) d ar w:=by
 unfold lM at h;split at h
 .rename_i l f1 H1 h1;obtain⟨k1,w1⟩:=hd _ _ _ _ _ h1;split at h
  .rename_i rest hf;obtain⟨k2,w2⟩:=hJ _ _ _ _ _ _ _ h;refine⟨k1.trans k2,λc K0 iY iA ρ ar w hs he Q hQ=>w1 c K0 iY iA ρ ar w hs he _ λK1 ρ' ar' w' m1 m2 m3=>?_⟩;show within s (jumps P s Q n) Q (.goto l) ar' w';simp only[within,hf];exact w2 (c.kp K1) K0 iY (iA.kp K1) ρ' ar' w' m2 m3 Q λK2 ρ'' ar'' w'' n1 n2 n3=>hQ K2 ρ'' ar'' w'' (Ren.le_trans m1 n1) n2 n3
  rename_i hf;cases h;refine⟨k1,λc K0 iY iA ρ ar w hs he Q hQ=>w1 c K0 iY iA ρ ar w hs he _ λK1 ρ' ar' w' m1 m2 m3=>?_⟩;show within s (jumps P s Q n) Q (.goto l) ar' w';simp only[within,hf];exact hQ K1 ρ' ar' w' m1 m2 m3
 .rename_i f1 H1 h1;cases h;obtain⟨k1,w1⟩:=hd _ _ _ _ _ h1;exact⟨k1,λc K0 iY iA ρ ar w hs he Q hQ=>w1 c K0 iY iA ρ ar w hs he _ λK1 ρ' ar' w' m1 m2 m3=>hQ K1 ρ' ar' w' m1 m2 m3⟩
 .rename_i id f1 H1 h1;cases h;obtain⟨k1,w1⟩:=hd _ _ _ _ _ h1;exact⟨k1,λc K0 iY iA ρ ar w hs he Q hQ=>w1 c K0 iY iA ρ ar w hs he _ λK1 ρ' ar' w' m1 m2 m3=>hQ K1 ρ' ar' w' m1 m2 m3⟩
 .rename_i f1 H1 h1;cases h;obtain⟨k1,w1⟩:=hd _ _ _ _ _ h1;exact⟨k1,λc K0 iY iA ρ ar w hs he Q hQ=>w1 c K0 iY iA ρ ar w hs he _ λK1 ρ' ar' w' m1 m2 m3=>hQ K1 ρ' ar' w' m1 m2 m3⟩
 cases h
theorem KY (hno:iX P){G:Nat}(hcall:pZ P G GR call)(hit:zR P call)(hk:fu call)(hm:P.follows .mixedOrders=true){n:Nat}{J:tZ}(hJ:N5 P G GR n J)(rounds:Nat)(cd:Code):wC P G GR (jK P G call J rounds cd) cd:=by
 induction cd with
 |skip =>
  intro f H lv f' H' h;have h':some (iG.normal,f,H)=some (lv,f',H'):=h;cases h';exact⟨.refl _,λc K0 _ _ ρ ar w hs he Q hQ=>wp_skip (hQ c.K ρ ar w (Ren.le_refl _) hs he)⟩
 |region id ops draw=>exact xM hno hcall hk hm id draw
 |seq x y NX NY=>exact andThen_ok NX NY
 |cond cc x y NX NY =>
  intro f H lv f' H' h;have h0:ah (dW G cc) (DG (f.eval cc) (jK P G call J rounds x) (jK P G call J rounds y) f H) none=some (lv,f',H'):=h;rw[au]at h0;split at h0;case isFalse=>cases h0
  rename_i hok;unfold DG at h0;split at h0
  .rename_i b hb;have val:∀{c:Cx} {K0:Nat->Option Obj} {ρ:Ren} {ar:Act} {w:World},c.At G GR->D3 K0 c ρ f ar->ei c ρ H w->ar.eval cc = .bool b:=by
    intro c K0 ρ ar w iA hs he;obtain⟨a,hr,vS,_⟩:=hs;have hv:=vS.eval he.jo (x:=cc) (by rw[iA.g];exact hok);rw[<-hr.eval,hb]at hv;generalize ar.eval cc=q at hv;cases hv;rfl
   cases b with
   |true =>
    obtain⟨k1,w1⟩:=NX _ _ _ _ _ h0;exact⟨k1,λc K0 iY iA ρ ar w hs he Q hQ=>wp_cond_true (val iA hs he) (w1 c K0 iY iA ρ ar w hs he Q hQ)⟩
   |false =>
    obtain⟨k1,w1⟩:=NY _ _ _ _ _ h0;exact⟨k1,λc K0 iY iA ρ ar w hs he Q hQ=>wp_cond_false (val iA hs he) (w1 c K0 iY iA ρ ar w hs he Q hQ)⟩
  cases h0
 |block id b ih =>
  intro f H lv f' H' h;have h0:mX id (jK P G call J rounds b f H)=some (lv,f',H'):=h;unfold mX at h0;split at h0
  .rename_i id' f1 H1 h1;obtain⟨k1,w1⟩:=ih _ _ _ _ _ h1;rw[au]at h0;split at h0
   .rename_i hid;cases h0;refine⟨k1,λc K0 iY iA ρ ar w hs he Q hQ=>wp_block (w1 c K0 iY iA ρ ar w hs he _ λK1 ρ' ar' w' m1 m2 m3=>?_)⟩;show (if id'=id then Q .normal ar' w' else Q (.exit id') ar' w');rw[ag (by rw[aO]at hid;exact hid)];exact hQ K1 ρ' ar' w' m1 m2 m3
   rename_i hid;cases h0;refine⟨k1,λc K0 iY iA ρ ar w hs he Q hQ=>wp_block (w1 c K0 iY iA ρ ar w hs he _ λK1 ρ' ar' w' m1 m2 m3=>?_)⟩;show (if id'=id then Q .normal ar' w' else Q (.exit id') ar' w');rw[aa (by rw[aO]at hid;exact hid)];exact hQ K1 ρ' ar' w' m1 m2 m3
  .rename_i f1 H1 h1;cases h0;obtain⟨k1,w1⟩:=ih _ _ _ _ _ h1;exact⟨k1,λc K0 iY iA ρ ar w hs he Q hQ=>wp_block (w1 c K0 iY iA ρ ar w hs he _ λK1 ρ' ar' w' m1 m2 m3=>hQ K1 ρ' ar' w' m1 m2 m3)⟩
  .rename_i f1 H1 h1;cases h0;obtain⟨k1,w1⟩:=ih _ _ _ _ _ h1;exact⟨k1,λc K0 iY iA ρ ar w hs he Q hQ=>wp_block (w1 c K0 iY iA ρ ar w hs he _ λK1 ρ' ar' w' m1 m2 m3=>hQ K1 ρ' ar' w' m1 m2 m3)⟩
  .rename_i l f1 H1 h1;cases h0;obtain⟨k1,w1⟩:=ih _ _ _ _ _ h1;exact⟨k1,λc K0 iY iA ρ ar w hs he Q hQ=>wp_block (w1 c K0 iY iA ρ ar w hs he _ λK1 ρ' ar' w' m1 m2 m3=>hQ K1 ρ' ar' w' m1 m2 m3)⟩
  cases h0
 |loop b ih =>
  intro f H lv f' H' h;obtain⟨k1,w1⟩:=xN ih rounds f H lv f' H' h;exact⟨k1,λc K0 iY iA ρ ar w hs he Q hQ=>wp_loop_rounds rounds (w1 c K0 iY iA ρ ar w hs he Q hQ)⟩
 |exit id =>
  intro f H lv f' H' h;have h':some (iG.exit id,f,H)=some (lv,f',H'):=h;cases h';exact⟨.refl _,λc K0 _ _ ρ ar w hs he Q hQ=>wp_exit (hQ c.K ρ ar w (Ren.le_refl _) hs he)⟩
 |ret =>
  intro f H lv f' H' h;have h':some (iG.ret,f,H)=some (lv,f',H'):=h;cases h';exact⟨.refl _,λc K0 _ _ ρ ar w hs he Q hQ=>wp_ret (hQ c.K ρ ar w (Ren.le_refl _) hs he)⟩
 |rangeFunc g ps a b Ua Ub =>
  refine D6 hit (λf H lv f' H' h=>(Ua f H lv f' H' h).1) (λf H lv f' H' h=>(Ub f H lv f' H' h).1) (λhp l=>?_) (λhp l=>?_)
  .rw[ak]at hp;exact Gu hno hcall hk hm J rounds a hp.1
  rw[ak]at hp;exact Gu hno hcall hk hm J rounds b hp.2
 |scope b ih =>
  intro f H lv f' H' h;have h0:lM b J (jK P G call J rounds b f H)=some (lv,f',H'):=h;obtain⟨k1,w1⟩:=yq hJ ih b f H lv f' H' h0;exact⟨k1,λc K0 iY iA ρ ar w hs he Q hQ=>wp_scope_within (n+1) (w1 c K0 iY iA ρ ar w hs he Q hQ)⟩
 |label l =>
  intro f H lv f' H' h;have h':some (iG.normal,f,H)=some (lv,f',H'):=h;cases h';exact⟨.refl _,λc K0 _ _ ρ ar w hs he Q hQ=>wp_label (hQ c.K ρ ar w (Ren.le_refl _) hs he)⟩
 |goto l =>
  intro f H lv f' H' h;have h':some (iG.goto l,f,H)=some (lv,f',H'):=h;cases h';exact⟨.refl _,λc K0 _ _ ρ ar w hs he Q hQ=>wp_goto (hQ c.K ρ ar w (Ren.le_refl _) hs he)⟩
 |refuse=>intro f H lv f' H' h;cases h
theorem Bc (hno:iX P){G:Nat}(hcall:pZ P G GR call)(hit:zR P call)(hk:fu call)(hm:P.follows .mixedOrders=true)(rounds:Nat):∀n,N5 P G GR n (uQ P G call rounds n)
 |0=>λ_ _ _ _ _ _ _ h=>by cases h
 |n+1=>λs rest f H lv f' H' h=>by
  have h0:lM s (uQ P G call rounds n) (jK P G call (uQ P G call rounds n) rounds rest f H)=some (lv,f',H'):=h;exact yq (Bc hno hcall hit hk hm rounds n) (KY hno hcall hit hk hm (Bc hno hcall hit hk hm rounds n) rounds rest) s f H lv f' H' h0
def mc (tmps:Array Value):ResultVar->Sem Value
 |.tmp t=>pure (tmps.getD t undef)
 |.cell x t=>do loadVar t (<- asAddr (tmps.getD x undef))
theorem Bd {c:Cx}{w:World}{ρ:Ren}{H:Mem}(he:ei c ρ H w){f:Fr}{a ar:Act}(hr:C6 f a)(hs:AP ρ a ar){r:ResultVar}{v:Value}(h:zy c.P H f r=some v) :
 ∃v',bG ρ v v'/\(mc ar.tmps r).run c.P w = .ok v' w:=by
 cases r with
 |tmp t =>
  simp only[zy,aq]at h;subst h;rw[hr.get];exact⟨_,hs.tmps.getD t .undef,rfl⟩
 |cell x t =>
  simp only[zy]at h;rw[hr.get]at h;have hx:=hs.tmps.getD x .undef;obtain⟨v',h1,h2⟩:=P7 he hx h;refine⟨v',h2,?_⟩;unfold qZ at h;split at h
  .rename_i i off heq;rw[heq]at hx;simp only[mc];generalize ar.tmps.getD x undef=q at hx h1 ⊢;cases hx with
   |ptr _ _ r y hr =>
    simp only[Instr.loadAt,Instr.sureAddr,Sem.run_bind,Sem.run_pure,Result.andThen_ok]at h1;simp only[asAddr,Sem.run_bind,Sem.run_pure,Result.andThen_ok];exact h1
  cases h
theorem zV {c:Cx}{w:World}{ρ:Ren}{H:Mem}(he:ei c ρ H w){f:Fr}{a ar:Act}(hr:C6 f a)(hs:AP ρ a ar):∀(rs:List ResultVar) {l:List Value},j8 c.P H f rs=some l ->
 ∃l',LR (bG ρ) l l'/\(rs.mapM (mc ar.tmps)).run c.P w = .ok l' w
 |[],l,h=>by
  simp only[j8,aq]at h;subst h;exact⟨[],.nil,by simp⟩
 |r::rs,l,h=>by
  simp only[j8]at h;split at h
  .rename_i v vs hv hvs;cases h;obtain⟨v',h1,h2⟩:=Bd he hr hs hv;obtain⟨l',h3,h4⟩:=zV he hr hs rs hvs;refine⟨v'::l',LR.cons h1 h3,?_⟩;rw[List.mapM_cons];simp only[Sem.run_bind,Sem.run_pure];rw[h2];simp only[Result.andThen_ok];rw[h4];rfl
  cases h
theorem uX {c:Cx}{w:World}{ρ:Ren}{H:Mem}(he:ei c ρ H w){f:Fr}{a ar:Act}(hr:C6 f a)(vS:AP ρ a ar){fn:Func}{l:List Value}(h:j8 c.P H f fn.results.toList=some l) :
 ∃v',bG ρ (wg l) v'/\(results fn ar.tmps).run c.P w = .ok v' w:=by
 obtain⟨l',h1,h2⟩:=zV he hr vS _ h;have hrun:(results fn ar.tmps).run c.P w = .ok (if hh:l'.toArray.size=1 then l'.toArray[0] else .tuple l'.toArray) w:=by
  have e:results fn ar.tmps=(do let vs <- fn.results.mapM (mc ar.tmps);pure (if h:vs.size=1 then vs[0] else .tuple vs)):=rfl;rw[e,Array.mapM_eq_mapM_toList];simp only[Sem.run_bind,Sem.run_map];rw[h2];rfl
 refine⟨_,?_,hrun⟩
 match l,h1 with
 |[],h1=>rw[h1.Gc];exact .tuple _ _ rfl (λi x y hx=>by simp at hx)
 |[v],h1 =>
  obtain⟨v',t',rfl,hv,ht⟩:=h1.wj;rw[ht.Gc];exact hv
 |v::u::t,h1 =>
  obtain⟨v',t',rfl,hv,ht⟩:=h1.wj;obtain⟨u',t'',rfl,hu,ht'⟩:=ht.wj;have:¬((v'::u'::t'').toArray.size=1):=by simp
  rw[dif_neg this];have hA:=h1.array;exact .tuple _ _ hA.1 hA.2
theorem Gv:∀(l:List Value) {f f':Fr} {i:Nat},f.fill i l=some f'->f'.n=f.n/\∀j,f'.get j=if i<=j/\j<i+l.length/\j<f.n then (l[j-i]?).getD undef else f.get j
 |[],f,f',i,h=>by
  simp only[Fr.fill,aq]at h;subst h;exact⟨rfl,λj=>by rw[aa];simp;omega⟩
 |v::l,f,f',i,h=>by
  simp only[Fr.fill]at h;split at h
  .rename_i f1 h1;obtain⟨e1,e2⟩:=Fr.gu h1;obtain⟨e3,e4⟩:=Gv l h;refine⟨by rw[e3,e1],λj=>?_⟩;rw[e4,e2,e1];simp only[aq,aJ];by_cases hj:i+1<=j/\j<i+1+l.length/\j<f.n
   .rw[ag hj,ag (by omega)];have:j-i=(j-(i+1))+1:=by omega
    rw[this];simp
   rw[aa hj];by_cases hij:i=j/\j<f.n
   .obtain ⟨rfl,hlt⟩:=hij;rw[ag ⟨rfl,hlt⟩,ag (by omega)];simp
   rw[aa hij,aa (by omega)]
  cases h
theorem D7 {α:Type}:∀(d j:Nat),(Tr.full d:Tr α).get j=none
 |0,_=>rfl
 |d+1,j=>by
  show (Tr.n (Tr.full d) none (Tr.full d)).get j=none;rw[Tr.wk,D7 d,D7 d];simp
structure UH (r:Nat)(w w':World):Prop where
 below:∀B,B<=r->Below B w w'
 rows:∀k,k≠r->k<w.heap.size->w'.heap[k]? = w.heap[k]?
 size:w.heap.size<=w'.heap.size
def aew (P:Program)(f:FuncId)(u:Value):Prop:=∀(w:World) (r n:Nat) (t:TypeId) (fr:Nat×Nat) (C:Array Value),w.heap[r]? = some (.cells C t fr)->qx C fr->n<=C.size->C.size<9223372036854775808->P.underlying t=some (.int .u8) ->
 (∀(j:Nat) v,C[j]? = some v->∃k:Int,v = .int .u8 k)->Calls P f #[.slice (some ⟨r,0,none⟩) n C.size] w λe w'=>e = .returned u/\UH r w w'
theorem ei.turned {c:Cx}{ρ:Ren}{H:Mem}{w w':World}(h:ei c ρ H w){r:Nat}(hr:c.own r)(ht:UH r w w')(hc:∃C t fr,w.heap[r]? = some (.cells C t fr))(hne:∀i b x y,H.get i=some b->b.live=true->ρ i=some (x,y)->x≠r):ei c ρ H w':=by
 have lt:∀{k:Nat} {o:Obj},w.heap[k]? = some o->k<w.heap.size:=λh=>(aB.1 h).1
 obtain⟨C0,t0,fr0,hC0⟩:=hc;refine⟨⟨h.stay.below.trans (ht.below _ hr.1),λk o hk=>?_⟩,br h.base ht.size,h.dom,h.lk,h.zo,h.jo,λi b hi hl=>?_,h.inj,λi b hi hm=>?_,h.vQ⟩
 .have h1:=h.stay.kept k o hk;rw[ht.rows k (λe=>by subst e;rw[hr.2]at hk;cases hk) (lt h1)];exact h1
 .obtain ⟨q,x,C,fr,s,h1,h2,h3,h4⟩:=h.blk i b hi hl;exact⟨q,x,C,fr,s,h1,h2,by rw[ht.rows q (hne i b q x hi hl h1) (lt h3)];exact h3,h4⟩
 refine(h.maps i b hi hm).heap λq es clock hh=>?_
 rw[ht.rows q (λe=>by subst e;rw[hC0]at hh;cases hh) (lt hh)];exact hh
theorem KZ {t:TypeId}(h:Ia P t=true):P.underlying t=some (.int .u8)/\l8 P t=some (.int .u8 0)/\cQ P t=some 1:=by
 unfold Ia at h;split at h
 .rename_i h1 h2 h3;exact⟨h1,h2,h3⟩
 cases h
theorem UI {v:Value}(h:Kg v=true):∃k:Int,v = .int .u8 k:=by
 unfold Kg at h;split at h
 .exact ⟨_,rfl⟩
 cases h
structure ke (P:Program)(GR:List jC)(K:fc):Prop where
 calls:∀f args v,K f args=some v->cE args=true->∀w,kV GR w->Calls P f args.toArray w λe w'=>e = .returned v/\Below w.heap.size w w'
 UJ:∀f u,K f pF=some u->aew P f u
 UK:∀f s items,K (qO f) [iq,.string s]=some (.tuple items)->cE items.toList=true->Iz P f s items.toList
abbrev xO (P:Program)(K:fc):Prop:=ke P [] K
theorem xO.of {K:fc}(h0:∀f,K f pF=none)(h1:∀f s,K (qO f) [iq,.string s]=none)(h:∀f args v,K f args=some v->∀w,Calls P f args.toArray w λe w'=>e = .returned v/\Below w.heap.size w w'):xO P K :=
 ⟨λf args v hk _ w _=>h f args v hk w,(λf u hk=>by rw[h0]at hk;cases hk),(λf s items hk=>by rw[h1]at hk;cases hk)⟩
theorem uY:xO P qk:=.of (λ_=>rfl) (λ_ _=>rfl) λ_ _ _ h=>by simp[qk]at h
theorem LR.lP {ρ:Ren}{l l':List Value}(h:LR (bG ρ) l l')(hf:cE l=true):l'=l:=by
 apply j5;intro i;by_cases hi:i<l.length
 .have hi':i<l'.length:=h.1 ▸ hi;have hr:=h.2 i _ _ (aP hi) (aP hi');rw[aP hi,aP hi',Ev.lP hr (oO hf (aP hi))]
 rw[dK (eY hi),dK (eY (h.1 ▸ hi))]
theorem K4 {fn:Func}{r:Out}{v:Value}{H':Mem}(h:C4 P fn r=some (v,H')):∃lv f l,r=some (lv,f,H')/\(lv = .normal\/lv = .ret)/\j8 P H' f fn.results.toList=some l/\v=wg l:=by
 unfold C4 at h;split at h
 .rename_i f H1;obtain⟨h1,rfl⟩:=bP h;simp only[aL]at h1;obtain⟨l,hl,rfl⟩:=h1;exact⟨_,_,_,rfl,.inl rfl,hl,rfl⟩
 .rename_i f H1;obtain⟨h1,rfl⟩:=bP h;simp only[aL]at h1;obtain⟨l,hl,rfl⟩:=h1;exact⟨_,_,_,rfl,.inr rfl,hl,rfl⟩
 cases h
theorem Gw {fn:Func}{c:Cx}{K0:Nat->Option Obj}{f1:Fr}{a ar:Act}{ρ:Ren}{H:Mem}{R:Ending->World->Prop}(hr:C6 f1 a)(hs:AP ρ a ar){l:List Value}(hl:j8 c.P H f1 fn.results.toList=some l)
 (hR:∀v' w,bG ρ (wg l) v'->ei (c.kp K0) ρ H w->R (.returned v') w):∀(D:List Deferred) (K:Nat->Option Obj) (w:World),Marks c.B K0 K D->ei (c.kp K) ρ H w->LeavesInM Fence.wide 20 c.P fn ar.tmps R D .returning w
 |[],K,w,hm,he=>by
  obtain⟨v',p1,p2⟩:=uX he hr hs hl;exact⟨v',p2,hR v' w p1 (he.xL hm)⟩
 |d::D,K,w,⟨m,hd,hB,hK,hm⟩,he=>by
  subst hd;have hw:w.heap[m]? = some (.deferred (some [])):=he.stay.kept m _ hK;refine⟨by simp,.inl ⟨m,_,rfl,run_takeDeferred hw,?_⟩⟩;refine Gw hr hs hl hR D (KU K m) _ hm ((ei.Iy (c:=c) he hK hB (.deferred none)).xL λr o hr=>?_);unfold KU at hr;split at hr
  .cases hr
  rename_i e;unfold qB;rw[aa e];exact hr
theorem kW (hno:iX P){G:Nat}(hcall:pZ P G GR call)(hit:zR P call)(hk:fu call)(hm:P.follows .mixedOrders=true)(rounds:Nat){id:FuncId}{args:List Value}{H H':Mem}{v:Value}(h:lO P G call rounds id args H=some (v,H')) :
 gO H H'/\∀(c:Cx),c.P=P->c.At G GR->∀ ρ w args',ei c ρ H w->LR (bG ρ) args args' ->
  Calls P id args'.toArray w λe w'=>∃ ρ' v',e = .returned v'/\ρ.le ρ'/\bG ρ' v v'/\ei c ρ' H' w':=by
 unfold lO at h;split at h;case h_2=>cases h
 rename_i fn hfn;split at h;case h_2=>cases h
 rename_i cd hcd;split at h;case h_2=>cases h
 rename_i f0 hf0;rw[au]at h;split at h;case isFalse=>cases h
 rename_i hlen;have hlen':args.length<=fn.ntmps:=by simpa[bt] using hlen
 obtain⟨lv,f1,l,hr,hlv,hl,rfl⟩:=K4 h;obtain⟨k1,w1⟩:=KY hno hcall hit hk hm (Bc hno hcall hit hk hm rounds rounds) rounds cd _ _ _ _ _ hr;refine⟨k1,λc iY iA ρ w args' he hargs=>callsIn_wide (n:=20) |>.1 (callsIn_of_wp_marks hfn hcd trivial (wpIn_wide.2 ?_))⟩;subst iY;have vS:D3 c.K c ρ f0 { tmps:=args'.toArray++Array.replicate (fn.ntmps-args'.toArray.size) undef,defers:=[] }:=by
  refine⟨{ tmps:=args.toArray++Array.replicate (fn.ntmps-args.toArray.size) undef,defers:=[] },?_,?_,λ_ _ h=>h⟩
  .obtain ⟨e1,e2⟩:=Gv args hf0;refine⟨by rw[e1];simp;omega,λi=>?_⟩;rw[e2];by_cases hi:i<args.length
   .rw[ag (by simp;omega)];have:i<(args.toArray++Array.replicate (fn.ntmps-args.toArray.size) undef).size:=by simp;omega
    simp only[kH];rw[fW,ag (by simpa using hi)];simp
   have e3:(args.toArray++Array.replicate (fn.ntmps-args.toArray.size) undef).getD i undef=undef:=by
    simp only[kH];rw[fW,aa (by simpa using hi),Array.getElem?_replicate];split<;>rfl
   rw[aa (by omega),Fr.get_eq,D7,e3];split<;>rfl
  refine⟨LR.of_array ?_,rfl⟩;have:args'.toArray.size=args.toArray.size:=by simp[hargs.1]
  rw[this];simp only[Array.toList_append];exact hargs.append ⟨rfl,λi x y hx hy=>by
   rw[hx]at hy;cases hy;have:x=undef:=by
    have:=bh hx;simp at this;exact this.2
   subst this;exact .undef⟩
 refine w1 c c.K rfl iA ρ _ w vS he _ λK1 ρ' ar' w' m1 m2 m3=>?_
 obtain⟨a,hr',hs',hmk⟩:=m2;have hdr:=hs'.dr;have fin:=Gw (fn:=fn) (c:=c) (K0:=c.K) hr' hs' hl (R:=λe w'=>∃ ρ' v',e = .returned v'/\ρ.le ρ'/\bG ρ' (wg l) v'/\ei c ρ' H' w') (λv' w2 p1 p2=>⟨ρ',v',rfl,m1,p1,p2⟩) a.defers K1 w' hmk m3;rw[<-hdr]at fin;rcases hlv with rfl|rfl
 .exact fin
 exact fin
theorem yN (K:fc)(G rounds:Nat)(id:FuncId)(args:List Value)(H:Mem):nK P G K rounds 0 id args H=none:=rfl
theorem lU (K:fc)(G rounds n:Nat)(id:FuncId)(args:List Value)(H:Mem):nK P G K rounds (n+1) id args H=match K id args with|some v=>if cE args&&aZ v then some (v,H) else none|none=>nD (oF P K id args H) (nD (lO P G (nK P G K rounds n) rounds id args H) (yH P K id args H)):=by
 show Option.rec (motive:=λ_=>Option (Value×Mem)) (nD (oF P K id args H) (nD (lO P G (nK P G K rounds n) rounds id args H) (yH P K id args H))) (λv=>ah (cE args&&aZ v) (some (v,H)) none) (K id args)=_;cases K id args with
 |none=>rfl
 |some v=>exact au _ _ _
theorem N6 {K:fc}{id:FuncId}(h:K id pF=none)(args:List Value)(H:Mem):oF P K id args H=none:=by
 unfold oF;split
 .rw[h]
 rfl
theorem UL {K:fc}(hK:ke P GR K){id:FuncId}{args:List Value}{H H':Mem}{v:Value}(h:oF P K id args H=some (v,H')){c:Cx}(iY:c.P=P){ρ:Ren}{w:World}{args':List Value}(he:ei c ρ H w)(hargs:LR (bG ρ) args args') :
 Calls P id args'.toArray w λe w'=>∃ ρ' v',e = .returned v'/\ρ.le ρ'/\bG ρ' v v'/\ei c ρ' H' w':=by
 subst iY;unfold oF at h;split at h;case h_2=>cases h
 rename_i i n c0;split at h;case h_2=>cases h
 rename_i u b hu hb;rw[au]at h;split at h;case isFalse=>cases h
 rename_i hcond;simp only[ak,aO]at hcond;obtain⟨⟨⟨⟨⟨f1,f2⟩,f3⟩,f4⟩,f5⟩,f6⟩:=hcond;have f2:=ay f2;have f4:=ay f4;obtain⟨t1,t2,t3⟩:=KZ f6;split at h;case h_2=>cases h
 rename_i H1 fe;cases h;obtain⟨v',t',rfl,hv,ht⟩:=hargs.wj;have ht':t'=[]:=ht.Gc;subst ht';obtain⟨k1,k2,k3,k4,k5⟩:=nF fe;obtain⟨hg,hl⟩:=dF hb;cases hv with
 |slice _ _ _ _ r x hr =>
  obtain⟨r',x',C,fr,s,e1,e2,e3,e4,e5,e6,e7,e8⟩:=he.blk i b hg hl;rw[hr]at e1;cases e1;have hL:¬i<c.L:=by have:=he.lk;omega
  have own:=e2.resolve_left λh=>hL h.1
  have unf:=e4.resolve_left hL;have hs:s=1:=by
   have:=e5.1.resolve_left hL;rw[t3]at this;cases this;rfl
  subst hs;have spare:=e8.resolve_left hL;have hC:C.size=c0+x:=by rw[e6,f3,Nat.mul_one]
  have h63:C.size<9223372036854775808:=by
   rcases spare.room with h1|h1|h1
   .omega
   .have:=h1 1 t3;omega
   omega
  have hbytes:∀(j:Nat) v,C[j]? = some v->∃k:Int,v = .int .u8 k:=by
   intro j v hv;by_cases hj:j<b.cells.length
   .have hc:=aP hj;obtain⟨k,hk⟩:=UI (aK.1 f5 _ (je hj));obtain⟨v2,m1,m2⟩:=e7.2 j _ hc (by rw[hk];rfl);rw[hv]at m1;cases m1;rw[hk]at m2;cases m2;exact⟨k,rfl⟩
   rcases spare.zero j v (by omega) hv with⟨z,hz,hm⟩|⟨_,rfl⟩
   .rw[t2]at hz;cases hz;simp[Value.cells]at hm;exact⟨0,hm⟩
   exact⟨0,rfl⟩
  have hcall:=hK.UJ id v hu w r n b.elem fr C e3 unf (by omega) h63 t1 hbytes;rw[hC]at hcall;refine hcall.mono ?_;rintro e w' ⟨rfl,htn⟩;refine⟨ρ,v,rfl,Ren.le_refl _,dA _ f1,(he.kill fe).turned own htn ⟨C,_,fr,e3⟩ λj bj q y hj ua hq e=>?_⟩;subst e;obtain⟨g1,g2⟩:=k3 j bj hj (.inl ua);exact g2 (he.inj j i bj b q y x g1 ua hg hl hq hr)
theorem K5 {K:fc}{id:FuncId}{args:List Value}{H H':Mem}{v:Value}(h:oF P K id args H=some (v,H')):gO H H':=by
 unfold oF at h;split at h;case h_2=>cases h
 split at h;case h_2=>cases h
 rw[au]at h;split at h;case isFalse=>cases h
 split at h;case h_2=>cases h
 rename_i H1 fe;cases h;unfold kill at fe;split at fe
 .exact .set fe
 cases fe
theorem yO {K:fc}{id:FuncId}{args:List Value}{H H1:Mem}{v:Value}(h:yH P K id args H=some (v,H1)):∃(i:Nat) (s:ByteArray) (items:Array Value) (b:jC),args=[.pointer (some ⟨i,0,none⟩)]/\P.funcs[id]? = none/\v = .tuple (iq::items.toList).toArray/\alive H i=some b/\b.cells=[.string s]/\kill H i=some H1/\cE items.toList=true/\K id [iq,.string s]=some (.tuple items):=by
 unfold yH at h;split at h;case h_2=>cases h
 rename_i i;split at h;case h_2=>cases h
 rename_i hnone;split at h;case h_2=>cases h
 rename_i b hb;split at h;case h_2=>cases h
 rename_i s hs;split at h;case h_2=>cases h
 rename_i items hki;rw[au]at h;split at h;case isFalse=>cases h
 rename_i hfree;split at h;case h_2=>cases h
 rename_i H1 fe;cases h;exact⟨i,s,items,b,rfl,hnone,rfl,hb,hs,fe,hfree,hki⟩
theorem K6 {G rounds:Nat}{id:FuncId}{args:List Value}{H H':Mem}{v:Value}(h:lO P G call rounds id args H=some (v,H')):P.funcs[id]? ≠ none:=by
 unfold lO at h;split at h
 .rename_i fn hfn;rw[hfn];simp
 cases h
theorem Be (hno:iX P)(hm:P.follows .mixedOrders=true){K:fc}(hK:ke P GR K)(G rounds:Nat):∀n,pZ P G GR (nK P G K rounds n)/\fu (nK P G K rounds n)/\zR P (nK P G K rounds n)
 |0=>⟨λf args H v H' h=>(by rw[yN]at h;cases h),λf args H v H' h=>(by rw[yN]at h;cases h),λf i H v H' _ h=>(by rw[yN]at h;cases h)⟩
 |n+1=>by
  obtain⟨ih1,ih2,ih3⟩:=Be hno hm hK G rounds n;refine⟨λf args H v H' h YZ c iY iA ρ w args' he hargs=>?_,λf args H v H' h=>?_,λf i H v H' hnone h=>?_⟩
  .rw[lU]at h;split at h
   .rename_i u hu;split at h
    .rename_i hf;cases h;simp only[ak]at hf;rw[hargs.lP hf.1];refine(hK.calls f args _ hu hf.1 w (he.Ir iA)).mono ?_;rintro e w' ⟨rfl,hb⟩;exact⟨ρ,_,rfl,Ren.le_refl _,dA _ hf.2,he.grow hb⟩
    cases h
   unfold nD at h;split at h
   .rename_i q hq;cases h;exact UL hK hq iY he hargs
   split at h
   .rename_i q hq;cases h;exact(kW hno ih1 ih3 ih2 hm rounds hq).2 c iY iA ρ w args' he hargs
   obtain⟨_,_,items,_,_,hnone,rfl,_⟩:=yO h;rcases YZ with YZ|YZ
   .exact absurd hnone YZ
   have:aZ (.tuple (iq::items.toList).toArray)=false:=rfl;rw[this]at YZ;cases YZ
  .rw[lU]at h;split at h
   .split at h
    .cases h;exact .refl _
    cases h
   unfold nD at h;split at h
   .rename_i q hq;cases h;exact K5 hq
   split at h
   .rename_i q hq;cases h;exact(kW hno ih1 ih3 ih2 hm rounds hq).1
   obtain⟨i,_,_,_,_,_,_,_,_,fe,_⟩:=yO h;unfold kill at fe;split at fe
   .exact .set fe
   cases fe
  rw[lU]at h;split at h
  .rename_i u hu;have:cE [.pointer (some ⟨i,0,none⟩)]=false:=rfl;rw[this]at h;simp at h
  unfold nD at h;split at h
  .rename_i q hq;simp[oF]at hq
  split at h
  .rename_i q hq;exact absurd hnone (K6 hq)
  obtain⟨i',s,items,b,e,_,rfl,k1,k2,k3,k4,k5⟩:=yO h;cases e;exact⟨s,items,b,rfl,k1,k2,k3,k4,hK.UK _ _ _ k5 k4⟩
theorem N7 (hno:iX P)(hm:P.follows .mixedOrders=true){K:fc}(hK:ke P GR K)(G rounds n:Nat):pZ P G GR (nK P G K rounds n)/\fu (nK P G K rounds n) :=
 ⟨(Be hno hm hK G rounds n).1,(Be hno hm hK G rounds n).2.1⟩
theorem Qj (hno:iX P)(hm:P.follows .mixedOrders=true){K:fc}(hK:ke P GR K){G rounds n:Nat}{f:FuncId}{args:List Value}{H H':Mem}{v:Value}(h:nK P G K rounds n f args H=some (v,H'))
 (YZ:P.funcs[f]? ≠ none\/aZ v=true) {c:Cx} (iY:c.P=P) (iA:c.At G GR) {ρ:Ren} {w:World} {args':List Value} (he:ei c ρ H w) (hargs:LR (bG ρ) args args') :
 Calls P f args'.toArray w λe w'=>∃ ρ' v',e = .returned v'/\ρ.le ρ'/\bG ρ' v v'/\ei c ρ' H' w' :=
 (N7 hno hm hK G rounds n).1 f args H v H' h YZ c iY iA ρ w args' he hargs
theorem wF:∀(l:List jC) {H H':Mem},H.uR l=some H'->H'.size=H.size+l.length/\H'.lk=H'.size/\∀i,H'.get i=if i<H.size then H.get i else l[i-H.size]?
 |[],H,H',h=>by
  simp only[Mem.uR,aq]at h;subst h;refine⟨rfl,rfl,λi=>?_⟩;show H.get i=_;split
  .rfl
  rename_i hi;cases hg:H.get i with
  |none=>simp
  |some b=>exact absurd (Mem.eL hg) hi
 |b::l,H,H',h=>by
  simp only[Mem.uR]at h;split at h
  .rename_i H1 hp;obtain⟨q1,q2,q3⟩:=Mem.dN hp;obtain⟨r1,r2,r3⟩:=wF l h;refine⟨by rw[r1,q1];simp;omega,r2,λi=>?_⟩;rw[r3,q1,q3];by_cases h1:i<H.size
   .rw[ag (by omega),ag h1,aa (by omega)]
   by_cases h2:i=H.size
   .subst h2;rw[ag (by omega),aa h1,ag rfl];simp
   rw[aa (by omega),aa h1];have:i-H.size=(i-(H.size+1))+1:=by omega
   rw[this];simp
  cases h
theorem ei.rows {rows:List jC}{H:Mem}(hH:Mem.uR Mem.empty rows=some H){w:World}(hw:kV rows w)(hfree:∀b∈rows,cE b.cells=true/\iN b=false) :
 ei ⟨P,w.heap.size,rows.length,rows.length,w,λ_=>none⟩ (λi=>if i<rows.length then some (i,0) else none) H w:=by
 obtain⟨e1,e2,e3⟩:=wF rows hH;have es:H.size=rows.length:=by rw[e1];simp[Mem.empty]
 have eg:∀i,H.get i=rows[i]? := λi=>by rw[e3,aa (by simp[Mem.empty])];simp[Mem.empty]
 refine⟨⟨Below.refl _ _,λr o h=>by cases h⟩,aC _,λi x h=>?_,?_,?_,λg hg=>ag hg,λi b hi hl=>?_,λi j bi bj r x y hi _ hj _ hr hr'=>?_,λi b hi hm=>?_,λi j bi bj r x y hi hm=>?_⟩
 .rw[es];split at h
  .assumption
  cases h
 .rw[e2,es];exact aC _
 .rw[es];exact aC _
 .rw[eg]at hi;have hlt:i<rows.length:=(bw.1 hi).1;obtain⟨fr,h1,h2⟩:=hw.2 i b hi hl;refine⟨i,0,b.cells.toArray,fr,0,ag hlt,.inl ⟨hlt,rfl⟩,h1,.inr h2,⟨.inl hlt,λ_=>rfl⟩,by simp,⟨by simp,λj v hv _=>⟨v,by simpa using hv,?_⟩⟩,.inl hlt⟩;exact dA _ (oO (hfree b (bh hi)).1 hv)
 .split at hr
  .split at hr'
   .cases hr;cases hr';rfl
   cases hr'
  cases hr
 .rw[eg]at hi;rw[(hfree b (bh hi)).2]at hm;cases hm
 rw[eg]at hi;rw[(hfree bi (bh hi)).2]at hm;cases hm
theorem K7 (hno:iX P)(hm:P.follows .mixedOrders=true){K:fc}{rows:List jC}(hK:ke P rows K){rounds depth:Nat}{f:FuncId}{args:List Value}{v:Value}(h:Ib P K rows rounds depth f args=some v)(w:World)(hw:kV rows w) :
 Calls P f args.toArray w λe w'=>e = .returned v/\Below w.heap.size w w':=by
 unfold Ib at h;split at h
 .rename_i H hH;split at h
  .rename_i u H' hc;rw[au]at h;split at h
   .rename_i hf;cases h;simp only[ak,aK,aS]at hf;refine(Qj hno hm hK hc (.inr hf.1.1) (c:=⟨P,w.heap.size,rows.length,rows.length,w,λ_=>none⟩) rfl ⟨rfl,hw,hw.1⟩ (ei.rows hH hw hf.2) (args':=args) ⟨rfl,tK args hf.1.2⟩).mono ?_;rintro e w' ⟨ρ',v',rfl,h1,h2,h3⟩;exact⟨by rw[Ev.lP h2 hf.1.1],h3.below⟩
   cases h
  cases h
 cases h
theorem K8 (h:(P.funcs.toList.all λfn => !(fn.name == "runtime.NumGoroutine"))=true):iX P:=by
 intro id fn hfn hname;have hm:fn∈P.funcs.toList:=by have:=aY hfn;simpa using this
 have:=aK.1 h fn hm;simp[hname]at this
end
end Go.Ev
namespace Go.Ev
open Go.WideShapes
end Go.Ev
namespace Go.Ev
def Qk {H:Type}:DataW H->Value
 |.lit (.int k n)=>.int k n
 |.lit (.string s)=>.string ⟨s.toArray⟩
 |.lit (.bool b)=>.bool b
 |_=>undef
section
variable {P:Program} {w:World}
theorem N8 {H:Type}{enc:TypeId×Value->H}{sp:Nat->Bool}{held:Bool}{base fuel n:Nat}{t e:TypeId}{cs:List Value}{ds:List (DataW H)}{p:List MemPlace}(ht:P.underlying t=some (.array n e))(he:(∃k,P.underlying e=some (.int k))\/P.underlying e=some .string)
 (hc:P.cellsOf e=1) (hct:P.cellsOf t=n) (h:DataW.trod enc P w base sp held fuel t cs=some (.agg ds,p)):cs=ds.map Qk:=by
 obtain⟨xs,m,_,ex,hlen,hxl,hel⟩:=DataW.trod_array ht h;have hds:ds=xs.map (·.1):=DataW.agg.inj (jI ex).1
 subst hds;apply j5;intro i;by_cases hi:i<n
 .have h1:=hel i hi;rw[hc,Nat.mul_one,aP (by omega:i<xs.length)]at h1;have h2:∃v,(cs.drop i).take 1=[v]/\v=Qk (xs[i]'(by omega)).1:=by
   rcases he with⟨k,he⟩|he
   .obtain ⟨z,e1,e2,_⟩:=DataW.trod_int he h1;exact⟨_,e1,by rw[e2];rfl⟩
   obtain⟨s,e1,e2,_⟩:=DataW.trod_string he h1;exact⟨_,e1,by rw[e2];simp[Qk]⟩
  obtain⟨v,e1,e2⟩:=h2;have e3:cs[i]? = some v:=by
   have h0:((cs.drop i).take 1)[0]? = some v:=by rw[e1];rfl
   simpa using h0
  rw[e3,e2,cz,cz,aP (by omega:i<xs.length)];rfl
 rw[dK (by omega),dK (by simp;omega)]
theorem laid_mem:∀{laid:List (String×DataW Unit)} {ps:List MemPlace},DataW.LaidVars P w laid ps->∀{nm:String} {d:DataW Unit},(nm,d)∈laid ->
 ∃g t cs fuel p,P.globalNamed nm=some g/\(P.globals[g]?).map (·.type)=some t/\w.var? P nm=some cs/\DataW.trod (λ_=>()) P w 0 (λ_=>true) false fuel t cs.toList=some (d,p)/\∀x∈MemPlace.row ⟨g,0,none⟩ cs.size,x∈ps
 |[],_,_,_,_,hm=>by cases hm
 |(n,d)::r,ps,h,nm,d',hm=>by
  obtain⟨g,t,cs,fuel,p,q,h1,h2,h3,h4,h5,rfl⟩:=h;rcases bx.1 hm with heq|hm
  .cases heq;exact⟨g,t,cs,fuel,p,h1,h2,h3,h4,λx hx=>by simp[hx]⟩
  obtain⟨g',t',cs',fuel',p',k1,k2,k3,k4,k5⟩:=laid_mem h5 hm;exact⟨g',t',cs',fuel',p',k1,k2,k3,k4,λx hx=>by simp[k5 x hx]⟩
def ajC {H:Type}:DataW H->Option (List Value)
 |.agg ds=>some (ds.map Qk)
 |_=>none
theorem laid_at {laid:List (String×DataW Unit)}(h:laidMet P laid w){nm:String}{d:DataW Unit}{k:Nat}(hm:laid[k]? = some (nm,d)){cv:List Value}(hd:ajC d=some cv){g n:Nat}{t e:TypeId}(hg:P.globalNamed nm=some g)(ht:(P.globals[g]?).map (·.type)=some t)
 (hu:P.underlying t=some (.array n e)) (he:(∃k,P.underlying e=some (.int k))\/P.underlying e=some .string) (hc:P.cellsOf e=1) (hct:P.cellsOf t=n) (hn:cv.isEmpty=false) :
 ∃t',w.heap[g]? = some (.cells cv.toArray t' (0,0)):=by
 obtain⟨ps,h1,_,h2⟩:=h;obtain⟨g',t',cs,fuel,p,k1,k2,k3,k4,k5⟩:=laid_mem h1 (bh hm);rw[hg]at k1;cases k1;rw[ht]at k2;cases k2;cases d with
 |agg ds =>
  simp only[ajC,aq]at hd;have e1:cs.toList=cv:=by rw[<-hd];exact N8 hu he hc hct k4
  have hpos:0<cs.size:=by
   have h4:cs.size=cv.length:=by rw[<-e1];simp
   have h3:cv.length≠0:=by intro h0;rw[aQ.1 h0]at hn;cases hn
   omega
  have hrow:MemPlace.cell g 0∈MemPlace.row ⟨g,0,none⟩ cs.size:=by
   unfold MemPlace.row;simp only[bZ,List.mem_range];exact⟨0,hpos,by simp⟩
  obtain⟨⟨c,u,hh⟩,_⟩:=h2 g 0 (k5 _ hrow);simp only[World.var?,hg,aW,hh,aq]at k3;subst k3;exact⟨u,by rw[hh,<-e1]⟩
 |_=>cases hd
def uZ:jC:=⟨[],0,false,false⟩
theorem UM {cv:List Value}{t':TypeId}{g:Nat}(h:w.heap[g]? = some (.cells cv.toArray t' (0,0))):∃fr,w.heap[g]? = some (.cells (jC.mk cv t' true false).cells.toArray (jC.mk cv t' true false).elem fr)/\qx (jC.mk cv t' true false).cells.toArray fr :=
 ⟨(0,0),h,qm _⟩
theorem aex {o:Obj}{g:Nat}(h:w.heap[g]? = some o):g<w.heap.size:=(aB.1 h).1
end
end Go.Ev

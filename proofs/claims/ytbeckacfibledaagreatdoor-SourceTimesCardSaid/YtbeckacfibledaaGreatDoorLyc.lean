/- Regions whose order is drawn. -/
import Derived.Test.YtbeckacfibledaaGreatDoorLyb
import Derived.RangeFuncLeaves
import Derived.RangeFuncRecord
import Derived.RangeFuncSeq
import Derived.OrdersIn
import Derived.TacticsIn
import Derived.LoopNIn
import Derived.Scope
import Derived.WideShapes
import Derived.ProofKit
import Derived.OpenShut
import Derived.ChangeArms
import Derived.FnData
import GoSem.ClaimJoined
set_option linter.unusedVariables false
set_option linter.unusedSimpArgs false

namespace Go.Ev
open Go.RowKit
section
variable {P:Program} {call:dx} {ops:Array Oper} {GR:List kV}
inductive Reach (ops:Array Oper):Nat->Nat->Prop where
 |one {i:Nat} {o:Oper} {e:Edge} (ho:ops[i]? = some o) (he:e∈o.after) (hb:Region.binds .any e=true):Reach ops i e.on
 |more {i:Nat} {o:Oper} {e:Edge} {j:Nat} (ho:ops[i]? = some o) (he:e∈o.after) (hb:Region.binds .any e=true) (h:Reach ops e.on j):Reach ops i j
def P9 (ops:Array Oper)(listed:iS)(i:Nat):Prop:=∀(j:Nat) (a:Oper),ops[j]? = some a->mD a.op=true->listed.getD j true=true->Reach ops i j
def MG (listed:iS):Nat->Nat
 |0=>0
 |n+1=>MG listed n+if listed.getD n true=true then 0 else 1
theorem MH {listed:iS}{i:Nat}:∀n,MG (listed.setIfInBounds i true) n+(if i<n/\listed.getD i true=false then 1 else 0)=MG listed n
 |0=>by simp[MG]
 |n+1=>by
  have b:=MH (listed:=listed) (i:=i) n;simp only[MG];by_cases a:i=n
  .subst a;rw[aa (by omega)]at b;have e:(listed.setIfInBounds i true).getD i true=true:=by
    by_cases c:i<listed.size<;>simp[Array.getD,c]
   rw[e];cases f:listed.getD i true with
   |true=>simp;omega
   |false=>simp;omega
  rw[getD_set_ne true a];by_cases d:i<n
  .have:i<n+1:=by omega
   simp only[d,this,kO]at b ⊢;omega
  have:¬i<n+1:=by omega
  simp only[d,this,false_and,eY]at b ⊢;omega
def cnt (ops:Array Oper)(listed:iS):Nat:=MG listed ops.size
theorem Sv {listed:iS}{i:Nat}(hi:i<ops.size)(h:listed.getD i true=false):cnt ops (listed.setIfInBounds i true)+1=cnt ops listed:=by
 have:=MH (listed:=listed) (i:=i) ops.size;rw[ag ⟨hi,h⟩]at this;exact this
theorem Sw {listed:iS}:∀n,MG listed n<=n
 |0=>aG _
 |n+1=>by
  have:=Sw (listed:=listed) n;simp only[MG];split<;>omega
theorem Cz {listed:iS}{i:Nat}(hi:i∈Region.ready .any ops listed):i<ops.size/\listed.getD i true=false/\cnt ops (listed.setIfInBounds i true)+1=cnt ops listed:=by
 obtain⟨b,o,c,_⟩:=mem_ready.1 hi;have a:=(aF.1 c).1;exact⟨a,b,Sv a b⟩
def Ext (H a:Mem):Prop:=∀(i:Nat) (b:kV),H.get i=some b->a.get i=some b
def MI:cu->Mem->Mem->Prop
 |none,H,a=>Ext H a
 |some i,H,a=>∀b:kV,H.get i=some b->a.get i=some b
theorem MI.Qa {a:cu}{H b:Mem}(h:Ext H b):MI a H b:=by
 cases a with
 |none=>exact h
 |some i=>exact h i
inductive qn (P:Program)(call:dx)(ops:Array Oper)(Fin:Act->Mem->Prop)(RL:List (Nat×cu)):cu->iS->cY->Act->Mem->Prop where
 |pay {listed:iS} {l1 l2:cY} {i:Nat} {o:Oper} {R:gS} {lk:Bool} {a a':Act} {H H':Mem} (ho:ops[i]? = some o) (hm:makes P o=true) (hst:pQ P call ops R lk o a H=some (a',H')) (hap:∀m∈l1++l2,∀om,ops[m]? = some om->∀x,o.dst=some x->x ∉ om.looksAt ops)
  (h:qn P call ops Fin RL none listed (l1++l2) a' H'):qn P call ops Fin RL none listed (l1++i::l2) a H
 |step {listed:iS} {fU:cY} {a:Act} {H:Mem} (h0:Region.ready .any ops listed=[]->fU=[]/\Fin a H) (h:∀i∈Region.ready .any ops listed,qn P call ops Fin RL (some i) listed fU a H):qn P call ops Fin RL none listed fU a H
 |sync {listed:iS} {fU:cY} {i:Nat} {o:Oper} {R:gS} {lk:Bool} {a a':Act} {H H':Mem} (ho:ops[i]? = some o) (hst:pQ P call ops R lk o a H=some (a',H')) (hR:∀q∈RL,Reach ops i q.1\/MI q.2 H H') (hap:∀m∈fU,∀om,ops[m]? = some om->(∀x,om.dst=some x->x ∉ o.looksAt ops/\o.dst≠some x)/\∀x,o.dst=some x->x ∉ om.looksAt ops)
  (h:qn P call ops Fin RL none (listed.setIfInBounds i true) fU a' H'):qn P call ops Fin RL (some i) listed fU a H
 |owe {listed:iS} {fU:cY} {i:Nat} {o:Oper} {a:Act} {H:Mem} (ho:ops[i]? = some o) (hm:makes P o=true) (xP:(sU P a.eval o).isSome=true) (hd:∀m∈fU,∀om,ops[m]? = some om->om.dst≠o.dst/\∀x,om.dst=some x->x ∉ o.looksAt ops)
  (h:qn P call ops Fin RL none (listed.setIfInBounds i true) (i::fU) a H):qn P call ops Fin RL (some i) listed fU a H
theorem tV {o:Oper}(h:makes P o=true):o.guard=none/\(∃d,o.dst=some d)/\((∃t,o.op = .alloc t)\/∃t len ps,o.op = .buildSlice t len ps):=by
 unfold makes at h;split at h
 .rename_i a b c;exact⟨b,⟨_,c⟩,.inl ⟨_,a⟩⟩
 .rename_i a b c;exact⟨b,⟨_,c⟩,.inr ⟨_,_,_,a⟩⟩
 cases h
theorem z9 {o:Oper}(h:makes P o=true):quiet P o.op=false:=by
 obtain⟨_,_,⟨t,a⟩|⟨t,l,ps,a⟩⟩:=tV h<;>(rw[a];rfl)
theorem acq {H a:Mem}{n:Nat}{b:kV} (h:({ H with lk:=n }:Mem).push b=some a):H.push b=some { a with lk:=H.lk }:=by
 unfold Mem.push at h ⊢;cases c:H.t.set H.size b with
 |none=>simp only[c]at h;cases h
 |some t=>simp only[c]at h;cases h;rfl
theorem acr {o:Oper}(i:makes P o=true){ev:Operand->Value}{H g:Mem}{v:Value}(h:kD P call ev o H=some (v,g)) :
 ∃te cs sh,sU P ev o=some (te,cs,sh)/\H.push ⟨cs,te,true,true⟩=some g/\v=zG sh H.size:=by
 obtain⟨_,_,⟨t,a⟩|⟨t,len,ps,a⟩⟩:=tV i
 .unfold kD at h;rw[a]at h;simp only at h;unfold sY at h;split at h
  .rename_i z b;obtain⟨c,d⟩:=uJ h;exact⟨t,z.cells.toList,none,by unfold sU;rw[a];simp only[b],c,d⟩
  cases h
 unfold kD at h;rw[a]at h;simp only at h;unfold oE at h;split at h
 .rename_i e j;split at h
  .rename_i s z k b;split at h
   .cases h
   rename_i f;split at h
   .rename_i cs l;obtain⟨c,d⟩:=s8 h;exact⟨e,cs.toList,some len,by unfold sU;rw[a];simp only[j,k,b,aa f,l],c,d⟩
   cases h
  cases h
 cases h
theorem CA {o:Oper}{R:gS}{lk:Bool}{a b:Act}{H c:Mem}(g:makes P o=true)(h:pQ P call ops R lk o a H=some (b,c)) :
 ∃te cs sh,sU P a.eval o=some (te,cs,sh)/\H.push ⟨cs,te,true,true⟩=some c/\b=a.put o.dst (zG sh H.size):=by
 obtain⟨i,_,_⟩:=tV g;have j:Region.wanted o (yielded ops a.tmps)=true:=by unfold Region.wanted;rw[i]
 have one:∀{H c:Mem} {b:Act},ku P call ops o a H=some (b,c)->∃te cs sh,sU P a.eval o=some (te,cs,sh)/\H.push ⟨cs,te,true,true⟩=some c/\b=a.put o.dst (zG sh H.size):=by
  intro H c b h;unfold ku at h;rw[ag j]at h;simp only[aO]at h;obtain⟨⟨v,k⟩,d,heq⟩:=h;cases heq;obtain⟨te,cs,sh,e,e2,f⟩:=acr g d;exact⟨te,cs,sh,e,e2,by rw[f]⟩
 rcases s9 h with⟨h,_⟩|⟨_,⟨a1,k⟩,d,heq⟩
 .exact one h
 cases heq;obtain⟨te,cs,sh,e,e2,f⟩:=one d;exact⟨te,cs,sh,e,acq e2,f⟩
theorem MJ {ev ev':Operand->Value}{ps:Array (Nat×Operand)}(h:∀q∈ps,ev q.2=ev' q.2):pK ev ps=pK ev' ps:=by
 unfold pK;apply iW;intro q a;rw[h q (by simpa using a)]
theorem Qb {ev ev':Operand->Value}{o:Oper}(h:∀x∈o.op.operands,ev x=ev' x):sU P ev o=sU P ev' o:=by
 unfold sU;split
 .rfl
 .rename_i t len ps a;rw[MJ λq b=>h q.2 (by rw[a];simp[Op.operands];exact⟨q.1,by simpa using b⟩)]
 rfl
theorem xQ {o:Oper}(a:Act){dst:Option Tmp}(v:Value)(h:∀d,dst=some d->d ∉ o.looksAt ops):sU P (a.put dst v).eval o=sU P a.eval o :=
 Qb λx c=>Act.eval_put λd e b=>h d e (by
  subst b;exact fC _ (nY.2 ⟨.tmp d,by simpa using c,rfl⟩))
theorem WY {ρ:Ren}{o:Oper}{ev ev':Operand->Value}(v:EvR ρ ev ev' o.op){te:TypeId}{cs:aW}{sh:cu}(h:sU P ev o=some (te,cs,sh)) :
 (∃s,dJ P te=some s)/\∃C:dW,LR (bR ρ) cs C.toList/\∀w:World,(execOp ev' o).run P w = .ok (.value (zG sh w.heap.size)) (w.alloc (.cells C te)):=by
 unfold sU at h;split at h
 .rename_i t a;split at h
  .rename_i z b;cases h;obtain⟨_,A,_⟩:=oH b (default:World);refine⟨Ba b,z.cells,(eu (ρ:=ρ) z A).cells.list,λw=>?_⟩;obtain⟨B,_⟩:=oH b w;have:(Instr.alloc te true (.tuple #[])).run P w = .ok (.pointer (some ⟨w.heap.size,0,none⟩)) (w.alloc (.cells z.cells te)):=by simp[Instr.alloc,B,newVar,newRow]
   simp[execOp,a,this,zG]
  cases h
 .rename_i t len ps a;have D:=PR.parts (ev:=ev) (ev':=ev') ps.toList λq E=>v q.2 (by simp[a,Op.operands];exact⟨q.1,by simpa using E⟩)
  split at h
  .rename_i e r;split at h
   .rename_i s z c b;split at h
    .cases h
    rename_i j;split at h
    .rename_i F G;cases h;obtain⟨K,d,k,H,_⟩:=E9 (ρ:=ρ) b (default:World);rw[c]at d;cases d;obtain⟨C,l,m⟩:=xM _ _ _ _ _ D k G;refine⟨⟨s,c⟩,C,m.list,λw=>?_⟩;have u:Instr.fill (λi=>some (i*s,s)) z (ps.toList.map λq=>(q.1,ev' q.2))=some C:=l;have f:(Instr.buildSlice t len (ps.toList.map λq=>(q.1,ev' q.2)).toArray).run P w = .ok (.slice (some ⟨w.heap.size,0,none⟩) len len) (w.alloc (.cells C te)):=by
      rcases xN c b with⟨n,rfl⟩|⟨n,y,hy,rfl⟩
      .have I:Array.range 0 = #[]:=rfl;simp[Instr.buildSlice,run_underlying r,iY c,n,I,u,newRow]
      obtain⟨p,_⟩:=oH hy w;have g:¬(16777216<len*s):=by simpa using j
      simp[Instr.buildSlice,run_underlying r,iY c,n,g,p,u,newRow]
     have J:(ps.map λq=>(q.1,ev' q.2))=(ps.toList.map λq=>(q.1,ev' q.2)).toArray:=by apply kN;simp
     simp only[execOp,a];simp only[Sem.run_bind];have:(Instr.buildSlice t len (ps.map λ(i,x)=>(i,ev' x))).run P w = .ok (.slice (some ⟨w.heap.size,0,none⟩) len len) (w.alloc (.cells C te)):=by
      rw[<-f,<-J]
     rw[this];rfl
    cases h
   cases h
  cases h
 cases h
theorem WZ {ρ:Ren}{i a:Nat}(sh:cu)(h:ρ i=some (a,0)):bR ρ (zG sh i) (zG sh a):=by
 cases sh with
 |none=>exact .ptr _ _ _ _ h
 |some len=>exact .slice _ _ _ _ _ _ h
def iu:List (Option Tmp×Value)->Act->Act
 |[],a=>a
 |q::l,a=>iu l (a.put q.1 q.2)
theorem Fi {d:Option Tmp}{v:Value}:∀(l:List (Option Tmp×Value)) (a:Act),(∀q∈l,∀x,q.1=some x->d≠some x)->iu l (a.put d v)=(iu l a).put d v
 |[],a,_=>rfl
 |q::l,a,h=>by
  simp only[iu];rw[<-Fi l (a.put q.1 q.2) λx b=>h x (by simp[b])];rw[Act.put_comm a q.2 v (h q (by simp))]
theorem Qc {d:Option Tmp}{v:Value}(b c:List (Option Tmp×Value))(a:Act)(h:∀q∈b,∀x,q.1=some x->d≠some x):iu (b++(d,v)::c) a=iu (b++c) (a.put d v):=by
 induction b generalizing a with
 |nil=>rfl
 |cons q b e =>
  simp only[cB,iu];rw[e (a.put q.1 q.2) λx f=>h x (by simp[f])];rw[Act.put_comm a q.2 v (h q (by simp))]
def En (Q:Exit->Act->World->Prop):Exit->Act->World->Prop:=λe a w=>match e with
 |.outgrown=>Q .outgrown a w
 |_=>False
theorem Bl {Q:Exit->Act->World->Prop}(h:LetsOut (En Q)):LetsOut Q:=by
 obtain⟨a,w,h⟩:=h;exact⟨a,w,h⟩
theorem Io {j:Nat}{g:Oper}{d:Option Tmp}{v:Value}(t:ops[j]? = some g)(p:∀x,d=some x->x ∉ g.looksAt ops)(k:∀x,d=some x->g.dst≠some x)(l:∀cs b,g.op ≠ .select cs b)
 {Q:Exit->Act->World->Prop} {K:Act->World->Prop} {a:Act} {w:World} (h:wpOp P ops (En Q) j (λy w'=>K (y.put d v) w') a w):wpOp P ops Q j K (a.put d v) w:=by
 unfold wpOp at *;simp only[t]at *;rw[wanted_put g a d v p];split
 .rename_i q;rw[ag q]at h;rcases h with h|⟨i,s⟩;case inr=>exact .inr ⟨by unfold Oper.asks at *;rw[execOp_put g l a d v p];exact i,Bl s⟩
  refine .inl ?_;unfold Oper.wp at *;rw[execOp_put g l a d v p];generalize (execOp a.eval g).run P w=r at *;cases r with
  |ok n w' =>
   cases n<;>simp only[Oper.upon]at h ⊢;case value u=>rw[Act.put_comm a v u k];exact h
   case skip=>rw[Act.put_comm a v undef k];exact h
   case defer df =>
    rw[Act.put_defers,Act.put_comm _ v undef k];exact h
   case enter f args =>
    refine Calls.mono h λe m o=>?_
    cases e with
    |returned u=>show K ((a.put d v).put g.dst u) m;rw[Act.put_comm a v u k];exact o
    |panicked c=>exact o.elim
    |outgrown=>exact Bl o
   case row row args=>exact Rows.mono h λu m o=>by rw[Act.put_comm a v u k];exact o
  |halt x w' =>
   cases x<;>simp only[Oper.upon]at h ⊢;case panic u=>exact h.elim
 rename_i q;rw[aa q]at h;rw[Act.put_comm a v undef k];exact h
theorem Ip {j:Nat}{e:Oper}(f:ops[j]? = some e)(c:∀cs b,e.op ≠ .select cs b){Q:Exit->Act->World->Prop}{K:Act->World->Prop}{w:World}:∀(l:List (Option Tmp×Value)) (a:Act),
 (∀q∈l,(∀x,q.1=some x->x ∉ e.looksAt ops)/\∀x,q.1=some x->e.dst≠some x)->wpOp P ops (En Q) j (λg w'=>K (iu l g) w') a w->wpOp P ops Q j K (iu l a) w
 |[],a,_,h=>by
  have:=Io (d:=none) (v:=undef) (K:=K) f (λx h=>by cases h) (λx h=>by cases h) c (a:=a) (w:=w) h;exact this
 |q::l,a,i,h=>by
  refine Ip f c l (a.put q.1 q.2) (λx k=>i x (by simp[k])) ?_;exact Io (Q:=En Q) (K:=λg w'=>K (iu l g) w') f (i q (by simp)).1 (i q (by simp)).2 c h
abbrev Cx.kp (c:Cx)(K:Nat->Option Obj):Cx:={ c with K:=K }
theorem fc.yX {c:Cx}{ρ:Ren}{H:Mem}{w:World}{K d:Nat->Option Obj}(a:fc (c.kp K) ρ H w)(h:∀r o,d r=some o->K r=some o):fc (c.kp d) ρ H w:=by
 have no:∀{r},K r=none->d r=none:=λ{r} e=>by
  cases l:d r with
  |none=>rfl
  |some o=>rw[h r o l]at e;cases e
 refine⟨⟨a.stay.below,λr o e=>a.stay.kept r o (h r o e)⟩,a.base,a.dom,a.lk,a.A0,a.kE,λi b hi m=>?_,a.inj,λi b hi n=>?_,a.xm⟩
 .obtain ⟨r,x,C,fr,s,j,f,k⟩:=a.blk i b hi m;exact⟨r,x,C,fr,s,j,f.imp (λg=>⟨g.1,no g.2⟩) (λg=>⟨g.1,no g.2⟩),k⟩
 obtain⟨r,es,clock,j,f,k⟩:=a.maps i b hi n;exact⟨r,es,clock,j,⟨f.1,no f.2⟩,k⟩
theorem fc.Qd {c:Cx}{ρ:Ren}{H:Mem}{w:World}{K:Nat->Option Obj}(a:fc (c.kp K) ρ H w)(o:Obj):fc (c.kp λr=>if r=w.heap.size then some o else K r) ρ H (w.alloc o):=by
 have lt:∀{r:Nat} {o:Obj},w.heap[r]? = some o->r<w.heap.size:=λh=>(aF.1 h).1
 have g:=a.stay.alloc a.base o;refine⟨⟨g.below,λr m f=>?_⟩,bA a.base (by simp),a.dom,a.lk,a.A0,a.kE,λi b hi n=>?_,a.inj,λi b hi p=>?_,a.xm⟩
 .simp only at f;split at f
  .rename_i h;subst h;cases f;show (w.heap.push _)[w.heap.size]? = _;simp
  exact g.kept r m f
 .obtain ⟨r,x,C,fr,s,k,j,e,l⟩:=a.blk i b hi n;have d:r≠w.heap.size:=nF (lt e);exact⟨r,x,C,fr,s,k,j.imp (λg=>⟨g.1,by show (if r=_ then _ else _)=_;rw[aa d];exact g.2⟩) (λg=>⟨g.1,by show (if r=_ then _ else _)=_;rw[aa d];exact g.2⟩),by rw[Below.heap_alloc _ _ _ (lt e)];exact e,l⟩
 obtain⟨r,es,clock,k,j,e,l⟩:=a.maps i b hi p;have d:r≠w.heap.size:=nF (lt e);exact⟨r,es,clock,k,⟨j.1,by show (if r=_ then _ else _)=_;rw[aa d];exact j.2⟩,by rw[Below.heap_alloc _ _ _ (lt e)];exact e,l⟩
theorem fc.ahy {c:Cx}{ρ:Ren}{H l:Mem}{w:World}{K:Nat->Option Obj}(h:fc (c.kp K) ρ H w){t:TypeId}{cs:aW}{C:dW}{d s:Nat}(n:dJ c.P t=some s)(j:LR (bR ρ) cs C.toList)(k:K d=some (.cells C t))(p:c.B<=d)(q:H.push ⟨cs,t,true,true⟩=some l) :
 fc (c.kp λr=>if r=d then none else K r) (ρ.put H.size (d,0)) l w:=by
 have a:fc (c.kp λr=>if r=d then none else K r) ρ H w:=h.yX λr o f=>by
  split at f
  .cases f
  exact f
 refine a.add q a.stay a.base a.blk a.maps (λi b r' y hi u f e=>?_) (h.stay.kept d _ k) ⟨p,ag rfl⟩ (rZ _) n (by have:=j.1;simp at this;omega) ?_ (λ_=>rfl) (E6.full (by have:=j.1;simp at this;omega))
 .subst e;obtain⟨r,x,C,fr,s,m,g,v⟩:=h.blk i b hi u;rw[f]at m;cases m;rcases g with g|g
  .have:=g.2;simp only at this;rw[k]at this;cases this
  have:=g.2;simp only at this;rw[k]at this;cases this
 have:=j.begins;simpa using this
structure W0 (P:Program)(ops:Array Oper)(c:Cx)(K:Nat->Option Obj)(a:Act)(ρ:Ren)(ps:List (Nat×Nat×cu)):Prop where
 each:∀q∈ps,c.B<=q.2.1/\c.K q.2.1=none/\∃o te cs C s d,ops[q.1]? = some o/\o.dst=some d/\sU P a.eval o=some (te,cs,q.2.2)/\dJ P te=some s/\LR (bR ρ) cs C.toList/\K q.2.1=some (.cells C te)
 rest:∀r,(∀q∈ps,q.2.1≠r)->K r=c.K r
 nodup:(ps.map (·.2.1)).Nodup
 ahz:ps.Pairwise λq q'=>∀o o',ops[q.1]? = some o->ops[q'.1]? = some o'->o.dst≠o'.dst
theorem W0.next {c:Cx}{K:Nat->Option Obj}{a:Act}{ρ ρ':Ren}{ps:List (Nat×Nat×cu)}(h:W0 P ops c K a ρ ps)(b:ρ.le ρ'){dst:Option Tmp}(v:Value)(g:∀q∈ps,∀o,ops[q.1]? = some o->∀x,dst=some x->x ∉ o.looksAt ops):W0 P ops c K (a.put dst v) ρ' ps :=
 ⟨λq e=>by
  obtain⟨g1,i,o,te,cs,C,s,d,f,j,k,l,m,n⟩:=h.each q e;exact⟨g1,i,o,te,cs,C,s,d,f,j,by rw[xQ a v (g q e o f)];exact k,l,m.mono λ_ _=>bR.mono b,n⟩,h.rest,h.nodup,h.ahz⟩
def oJ (ops:Array Oper)(ps:List (Nat×Nat×cu)):List (Option Tmp×Value):=ps.map λq=>((ops[q.1]?).bind (·.dst),zG q.2.2 q.2.1)
theorem sw {o oi:Oper}(a:Act)(v:Value)(h:∀d,oi.dst=some d->d ∉ o.looksAt ops):∀x∈o.op.operands,(a.put oi.dst v).eval x=a.eval x:=λx c=>Act.eval_put λd e b=>h d e (by
 subst b;exact fC _ (nY.2 ⟨.tmp d,by simpa using c,rfl⟩))
theorem MK {o:Oper}{ev ev':Operand->Value}(d:∀x∈o.op.operands,ev x=ev' x)(a:∀cs b,o.op ≠ .select cs b):iX P ev o=iX P ev' o:=by
 have f:execOp ev o=execOp ev' o:=execOp_congr o a d;have g:dU ev o.op=dU ev' o.op:=by
  unfold dU;rw[bX,aN,aN];constructor
  .intro e x c;rw[<-d x (by simpa using c)];exact e x c
  intro e x c;rw[d x (by simpa using c)];exact e x c
 unfold iX;rw[f,g]
theorem Bm {ev ev':Operand->Value}{ps:Array (Nat×Operand)}(h:∀q∈ps,ev q.2=ev' q.2):pK ev ps=pK ev' ps:=by
 unfold pK;apply iW;intro q a;rw[h q (by simpa using a)]
theorem Iq {o:Oper}{ev ev':Operand->Value}(H:Mem)(e:∀x∈o.op.operands,ev x=ev' x)(v:∀cs b,o.op ≠ .select cs b):kD P call ev o H=kD P call ev' o H:=by
 have j:=MK (P:=P) e v;unfold kD;split;case h_1 a=>rw[e _ (by simp[a,Op.operands])]
 case h_2 a=>rw[e _ (by simp[a,Op.operands])]
 case h_3 c x y a=>rw[e c (by simp[a,Op.operands]),e x (by simp[a,Op.operands]),e y (by simp[a,Op.operands])]
 case h_4 op t x y E a=>unfold xB;rw[j,e x (by simp[a,Op.operands]),e y (by simp[a,Op.operands])]
 case h_5 a=>rfl
 case h_6 t x a=>rw[e x (by simp[a,Op.operands])]
 case h_7 t ps a=>rw[Bm λq w=>e q.2 (by simp[a,Op.operands];exact⟨q.1,by simpa using w⟩)]
 case h_8 t len ps a=>rw[Bm λq w=>e q.2 (by simp[a,Op.operands];exact⟨q.1,by simpa using w⟩)]
 case h_9 t x a=>rw[e x (by simp[a,Op.operands])]
 case h_10 t x y a=>rw[e x (by simp[a,Op.operands]),e y (by simp[a,Op.operands])]
 case h_11 x a=>rw[e x (by simp[a,Op.operands])]
 case h_12 s x f a=>rw[e x (by simp[a,Op.operands])]
 case h_13 t x ix a=>rw[e x (by simp[a,Op.operands]),e ix (by simp[a,Op.operands])]
 case h_14 x k a=>rw[e x (by simp[a,Op.operands])]
 case h_15 t l c a=>rw[e l (by simp[a,Op.operands]),e c (by simp[a,Op.operands])]
 case h_16 fn first captured a =>
  rw[Array.map_congr_left (xs:=first) λx h=>e x (by simp[a,Op.operands,h]),Array.map_congr_left (xs:=captured) λx h=>e x (by simp[a,Op.operands,h])]
 case h_17 t x lo hi a =>
  have z:lo.map ev=lo.map ev':=by cases lo with|none=>rfl|some y=>simp only[bP];rw[e y (by simp[a,Op.operands])]
  have e2:hi.map ev=hi.map ev':=by cases hi with|none=>rfl|some y=>simp only[bP];rw[e y (by simp[a,Op.operands])]
  unfold qU;rw[j,z,e2,e x (by simp[a,Op.operands])]
 case h_18 t x f a=>rw[e x (by simp[a,Op.operands])]
 case h_19 t x ix a=>unfold JW;rw[j,e x (by simp[a,Op.operands]),e ix (by simp[a,Op.operands])]
 case h_20 s d x a=>unfold mC;rw[j,e x (by simp[a,Op.operands])]
 case h_21 C a =>
  have i:∀x∈C.args,ev x=ev' x:=λx h=>e x (by simp[a,Op.operands,Call.operands,h])
  unfold fu;split
  .rename_i f D;unfold EV;rw[j,e f (by simp[a,D,Op.operands,Call.operands]),iW (l:=C.args.toList) (f:=ev) (g:=ev') λx h=>i x (by simpa using h)]
  .unfold tE;split
   .unfold A6;split
    .rename_i x t h _;rw[i x (bq h),j]
    rfl
   .unfold tQ;split
    .rename_i s x st F A u _ _;rw[i s (bq A),i x (bq u)]
    rfl
   .unfold Cn;split
    .rename_i d x dt B u _;rw[i d (bq B),i x (bq u)]
    rfl
   .unfold vq;split
    .rename_i x t h _;rw[i x (bq h)]
    rfl
   .unfold qx;split
    .rename_i x h;rw[i x (gk.1 (by rw[h];simp))]
    rfl
   .unfold Co;split
    .rename_i p n G _ h _;rw[i p (gk.1 (by rw[h];simp)),i n (gk.1 (by rw[h];simp))]
    rfl
   rw[j]
  rfl
 case h_22 t r a =>
  have z:r.map ev=r.map ev':=by cases r with|none=>rfl|some y=>simp only[bP];rw[e y (by simp[a,Op.operands])]
  rw[z]
 case h_23 t x k ok a=>rw[e x (by simp[a,Op.operands]),e k (by simp[a,Op.operands])]
 case h_24 t m k x a=>rw[e m (by simp[a,Op.operands]),e k (by simp[a,Op.operands]),e x (by simp[a,Op.operands])]
 case h_25 t m k x a=>rw[e m (by simp[a,Op.operands]),e k (by simp[a,Op.operands]),e x (by simp[a,Op.operands])]
 case h_26=>rw[j]
theorem Ir {o oi:Oper}(a:Act)(v:Value)(H:Mem)(e:∀d,oi.dst=some d->d ∉ o.looksAt ops)(f:∀d,oi.dst=some d->o.dst≠some d)(c:∀cs b,o.op ≠ .select cs b) :
 ku P call ops o (a.put oi.dst v) H=(ku P call ops o a H).map λr=>(r.1.put oi.dst v,r.2):=by
 unfold ku;rw[wanted_put o a oi.dst v e,Iq (P:=P) (call:=call) H (sw a v e) c];split
 .cases kD P call a.eval o H with
  |none=>rfl
  |some r=>simp[Act.put_comm a v r.1 f]
 simp[Act.put_comm a v undef f]
theorem Dv {op:Op}{s:Operand}(h:mb op=some s):s∈op.operands:=by
 unfold mb at h;split at h
 .rename_i args a;have:=bq h;simp only[Op.operands,Call.operands];simpa using this
 cases h
theorem HT {op:Op}{s:Operand}(h:nV op=some s):s∈op.operands:=by
 unfold nV at h;split at h
 .cases h;simp[Op.operands]
 cases h
theorem Fj {o oi:Oper}{R:gS}{lk:Bool}(a:Act)(v:Value)(H:Mem)(e:∀d,oi.dst=some d->d ∉ o.looksAt ops)(g:∀d,oi.dst=some d->o.dst≠some d)(c:∀cs b,o.op ≠ .select cs b) :
 pQ P call ops R lk o (a.put oi.dst v) H=(pQ P call ops R lk o a H).map λr=>(r.1.put oi.dst v,r.2):=by
 unfold pQ;rw[Ir a v _ e g c,Ir a v _ e g c];split
 .cases h:mb o.op with
  |some s =>
   simp only;rw[sw a v e s (Dv h)];split
   .rfl
   rfl
  |none =>
   simp only;have f:jt R (a.put oi.dst v).eval o=jt R a.eval o:=by
    unfold jt;split
    .rename_i s i;rw[sw a v e s (HT i)]
    rfl
   rw[f];split
   .rfl
   cases ku P call ops o a { H with lk:=H.size } with
   |none=>rfl
   |some r=>rfl
 rfl
theorem xR {o:Oper}{a b:Act}{H c:Mem}(h:ku P call ops o a H=some (b,c)):∃u,b=a.put o.dst u:=by
 unfold ku at h;split at h
 .simp only[aO]at h;obtain⟨r,_,heq⟩:=h;cases heq;exact⟨_,rfl⟩
 cases h;exact⟨_,rfl⟩
theorem nj {o:Oper}{R:gS}{lk:Bool}{a b:Act}{H c:Mem}(h:pQ P call ops R lk o a H=some (b,c)):∃u,b=a.put o.dst u:=by
 rcases s9 h with⟨h,_⟩|⟨_,u,d,heq⟩
 .exact xR h
 cases heq;exact xR d
theorem acs (hno:j6 P){G:Nat}(hok:WA G ops.toList=true)(Y:rJ P G GR call)(hk:gp call)(hsel:∀(j:Nat) (o:Oper) cs b,ops[j]? = some o->o.op ≠ .select cs b){c:Cx}(j7:c.P=P)(jr:c.At G GR){Fin:Act->Mem->Prop}{Q:Exit->Act->World->Prop}
 {RL:List (Nat×cu)} {x:cu} {listed:iS} {fU:cY} {a:Act} {H:Mem} (h:qn P call ops Fin RL x listed fU a H) :
 ∀(K:Nat->Option Obj) (ps:List (Nat×Nat×cu)) (ρ:Ren) (w:World) (ar:Act),ps.map (·.1)=fU->W0 P ops c K a ρ ps->Cj ρ a ar->fc (c.kp K) ρ H w->(∀a' H' ρ' I w',Fin a' H'->ρ.le ρ'->Cj ρ' a' I->fc c ρ' H' w'->Q .normal I w') ->
  match x with
  |none=>∀n,cnt ops listed<=n->wpAny P .any ops Q n listed (iu (oJ ops ps) ar) w
  |some i=>∀n,cnt ops (listed.setIfInBounds i true)<=n->wpOp P ops Q i (wpAny P .any ops Q n (listed.setIfInBounds i true)) (iu (oJ ops ps) ar) w:=by
 have amZ:∀{i:Nat} {o:Oper},ops[i]? = some o->o.op.operands.toList.all (eU G)=true:=λ{i o} D=>aN.1 hok o (by have:=bq D;simpa using this)
 induction h with
 |@pay listed l1 l2 i o R lk a a' H H' D hm N O h S =>
  intro K ps ρ w ar k p T J V n hn;obtain⟨t,ps2',rfl,hp1,W5⟩:=List.map_eq_append_iff.1 k;obtain⟨q,v,rfl,f,W5⟩:=List.map_eq_cons_iff.1 W5;obtain⟨hB,hc0,o',te,cs,C,s,d,ho',HU,xP,Z,hC,hK⟩:=p.each q (by simp);rw[f,D]at ho';cases ho';obtain⟨te',cs',sh',E,hp,rfl⟩:=CA hm N;rw[xP]at E;cases E;have hnd:q.2.1 ∉ (t++v).map (·.2.1)/\((t++v).map (·.2.1)).Nodup:=by
   have m:=p.nodup;rw[fj,dH]at m;have:=(List.perm_middle (a:=q.2.1) (l₁:=t.map (·.2.1)) (l₂:=v.map (·.2.1))).nodup_iff.1 m
   rw[fj];exact mW.1 this
  have sub:∀{y:Nat×Nat×cu},y∈t++v->y∈t++q::v:=λA=>by
   rcases cg.1 A with m|m
   .exact fC _ m
   exact jC _ (bI _ m)
  have U:=List.pairwise_append.1 p.ahz;have hle:=J.xL (aG H.size) (q.2.1,0);have hmid:iu (oJ ops (t++q::v)) ar=iu (oJ ops (t++v)) (ar.put o.dst (zG q.2.2 q.2.1)):=by
   unfold oJ;rw[fj,dH,fj];have e:(ops[q.1]?).bind (·.dst)=o.dst:=by rw[f,D];rfl
   rw[e];refine Qc _ _ _ λy hy x A hd=>?_
   obtain⟨q',hq',rfl⟩:=cG.1 hy;obtain⟨_,_,F,B,HK,W,X,d2,L,_⟩:=p.each q' (by simp[hq']);simp only[L,bh]at A;exact U.2.2 q' hq' q (by simp) F o L (by rw[f];exact D) (by rw[A,hd])
  rw[hmid];subst j7;have hO1:W0 c.P ops c (λr=>if r=q.2.1 then none else K r) a ρ (t++v):=by
   refine⟨λy hy=>?_,λr hr=>?_,hnd.2,?_⟩
   .obtain ⟨g1,g2,F,B,HK,W,X,d2,g3,g4,g5,g6,g7,g8⟩:=p.each y (sub hy);refine⟨g1,g2,F,B,HK,W,X,d2,g3,g4,g5,g6,g7,?_⟩;have M:y.2.1≠q.2.1:=λe=>hnd.1 (by rw[<-e];exact cG.2 ⟨y,hy,rfl⟩)
    rw[aa M];exact g8
   .by_cases e:r=q.2.1
    .rw[ag e,e,hc0]
    rw[aa e];refine p.rest r λy hy=>?_
    rcases cg.1 hy with m|m
    .exact hr y (fC _ m)
    rcases bD.1 m with rfl|m
    .exact kZ e
    exact hr y (jC _ m)
   exact List.pairwise_append.2 ⟨U.1,(List.pairwise_cons.1 U.2.1).2,λy hy y' hy'=>U.2.2 y hy y' (by simp[hy'])⟩
  refine S _ (t++v) (ρ.put H.size (q.2.1,0)) w _ (by rw[fj,hp1,W5]) (hO1.next hle _ λy hy om Qe=>O y.1 (by rw[<-hp1,<-W5,<-fj];exact cG.2 ⟨y,hy,rfl⟩) om Qe) ((T.mono hle).put o.dst (WZ _ (Ren.nK _ _ _))) (J.ahy Z hC hK hB hp) (λa' H' ρ' I w' k0 k1=>V a' H' ρ' I w' k0 (Ren.le_trans hle k1)) n hn
 |@step listed fU a H h0 h S =>
  intro K ps ρ w ar k p T J V n hn;have fin:Region.ready .any ops listed=[]->Q .normal (iu (oJ ops ps) ar) w:=λhr=>by
   obtain⟨m,h2⟩:=h0 hr;subst m;have:ps=[]:=List.map_eq_nil_iff.1 k;subst this;have hKK:K=c.K:=funext λr=>p.rest r λq f=>by cases f
   subst hKK;exact V _ _ ρ ar w h2 (Ren.le_refl _) T J
  cases n with
  |zero =>
   have Bn:Region.ready .any ops listed=[]:=iR.2 λi hi=>by
    have:=(Cz hi).2.2;omega
   exact⟨Bn,fin Bn⟩
  |succ n=>exact⟨fin,λi hi=>S i hi K ps ρ w ar k p T J V n (by have:=(Cz hi).2.2;omega)⟩
 |@sync listed fU i o R lk a a' H H' D N hR O h S =>
  intro K ps ρ w ar k p T J V n hn;refine Ip D (λcs b=>hsel i o cs b D) _ _ (λq f=>?_) ?_
  .obtain ⟨y,hy,rfl⟩:=cG.1 f;obtain⟨_,_,F,B,HK,W,X,d2,L,_⟩:=p.each y hy;have m:=(O y.1 (by rw[<-k];exact cG.2 ⟨y,hy,rfl⟩) F L).1;simp only[L,bh];exact⟨λx A=>(m x A).1,λx A=>(m x A).2⟩
  obtain⟨u,rfl⟩:=nj N;unfold wpOp;simp only[D];exact Uz hno Y hk (amZ D) N (c:=c.kp K) j7 ⟨jr.g,jr.rows,jr.len⟩ T J fun ρ' I w' m h2 h3=>S K ps ρ' w' I k (p.next m u λy hy om Qe=>(O y.1 (by rw[<-k];exact cG.2 ⟨y,hy,rfl⟩) om Qe).2) h2 h3 (λa'' H'' ρ'' ar'' w'' k0 k1=>V a'' H'' ρ'' ar'' w'' k0 (Ren.le_trans m k1)) n hn
 |@owe listed fU i o a H D hm xP hd h S =>
  intro K ps ρ w ar k p T J V n hn;obtain⟨hg,⟨d,HU⟩,_⟩:=tV hm;obtain⟨⟨te,cs,sh⟩,hmd⟩:=cw.1 xP;have hw:∀ar:Act,Region.wanted o (yielded ops ar.tmps)=true:=λar=>by unfold Region.wanted;rw[hg]
  subst j7;have hG0:=jr.g;subst hG0;have arV:EvR ρ a.eval ar.eval o.op:=λx A=>T.eval J.kE (aN.1 (amZ D) x (by simpa using A))
  have hsame:∀(l:List (Option Tmp×Value)) (ar:Act),(∀q∈l,∀x,q.1=some x->x ∉ o.looksAt ops)->∀x∈o.op.operands,(iu l ar).eval x=ar.eval x:=by
   intro l;induction l with
   |nil=>intro ar _ x _;rfl
   |cons q l S =>
    intro ar f x A;show (iu l (ar.put q.1 q.2)).eval x=_;rw[S _ (λy hy=>f y (by simp[hy])) x A];exact sw (ops:=ops) (oi:={ o with dst:=q.1 }) ar q.2 (λd' hd'=>f q (by simp) d' hd') x A
  have cI:EvR ρ a.eval (iu (oJ ops ps) ar).eval o.op:=λx A=>by
   rw[hsame (oJ ops ps) ar (λq f y hy=>?_) x A]
   .exact arV x A
   obtain⟨z,hz,rfl⟩:=cG.1 f;obtain⟨_,_,F,B,HK,W,X,d2,L,_⟩:=p.each z hz;simp only[L,bh]at hy;exact(hd z.1 (by rw[<-k];exact cG.2 ⟨z,hz,rfl⟩) F L).2 y hy
  obtain⟨⟨s,Z⟩,C,hC,hrun⟩:=WY cI hmd;unfold wpOp;simp only[D];rw[ag (hw _)];refine .inl ?_;unfold Oper.wp;rw[hrun];simp only[Oper.upon];have fresh:=J.stay.fresh J.base;have M:∀q∈ps,q.2.1≠w.heap.size:=λq f e=>by
   obtain⟨_,_,F,B,HK,W,X,d2,_,_,_,_,_,hK2⟩:=p.each q f;have:=fresh.2;simp only at this;rw[<-e,hK2]at this;cases this
  have hput:(iu (oJ ops ps) ar).put o.dst (zG sh w.heap.size)=iu (oJ ops ((i,w.heap.size,sh)::ps)) ar:=by
   have e:(ops[i]?).bind (·.dst)=o.dst:=by rw[D];rfl
   unfold oJ;rw[dH];simp only[iu];rw[e];refine(Fi _ _ λy hy x A hxd=>?_).symm;obtain⟨q,f,rfl⟩:=cG.1 hy;obtain⟨_,_,F,B,HK,W,X,d2,L,_⟩:=p.each q f;simp only[L,bh]at A;exact(hd q.1 (by rw[<-k];exact cG.2 ⟨q,f,rfl⟩) F L).1 (by rw[A,hxd])
  rw[hput];refine S _ ((i,w.heap.size,sh)::ps) ρ _ ar (by simp[k]) ⟨λq f=>?_,λr hr=>?_,?_,?_⟩ T (J.Qd (.cells C te)) V n hn
  .rcases bD.1 f with rfl|f
   .refine ⟨fresh.1,?_,o,te,cs,C,s,d,D,HU,hmd,Z,hC,ag rfl⟩;rw[<-p.rest w.heap.size M];exact fresh.2
   obtain⟨g1,g2,F,B,HK,W,X,d2,g3,g4,g5,g6,g7,g8⟩:=p.each q f;exact⟨g1,g2,F,B,HK,W,X,d2,g3,g4,g5,g6,g7,by rw[aa (M q f)];exact g8⟩
  .have:=hr (i,w.heap.size,sh) (by simp);simp only at this;rw[aa (kZ this)];exact p.rest r λq f=>hr q (by simp[f])
  .rw[dH];refine mW.2 ⟨λhm'=>?_,p.nodup⟩;obtain⟨q,f,e⟩:=cG.1 hm';exact M q f e
  refine List.pairwise_cons.2 ⟨λq f o1 F m h2 e=>?_,p.ahz⟩;rw[D]at m;cases m;exact(hd q.1 (by rw[<-k];exact cG.2 ⟨q,f,rfl⟩) F h2).1 e.symm
theorem jb {H a:Mem}{x:fS}{v:Value}(h:dh H x=some (v,a)):a=H/\∀b,dh b x=some (v,b):=by
 obtain⟨rfl,rfl⟩:=bY h;exact⟨rfl,λ_=>rfl⟩
theorem Qf {ev:Operand->Value}{o:Oper}{args:Array Operand}{a:Array TypeId}{H b:Mem}{v:Value}(h:A6 P ev o args a H=some (v,b)):b=H/\∀c,A6 P ev o args a c=some (v,c):=by
 unfold A6 at h ⊢;generalize args[0]? = x at h ⊢;generalize a[0]? = y at h ⊢;cases x<;>cases y<;>first|(cases h;done)|exact jb h
theorem ML {ev:Operand->Value}{o:Oper}{H z:Mem}{v:Value}(c:quiet P o.op=true)(h:kD P call ev o H=some (v,z)) :
 z=H/\(mD o.op=false->∀e,kD P call ev o e=some (v,e))/\(∀e,Ext H e->kD P call ev o e=some (v,e)):=by
 have all:∀{f:Mem->gQ},(z=H/\∀e,f e=some (v,e))->z=H/\(mD o.op=false->∀e,f e=some (v,e))/\(∀e,Ext H e->f e=some (v,e)):=λD=>⟨D.1,λ_=>D.2,λe _=>D.2 e⟩
 unfold kD at h ⊢;split at h;case h_1 a=>cases h;simp only[a]at all ⊢;refine⟨?_,?_,?_⟩<;>intros<;>trivial
 case h_2 a=>cases h;simp only[a]at all ⊢;refine⟨?_,?_,?_⟩<;>intros<;>trivial
 case h_3 a =>
  simp only[a]at all ⊢;unfold EU at h ⊢;split at h
  .rename_i t R;cases h;simp only;refine⟨?_,?_,?_⟩<;>intros<;>trivial
  cases h
 case h_4 a=>simp only[a]at all ⊢;exact all (jb h)
 case h_5 a=>simp[a,quiet]at c
 case h_6 a=>simp[a,quiet]at c
 case h_7 a=>simp only[a]at all ⊢;exact all (jb h)
 case h_8 a=>simp[a,quiet]at c
 case h_9 t x a =>
  obtain⟨g,rfl⟩:=bY h;simp only[a];refine⟨trivial,λp=>by simp[mD]at p,λe A=>?_⟩;have w:∀i b,alive z i=some b->alive e i=some b:=by
   intro i b j;obtain⟨B,C⟩:=eA j;unfold alive;rw[A i b B];simp[C]
  have:sS P e t (ev x)=some v:=by
   unfold sS at g ⊢;split at g
   .split at g
    .rename_i n _ _;simp only[aO]at g ⊢;obtain⟨l,p,rfl⟩:=g;refine⟨l,?_,rfl⟩;unfold ia at p ⊢;split at p
     .rename_i b j;rw[w _ _ j];exact p
     cases p
    .split at g
     .rename_i b j;rw[w _ _ j];exact g
     cases g
    cases g
   cases g
  rw[this];rfl
 case h_10 a=>simp[a,quiet]at c
 case h_11 a =>
  simp only[a]at all ⊢;unfold tP at h ⊢;split at h
  .rename_i q A;cases h;simp only;refine⟨?_,?_,?_⟩<;>intros<;>trivial
  .rename_i q1 q2 q3 A;cases h;simp only;refine⟨?_,?_,?_⟩<;>intros<;>trivial
  cases h
 case h_12 a=>simp only[a]at all ⊢;exact all (jb h)
 case h_13 a=>simp only[a]at all ⊢;exact all (jb h)
 case h_14 x k a =>
  simp only[a]at all ⊢;unfold tD at h ⊢;generalize ev x=q at h ⊢;cases q<;>first|(cases h;done)|exact all (jb h)
 case h_15 a=>simp[a,quiet]at c
 case h_16 a=>cases h;simp only[a]at all ⊢;refine⟨?_,?_,?_⟩<;>intros<;>trivial
 case h_17 a =>
  simp only[a]at all c ⊢;simp only[quiet,aU]at c;unfold qU at h ⊢;rw[c]at h ⊢;exact all (jb h)
 case h_18 a=>simp only[a]at all ⊢;exact all (jb h)
 case h_19 a=>simp only[a]at all ⊢;exact all (jb h)
 case h_20 s d x a =>
  simp only[a]at all c ⊢;simp only[quiet,ak,aU]at c;unfold mC at h ⊢;split at h
  .rename_i u g;cases h;simp only;refine⟨?_,?_,?_⟩<;>intros<;>trivial
  exfalso;unfold kr at h;split at h
  .have E:=c.1.1;clear h all c;simp_all[xF]
  .have J:=c.1.2;clear h all c;simp_all[xF]
  .have E:=c.1.1;clear h all c;simp_all[xF]
  .have F:=c.2;clear h all c;simp_all[PW]
  .have F:=c.2;clear h all c;simp_all[PW]
  cases h
 case h_21 K a =>
  obtain⟨callee,args,L⟩:=K;simp only[a]at all c ⊢;unfold fu at h ⊢;cases callee with
  |value f=>simp[quiet]at c
  |invoke r m=>cases h
  |builtin b =>
   simp only at h ⊢;unfold tE at h ⊢;cases b;case append=>simp[quiet]at c
   case copy=>simp[quiet]at c
   case len =>
    exact all (Qf h)
   case cap =>
    simp only at h ⊢;unfold vq at h ⊢;split at h
    .rename_i x t M N;obtain⟨g,rfl⟩:=bY h;refine⟨rfl,λp=>by simp[mD]at p,λe A=>?_⟩;have:DY P e t (ev x)=some v:=by
      unfold DY at g ⊢;split at g
      .split at g
       .rename_i b j;have w:∀i b,alive z i=some b->alive e i=some b:=by
         intro i b j;obtain⟨B,C⟩:=eA j;unfold alive;rw[A i b B];simp[C]
        rw[w _ _ j];exact g
       cases g
      .exact g
      cases g
     rw[this];rfl
    cases h
   all_goals first|(simp[quiet]at c;done)|(simp only at h ⊢;exact all (jb h))
 case h_22 a=>simp[a,quiet]at c
 case h_23 t x k ok a =>
  obtain⟨g,rfl⟩:=bY h;simp only[a];refine⟨trivial,λp=>by simp[mD]at p,λe A=>?_⟩;have G:∀{y:Value} {cs:aW},qV z y=some cs->qV e y=some cs:=by
   intro y cs hy;unfold qV at hy ⊢;split at hy
   .exact hy
   .split at hy
    .rename_i b j;obtain⟨B,C⟩:=wz j;simp only[mapOf,A _ b B,C];exact hy
    cases hy
   cases hy
  have:wZ P e t (ev x) (ev k) ok=some v:=by
   unfold wZ at g ⊢;split at g
   .split at g
    .rename_i O Q I;rw[G I,O,Q];exact g
    cases g
   cases g
  rw[this];rfl
 case h_24 a=>simp[a,quiet]at c
 case h_25 a=>simp[a,quiet]at c
 case h_26=>exact all (jb h)
def QY (P:Program)(call:dx)(ops:Array Oper)(o:Oper)(v:Value)(a:Act)(H:Mem):Prop :=
 (Region.wanted o (yielded ops a.tmps)=true/\kD P call a.eval o H=some (v,H))\/(Region.wanted o (yielded ops a.tmps)=false/\v=undef)
theorem QY.step {o:Oper}{v:Value}{a:Act}{H:Mem}(h:QY P call ops o v a H):ku P call ops o a H=some (a.put o.dst v,H):=by
 unfold ku;rcases h with⟨b,c⟩|⟨b,rfl⟩
 .simp only[b,gy,c];rfl
 simp[b]
theorem QY.acv {o:Oper}{a d:Act}{H e:Mem}(f:quiet P o.op=true)(h:ku P call ops o a H=some (d,e)):e=H/\∃v,d=a.put o.dst v/\QY P call ops o v a H:=by
 unfold ku at h;split at h
 .rename_i b;simp only[aO]at h;obtain⟨⟨r1,i⟩,c,heq⟩:=h;cases heq;obtain⟨g,_,_⟩:=ML f c;rw[g]at c ⊢;exact⟨rfl,_,rfl,.inl ⟨b,c⟩⟩
 rename_i b;cases h;exact⟨rfl,_,rfl,.inr ⟨by simpa using b,rfl⟩⟩
theorem QY.move {o f:Oper}{v u:Value}{a:Act}{H:Mem}(h:QY P call ops o v a H)(c:∀d,f.dst=some d->d ∉ o.looksAt ops)(e:∀cs b,o.op ≠ .select cs b):QY P call ops o v (a.put f.dst u) H:=by
 unfold QY at *;rw[wanted_put o a f.dst u c,Iq (P:=P) (call:=call) H (sw a u c) e];exact h
theorem QY.mem {o:Oper}{v:Value}{a:Act}{H c:Mem}(e:quiet P o.op=true)(h:QY P call ops o v a H)(b:mD o.op=false\/Ext H c):QY P call ops o v a c:=by
 rcases h with⟨d,f⟩|h
 .obtain ⟨_,k2,g⟩:=ML e f;rcases b with b|b
  .exact .inl ⟨d,k2 b c⟩
  exact .inl ⟨d,g c b⟩
 exact .inr h
def tW (ops:Array Oper)(listed:iS):Prop :=
 ∀k o,ops[k]? = some o->listed.getD k false=true->∀e∈o.after,Region.binds .any e=true->listed.getD e.on false=true
theorem tW.add {listed:iS}(h:tW ops listed){i:Nat}(hi:i∈Region.ready .any ops listed):tW ops (listed.setIfInBounds i true):=by
 intro k o d f e g j;apply getD_set_true;by_cases a:i=k
 .subst a;obtain⟨_,l,b,c⟩:=mem_ready.1 hi;rw[d]at b;cases b;exact c e g j
 rw[getD_set_ne false a]at f;exact h k o d f e g j
theorem Bo {listed:iS}(d:tW ops listed){i j:Nat}(h:Reach ops i j)(hi:listed.getD i false=true):listed.getD j false=true:=by
 induction h with
 |one a b c=>exact d _ _ a hi _ b c
 |more a b c _ e=>exact e (d _ _ a hi _ b c)
theorem MM {listed:iS}(m:tW ops listed){i j:Nat}(hi:i∈Region.ready .any ops listed)(n:j∈Region.ready .any ops listed):¬Reach ops j i:=by
 intro h;obtain⟨c,_⟩:=mem_ready.1 hi;have d:listed.getD i false=true->False:=by
  intro f;by_cases e:i<listed.size
  .simp[Array.getD,e]at f c;rw[f]at c;cases c
  simp[Array.getD,e]at f
 obtain⟨_,o,l,b⟩:=mem_ready.1 n;cases h with
 |one a g k=>rw[l]at a;cases a;exact d (b _ g k)
 |more a g k p=>rw[l]at a;cases a;exact d (Bo m p (b _ g k))
def QM (o:Oper)(a:Act)(c:cu):Prop:=c=none\/∃b t x off m,c=some b/\o.op = .load t x/\a.eval x = .pointer (some ⟨b,off,m⟩)
theorem QY.arW {o:Oper}{v:Value}{a:Act}{H f:Mem}(s:quiet P o.op=true)(h:QY P call ops o v a H){q:cu}(u:QM o a q)(r:MI q H f):QY P call ops o v a f:=by
 rcases u with rfl|⟨b,t,x,off,m,rfl,j,w⟩
 .exact h.mem s (.inr r)
 rcases h with⟨p,g⟩|h
 .refine .inl ⟨p,?_⟩;unfold kD at g ⊢;rw[j]at g ⊢;simp only at g ⊢;obtain⟨c,_⟩:=bY g;have d:∀k,alive H b=some k->alive f b=some k:=by
   intro k e;obtain⟨p,y⟩:=eA e;unfold alive;rw[r k p];simp[y]
  have:sS P f t (a.eval x)=some v:=by
   rw[w]at c ⊢;unfold sS at c ⊢;split at c
   .rename_i heq;cases heq;split at c
    .rename_i n _ _;simp only[aO]at c ⊢;obtain⟨l,i,rfl⟩:=c;refine⟨l,?_,rfl⟩;unfold ia at i ⊢;split at i
     .rename_i k e;rw[d _ e];exact i
     cases i
    .split at c
     .rename_i k e;rw[d _ e];exact c
     cases c
    cases c
   cases c
  rw[this];rfl
 exact .inr h
theorem QM.move {o:Oper}{a:Act}{e:cu}(h:QM o a e){dst:Option Tmp}(u:Value)(f:∀d,dst=some d->d ∉ o.looksAt ops):QM o (a.put dst u) e:=by
 rcases h with rfl|⟨b,t,x,off,m,rfl,c,g⟩
 .exact .inl rfl
 refine .inr ⟨b,t,x,off,m,rfl,c,?_⟩;rw[<-g];exact Act.eval_put λd i j=>f d i (by
  subst j;exact fC _ (nY.2 ⟨.tmp d,by simp[c,Op.operands],rfl⟩))
theorem qn.weak {Fin:Act->Mem->Prop}{j e:List (Nat×cu)}(f:∀q∈j,q∈e){x:cu}{l:iS}{k:cY}{a:Act}{H:Mem}(h:qn P call ops Fin e x l k a H):qn P call ops Fin j x l k a H:=by
 induction h with
 |pay g i b c _ d=>exact .pay g i b c d
 |step m _ d=>exact .step m d
 |sync g b n c _ d=>exact .sync g b (λq o=>n q (f q o)) c d
 |owe g i p r _ d=>exact .owe g i p r d
theorem Qg (hk:gp call){Fin:Act->Mem->Prop}(t:∀(j:Nat) (o:Oper) cs b,ops[j]? = some o->o.op ≠ .select cs b){i:Nat}{oi:Oper}{v:Value}(hi:ops[i]? = some oi)(S:quiet P oi.op=true)
 {RL T:List (Nat×cu)} (N:∀q∈RL,q∈T) {x:cu} {Z:iS} {C:cY} {a1:Act} {H:Mem} (hA:qn P call ops Fin T x Z C a1 H):∀(listed:iS) (a:Act),Z=listed.setIfInBounds i true->a1=a.put oi.dst v->(mD oi.op=false\/∃U,(i,U)∈T/\QM oi a U) ->
  (∀(j:Nat) (z:Oper),ops[j]? = some z->j≠i->(listed.getD j true=false\/j∈C)->(∀e∈z.after,Region.binds .any e=true->e.on≠i)->oi.apart ops z=true) ->
  (∀m∈C,∀A,ops[m]? = some A->∀e∈A.after,Region.binds .any e=true->e.on≠i)->i ∉ C ->
  tW ops listed->i∈Region.ready .any ops listed->QY P call ops oi v a H ->
  match x with
  |none=>qn P call ops Fin RL none listed C a H
  |some j=>j≠i->j∈Region.ready .any ops listed->qn P call ops Fin RL (some j) listed C a H:=by
 have hni:∀{m:Nat} {A:Oper},ops[m]? = some A->makes P A=true->m≠i:=λQe D e=>by
  subst e;rw[hi]at Qe;cases Qe;rw[z9 D]at S;cases S
 induction hA with
 |@pay Z p1 p2 m o R lk a1 a' H H' ho D s am2 h V =>
  rintro listed a rfl rfl n c K p O B hy;have W:=c m o ho (hni ho D) (.inr (by simp)) (K m (by simp) o ho);obtain⟨q1,q2,q3⟩:=Oper.apart_spec W;rw[Fj a v H q1 q2 (λcs b=>t m o cs b ho)]at s;simp only[aO]at s;obtain⟨⟨aj,Hj⟩,UA,heq⟩:=s;simp only[az]at heq;obtain⟨rfl,rfl⟩:=heq;obtain⟨u,rfl⟩:=nj UA;obtain⟨_,_,_,_,hp,_⟩:=CA D UA;have arX:Ext H Hj:=λk b Q=>by
   obtain⟨_,_,e3⟩:=Mem.eG hp;rw[e3,aa (nF (Mem.fM Q))];exact Q
  have sub:∀{y:Nat},y∈p1++p2->y∈p1++m::p2:=λhx=>by
   rcases cg.1 hx with l|l
   .exact fC _ l
   exact jC _ (bI _ l)
  exact qn.pay ho D UA am2 (V listed _ rfl rfl (n.imp id λ⟨U,e1,e2⟩=>⟨U,e1,e2.move u q3⟩) (λj z E d hh=>c j z E d (hh.imp id sub)) (λk g=>K k (sub g)) (λh=>p (sub h)) O B ((hy.move q3 (λcs b=>t i oi cs b hi)).mem S (.inr arX)))
 |@step Z C a1 H X h V =>
  rintro listed a rfl rfl n c K p O B hy;refine qn.step (λh=>(by rw[h]at B;cases B)) λj E=>?_
  by_cases d:j=i
  .subst d;have hn:∀m∈C,∀A,ops[m]? = some A->(∀x,A.dst=some x->x ∉ oi.looksAt ops/\oi.dst≠some x)/\∀x,oi.dst=some x->x ∉ A.looksAt ops:=by
    intro m D A Qe;have hne:m≠j:=λe=>p (by rw[<-e];exact D)
    obtain⟨q1,q2,q3⟩:=Oper.apart_spec (c m A Qe hne (.inr D) (K m D A Qe));exact⟨λx hx=>⟨q3 x hx,λe=>q2 x e hx⟩,q1⟩
   exact qn.sync (R:=none) (lk:=false) hi (by unfold pQ;exact hy.step) (λq _=>.inr (MI.Qa λ_ _ Q=>Q)) hn (qn.weak N (qn.step X h))
  exact V j (ready_mono E d) listed a rfl rfl n c K p O B hy d E
 |@sync Z C j z R lk a1 a' H H' L s hR W h V =>
  rintro listed a rfl rfl n c K p O B hy d E;obtain⟨UB,oj',r,F⟩:=mem_ready.1 E;rw[L]at r;cases r;have w:∀e∈z.after,Region.binds .any e=true->e.on≠i:=λe he Q heq=>by
   have l:=F e he Q;have X:=(mem_ready.1 B).1;rw[heq]at l;rcases Nat.lt_or_ge i listed.size with Y|Y
   .simp[Y]at X l;rw[X]at l;cases l
   simp[fP Y]at l
  obtain⟨p1,p2,p3⟩:=Oper.apart_spec (c j z L d (.inl UB) w);rw[Fj a v H p1 p2 (λcs b=>t j z cs b L)]at s;simp only[aO]at s;obtain⟨⟨aj,Hj⟩,UA,heq⟩:=s;simp only[az]at heq;obtain⟨rfl,rfl⟩:=heq;refine qn.sync L UA (λq S=>hR q (N q S)) W ?_;have M:∀(k:Nat) (ok:Oper),ops[k]? = some ok->k≠i->((listed.setIfInBounds j true).getD k true=false\/k∈C) ->
   (∀e∈ok.after,Region.binds .any e=true->e.on≠i)->oi.apart ops ok=true:=λk ok g G f I=>by
   refine c k ok g G (f.imp (λf=>?_) id) I;by_cases J7:j=k
   .subst J7;exact UB
   rw[getD_set_ne true J7]at f;exact f
  obtain⟨u,rfl⟩:=nj UA;have hyj:QY P call ops oi v a Hj:=by
   rcases n with hld|⟨U,e1,e2⟩
   .exact hy.mem S (.inl hld)
   rcases hR _ e1 with l|l
   .exact absurd l (MM O B E)
   exact hy.arW S e2 l
  exact V (listed.setIfInBounds j true) _ (Array.setIfInBounds_comm _ _ (kZ d)) rfl (n.imp id λ⟨U,e1,e2⟩=>⟨U,e1,e2.move u p3⟩) M K p (O.add E) (ready_mono B (kZ d)) (hyj.move p3 (λcs b=>t i oi cs b hi))
 |@owe Z C j z a1 H L D xP hd h V =>
  rintro listed a rfl rfl n c K p O B hy d E;obtain⟨UB,oj',r,F⟩:=mem_ready.1 E;rw[L]at r;cases r;have w:∀e∈z.after,Region.binds .any e=true->e.on≠i:=λe he Q heq=>by
   have l:=F e he Q;have X:=(mem_ready.1 B).1;rw[heq]at l;rcases Nat.lt_or_ge i listed.size with Y|Y
   .simp[Y]at X l;rw[X]at l;cases l
   simp[fP Y]at l
  obtain⟨p1,_,_⟩:=Oper.apart_spec (c j z L d (.inl UB) w);rw[xQ a v p1]at xP;refine qn.owe L D xP hd (V (listed.setIfInBounds j true) a (Array.setIfInBounds_comm _ _ (kZ d)) rfl n (λk ok g G f I=>?_) (λk g ok J=>?_) (λhh=>by
   rcases bD.1 hh with e|hh
   .exact d e.symm
   exact p hh) (O.add E) (ready_mono B (kZ d)) hy)
  .rcases f with f|f
   .refine c k ok g G (.inl ?_) I;by_cases J7:j=k
    .subst J7;exact UB
    rw[getD_set_ne true J7]at f;exact f
   rcases bD.1 f with rfl|f
   .exact c k ok g G (.inl UB) I
   exact c k ok g G (.inr f) I
  rcases bD.1 g with rfl|g
  .rw[L]at J;cases J;exact w
  exact K k g ok J
end
end Go.Ev
namespace Go.Ev
open Go.RowKit
section
variable {P:Program} {call:dx} {ops:Array Oper}
theorem wA (m i:Nat):bit m i=m.testBit i:=by
 unfold bit;rw[Nat.testBit_eq_decide_div_mod_eq];have e:Nat.land (Nat.shiftRight m i) 1=m/2 ^ i%2:=by
  show (m >>> i) &&& 1=_;rw[Nat.and_one_is_mod,Nat.shiftRight_eq_div_pow]
 rw[e,bX];simp[aQ]
theorem Kj (m i j:Nat):bit (u7 m i) j=(bit m j||decide (i=j)):=by
 rw[wA,wA];show (m ||| (1 <<< i)).testBit j=_;rw[Nat.testBit_or,Nat.one_shiftLeft,Nat.testBit_two_pow]
theorem Fk (j:Nat):bit 0 j=false:=by rw[wA];simp
theorem Sx (p L:Nat):Nat.beq (Nat.land p L) p=true↔∀j,bit p j=true->bit L j=true:=by
 rw[aQ];show (p &&& L)=p↔_;constructor
 .intro h j a;rw[wA]at a ⊢;rw[<-h,Nat.testBit_and]at a;simp at a;exact a.2
 intro h;apply Nat.eq_of_testBit_eq;intro j;rw[Nat.testBit_and];cases b:p.testBit j with
 |false=>rfl
 |true=>have:=h j (by rw[wA];exact b);rw[wA]at this;simp[this]
theorem qB (o:Oper)(j:Nat):bit (sZ o) j=true↔∃e∈o.after,Region.binds .any e=true/\e.on=j:=by
 have key:∀l:List Edge,bit (l.foldr (λe m=>ah (Region.binds .any e) (u7 m e.on) m) 0) j=true↔∃e∈l,Region.binds .any e=true/\e.on=j:=by
  intro l;induction l with
  |nil=>simp[Fk]
  |cons e l a =>
   simp only[gw,bD,exists_eq_or_imp];cases b:Region.binds .any e with
   |false=>show bit (l.foldr _ 0) j=true↔_;rw[a];simp
   |true=>show bit (u7 (l.foldr _ 0) e.on) j=true↔_;rw[Kj,dA,a];simp[or_comm]
 have:=key o.after.toList;unfold sZ;rw[this];simp
theorem HV (o:Oper)(d:Nat):bit (vz ops o) d=true↔d∈o.looksAt ops:=by
 have key:∀l:List Tmp,bit (l.foldr (λd m=>u7 m d) 0) d=true↔d∈l:=by
  intro l;induction l with
  |nil=>simp[Fk]
  |cons e l a =>
   simp only[gw,bD];rw[Kj,dA,a];simp;constructor
   .rintro (h|h)
    .exact .inr h
    exact .inl h.symm
   rintro (h|h)
   .exact .inr h.symm
   exact .inl h
 exact key _
structure POk (P:Program)(ops:Array Oper)(p:PO):Prop where
 o:ops[p.i]? = some p.o
 pre:p.pre=sZ p.o
 looks:p.looks=vz ops p.o
 q:p.q=quiet P p.o.op
 ld:p.ld=mD p.o.op
 WB:p.WB=makes P p.o
 anc:∀j,bit p.anc j=true->Reach ops p.i j
theorem wB (pre j:Nat):∀l:List PO,bit (uI pre l) j=true->bit pre j=true\/∃p∈l,bit pre p.i=true/\bit p.anc j=true
 |[],h=>.inl h
 |p::l,h=>by
  unfold uI at h;rw[ay]at h;split at h
  .rename_i e;have a:(p.anc ||| uI pre l).testBit j=true:=by rw[<-wA];exact h
   rw[Nat.testBit_or,dA]at a;rcases a with a|a
   .exact .inr ⟨p,by simp,e,by rw[wA];exact a⟩
   rcases wB pre j l (by rw[wA];exact a) with b|⟨q,c,d⟩
   .exact .inl b
   exact .inr ⟨q,by simp[c],d⟩
  rcases wB pre j l h with b|⟨q,c,d⟩
  .exact .inl b
  exact .inr ⟨q,by simp[c],d⟩
theorem Dw:∀(l:List Oper) (i:Nat) (a:List PO),(∀j,l[j]? = ops[i+j]?)->(∀p∈a,POk P ops p)->(∀k,k<i->∃p∈a,p.i=k) ->
 (∀p∈u9 P ops l i a,POk P ops p)/\(∀k,k<i+l.length->∃p∈u9 P ops l i a,p.i=k)
 |[],i,a,_,c,d=>⟨c,by simpa[u9] using d⟩
 |o::l,i,a,s,c,d=>by
  unfold u9;have f:ops[i]? = some o:=by simpa using (s 0).symm
  have g:POk P ops ⟨o,i,sZ o,uI (sZ o) a,vz ops o,quiet P o.op,mD o.op,makes P o⟩:=by
   refine⟨f,rfl,rfl,rfl,rfl,rfl,λj u=>?_⟩;rcases wB _ _ _ u with h|⟨p,g,v,w⟩
   .obtain ⟨e,m,n,rfl⟩:=(qB o j).1 h;exact .one f m n
   obtain⟨e,m,n,heq⟩:=(qB o p.i).1 v;exact .more f m n (by rw[heq];exact(c p g).anc j w)
  have:=Dw l (i+1) (⟨o,i,sZ o,uI (sZ o) a,vz ops o,quiet P o.op,mD o.op,makes P o⟩::a)
   (λj=>by have:=s (j+1);simpa[kU,nD 1 j] using this)
   (λp b=>by
    rcases bD.1 b with rfl|b
    .exact g
    exact c p b)
   (λk t=>by
    by_cases q:k=i
    .exact ⟨_,cq,q.symm⟩
    obtain⟨p,b,r⟩:=d k (by omega);exact⟨p,by simp[b],r⟩)
  refine⟨this.1,λk t=>this.2 k ?_⟩;simp only[aJ]at t;omega
structure Fl (P:Program)(ops:Array Oper)(pos:List PO):Prop where
 each:∀p∈pos,POk P ops p
 all:∀k,k<ops.size->∃p∈pos,p.i=k
theorem af1:Fl P ops (u9 P ops ops.toList 0 []).reverse:=by
 have:=Dw (P:=P) (ops:=ops) ops.toList 0 [] (by simp) (by simp) (by simp);exact⟨λp a=>this.1 p (by simpa using a),λk b=>by
  obtain⟨p,c,h⟩:=this.2 k (by simpa using b);exact⟨p,by simpa using c,h⟩⟩
structure Sz (ops:Array Oper)(L:Nat)(listed:iS):Prop where
 size:listed.size=ops.size
 get:∀j,listed.getD j false=bit L j
theorem Sz.Fp {L:Nat}{listed:iS}(h:Sz ops L listed){j:Nat}(a:j<ops.size):listed.getD j true=bit L j:=by
 rw[<-h.get];have:j<listed.size:=by rw[h.size];exact a
 simp[Array.getD,this]
theorem Sz.add {L:Nat}{listed:iS}(h:Sz ops L listed){i:Nat}(hi:i<ops.size):Sz ops (u7 L i) (listed.setIfInBounds i true):=by
 refine⟨by simpa using h.size,λj=>?_⟩;rw[Kj];by_cases a:i=j
 .subst a;have:i<listed.size:=by rw[h.size];exact hi
  simp[this]
 rw[getD_set_ne false a,h.get];simp[a]
theorem Sz.zero:Sz ops 0 (Array.replicate ops.size false):=⟨by simp,λj=>by
 rw[Fk];by_cases a:j<ops.size
 .simp[Array.getD,a]
 simp[Array.getD,a]⟩
theorem qo {pos:List PO}(c:Fl P ops pos){L:Nat}{listed:iS}(d:Sz ops L listed){p:PO}(f:p∈pos):vc L p=true↔p.i∈Region.ready .any ops listed:=by
 have g:=(c.each p f).o;have k:p.i<ops.size:=(aF.1 g).1;rw[mem_ready,d.Fp k];unfold vc;rw[ay];constructor
 .intro h;split at h
  .cases h
  rename_i l;refine⟨by simpa using l,p.o,g,λe m n=>?_⟩;rw[d.get];rw[(c.each p f).pre]at h;exact(Sx _ _).1 h e.on ((qB p.o e.on).2 ⟨e,m,n,rfl⟩)
 rintro⟨q,o,a,b⟩;rw[g]at a;cases a;rw[aa (by rw[q];simp)];rw[(c.each p f).pre];refine(Sx _ _).2 λj r=>?_
 obtain⟨e,m,l,rfl⟩:=(qB p.o j).1 r;rw[<-d.get];exact b e m l
theorem Fq {pos:List PO}(a:Fl P ops pos){L:Nat}{listed:iS}(c:Sz ops L listed){i:Nat}(hi:i∈Region.ready .any ops listed):∃p∈pos,p.i=i/\vc L p=true:=by
 obtain⟨_,o,d,_⟩:=mem_ready.1 hi;obtain⟨p,b,rfl⟩:=a.all i (aF.1 d).1;exact⟨p,b,rfl,(qo a c b).2 hi⟩
theorem uK {x y:PO}(g:POk P ops x)(hy:POk P ops y)(h:EY x y=true):x.o.apart ops y.o=true:=by
 unfold EY at h;have c:∀{z:PO} (i:POk P ops z) {d:Nat},bit z.looks d=false->(z.o.looksAt ops).contains d=false:=by
  intro z i d a;rw[i.looks]at a;rw[<-fy,List.contains_iff_mem,<-HV,a];simp
 unfold Oper.apart;split at h
 .rename_i d e a b;simp only[ak,aU]at h;simp only[a,b,c hy h.1.1,c g h.2,Bool.not_false,eF,mo];have f:¬(e=d):=by
   intro j;subst j;have:=h.1.2;rw[<-fy,aQ]at this;exact this rfl
  simp[f]
 .rename_i d a b;simp only[aU]at h;rw[a,b];simp only[c hy h];simp
 .rename_i e a b;simp only[aU]at h;rw[a,b];simp only[c g h];simp
 rename_i a b;rw[a,b];rfl
theorem Fs {pos:List PO}(c:Fl P ops pos){L:Nat}{listed:iS}(t:Sz ops L listed){p:PO}(u:p∈pos)(h:afT pos L p=true) :
 ∀(j:Nat) (d:Oper),ops[j]? = some d->j≠p.i->listed.getD j true=false->(∀e∈d.after,Region.binds .any e=true->e.on≠p.i)->p.o.apart ops d=true:=by
 intro j d q l m n;have f:j<ops.size:=(aF.1 q).1;obtain⟨r,k,b⟩:=c.all j f;have g:=(c.each r k).o;rw[b,q]at g;have s:d=r.o:=by cases g;rfl
 have:=aN.1 h r k;simp only[dA]at this;rcases this with ((a|a)|a)|a
 .rw[aQ]at a;exact absurd (b ▸ a) l
 .rw[b,<-t.Fp f,m]at a;cases a
 .rw[(c.each r k).pre]at a;obtain⟨e,v,w,heq⟩:=(qB r.o p.i).1 a;exact absurd heq (n e (by rw[s];exact v) w)
 rw[s];exact uK (c.each p u) (c.each r k) a
theorem MN {pos:List PO}(e:Fl P ops pos){L:Nat}{listed:iS}(m:Sz ops L listed){p:PO}(n:p∈pos)(h:PY pos L p=true):P9 ops listed p.i:=by
 intro j q l f g;have a:j<ops.size:=(aF.1 l).1;obtain⟨r,k,b⟩:=e.all j a;have c:=(e.each r k).o;rw[b,l]at c;have s:q=r.o:=by cases c;rfl
 have:=aN.1 h r k;simp only[dA,aU]at this;rw[(e.each r k).ld,<-s,f,b,<-m.Fp a,g]at this;rcases this with (d|d)|d
 .cases d
 .cases d
 exact(e.each p n).anc j d
noncomputable def vF (P:Program)(call:dx)(ops:Array Oper):List (Oper×Bool)->gS->Act->Mem->Option (Act×Mem)
 |[],_,a,H=>some (a,H)
 |(o,lk)::l,R,a,H=>match pQ P call ops R lk o a H with
  |some (b,c)=>vF P call ops l (rI a.eval o R) b c
  |none=>none
theorem MO {ev:Operand->Value}{st q:TypeId}{s x v:Value}{H i:Mem}(h:sX P H st q s x=some (v,i)){j:Nat}(o:∀b off m l c,s = .slice (some ⟨b,off,m⟩) l c->j≠b)(k:kV)(d:H.get j=some k):i.get j=some k:=by
 unfold sX at h;split at h
 .split at h
  .split at h
   .split at h
    .cases h
    have push:∀{f g:Mem} {e:TypeId} {cs:aW} {n m:Nat} {u:Value},f.get j=some k->mw f e cs n m=some (u,g)->g.get j=some k:=by
     intro f g e cs n m u p r;obtain⟨t,_⟩:=pZ r;obtain⟨_,_,w⟩:=Mem.eG t;rw[w,aa (nF (Mem.fM p))];exact p
    split at h
    .split at h
     .rename_i b off _ _ _;simp only[aO,az]at h;obtain⟨f,a,_,rfl⟩:=h;unfold js at a;split at a
      .cases a;exact d
      split at a
      .split at a
       .obtain ⟨_,_,_,_,y⟩:=Mem.mE a;rw[y,aa (o _ _ _ _ _ rfl)];exact d
       cases a
      cases a
     .split at h
      .cases h;exact d
      cases h
     cases h
    split at h
    .split at h
     .split at h
      .rename_i f z;refine push ?_ h;obtain⟨_,_,_,A,_⟩:=o5 z;rw[A j (o _ _ _ _ _ rfl)];exact d
      cases h
     cases h
    .exact push d h
    cases h
   cases h
  cases h
 cases h
theorem W6 {o:Oper}{s:Operand}(e:mb o.op=some s){a:Act}{H:Mem}{r:Act×Mem}(h:ku P call ops o a H=some r){j:Nat}(i:∀b off m l c,a.eval s = .slice (some ⟨b,off,m⟩) l c->j≠b)(k:kV)(g:H.get j=some k):r.2.get j=some k:=by
 unfold ku at h;split at h
 .simp only[aO]at h;obtain⟨⟨v,q⟩,d,rfl⟩:=h;unfold mb at e;split at e
  .rename_i args n f;unfold kD at d;rw[f]at d;simp only at d;unfold fu at d;simp only at d;unfold tE at d;simp only at d;unfold tQ at d;split at d
   .rename_i t x st u p w y z;rw[p]at e;cases e;exact MO (ev:=a.eval) d i k g
   cases d
  cases e
 cases h;exact g
theorem Qh {o:Oper}{s:Operand}(e:nV o.op=some s){a:Act}{H:Mem}{r:Act×Mem}(h:ku P call ops o a H=some r){j:Nat}(l:∀b off m,a.eval s = .pointer (some ⟨b,off,m⟩)->j≠b)(k:kV)(f:H.get j=some k):r.2.get j=some k:=by
 unfold ku at h;split at h
 .simp only[aO]at h;obtain⟨⟨v,u⟩,d,rfl⟩:=h;unfold nV at e;split at e
  .rename_i t w x g;cases e;unfold kD at d;rw[g]at d;simp only at d;unfold rU at d;split at d
   .rename_i y c;cases d;unfold tN at c;split at c
    .rename_i i off n p z;split at c
     .unfold js at c;split at c
      .cases c;exact f
      split at c
      .split at c
       .obtain ⟨_,_,_,_,q⟩:=Mem.mE c;rw[q,aa (l _ _ _ p)];exact f
       cases c
      cases c
     cases c
    cases c
   cases d
  cases e
 cases h;exact f
theorem wC {l:List PO}{p:PO}{d:List PO}(h:J1 l=some (p,d)):p∈l/\(∀r∈l,r=p\/r∈d)/\∀m∈d,m∈l/\m.WB=true:=by
 unfold J1 at h;split at h
 .rename_i q b;cases h;have a:p∈l.filter λp => !p.WB:=by rw[b];simp
  refine⟨(dF.1 a).1,λr c=>?_,λm a=>dF.1 a⟩;by_cases e:r.WB=true
  .exact .inr (dF.2 ⟨c,e⟩)
  have:r∈l.filter λp => !p.WB:=dF.2 ⟨c,by simpa using e⟩
  rw[b]at this;exact .inl (by simpa using this)
 .rename_i b;split at h
  .cases h;refine⟨by simp,λr c=>by simpa using c,λm a=>⟨by simp[a],?_⟩⟩;have:=List.filter_eq_nil_iff.1 b m (by simp[a]);simpa using this
  cases h
 cases h
structure CB (ops:Array Oper)(base:iS)(fU:cY)(listed:iS):Prop where
 size:listed.size=ops.size
 get:∀j,listed.getD j false=true↔base.getD j false=true\/j∈fU
theorem CB.Fp {base listed:iS}{a:cY}(h:CB ops base a listed)(c:base.size=ops.size){j:Nat}(b:j<ops.size):listed.getD j true=false↔base.getD j true=false/\j ∉ a:=by
 have d:listed.getD j true=listed.getD j false:=by have:=h.size;simp[Array.getD,this,b]
 have e2:base.getD j true=base.getD j false:=by simp[Array.getD,c,b]
 have:=h.get j;rw[d,e2,<-fy,<-fy,this];simp only[mq]
theorem CB.set {base listed:iS}{b:cY}(h:CB ops base b listed)(c:base.size=ops.size){i:Nat}(hi:i<ops.size):CB ops (base.setIfInBounds i true) b (listed.setIfInBounds i true):=by
 refine⟨by simpa using h.size,λj=>?_⟩;by_cases a:i=j
 .subst a;have d:i<listed.size:=by rw[h.size];exact hi
  have e:i<base.size:=by rw[c];exact hi
  simp[d,e]
 rw[getD_set_ne false a,getD_set_ne false a];exact h.get j
theorem CB.owe {base listed:iS}{b:cY}(h:CB ops base b listed){i:Nat}(hi:i<ops.size):CB ops base (i::b) (listed.setIfInBounds i true):=by
 refine⟨by simpa using h.size,λj=>?_⟩;by_cases a:i=j
 .subst a;have c:i<listed.size:=by rw[h.size];exact hi
  simp[c]
 rw[getD_set_ne false a,h.get];simp[kZ a]
theorem CB.pay {base listed:iS}{b c:cY}{i:Nat}(h:CB ops base (b++i::c) listed)(d:base.size=ops.size)(hi:i<ops.size):CB ops (base.setIfInBounds i true) (b++c) listed:=by
 refine⟨h.size,λj=>?_⟩;rw[h.get];have e:i<base.size:=by rw[d];exact hi
 by_cases a:i=j
 .subst a;simp[e]
 rw[getD_set_ne false a];simp[kZ a]
theorem MP {listed:iS}(i:tW ops listed){j k:Nat}{o:Oper}(g:ops[j]? = some o)(b:∀e∈o.after,Region.binds .any e=true->listed.getD e.on false=true)(h:Reach ops j k):listed.getD k false=true:=by
 cases h with
 |one a c d=>rw[g]at a;cases a;exact b _ c d
 |more a c d f=>rw[g]at a;cases a;exact Bo i f (b _ c d)
theorem UD (_hk:gp call)(T:∀(j:Nat) (o:Oper) cs b,ops[j]? = some o->o.op ≠ .select cs b){pos:List PO}(k:Fl P ops pos){U:Act}{V:Mem}:∀(n L:Nat) (base:iS) (l:List (Oper×Bool)),xb pos n L=some l->Sz ops L base ->
 ∀m∈pos,m.WB=true->vc L m=true->∀R a H,vF P call ops l R a H=some (U,V)->(sU P a.eval m.o).isSome=true:=by
 intro n;induction n with
 |zero =>
  intro L base l h x m c t r R a H v;unfold xb at h;split at h
  .rename_i y;exact absurd r (List.find?_eq_none.1 y m c)
  cases h
 |succ n N =>
  intro L base l h x m c t r R a H v;have z:makes P m.o=true:=by rw[<-(k.each m c).WB];exact t
  have f:=(k.each m c).o;have A:=(qo k x c).1 r;have go:∀{p:PO},p∈pos->m.i≠p.i->vc (u7 L p.i) m=true:=λ{p} W d=>by
   have g:p.i<ops.size:=(aF.1 (k.each p W).o).1;exact(qo k (x.add g) c).2 (ready_mono A d)
  unfold xb at h;split at h
  .rename_i p y;have w:=j8 y;have B:=List.find?_some y;simp only[ak]at B;have O:quiet P p.o.op=true:=by rw[<-(k.each p w).q];exact B.1
   have F:=(k.each p w).o;have g:p.i<ops.size:=(aF.1 F).1;have X:=(qo k x w).1 B.2;have d:m.i≠p.i:=λe=>by
    rw[e,F]at f;have e2:p.o=m.o:=bT f;rw[<-e2]at z;rw[z9 z]at O;cases O
   rw[ay]at h;split at h;case isFalse=>cases h
   rename_i C;split at h;case h_2=>cases h
   rename_i Y D;cases h;simp only[vF]at v;split at v;case h_2=>cases v
   rename_i a1 Z s;obtain⟨u,rfl⟩:=nj s;have I:=Fs k x w C m.i m.o f d (mem_ready.1 A).1 (λe he hb heq=>by
    obtain⟨_,o2,Q,G⟩:=mem_ready.1 A;rw[f]at Q;cases Q;have E:=G e he hb;rw[heq]at E;have S:=(mem_ready.1 X).1;have:base.getD p.i true=base.getD p.i false:=by have:=x.size;simp[Array.getD,this,g]
    rw[this,E]at S;cases S)
   rw[<-xQ (ops:=ops) a u (Oper.apart_spec I).1];exact N _ _ _ D (x.add g) m c t (go w d) _ _ _ v
  split at h
  .rename_i y;have:m∈pos.filter (vc L):=dF.2 ⟨c,r⟩;rw[y]at this;cases this
  rename_i q0 r0 y;split at h;case h_2=>cases h
  rename_i p ms J;obtain⟨c1,c2,c3⟩:=wC J;rw[<-y]at c1 c2 c3;obtain⟨w,hr⟩:=dF.1 c1;have F:=(k.each p w).o;have g:p.i<ops.size:=(aF.1 F).1;rw[ay]at h;split at h;case isFalse=>cases h
  rename_i K;split at h;case h_2=>cases h
  rename_i Y D;cases h;simp only[vF]at v;split at v;case h_2=>cases v
  rename_i a1 Z s;by_cases d:m.i=p.i
  .rw[d,F]at f;have e2:p.o=m.o:=bT f;rw[e2]at s;obtain⟨te,cs,sh,E,_⟩:=CA z s;rw[E];rfl
  obtain⟨u,rfl⟩:=nj s;rcases c2 m (dF.2 ⟨c,r⟩) with rfl|M
  .exact absurd rfl d
  have E:=aN.1 K m M;simp only[ak]at E;rw[<-xQ (ops:=ops) a u (Oper.apart_spec (uK (k.each m c) (k.each p w) E.1.1)).2.2];exact N _ _ _ D (x.add g) m c t (go w d) _ _ _ v
def wD (R:gS)(a:List (Nat×cu)):Prop :=
 match R with
 |none=>True
 |some l=>∀q∈a,∃b∈l,q.2=some b
theorem wD.next {R:gS}{a:List (Nat×cu)}(h:wD R a)(ev:Operand->Value)(o:Oper):wD (rI ev o R) a:=by
 unfold rI;split
 .split
  .rename_i l b _ _ _;exact λq c=>by
    obtain⟨d,e,f⟩:=h q c;exact⟨d,by simp[e],f⟩
  trivial
 rw[ay];split
 .trivial
 exact h
theorem Qj {R:gS}{e:List (Nat×cu)}(h:wD R e)(a:Act)(o:Oper)(i:Nat)(g:mD o.op=true):∃f,QM o a f/\wD (rI a.eval o R) ((i,f)::e):=by
 unfold rI;split
 .rename_i t x c;split
  .rename_i l b off m j;refine⟨some b,.inr ⟨b,t,x,off,m,rfl,c,j⟩,λq d=>?_⟩;rcases bD.1 d with rfl|d
   .exact ⟨b,by simp,rfl⟩
   obtain⟨k,n,p⟩:=h q d;exact⟨k,by simp[n],p⟩
  exact⟨none,.inl rfl,trivial⟩
 rw[ay,ag g];exact⟨none,.inl rfl,trivial⟩
theorem Qk (D:gp call){R:gS}{A:List (Nat×cu)}(h:wD R A){o:Oper}{lk:Bool}{a:Act}{H:Mem}{r:Act×Mem}(v:pQ P call ops R lk o a H=some r)(E:lk=true):∀q∈A,MI q.2 H r.2:=by
 intro q B;rcases s9 v with⟨C,F⟩|⟨_,u,G,rfl⟩
 .obtain ⟨s,i,n⟩:=F E;have key:∀j,(∀b off m l c,a.eval s = .slice (some ⟨b,off,m⟩) l c->j≠b)->(∀b off m,a.eval s = .pointer (some ⟨b,off,m⟩)->j≠b)->∀k,H.get j=some k->r.2.get j=some k:=λj I w k d=>by
   rcases i with i|i
   .exact W6 i C I k d
   exact Qh i C w k d
  unfold ve at n;split at n
  .rename_i g;exact MI.Qa λj k d=>key j (λb off m l c e=>by rw[g]at e;cases e) (λb off m e=>by rw[g]at e;cases e) k d
  .rename_i b off m l c J g;obtain⟨p,x,y⟩:=h q B;rw[y];intro k d;refine key p (λb2 f z K c2 e=>?_) (λb2 f z e=>by rw[g]at e;cases e) k d;rw[g]at e;cases e;have:=aN.1 n p x;intro e2;rw[e2]at this;simp at this
  .rename_i b off m J g;obtain⟨p,x,y⟩:=h q B;rw[y];intro k d;refine key p (λb2 f z K c2 e=>by rw[g]at e;cases e) (λb2 f z e=>?_) k d;rw[g]at e;cases e;have:=aN.1 n p x;intro e2;rw[e2]at this;simp at this
  cases n
 obtain⟨_,_,L⟩:=ME D G;exact MI.Qa λj k d=>by
  have t:=Mem.fM d;show u.2.get j=some k;rw[L j t t];exact d
theorem UE (hk:gp call)(hsel:∀(j:Nat) (o:Oper) cs b,ops[j]? = some o->o.op ≠ .select cs b){pos:List PO}(C:Fl P ops pos){af:Act}{Hf:Mem}:∀(n L:Nat) (base:iS) (l:List (Oper×Bool)),xb pos n L=some l->Sz ops L base->tW ops base ->
 ∀(t:cY) (listed:iS),CB ops base t listed->(∀m∈t,m∈Region.ready .any ops base/\∃o,ops[m]? = some o/\makes P o=true)->t.Nodup->(∀m∈t,∀M∈t,m≠M->∀o o',ops[m]? = some o->ops[M]? = some o'->o.dst≠o'.dst) ->
 ∀(X:List (Nat×cu)) (R:gS),(∀q∈X,base.getD q.1 true=true/\∃o,ops[q.1]? = some o/\mD o.op=true)->wD R X->∀a H,vF P call ops l R a H=some (af,Hf)->qn P call ops (λx y=>x=af/\y=Hf) X none listed t a H:=by
 intro n;induction n with
 |zero =>
  intro L base l h A _ t listed w D _ _ X R Z UF a H T;unfold xb at h;split at h
  .rename_i hf;cases h;simp only[vF,aq]at T;cases T;have Bn:∀i,i ∉ Region.ready .any ops base:=by
    intro i hi;obtain⟨p,N,_,hr⟩:=Fq C A hi;have:=List.find?_eq_none.1 hf p N;exact this hr
   have hpn:t=[]:=iR.2 λm N=>Bn m (D m N).1
   subst hpn;refine qn.step (λ_=>⟨rfl,rfl,rfl⟩) λi hi=>absurd ?_ (Bn i)
   obtain⟨I,o,E,f⟩:=mem_ready.1 hi;have g:=(aF.1 E).1;exact mem_ready.2 ⟨((w.Fp A.size g).1 I).1,o,E,λe K G=>by simpa using (w.get _).1 (f e K G)⟩
  cases h
 |succ n ih =>
  intro L base l h A pX t listed w D U HU X R Z UF a H T;have ahD:tW ops listed:=by
   intro k o E hk' e K G;rcases (w.get k).1 hk' with z|z
   .exact (w.get _).2 (.inl (pX k o E z e K G))
   obtain⟨_,o',s,f⟩:=mem_ready.1 (D k z).1;rw[E]at s;cases s;exact(w.get _).2 (.inl (f e K G))
  unfold xb at h;split at h
  .rename_i p hf;have N:=j8 hf;have hqr:=List.find?_some hf;simp only[ak]at hqr;have Wr:=(qo C A N).1 hqr.2;have J:quiet P p.o.op=true:=by rw[<-(C.each p N).q];exact hqr.1
   have E:=(C.each p N).o;have g:p.i<ops.size:=(aF.1 E).1;have hnp:p.i ∉ t:=λhpi=>by
    obtain⟨_,o,s,hmk⟩:=D _ hpi;rw[E]at s;cases s;rw[z9 hmk]at J;cases J
   rw[ay]at h;split at h
   .rename_i hfree;split at h
    .rename_i l' hl';cases h;simp only[vF]at T;split at T
     .rename_i a1 H1 V;have hst':ku P call ops p.o a H=some (a1,H1):=by simpa[pQ] using V
      obtain⟨rfl,v,rfl,hy⟩:=QY.acv J hst';have hfr:=Fs C A N hfree;have acy:p.i∈Region.ready .any ops listed:=by
       obtain⟨I,o,s,f⟩:=mem_ready.1 Wr;exact mem_ready.2 ⟨(w.Fp A.size g).2 ⟨I,hnp⟩,o,s,λe K G=>(w.get _).2 (.inl (f e K G))⟩
      have hno:∀m∈t,∀o,ops[m]? = some o->∀e∈o.after,Region.binds .any e=true->e.on≠p.i:=by
       intro m c o s e K G heq;obtain⟨_,o2,Eo,f⟩:=mem_ready.1 (D m c).1;rw[s]at Eo;cases Eo;have z:=f e K G;rw[heq]at z;have I:=(mem_ready.1 Wr).1;have:base.getD p.i true=base.getD p.i false:=by have:=A.size;simp[Array.getD,this,g]
       rw[this,z]at I;cases I
      have up:∀q∈X,(base.setIfInBounds p.i true).getD q.1 true=true/\∃o,ops[q.1]? = some o/\mD o.op=true:=λq J=>⟨by
       by_cases e:p.i=q.1
       .rw[<-e];by_cases O:p.i<base.size<;>simp[Array.getD,O]
       rw[getD_set_ne true e];exact(Z q J).1,(Z q J).2⟩
      have self:(base.setIfInBounds p.i true).getD p.i true=true:=by by_cases O:p.i<base.size<;>simp[Array.getD,O]
      have Y:∀m∈t,m∈Region.ready .any ops (base.setIfInBounds p.i true)/\∃o,ops[m]? = some o/\makes P o=true:=λm c=>⟨ready_mono (D m c).1 (λe=>hnp (by rw[<-e];exact c)),(D m c).2⟩
      obtain⟨RL',hsub',hrd,ar0⟩:∃RL',(∀q∈X,q∈RL')/\(mD p.o.op=false\/∃pr,(p.i,pr)∈RL'/\QM p.o a pr)/\qn P call ops (λx y=>x=af/\y=Hf) RL' none (listed.setIfInBounds p.i true) t (a.put p.o.dst v) H1:=by
       cases hld:mD p.o.op with
       |false=>exact⟨X,λ_ h=>h,.inl rfl,ih _ _ _ hl' (A.add g) (pX.add Wr) t (listed.setIfInBounds p.i true) (w.set A.size g) Y U HU X _ up (UF.next _ _) _ _ T⟩
       |true =>
        obtain⟨pr,e1,e2⟩:=Qj UF a p.o p.i hld;exact⟨(p.i,pr)::X,λq J=>by simp[J],.inr ⟨pr,by simp,e1⟩,ih _ _ _ hl' (A.add g) (pX.add Wr) t (listed.setIfInBounds p.i true) (w.set A.size g) Y U HU _ _ (λq J=>by
         rcases bD.1 J with rfl|J
         .exact ⟨self,p.o,E,hld⟩
         exact up q J) e2 _ _ T⟩
      refine Qg hk hsel E J hsub' ar0 listed a rfl rfl hrd ?_ hno hnp ahD acy hy;rintro j oj Aa W (hj|hj) D1
      .exact hfr j oj Aa W ((w.Fp A.size (aF.1 Aa).1).1 hj).1 D1
      exact hfr j oj Aa W (mem_ready.1 (D j hj).1).1 D1
     cases T
    cases h
   cases h
  split at h
  .rename_i hf;cases h;simp only[vF,aq]at T;cases T;have Bn:∀i,i ∉ Region.ready .any ops base:=by
    intro i hi;obtain⟨p,N,_,hr⟩:=Fq C A hi;have:p∈pos.filter (vc L):=dF.2 ⟨N,hr⟩;rw[hf]at this;cases this
   have hpn:t=[]:=iR.2 λm N=>Bn m (D m N).1
   subst hpn;refine qn.step (λ_=>⟨rfl,rfl,rfl⟩) λi hi=>absurd ?_ (Bn i)
   obtain⟨I,o,E,f⟩:=mem_ready.1 hi;have g:=(aF.1 E).1;exact mem_ready.2 ⟨((w.Fp A.size g).1 I).1,o,E,λe K G=>by simpa using (w.get _).1 (f e K G)⟩
  rename_i q0 r0 hf;split at h;case h_2=>cases h
  rename_i p ms hch;obtain⟨c1,c2,c3⟩:=wC hch;rw[<-hf]at c1 c2 c3;obtain⟨N,hr⟩:=dF.1 c1;have Wr:=(qo C A N).1 hr;have E:=(C.each p N).o;have g:p.i<ops.size:=(aF.1 E).1;rw[ay]at h;split at h;case isFalse=>cases h
  rename_i ahC;split at h;case h_2=>cases h
  rename_i l' hl';cases h;simp only[vF]at T;split at T;case h_2=>cases T
  rename_i a1 H1 V
  -- what may wait
  have wait:∀m∈ms,m.o.apart ops p.o=true/\(∀r∈pos,bit r.pre m.i=true->Reach ops r.i p.i)/\∀M∈ms,m.i≠M.i->m.o.apart ops M.o=true:=by
   intro m hmm;have hmp:=(dF.1 (c3 m hmm).1).1;have z:=aN.1 ahC m hmm;simp only[ak,aN,dA,aU]at z;refine⟨uK (C.each m hmp) (C.each p N) z.1.1,λr F G=>?_,λM c hne=>?_⟩
   .rcases z.1.2 r F with B|B
    .rw[G]at B;cases B
    exact(C.each r F).anc _ B
   rcases z.2 M c with B|B
   .rw[aQ]at B;exact absurd B hne
   exact uK (C.each m hmp) (C.each M (dF.1 (c3 M c).1).1) B
  -- those that are ready are p,and those that may wait
  have cls:∀j∈Region.ready .any ops base,j=p.i\/∃m∈ms,m.i=j/\ops[j]? = some m.o/\makes P m.o=true:=by
   intro j hj;obtain⟨r,F,rfl,hrr⟩:=Fq C A hj;rcases c2 r (dF.2 ⟨F,hrr⟩) with rfl|hr2
   .exact .inl rfl
   exact .inr ⟨r,hr2,rfl,(C.each r F).o,by rw[<-(C.each r F).WB];exact(c3 r hr2).2⟩
  have up:∀q∈X,(base.setIfInBounds p.i true).getD q.1 true=true/\∃o,ops[q.1]? = some o/\mD o.op=true:=λq J=>⟨by
   by_cases e:p.i=q.1
   .rw[<-e];by_cases O:p.i<base.size<;>simp[Array.getD,O]
   rw[getD_set_ne true e];exact(Z q J).1,(Z q J).2⟩
  by_cases Qi:p.i∈t
  .
   -- it is done already: the row is paid
   obtain⟨l1,l2,rfl⟩:=List.append_of_mem Qi;obtain⟨_,o,s,hmk⟩:=D p.i Qi;rw[E]at s;cases s;have hnd':p.i ∉ l1++l2/\(l1++l2).Nodup:=by
    have:=(List.perm_middle (a:=p.i) (l₁:=l1) (l₂:=l2)).nodup_iff.1 U;exact mW.1 this
   have Q:∀{x},x∈l1++l2->x∈l1++p.i::l2:=λhx=>by
    rcases cg.1 hx with z|z
    .exact fC _ z
    exact jC _ (bI _ z)
   have hpl:∀m∈l1++l2,∀om,ops[m]? = some om->∀x,p.o.dst=some x->x ∉ om.looksAt ops:=by
    intro m c om Qe;rcases cls m (D m (Q c)).1 with B|⟨q,S,B,h3,_⟩
    .exact absurd (by rw[<-B];exact c) hnd'.1
    rw[Qe]at h3;cases h3;exact(Oper.apart_spec (wait q S).1).2.2
   exact qn.pay E hmk V hpl (ih _ _ _ hl' (A.add g) (pX.add Wr) (l1++l2) listed (w.pay A.size g)
    (λm c=>⟨ready_mono (D m (Q c)).1 (λe=>hnd'.1 (by rw[<-e];exact c)),(D m (Q c)).2⟩) hnd'.2 (λm hm1 M hm2=>HU m (Q hm1) M (Q hm2)) X _ up (UF.next _ _) _ _ T)
  -- by how many may still be done ahead
  have key:∀(k:Nat) (t:cY) (listed:iS),cnt ops listed<=k->CB ops base t listed->(∀m∈t,m∈Region.ready .any ops base/\∃o,ops[m]? = some o/\makes P o=true)->t.Nodup->(∀m∈t,∀M∈t,m≠M->∀o o',ops[m]? = some o->ops[M]? = some o'->o.dst≠o'.dst)->p.i ∉ t ->
   qn P call ops (λx y=>x=af/\y=Hf) X none listed t a H:=by
   intro k;induction k with
   |zero =>
    intro t listed hk' w _ _ _ Qi;exfalso;obtain⟨I,_⟩:=mem_ready.1 Wr;have:=Sv (ops:=ops) g ((w.Fp A.size g).2 ⟨I,Qi⟩);omega
   |succ k ihk =>
    intro t listed hk' w D U HU Qi;have ahD:tW ops listed:=by
     intro k o E hk' e K G;rcases (w.get k).1 hk' with z|z
     .exact (w.get _).2 (.inl (pX k o E z e K G))
     obtain⟨_,o',s,f⟩:=mem_ready.1 (D k z).1;rw[E]at s;cases s;exact(w.get _).2 (.inl (f e K G))
    have ar1:listed.getD p.i false=true->False:=λhh=>by
     rcases (w.get _).1 hh with z|z
     .have I:=(mem_ready.1 Wr).1;have:base.getD p.i true=base.getD p.i false:=by have:=A.size;simp[Array.getD,this,g]
      rw[this,z]at I;cases I
     exact Qi z
    have acy:p.i∈Region.ready .any ops listed:=by
     obtain⟨I,o,s,f⟩:=mem_ready.1 Wr;exact mem_ready.2 ⟨(w.Fp A.size g).2 ⟨I,Qi⟩,o,s,λe K G=>(w.get _).2 (.inl (f e K G))⟩
    have back:∀j∈Region.ready .any ops listed,j∈Region.ready .any ops base/\j ∉ t:=by
     intro j hj;obtain⟨I,o,Aa,f⟩:=mem_ready.1 hj;have acz:=(aF.1 Aa).1;obtain⟨b0,b1⟩:=(w.Fp A.size acz).1 I;refine⟨mem_ready.2 ⟨b0,o,Aa,λe K G=>?_⟩,b1⟩;rcases (w.get _).1 (f e K G) with z|z
     .exact z
     exfalso;rcases cls _ (D _ z).1 with B|⟨m,hmm,B,_⟩
     .exact Qi (by rw[<-B];exact z)
     obtain⟨r,F,hri⟩:=C.all j acz;have hro:=(C.each r F).o;rw[hri,Aa]at hro;have UC:o=r.o:=by cases hro;rfl
     have W7:Reach ops r.i p.i:=(wait m hmm).2.1 r F (by
      rw[(C.each r F).pre];exact(qB r.o m.i).2 ⟨e,by rw[<-UC];exact K,G,B.symm⟩)
     rw[hri]at W7;exact ar1 (MP ahD Aa f W7)
    refine qn.step (λI=>(by rw[I]at acy;cases acy)) λj hj=>?_
    obtain⟨hjb,hjp⟩:=back j hj;by_cases W:j=p.i
    .subst W;refine qn.sync E V (λq J=>?_) (λm c om Qe=>?_) (ih _ _ _ hl' (A.add g) (pX.add Wr) t _ (w.set A.size g) (λm c=>⟨ready_mono (D m c).1 (λe=>Qi (by rw[<-e];exact c)),(D m c).2⟩) U HU X _ up (UF.next _ _) _ _ T)
     .cases hlk:(!PY pos L p) with
      |true=>rw[hlk]at V;exact .inr (Qk hk UF V rfl q J)
      |false =>
       obtain⟨e1,o2,e2,e3⟩:=Z q J;exact .inl (MN C A N (by simpa using hlk) q.1 o2 e2 e3 e1)
     rcases cls m (D m c).1 with B|⟨q,S,B,h3,_⟩
     .exact absurd (by rw[<-B];exact c) Qi
     rw[Qe]at h3;cases h3;obtain⟨p1,p2,p3⟩:=Oper.apart_spec (wait q S).1;exact⟨λx hx=>⟨p1 x hx,p2 x hx⟩,p3⟩
    rcases cls j hjb with B|⟨q,S,B,h3,h4⟩
    .exact absurd B W
    have acz:=(aF.1 h3).1;have hq2:∀m∈t,m≠j:=λm c e=>hjp (by rw[<-e];exact c)
    have hdd:∀m∈t,∀om,ops[m]? = some om->om.dst≠q.o.dst/\∀x,om.dst=some x->x ∉ q.o.looksAt ops:=by
     intro m c om Qe;rcases cls m (D m c).1 with h5|⟨q',hqm',h5,h6,_⟩
     .exact absurd (by rw[<-h5];exact c) Qi
     rw[Qe]at h6;cases h6;obtain⟨p1,p2,_⟩:=Oper.apart_spec ((wait q' hqm').2.2 q S (by rw[h5,B];exact hq2 m c));obtain⟨_,⟨d,hdq⟩,_⟩:=tV h4;exact⟨λe=>p2 d (by rw[e,hdq]) hdq,p1⟩
    have xP:(sU P a.eval q.o).isSome=true:=by
     obtain⟨u,rfl⟩:=nj V;have hqp:=(dF.1 (c3 q S).1).1;rw[<-xQ (ops:=ops) a u (Oper.apart_spec (wait q S).1).2.2];exact UD hk hsel C n _ _ _ hl' (A.add g) q hqp (c3 q S).2 ((qo C (A.add g) hqp).2 (by rw[B];exact ready_mono hjb W)) _ _ _ T
    refine qn.owe h3 h4 xP hdd (ihk (j::t) _ (by have:=(Cz hj).2.2;omega) (w.owe acz) (λm c=>?_) (mW.2 ⟨hjp,U⟩) (λm hm1 M hm2 hne o o' e1 e2=>?_) (λhpm=>?_))
    .rcases bD.1 c with rfl|c
     .exact ⟨hjb,q.o,h3,h4⟩
     exact D m c
    .rcases bD.1 hm1 with g1|g1
     .rw[g1,h3]at e1;cases e1;rcases bD.1 hm2 with g2|g2
      .exact absurd (g1.trans g2.symm) hne
      exact kZ (hdd M g2 o' e2).1
     rcases bD.1 hm2 with g2|g2
     .rw[g2,h3]at e2;cases e2;exact(hdd m g1 o e1).1
     exact HU m g1 M g2 hne o o' e1 e2
    rcases bD.1 hpm with e|hpm
    .exact W e.symm
    exact Qi hpm
  exact key _ t listed (aG _) w D U HU Qi
theorem Ft (o:Oper)(lk:Bool)(l:List (Oper×Bool))(R:gS)(f:Fr)(H:Mem):zH P call ops.toList ((o,lk)::l) R f H=match sn P call ops.toList R lk o f H with|some (a,b)=>zH P call ops.toList l (rI f.eval o R) a b|none=>none:=by
 show Option.rec (motive:=λ_=>Option (Fr×Mem)) none (λr=>zH P call ops.toList l (rI f.eval o R) r.1 r.2) (sn P call ops.toList R lk o f H)=_;cases sn P call ops.toList R lk o f H with
 |none=>rfl
 |some r=>rfl
theorem Iu:∀(l:List (Oper×Bool)) {R:gS} {f b:Fr} {a:Act} {H c:Mem},Em f a->zH P call ops.toList l R f H=some (b,c)->∃d,vF P call ops l R a H=some (d,c)/\Em b d
 |[],R,f,b,a,H,c,e,h=>by
  have g:some (f,H)=some (b,c):=h;cases g;exact⟨a,rfl,e⟩
 |(o,lk)::l,R,f,b,a,H,c,e,h=>by
  rw[Ft]at h;split at h
  .rename_i p q i;obtain⟨a1,j,k⟩:=Uy e i;rw[e.eval]at h;obtain⟨d,m,n⟩:=Iu l k h;exact⟨d,by simp only[vF,j];exact m,n⟩
  cases h
theorem W8 {o:Oper}{s:Operand}(d:nV o.op=some s){l:List Oper}{f n:Fr}{H p:Mem} (h:jj P call l o f { H with lk:=H.size }=some (n,p)) :
 jj P call l o f H=some (n,H)/\p={ H with lk:=H.size }:=by
 unfold jj at h ⊢;rw[ay]at h ⊢;split at h
 .rename_i g;rw[ag g];unfold nV at d;split at d
  .rename_i t b x i;have e:∀M,kD P call f.eval o M=rU P t (f.eval b) (f.eval x) M:=λM=>by unfold kD;rw[i]
   rw[e]at h ⊢;have key:∀{c:Mem},tN P { H with lk:=H.size } t (f.eval b) (f.eval x)=some c->tN P H t (f.eval b) (f.eval x)=some H/\c={ H with lk:=H.size }:=by
    intro c a;unfold tN at a ⊢;split at a
    .split at a
     .rename_i j;simp only[ag j];unfold js at a ⊢;split at a
      .rename_i k;cases a;exact⟨ag k,rfl⟩
      split at a
      .split at a
       .obtain ⟨q1,q2,q3,u,v⟩:=Mem.mE a;exfalso;simp only at q1 q2;omega
       cases a
      cases a
     cases a
    cases a
   unfold rU at h ⊢;cases a:tN P { H with lk:=H.size } t (f.eval b) (f.eval x) with
   |none=>rw[a]at h;cases h
   |some c =>
    obtain⟨q,rfl⟩:=key a;rw[a]at h;rw[q];unfold vt at h ⊢;simp only at h ⊢;split at h
    .rename_i r m;cases h;exact⟨by simp only[m],rfl⟩
    cases h
  cases d
 rename_i g;rw[aa g];unfold vt at h ⊢;simp only at h ⊢;split at h
 .rename_i r m;cases h;exact⟨by simp only[m],rfl⟩
 cases h
theorem Iw (o:Oper)(l:List Oper)(f:Fr)(H:Mem):Mi P call ops.toList (o::l) f H=match vu P call ops.toList o f H with|some (a,b)=>Mi P call ops.toList l a b|none=>none:=by
 show Option.rec (motive:=λ_=>Option (Fr×Mem)) none (λr=>Mi P call ops.toList l r.1 r.2) (vu P call ops.toList o f H)=_;cases vu P call ops.toList o f H with
 |none=>rfl
 |some r=>rfl
end
end Go.Ev
namespace Go.Ev
open Go.RowKit
def holds (c:Cx)(ρ:Ren)(H:Mem)(r:Nat):Prop:=r<c.B\/c.K r≠none\/∃i b x,H.get i=some b/\(b.live=true\/jK b=true)/\ρ i=some (r,x)
structure Fu (O:Nat->Prop)(W W':World):Prop where
 os:W'.os=W.os
 tape:W'.tape=W.tape
 output:W'.output=W.output
 size:W.heap.size<=W'.heap.size
 same:∀r,O r->W'.heap[r]? = W.heap[r]?
theorem fc.beside {c:Cx}{ρ:Ren}{H:Mem}{w w':World}(h:fc c ρ H w)(a:Fu (holds c ρ H) w w'):fc c ρ H w':=by
 refine⟨⟨⟨a.os.trans h.below.os,a.tape.trans h.below.tape,a.output.trans h.below.output,bA h.below.size a.size,λk j=>(a.same k (.inl j)).trans (h.below.block k j)⟩,λr o m=>?_⟩,
  bA h.base a.size,h.dom,h.lk,h.A0,h.kE,λi b hi p=>?_,h.inj,λi b hi q=>?_,h.xm⟩
 .rw[a.same r (.inr (.inl (by rw[m];simp)))];exact h.stay.kept r o m
 .obtain ⟨r,x,C,fr,s,d,e,f,g⟩:=h.blk i b hi p;exact⟨r,x,C,fr,s,d,e,by rw[a.same r (.inr (.inr ⟨i,b,x,hi,.inl p,d⟩))];exact f,g⟩
 obtain⟨r,es,clock,d,e,f,g⟩:=h.maps i b hi q;exact⟨r,es,clock,d,e,by rw[a.same r (.inr (.inr ⟨i,b,0,hi,.inr q,d⟩))];exact f,g⟩
theorem fc.MQ {c:Cx}{ρ:Ren}{H:Mem}{w:World}(h:fc c ρ H w){r:Nat}(a:holds c ρ H r):r<w.heap.size:=by
 have lt:∀{k:Nat} {o:Obj},w.heap[k]? = some o->k<w.heap.size:=λh=>(aF.1 h).1
 rcases a with a|a|⟨i,b,x,hi,e,hρ⟩
 .exact cU a h.base
 .cases g:c.K r with
  |none=>exact absurd g a
  |some o=>exact lt (h.stay.kept r o g)
 rcases e with e|j
 .obtain ⟨r',m,C,fr,s,d,_,f,_⟩:=h.blk i b hi e;rw[hρ]at d;cases d;exact lt f
 obtain⟨r',es,clock,d,_,f,_⟩:=h.maps i b hi j;rw[hρ]at d;cases d;exact lt f
theorem fc.Kk {c:Cx}{ρ:Ren}{H:Mem}{w:World}(h:fc c ρ H w){i:Nat}{b:kV}{r x:Nat}(hi:H.get i=some b)(e:b.live=true\/jK b=true)(hρ:ρ i=some (r,x)):c.K r=none:=by
 rcases e with e|f
 .obtain ⟨r',g,C,fr,s,d,a,_⟩:=h.blk i b hi e;rw[hρ]at d;cases d;rcases a with a|a<;>exact a.2
 obtain⟨r',es,clock,d,a,_⟩:=h.maps i b hi f;rw[hρ]at d;cases d;exact a.2
open Classical in
noncomputable def Bq (c:Cx)(ρ:Ren)(H:Mem)(W:World)(r:Nat):Option Obj :=
 if c.K r≠none then c.K r else if holds c ρ H r then none else W.heap[r]?
theorem fc.hold {c:Cx}{ρ:Ren}{H:Mem}{w:World}(h:fc c ρ H w):fc (c.kp (Bq c ρ H w)) ρ H w:=by
 have no:∀{i:Nat} {b:kV} {r x:Nat},H.get i=some b->(b.live=true\/jK b=true)->ρ i=some (r,x)->Bq c ρ H w r=none:=λ{i b r x} hi d hρ=>by
  unfold Bq;rw[aa (by rw[h.Kk hi d hρ];simp),ag (.inr (.inr ⟨i,b,x,hi,d,hρ⟩))]
 refine⟨⟨h.below,λr o a=>?_⟩,h.base,h.dom,h.lk,h.A0,h.kE,λi b hi d=>?_,h.inj,λi b hi k=>?_,h.xm⟩
 .have a:Bq c ρ H w r=some o:=a;unfold Bq at a;split at a
  .exact h.stay.kept r o a
  split at a
  .cases a
  exact a
 .obtain ⟨r,x,C,fr,s,e,f,j⟩:=h.blk i b hi d;have m:(c.kp (Bq c ρ H w)).K r=none:=no hi (.inl d) e;exact⟨r,x,C,fr,s,e,f.imp (λg=>⟨g.1,m⟩) (λg=>⟨g.1,m⟩),j⟩
 obtain⟨r,es,clock,e,f,j⟩:=h.maps i b hi k;exact⟨r,es,clock,e,⟨f.1,no hi (.inr k) e⟩,j⟩
def sx (K:Nat->Option Obj)(m:Nat)(o:Obj):Nat->Option Obj:=λr=>if r=m then some o else K r
def MR (K:Nat->Option Obj)(m:Nat):Nat->Option Obj:=λr=>if r=m then none else K r
theorem fc.Kl {c:Cx}{ρ:Ren}{H:Mem}{w:World}{K:Nat->Option Obj}(h:fc (c.kp K) ρ H w){m:Nat}{o:Obj}(A:K m=some o)(I:c.B<=m)(f:Obj):fc (c.kp (sx K m f)) ρ H (w.putObj m f):=by
 have G:w.heap[m]? = some o:=h.stay.kept m o A;have v:m<w.heap.size:=(aF.1 G).1;have ne:∀{i:Nat} {b:kV} {r x:Nat},H.get i=some b->(b.live=true\/jK b=true)->ρ i=some (r,x)->r≠m:=λ{i b r x} hi t hρ e=>by
  subst e;have:=h.Kk hi t hρ;have:K r=none:=this;rw[A]at this;cases this
 have d:∀r,r≠m->(w.putObj m f).heap[r]? = w.heap[r]? := λr a=>World.putObj_heap_other a
 have j:∀{r:Nat},r≠m->sx K m f r=K r:=λa=>aa a
 have p:(w.putObj m f).heap.size=w.heap.size:=by simp
 refine⟨⟨⟨h.below.os,h.below.tape,h.below.output,by rw[p];exact h.below.size,λk D=>(d k (by have:k<c.B:=D;omega)).trans (h.below.block k D)⟩,λr E a=>?_⟩,by rw[p];exact h.base,h.dom,h.lk,h.A0,h.kE,λi b hi t=>?_,h.inj,λi b hi F=>?_,h.xm⟩
 .have a:sx K m f r=some E:=a;by_cases e:r=m
  .subst e;unfold sx at a;rw[ag rfl]at a;cases a;exact World.putObj_heap_same v
  rw[j e]at a;rw[d r e];exact h.stay.kept r E a
 .obtain ⟨r,x,C,fr,s,q,u,y,z⟩:=h.blk i b hi t;have e:=ne hi (.inl t) q;have e2:(c.kp (sx K m f)).K r=(c.kp K).K r:=j e;exact⟨r,x,C,fr,s,q,u.imp (λg=>⟨g.1,e2.trans g.2⟩) (λg=>⟨g.1,e2.trans g.2⟩),(d r e).trans y,z⟩
 obtain⟨r,es,clock,q,u,y,z⟩:=h.maps i b hi F;have e:=ne hi (.inr F) q;have e2:(c.kp (sx K m f)).K r=(c.kp K).K r:=j e;exact⟨r,es,clock,q,⟨u.1,e2.trans u.2⟩,(d r e).trans y,z⟩
theorem fc.ahF {c:Cx}{ρ:Ren}{H:Mem}{w:World}(h:fc c ρ H w):fc { c with w0:=w } ρ H w :=
 ⟨⟨Below.refl _ _,h.stay.kept⟩,h.base,h.dom,h.lk,h.A0,h.kE,h.blk,h.inj,h.maps,h.xm⟩
theorem fc.ahG {c:Cx}{ρ:Ren}{H:Mem}{w W:World} (h:fc { c with w0:=W } ρ H w) (a:Below c.B c.w0 W):fc c ρ H w :=
 ⟨⟨a.trans h.below,h.stay.kept⟩,h.base,h.dom,h.lk,h.A0,h.kE,h.blk,h.inj,h.maps,h.xm⟩
def mark (m:Nat):Deferred:={ target:=.collected m,args := #[] }
def Marks (B:Nat)(K0:Nat->Option Obj):(Nat->Option Obj)->List Deferred->Prop
 |K,[]=>∀r o,K0 r=some o->K r=some o
 |K,d::D=>∃m,d=mark m/\B<=m/\K m=some (.deferred (some []))/\Marks B K0 (MR K m) D
theorem Marks.mono {B:Nat}{K0:Nat->Option Obj}:∀{D:List Deferred} {K b:Nat->Option Obj},(∀r o,K r=some o->b r=some o)->Marks B K0 K D->Marks B K0 b D
 |[],K,b,h,e=>λr o a=>h r o (e r o a)
 |d::D,K,b,h,⟨m,f,g,i,j⟩=>⟨m,f,g,h _ _ i,j.mono λr o a=>by
  unfold MR at a ⊢;split at a
  .cases a
  rename_i c;rw[aa c];exact h r o a⟩
theorem Marks.push {B:Nat}{K0 K:Nat->Option Obj}{D:List Deferred}(h:Marks B K0 K D){m:Nat}(c:B<=m)(d:K m=none):Marks B K0 (sx K m (.deferred (some []))) (mark m::D) :=
 ⟨m,rfl,c,ag rfl,h.mono λr o b=>by
  have a:r≠m:=λe=>by subst e;rw[d]at b;cases b
  unfold MR sx;rw[aa a,aa a];exact b⟩
def Km (P:Program)(b:FuncId)(s:ByteArray)(items:aW):Prop :=
 (∀args w,(callFunc b args).run P w = .ok (.enter b args) w)/\∀(n l rs:Nat) (W:World) (O:Nat->Prop) (J:Nat->(Nat->Prop)->World->Prop) (d:(Nat->Prop)->World->Prop),9<=n ->
  W.cell? ⟨rs,0,none⟩=some (.string s)->W.frozen? ⟨rs,0,none⟩=false->¬O rs ->
  (∀i O W a,J i O W->Fu O W a->J i O a)->(∀O W a,d O W->Fu O W a->d O a)->(∀i O W,J i O W->∀r,O r->r<W.heap.size)->(∀O W,d O W->∀r,O r->r<W.heap.size) ->
  (∀i O W x,J i O W->items[i]? = some x->YieldAt Fence.wide n P l #[x] W λe a=>∃c,W.heap.size<=a.heap.size/\(∀r,c r->O r\/W.heap.size<=r)/\(∀r,r<W.heap.size->¬O r->a.heap[r]? = W.heap[r]?) /\
   ((e = .returned (.bool true)/\J (i+1) c a)\/(e = .returned (.bool false)/\d c a))) ->
  J 0 O W->CallsIn Fence.wide n P b #[.func (.yield l) #[] #[],.pointer (some ⟨rs,0,none⟩)] W λe a=>(∃v,e = .returned v)/\∃c,J items.length c a\/d c a
section
variable {P:Program} {ops:Array Oper} {l n:Nat}
theorem am5 {Q:Exit->Act->World->Prop}(k:∀a w,¬Q .outgrown a w){o:Oper}(b:tS o=true){K g:Act->World->Prop}(d:∀a w,K a w->g a w){a:Act}{w:World}
 (h:o.wp P a w K Q\/(o.asks P a w/\LetsOut Q)):o.wpIn (Fence.wide.inRound l) n P a w g Q:=by
 rcases h with h|⟨_,t,w',h⟩;case inr=>exact absurd h (k _ _)
 have f:∀c,o.op ≠ .defer c:=λc e=>by unfold tS at b;rw[e]at b;cases b
 refine⟨λ_ _=>trivial,?_⟩;have:(Fence.wide.inRound l).round=some l:=rfl;rw[this,Oper.semAt_some l a.eval o f];unfold Oper.wp at h;generalize (execOp a.eval o).run P w=r at h ⊢;have i:(Fence.wide.inRound l).depth.isSome=true->1<=n:=λe=>by simp[Fence.wide]at e
 cases r with
 |ok x w' =>
  cases x<;>simp only[Oper.upon,Oper.uponIn]at h ⊢ <;>
   first
    |exact d _ _ h
    |exact h.elim
    |exact⟨i,callsIn_wide (n:=n-1) |>.2 (Calls.mono h (λe m j=>by cases e<;>first|exact d _ _ j|exact j))⟩
    |exact⟨i,λc cs _=>let ⟨v,p,q,s⟩:=h c cs;⟨v,p,d _ _ q,stepsIn_wide.2 s⟩⟩
 |halt x w'=>cases x<;>simp only[Oper.upon,Oper.uponIn]at h ⊢ <;> exact h
theorem W9 {Q:Exit->Act->World->Prop}(d:∀a w,¬Q .outgrown a w):∀(L:List Oper),L.all tS=true->∀(a:Act) (w:World),wpList P ops Q L a w->wpListIn (Fence.wide.inRound l) n P ops Q L a w
 |[],_,a,w,h=>h
 |o::L,b,a,w,h=>by
  rw[ck,ak]at b;have e:=W9 d L b.2;simp only[wpList]at h;simp only[wpListIn];split
  .rename_i c;rw[ag c]at h;exact am5 d b.1 e h
  rename_i c;rw[aa c]at h;exact⟨λ_ _=>trivial,e _ _ h⟩
theorem SA {Q:Exit->Act->World->Prop}(c:∀a w,¬Q .outgrown a w)(d:ops.toList.all tS=true):∀(fuel:Nat) (listed:iS) (a:Act) (w:World),wpAny P .any ops Q fuel listed a w->wpAnyIn (Fence.wide.inRound l) n P .any ops Q fuel listed a w
 |0,listed,a,w,h=>h
 |fuel+1,listed,a,w,h=>by
  refine⟨h.1,λi hi=>?_⟩;have b:=h.2 i hi;unfold wpOp at b;unfold wpOpIn;split
  .rename_i e;simp only[e]at b;exact SA c d fuel _ _ _ b
  rename_i o e;simp only[e]at b;have f:tS o=true:=aN.1 d o (by have:=bq e;simpa using this);split
  .rename_i g;rw[ag g]at b;exact am5 c f (SA c d fuel _) b
  rename_i g;rw[aa g]at b;exact⟨λ_ _=>trivial,SA c d fuel _ _ _ b⟩
end
end Go.Ev
namespace Go.Ev
open Go.RowKit
section
variable {P:Program} {call:dx} {ops:Array Oper} {GR:List kV}
def Fv (K0:Nat->Option Obj)(c:Cx)(ρ:Ren)(f:Fr)(ar:Act):Prop:=∃a,Em f a/\Cj ρ a ar/\Marks c.B K0 c.K a.defers
theorem Kn {f c:Fr}{a a1:Act}{o:Oper}{H b:Mem}(e:Em f a)(h:jj P call ops.toList o f H=some (c,b))(d:ku P call ops o a H=some (a1,b)):a1.defers=a.defers:=by
 obtain⟨u,rfl⟩:=xR d;cases o.dst<;>rfl
theorem Dx {o:Oper}{f a:Fr}{H b:Mem}{l:List Oper}(h:vu P call l o f H=some (a,b)) :
 jj P call l o f H=some (a,b)\/∃v,oX o l f=true/\HO P f.eval o=some v/\f.put o.dst v=some a/\b=H:=by
 unfold vu at h;split at h
 .rename_i r d;cases h;exact .inl d
 rw[ay]at h;split at h
 .rename_i e;unfold vt at h;split at h
  .rename_i v j g;obtain⟨c,e2⟩:=bY g;split at h
   .rename_i k i;cases h;exact .inr ⟨v,e,c,i,e2⟩
   cases h
  cases h
 cases h
theorem Xa (p:j6 P){G:Nat}{o:Oper}{a ar:Act}{H:Mem}{v:Value}(i:o.op.operands.toList.all (eU G)=true)(q:Region.wanted o (yielded ops a.tmps)=true)(h:HO P a.eval o=some v){c:Cx}(r:c.P=P)(s:c.At G GR){w:World}{ρ:Ren}(e:Cj ρ a ar)(k:fc c ρ H w)
 {Q:Exit->Act->World->Prop} {K:Act->World->Prop} (l:∀ ρ' b w',ρ.le ρ'->Cj ρ' (a.put o.dst v) b->fc c ρ' H w'->K b w') :
 if Region.wanted o (yielded ops ar.tmps) then o.wp P ar w K Q\/(o.asks P ar w/\LetsOut Q) else K (ar.put o.dst undef) w:=by
 subst r;have j:=s.g;subst j;have t:EvR ρ a.eval ar.eval o.op:=λx u=>e.eval k.kE (aN.1 i x (by simpa using u))
 rw[Fg e,ag q];refine .inl ?_;unfold Oper.wp;obtain⟨ρ',w',v',f,m,n,d⟩:=ahv k t h;rcases d with d|⟨d,rfl⟩
 .rw[d];exact l ρ' _ _ f ((e.mono f).put o.dst n) m
 rw[d];exact l ρ' _ _ f ((e.mono f).put o.dst n) m
theorem Ko (e:j6 P){G:Nat}(b:rJ P G GR call){c:Cx}(q:c.P=P)(r:c.At G GR){Q:Exit->Act->World->Prop}:∀(l:List Oper) {f n:Fr} {a ar:Act} {H p:Mem} {ρ:Ren} {w:World},(∀o∈l,o.op.operands.toList.all (eU G)=true)->Mi P call ops.toList l f H=some (n,p)->Em f a->Cj ρ a ar->fc c ρ H w ->
 (∀ ρ' z g w',ρ.le ρ'->Em n z->z.defers=a.defers->Cj ρ' z g->fc c ρ' p w'->Q .normal g w')->wpList P ops Q l ar w
 |[],f,n,a,ar,H,p,ρ,w,_,h,j,s,t,u=>by
  have N:some (f,H)=some (n,p):=h;cases N;exact u ρ a ar w (Ren.le_refl _) j rfl s t
 |o::l,f,n,a,ar,H,p,ρ,w,i,h,j,s,t,u=>by
  rw[Iw]at h;split at h
  .rename_i S T y;rcases Dx y with y|⟨v,K,L,O,rfl⟩
   .obtain ⟨a1,M,R⟩:=vD j y;have A:=Kn j y M;exact Fh (Q:=Q) e b (i o (by simp)) M q r s t fun ρ' g w' B k2 C=>Ko e b q r l (λx D=>i x (by simp[D])) h R k2 C fun ρ'' k d m m1 E F I J=>u ρ'' k d m (Ren.le_trans B m1) E (F.trans A) I J
   have A:(a.put o.dst v).defers=a.defers:=by cases o.dst<;>rfl
   rw[j.wanted]at K;rw[j.eval]at L;exact Xa (Q:=Q) e (i o (by simp)) K L q r s t fun ρ' g w' B k2 C=>Ko e b q r l (λx D=>i x (by simp[D])) h (j.put O) k2 C fun ρ'' k d m m1 E F I J=>u ρ'' k d m (Ren.le_trans B m1) E (F.trans A) I J
  cases h
theorem Fw (e:gp call):∀(l:List Oper) {f c:Fr} {H b:Mem},Mi P call ops.toList l f H=some (c,b)->iZ H b
 |[],f,c,H,b,h=>by
  have g:some (f,H)=some (c,b):=h;cases g;exact .refl _
 |o::l,f,c,H,b,h=>by
  rw[Iw]at h;split at h
  .rename_i i j a;refine iZ.trans ?_ (Fw e l h);rcases Dx a with a|⟨_,_,_,_,rfl⟩;case inr=>exact .refl _
   unfold jj at a;rw[ay]at a;split at a
   .unfold vt at a;split at a
    .rename_i v k d;split at a
     .cases a;exact Cy e d
     cases a
    cases a
   unfold vt at a;simp only at a;split at a
   .cases a;exact .refl _
   cases a
  cases h
theorem MS (j:gp call){o:Oper}{R:gS}{lk:Bool}{f d:Fr}{H c:Mem}(h:sn P call ops.toList R lk o f H=some (d,c)):iZ H c:=by
 have b:∀{H c:Mem} {d:Fr},jj P call ops.toList o f H=some (d,c)->iZ H c:=by
  intro H c d a;unfold jj at a;rw[ay]at a;split at a
  .unfold vt at a;split at a
   .rename_i v k e;split at a
    .cases a;exact Cy j e
    cases a
   cases a
  unfold vt at a;simp only at a;split at a
  .cases a;exact .refl _
  cases a
 unfold sn at h;rw[ay]at h;split at h
 .split at h
  .rw[ay]at h;split at h
   .exact b h
   cases h
  rw[ay]at h;split at h
  .exact b h
  split at h
  .rename_i l m a;cases h;obtain⟨q1,_,q3⟩:=b a;exact⟨q1,rfl,λi _ g=>q3 i g g⟩
  cases h
 exact b h
theorem Dy (c:gp call):∀(l:List (Oper×Bool)) {R:gS} {f b:Fr} {H a:Mem},zH P call ops.toList l R f H=some (b,a)->iZ H a
 |[],R,f,b,H,a,h=>by
  have d:some (f,H)=some (b,a):=h;cases d;exact .refl _
 |(o,lk)::l,R,f,b,H,a,h=>by
  rw[Ft]at h;split at h
  .rename_i g i e;exact(MS c e).trans (Dy c l h)
  cases h
def jx.exit':jx->Exit
 |.normal=>.normal
 |.exit id=>.exit id
 |.ret=>.ret
 |.goto l=>.goto l
def xS (P:Program)(G:Nat)(GR:List kV)(g:Fr->Mem->Out)(i:Code):Prop :=
 ∀f H d e b,g f H=some (d,e,b)->iZ H b/\∀(c:Cx) (K0:Nat->Option Obj),c.P=P->c.At G GR->∀ ρ ar w,Fv K0 c ρ f ar->fc c ρ H w->∀Q:Exit->Act->World->Prop,
  (∀h ρ' a w',ρ.le ρ'->Fv K0 (c.kp h) ρ' e a->fc (c.kp h) ρ' b w'->Q d.exit' a w')->i.wp P Q ar w
theorem Cx.At.kp {c:Cx}{G:Nat}(h:c.At G GR)(K:Nat->Option Obj):(c.kp K).At G GR:=⟨h.g,h.rows,h.len⟩
theorem xT (h:Ic ops.toList=true):∀(j:Nat) (o:Oper) cs b,ops[j]? = some o->o.op ≠ .select cs b:=by
 intro j o cs b a c;have d:o∈ops.toList:=by
  have:=bq a;simpa using this
 have:=aN.1 h o d;simp[c]at this
theorem Fx {r:Option (Fr×Mem)}{a:jx}{f:Fr}{H:Mem}(h:atEnd r=some (a,f,H)):a = .normal/\r=some (f,H):=by
 cases r with
 |none=>cases h
 |some q =>
  have b:some (jx.normal,q.1,q.2)=some (a,f,H):=h;cases b;exact⟨rfl,rfl⟩
theorem Br:∀(l:List (Oper×Bool)) {R:gS} {a b:Act} {H c:Mem},vF P call ops l R a H=some (b,c)->b.defers=a.defers
 |[],R,a,b,H,c,h=>by
  have d:some (a,H)=some (b,c):=h;cases d;rfl
 |(o,lk)::l,R,a,b,H,c,h=>by
  simp only[vF]at h;split at h
  .rename_i a1 f e;obtain⟨u,rfl⟩:=nj e;refine(Br l h).trans ?_;cases o.dst<;>rfl
  cases h
theorem Dz (g:j6 P){G:Nat}(d:rJ P G GR call)(y:gp call){draw:Bool}{f R:Fr}{H A:Mem}{S:jx}(h:rV P G call ops draw f H=some (S,R,A)) :
 S = .normal/\iZ H A/\∀(c:Cx),c.P=P->c.At G GR->∀ ρ a ar w,Em f a->Cj ρ a ar->fc c ρ H w->∀Q:Exit->Act->World->Prop,
  (∀ ρ' z e w',ρ.le ρ'->Em R z->z.defers=a.defers->Cj ρ' z e->fc c ρ' A w'->Q .normal e w') ->
  (draw=true->wpAny P .any ops Q ops.size (Array.replicate ops.size false) ar w.drew)/\(draw=false->wpList P ops Q ops.toList ar w):=by
 unfold rV at h;rw[ay]at h;split at h;case isFalse=>cases h
 rename_i i;rw[ay]at h;split at h
 .rename_i B;subst B;cases b:plan P ops with
  |none=>rw[b]at h;cases h
  |some l =>
   rw[b]at h;obtain⟨rfl,n⟩:=Fx (r:=zH P call ops.toList l (some []) f H) h;unfold plan PZ at b;rw[ay]at b;split at b;case isFalse=>cases b
   rename_i p;refine⟨rfl,Dy y l n,λc C D ρ a ar w E T F Q I=>⟨λ_=>?_,(λh=>by cases h)⟩⟩;obtain⟨z,s,J⟩:=Iu l E n;have L:=Br l s;have U:tW ops (Array.replicate ops.size false):=by
    intro k o _ t;by_cases u:k<ops.size
    .simp[Array.getD,u]at t
    simp[Array.getD,u]at t
   have M:=UE y (xT p) af1 _ _ _ _ b Sz.zero U [] (Array.replicate ops.size false) ⟨by simp,λj=>by simp⟩ (λm N=>(by cases N)) List.nodup_nil (λm N=>(by cases N)) [] (some []) (λq v=>(by cases v)) (λq v=>(by cases v)) a H s;refine acs g i d y (xT p) (c:=c) C D M c.K [] ρ w.drew ar rfl ⟨λq v=>(by cases v),λr _=>rfl,List.nodup_nil,List.Pairwise.nil⟩ T F.drew ?_ ops.size (Sw _);rintro V W ρ' e w' ⟨rfl,rfl⟩ X Y Z;exact I ρ' _ e w' X J L Y Z
 rename_i B;have O:draw=false:=by simpa using B
 subst O;obtain⟨rfl,x⟩:=Fx h;exact⟨rfl,Fw y _ x,λc C D ρ a ar w E hs F Q I=>⟨(λh=>by cases h),λ_=>Ko g d C D ops.toList (λo ho=>aN.1 i o ho) x E hs F I⟩⟩
theorem yY (d:j6 P){G:Nat}(b:rJ P G GR call)(j:gp call)(k:P.follows .mixedOrders=true)(id:Nat)(draw:Bool):xS P G GR (rV P G call ops draw) (.region id ops draw):=by
 intro f H A B C h;obtain⟨rfl,l,m⟩:=Dz d b j h;refine⟨l,λc K0 n o ρ ar w p q Q r=>?_⟩;obtain⟨a,s,t,e⟩:=p;have g:=m c n o ρ a ar w s t q Q fun ρ' u i w' m1 v x y z=>r c.K ρ' i w' m1 ⟨u,v,y,by rw[x];exact e⟩ z
 cases draw with
 |true=>exact wp_region_any k (g.1 rfl)
 |false=>exact wp_region_list (g.2 rfl)
def Xb (ρ:Ren)(f:Fr)(ar:Act):Prop:=∃a,Em f a/\Cj ρ a ar/\a.defers=[]
def xU (P:Program)(G:Nat)(GR:List kV)(l:Nat)(g:Fr->Mem->Out)(h:Code):Prop :=
 ∀f H b d e,g f H=some (b,d,e)->∀(c:Cx),c.P=P->c.At G GR->∀n ρ ar w,Xb ρ f ar->fc c ρ H w->∀Q:Exit->Act->World->Prop,
  (∀ ρ' a w',ρ.le ρ'->Xb ρ' d a->fc c ρ' e w'->Q b.exit' a w')->h.wpIn (Fence.wide.inRound l) n P Q ar w
theorem MT (i:j6 P){G l:Nat}(b:rJ P G GR call)(p:gp call)(q:P.follows .mixedOrders=true)(id:Nat)(draw:Bool)(o:ops.toList.all tS=true):xU P G GR l (rV P G call ops draw) (.region id ops draw):=by
 intro f H F I J h c r s n ρ ar w t u Q v;obtain⟨rfl,_,x⟩:=Dz i b p h;obtain⟨a,y,z,j⟩:=t
 let k:Exit->Act->World->Prop:=λe a w=>match e with
  |.normal=>Q .normal a w
  |_=>False
 have d:∀a w,¬k .outgrown a w:=λ_ _ h=>h
 have g:=x c r s ρ a ar w y z u k fun ρ' A m w' m1 B C D E=>v ρ' m w' m1 ⟨A,B,D,by rw[C];exact j⟩ E
 refine Go.wpIn_mono (Q:=k) ?_ (λe a w h=>by cases e<;>first|exact h|exact h.elim);cases draw with
 |true=>exact wpIn_region_any q (SA d o _ _ _ _ (g.1 rfl))
 |false=>exact wpIn_region_list (W9 d _ o _ _ (g.2 rfl))
theorem Kq {G l:Nat}{g k:Fr->Mem->Out}{x y:Code}(o:xU P G GR l g x)(hy:xU P G GR l k y):xU P G GR l (λf H=>andThen (g f H) k) (.seq x y):=by
 intro f H z A B v;have h:andThen (g f H) k=some (z,A,B):=v;clear v;intro c i j n ρ ar w p q Q r;unfold andThen at h;split at h
 .rename_i s t b;exact wpIn_seq (o _ _ _ _ _ b c i j n ρ ar w p q _ fun ρ' a w' m1 d e=>hy _ _ _ _ _ h c i j n ρ' a w' d e Q fun ρ'' m u n1 n2 n3=>r ρ'' m u (Ren.le_trans m1 n1) n2 n3)
 .rename_i id s t b;cases h;exact wpIn_seq (o _ _ _ _ _ b c i j n ρ ar w p q _ fun ρ' a w' m1 d e=>r ρ' a w' m1 d e)
 .rename_i s t b;cases h;exact wpIn_seq (o _ _ _ _ _ b c i j n ρ ar w p q _ fun ρ' a w' m1 d e=>r ρ' a w' m1 d e)
 .rename_i l s t b;cases h;exact wpIn_seq (o _ _ _ _ _ b c i j n ρ ar w p q _ fun ρ' a w' m1 d e=>r ρ' a w' m1 d e)
 cases h
theorem Iy {G l:Nat}{g:Fr->Mem->Out}{t:Code}(j:xU P G GR l g t):∀(m:Nat) f H k o p,zI g m f H=some (k,o,p)->∀(c:Cx),c.P=P->c.At G GR->∀n ρ ar w,Xb ρ f ar->fc c ρ H w->∀Q:Exit->Act->World->Prop,
 (∀ ρ' a w',ρ.le ρ'->Xb ρ' o a->fc c ρ' p w'->Q k.exit' a w')->Code.roundsIn (Fence.wide.inRound l) n P t Q m ar w
 |0,f,H,k,o,p,h=>by cases h
 |m+1,f,H,k,o,p,h=>by
  intro c q r n ρ ar w u v Q x;have b:andThen (g f H) (zI g m)=some (k,o,p):=h;show t.wpIn _ n P (Exit.then (Code.roundsIn _ n P t Q m) Q) ar w;unfold andThen at b;split at b
  .rename_i y z d;exact j _ _ _ _ _ d c q r n ρ ar w u v _ fun ρ' a w' m1 e i=>Iy j m _ _ _ _ _ b c q r n ρ' a w' e i Q fun ρ'' s A n1 n2 n3=>x ρ'' s A (Ren.le_trans m1 n1) n2 n3
  .rename_i id y z d;cases b;exact j _ _ _ _ _ d c q r n ρ ar w u v _ fun ρ' a w' m1 e i=>x ρ' a w' m1 e i
  .rename_i y z d;cases b;exact j _ _ _ _ _ d c q r n ρ ar w u v _ fun ρ' a w' m1 e i=>x ρ' a w' m1 e i
  .rename_i l y z d;cases b;exact j _ _ _ _ _ d c q r n ρ ar w u v _ fun ρ' a w' m1 e i=>x ρ' a w' m1 e i
  cases b
theorem Iz (K:j6 P){G l:Nat}(E:rJ P G GR call)(T:gp call)(U:P.follows .mixedOrders=true)(J:vA)(rounds:Nat)(I:Code):pM I=true->xU P G GR l (lq P G call J rounds I) I:=by
 induction I with
 |skip =>
  intro _ f H o p r h c _ _ n ρ ar w i j Q k;have v:some (jx.normal,f,H)=some (o,p,r):=h;cases v;exact wpIn_skip (k ρ ar w (Ren.le_refl _) i j)
 |region id ops draw=>exact λe=>MT K E T U id draw e
 |seq x y L M =>
  intro e;have e:(pM x&&pM y)=true:=e;rw[ak]at e;exact Kq (L e.1) (M e.2)
 |cond F x y L M =>
  intro e;have e:(pM x&&pM y)=true:=e;rw[ak]at e;intro f H o p r h c u s n ρ ar w i j Q k;have m:ah (eU G F) (EZ (f.eval F) (lq P G call J rounds x) (lq P G call J rounds y) f H) none=some (o,p,r):=h;rw[ay]at m;split at m;case isFalse=>cases m
  rename_i N;unfold EZ at m;split at m
  .rename_i b V;have val:ar.eval F = .bool b:=by
    obtain⟨a,W,X,_⟩:=i;have O:=X.eval j.kE (x:=F) (by rw[s.g];exact N);rw[<-W.eval,V]at O;generalize ar.eval F=q at O;cases O;rfl
   cases b with
   |true=>exact wpIn_cond_true val (L e.1 _ _ _ _ _ m c u s n ρ ar w i j Q k)
   |false=>exact wpIn_cond_false val (M e.2 _ _ _ _ _ m c u s n ρ ar w i j Q k)
  cases m
 |block id b C =>
  intro e f H o p r h c u s n ρ ar w i j Q k;have m:oF id (lq P G call J rounds b f H)=some (o,p,r):=h;unfold oF at m;split at m
  .rename_i z R S D;rw[ay]at m;split at m
   .rename_i t;cases m;refine wpIn_block (C e _ _ _ _ _ D c u s n ρ ar w i j _ fun ρ' d w' m1 A B=>?_);show (if z=id then Q .normal d w' else Q (.exit z) d w');rw[ag (by rw[aQ]at t;exact t)];exact k ρ' d w' m1 A B
   rename_i t;cases m;refine wpIn_block (C e _ _ _ _ _ D c u s n ρ ar w i j _ fun ρ' d w' m1 A B=>?_);show (if z=id then Q .normal d w' else Q (.exit z) d w');rw[aa (by rw[aQ]at t;exact t)];exact k ρ' d w' m1 A B
  .rename_i R S D;cases m;exact wpIn_block (C e _ _ _ _ _ D c u s n ρ ar w i j _ fun ρ' d w' m1 A B=>k ρ' d w' m1 A B)
  .rename_i R S D;cases m;exact wpIn_block (C e _ _ _ _ _ D c u s n ρ ar w i j _ fun ρ' d w' m1 A B=>k ρ' d w' m1 A B)
  .rename_i l R S D;cases m;exact wpIn_block (C e _ _ _ _ _ D c u s n ρ ar w i j _ fun ρ' d w' m1 A B=>k ρ' d w' m1 A B)
  cases m
 |loop b C =>
  intro e f H o p r h c u s n ρ ar w i j Q k;exact wpIn_loop_rounds rounds (Iy (C e) rounds f H o p r h c u s n ρ ar w i j Q k)
 |exit id =>
  intro _ f H o p r h c _ _ n ρ ar w i j Q k;have v:some (jx.exit id,f,H)=some (o,p,r):=h;cases v;exact wpIn_exit (k ρ ar w (Ren.le_refl _) i j)
 |ret =>
  intro _ f H o p r h c _ _ n ρ ar w i j Q k;have v:some (jx.ret,f,H)=some (o,p,r):=h;cases v;exact wpIn_ret (k ρ ar w (Ren.le_refl _) i j)
 |rangeFunc=>intro e;cases e
 |scope b C=>intro e;cases e
 |label l =>
  intro _ f H o p r h c _ _ n ρ ar w i j Q k;have v:some (jx.normal,f,H)=some (o,p,r):=h;cases v;exact wpIn_label (k ρ ar w (Ren.le_refl _) i j)
 |goto l =>
  intro _ f H o p r h c _ _ n ρ ar w i j Q k;have v:some (jx.goto l,f,H)=some (o,p,r):=h;cases v;exact wpIn_goto (k ρ ar w (Ren.le_refl _) i j)
 |refuse=>intro _ f H o p r h;cases h
def Bt (P:Program)(call:dx):Prop :=
 ∀a i H v c,P.funcs[sL a]? = none->call (sL a) [.pointer (some ⟨i,0,none⟩)] H=some (v,c)->∃(s:ByteArray) (items:dW) (b:kV),v = .tuple (jk::items.toList).toArray/\alive H i=some b/\b.cells=[.string s]/\kill H i=some c/\dm items.toList=true/\Km P a s items.toList
theorem DA (p:Tmp)(x y:Fr->Mem->Out)(f:Fr)(H:Mem):s6 p x y f [] H=some (.normal,f,H):=rfl
theorem Bu (p:Tmp)(x y:Fr->Mem->Out)(f:Fr)(v:Value)(l:aW)(H:Mem):s6 p x y f (v::l) H=match f.put (some p) v with
 |some b=>match x b H with
  |some (.normal,c,d)=>match y c d with
   |some (.normal,_,a)=>s6 p x y f l a
   |some (.ret,_,a)=>some (.ret,f,a)
   |_=>none
  |_=>none
 |none=>none:=rfl
theorem Bw {p:Tmp}{x y:Fr->Mem->Out}{f:Fr}(d:∀f H b c a,x f H=some (b,c,a)->iZ H a)(hy:∀f H b c a,y f H=some (b,c,a)->iZ H a):∀(l:aW) {H a:Mem} {b:jx} {c:Fr},s6 p x y f l H=some (b,c,a)->iZ H a/\c=f/\(b = .normal\/b = .ret)
 |[],H,a,b,c,h=>by
  rw[DA]at h;cases h;exact⟨.refl _,rfl,.inl rfl⟩
 |v::l,H,a,b,c,h=>by
  rw[Bu]at h;split at h;case h_2=>cases h
  split at h;case h_2=>cases h
  rename_i i;split at h
  .rename_i g;obtain⟨k,e⟩:=Bw d hy l h;exact⟨((d _ _ _ _ _ i).trans (hy _ _ _ _ _ g)).trans k,e⟩
  .rename_i g;cases h;exact⟨(d _ _ _ _ _ i).trans (hy _ _ _ _ _ g),rfl,.inr rfl⟩
  cases h
theorem Fy (hit:Bt P call){G:Nat}{x y:Fr->Mem->Out}{g:Operand}{ps:Array Tmp}{assign body:Code}{pl:Bool}
 (kx:∀f H lv f' H',x f H=some (lv,f',H')->iZ H H') (ky:∀f H lv f' H',y f H=some (lv,f',H')->iZ H H')
 (hx:pl=true->∀l,xU P G GR l x assign) (hy:pl=true->∀l,xU P G GR l y body):xS P G GR (Cp P G call g ps.toList pl x y) (.rangeFunc g ps assign body):=by
 intro f H lv f' H' h;unfold Cp at h;rw[ay]at h;split at h;case isFalse=>cases h
 rename_i hok;rw[ak]at hok;obtain⟨hok,hpl⟩:=hok;split at h;case h_2=>cases h
 rename_i p fid ta caps hps hfg;split at h;case h_2=>cases h
 rename_i i hta am6 hnone;split at h;case h_2=>cases h
 rename_i ar7 H1 pX;split at h;case h_2=>cases h
 rename_i u0 itl ahH;obtain⟨s,items,b,e1,Xc,hcells,gb,hfree,am7⟩:=hit _ _ _ _ _ hnone pX;cases e1;have ahH:jk::items.toList=u0::itl:=by simpa using ahH
 cases ahH;obtain⟨hks,hff,hlv⟩:=Bw kx ky _ h;have hff:=hff.symm;subst hff;obtain⟨q1,q2,q3,q4,q5⟩:=o5 gb;have hkk:iZ H H1:=by
  unfold kill at gb;split at gb
  .exact .set gb
  cases gb
 refine⟨hkk.trans hks,λc K0 j7 jr ρ ar w hs he Q hQ=>?_⟩;subst j7;obtain⟨a,hr,xq,hmk⟩:=hs
 -- the function
 have hv:=xq.eval he.kE (x:=g) (by rw[jr.g];exact hok);rw[<-hr.eval,hfg]at hv;obtain⟨hgi,Cq⟩:=eA Xc;obtain⟨rs,rx,C,fr,sz,b1,b2,b3,b4,b5,b6,b7,b8⟩:=he.blk i b hgi Cq;have hiL:¬i<c.L:=by have:=he.lk;omega
 have hown:c.own rs:=b2.resolve_left λh=>hiL h.1
 have ar9:=b4.resolve_left hiL;have hgv:ar.eval g = .func (.func fid) #[] #[.pointer (some ⟨rs,0,none⟩)]:=by
  generalize ar.eval g=q at hv;cases hv with
  |func _ _ a' _ b' sa ha sb hb =>
   have ea:a' = #[]:=by
    have:ta.size=0:=by rw[<-mU,hta];rfl
    exact Array.size_eq_zero_iff.1 (by omega)
   have ec:caps = #[.pointer (some ⟨i,0,none⟩)]:=by rw[<-gm (xs:=caps),am6]
   subst ec;have hs1:b'.size=1:=by simpa using sb.symm
   obtain⟨v',hb'⟩:∃v',b' = #[v']:=⟨b'[0],by
    apply Array.ext
    .simpa using hs1
    intro j h1 h2;have:j=0:=by simp at h2;omega
    subst this;rfl⟩
   subst hb';have:=hb 0 _ _ (by rfl) (by rfl);cases this with
   |ptr _ _ r' x' hr' =>
    rw[b1]at hr';cases hr';rw[ea]
 have hcell:C[0]? = some (.string s):=by
  obtain⟨v',m1,m2⟩:=b7.2 0 (.string s) (by rw[hcells];rfl) rfl;cases m2;exact m1
 have Mn:rs<w.heap.size:=(aF.1 b3).1
 -- the record
 have lt:∀{W:World} {k:Nat} {o:Obj},W.heap[k]? = some o->k<W.heap.size:=λh=>(aF.1 h).1
 have WT:fc c ρ H1 w:=he.kill gb;refine wpIn_wide (n:=20) |>.1 (wpIn_rangeFunc ?_);intro fn hfn;have hps':ps = #[p]:=by rw[<-gm (xs:=ps),hps]
 subst hps';obtain⟨rec,hrec⟩:∃rec:LoopState->Option Code->Loop,rec=λst pe=>{ state:=st,pending:=pe,fn,tmps:=ar.tmps,params := #[p],assign,body,defers:=w.heap.size }:=⟨_,rfl⟩
 obtain⟨W1,D2⟩:∃W1,(w.alloc (.deferred (some []))).alloc (.loop (rec .ready none))=W1:=⟨_,rfl⟩;obtain⟨m,hm⟩:∃m,m=w.heap.size:=⟨_,rfl⟩;have hBm:c.B<=m:=by rw[hm];exact he.base
 obtain⟨KJ,hKJ⟩:∃KJ:Loop->Nat->Option Obj,KJ=λr=>sx (sx c.K m (.deferred (some []))) (m+1) (.loop r):=⟨_,rfl⟩
 have MU:∀r k,KJ r k=if k=m+1 then some (.loop r) else if k=m then some (.deferred (some [])) else c.K k:=λr k=>by rw[hKJ];rfl
 have asa:fc (c.kp (KJ (rec .ready none))) ρ H1 W1:=by
  have e0:=(show fc (c.kp c.K) ρ H1 w from WT).Qd (.deferred (some []));have e1:=e0.Qd (.loop (rec .ready none));rw[D2]at e1;refine e1.yX λr o hr=>?_
  rw[MU]at hr;rw[World.size_alloc,<-hm];exact hr
 have aqK:W1.heap.size=m+2:=by rw[<-D2,World.size_alloc,World.size_alloc,hm]
 -- between two rounds
 let J:Nat->(Nat->Prop)->World->Prop:=λj O W=>∃Hj ρ',s6 p x y f (items.toList.drop j) Hj=some (lv,f,H')/\iZ H Hj/\ρ.le ρ'/\fc (c.kp (KJ (rec .ready none))) ρ' Hj W/\O=holds (c.kp (KJ (rec .ready none))) ρ' Hj
 let Jx:(Nat->Prop)->World->Prop:=λO W=>lv = .ret/\∃ ρ',ρ.le ρ'/\fc (c.kp (KJ (rec .done (some .ret)))) ρ' H' W/\O=holds (c.kp (KJ (rec .done (some .ret)))) ρ' H'
 have asb:¬holds (c.kp (KJ (rec .ready none))) ρ H1 rs:=by
  rintro (h|h|⟨j,bj,xj,hj,vB,hρj⟩)
  .have:=hown.1;have h:rs<c.B:=h;omega
  .apply h;show KJ (rec .ready none) rs=none;rw[MU,aa (by omega),aa (by omega)];exact hown.2
  obtain⟨g1,g2⟩:=q3 j bj hj vB;rcases vB with vB|vB
  .exact g2 (he.inj j i bj b rs xj rx g1 vB hgi Cq hρj b1)
  obtain⟨r',es,clock,m1,m2,m3,_⟩:=he.maps j bj g1 vB;rw[hρj]at m1;cases m1;rw[b3]at m3;cases m3
 have avW:∀r:Loop,KJ r m=some (.deferred (some [])):=λr=>by rw[MU,aa (by omega),ag rfl]
 have Bx:∀r:Loop,KJ r (m+1)=some (.loop r):=λr=>by rw[MU,ag rfl]
 have avX:∀(r:Loop) (k:Nat),k≠m->k≠m+1->KJ r k=c.K k:=λr k h1 h2=>by rw[MU,aa h2,aa h1]
 have am8:∀(r r':Loop) (k:Nat),k≠m+1->KJ r k=KJ r' k:=λr r' k h=>by rw[MU,MU,aa h,aa h]
 have asc:c.K m=none:=by
  cases hc:c.K m with
  |none=>rfl
  |some o=>have:=lt (he.stay.kept m o hc);omega
 have am9:c.K (m+1)=none:=by
  cases hc:c.K (m+1) with
  |none=>rfl
  |some o=>have:=lt (he.stay.kept (m+1) o hc);omega
 -- one round
 have round:∀j O W v,J j O W->items.toList[j]? = some v->YieldAt Fence.wide 19 c.P (m+1) #[v] W λe W'=>∃O',W.heap.size<=W'.heap.size/\(∀r,O' r->O r\/W.heap.size<=r)/\(∀r,r<W.heap.size->¬O r->W'.heap[r]? = W.heap[r]?) /\
  ((e = .returned (.bool true)/\J (j+1) O' W')\/(e = .returned (.bool false)/\Jx O' W')):=by
  rintro j O W v ⟨Hj,ρ',hrun,hkj,hle,hej,rfl⟩ hv;have hL:W.heap[m+1]? = some (.loop (rec .ready none)):=hej.stay.kept (m+1) _ (Bx _);have hyd:=run_yield (P:=c.P) (args := #[v]) hL (by rw[hrec];rfl);have ana:items.toList.drop j=v::items.toList.drop (j+1):=by
   have hlt:=(bH.1 hv).1;rw[nB hlt];congr 1
   exact(bH.1 hv).2
  rw[ana,Bu]at hrun;split at hrun;case h_2=>cases hrun
  rename_i f1 hf1;split at hrun;case h_2=>cases hrun
  rename_i f2 H2 hxr;have ahI:br v=true:=qy hfree hv
  -- the frame of the round
  have anb:Xb ρ' f1 { tmps:=((rec .ready none).params.zip #[v]).foldl (λt (t',a)=>t.setIfInBounds t' a) (rec .ready none).tmps,defers:=[] }:=by
   refine⟨{ tmps:=(a.put (some p) v).tmps,defers:=[] },?_,?_,rfl⟩
   .have:=hr.put hf1;exact⟨this.n,this.get⟩
   have h1:=(xq.mono hle).put (some p) (eu v ahI);refine⟨?_,rfl⟩;have e:((rec .ready none).params.zip #[v]).foldl (λt (t',a)=>t.setIfInBounds t' a) (rec .ready none).tmps=(ar.put (some p) v).tmps:=by rw[hrec];simp[Act.put]
   rw[e];exact h1.tmps
  refine⟨_,_,_,_,hyd,?_⟩;have hbody:(rec .ready none).body=body:=by rw[hrec]
  have hassign:(rec .ready none).assign=assign:=by rw[hrec]
  rw[hbody,hassign];refine roundIn_of_wpIn (F:=Fence.wide) trivial ?_
  -- all other rows stay
  obtain⟨c1,hc1⟩:∃c1,c1=c.kp (KJ (rec .ready none)):=⟨_,rfl⟩;rw[<-hc1]at hej;obtain⟨K2,hK2⟩:∃K2,K2=Bq c1 ρ' Hj W:=⟨_,rfl⟩;obtain⟨cW,hcW⟩:∃cW:Cx,cW={ c with w0:=W }:=⟨_,rfl⟩;have hbelow:Below c.B c.w0 W:=by have:=hej.below;rw[hc1]at this;exact this
  have ahK:cW.At G GR:=by rw[hcW];exact⟨jr.g,hej.Ki (by rw[hc1];exact jr.kp _),jr.len⟩
  have ahL:cW.P=c.P:=by rw[hcW]
  have asd:cW.B=c.B:=by rw[hcW]
  have avZ:cW.L=c.L:=by rw[hcW]
  have hh:fc (cW.kp K2) ρ' Hj W:=by
   have:=hej.hold.ahF;rw[<-hK2,hc1]at this;rw[hcW];exact this
  have Qn:∀r o,KJ (rec .ready none) r=some o->K2 r=some o:=λr o h=>by
   rw[hK2];unfold Bq;have:c1.K r=some o:=by rw[hc1];exact h
   rw[ag (by rw[this];simp),this]
  have ahM:∀r,r<W.heap.size->¬holds c1 ρ' Hj r->K2 r=W.heap[r]? := λr hr hn=>by
   rw[hK2];unfold Bq;rw[aa (λh=>hn (.inr (.inl h))),aa hn]
  have hm1:holds c1 ρ' Hj (m+1):=.inr (.inl (by rw[hc1];show KJ _ _≠none;rw[Bx];simp));refine hx hpl (m+1) _ _ _ _ _ hxr (cW.kp K2) ahL (ahK.kp K2) _ ρ' _ W anb hh _ fun ρ2 ar2 W2 le2 Xd ane=>?_
  have hL2:W2.heap[m+1]? = some (.loop (rec .ready none)):=ane.stay.kept (m+1) _ (Qn _ _ (Bx _));refine⟨_,run_beginRound hL2 (by rw[hrec]),?_⟩;have hB1:cW.B<=m+1:=by rw[asd];omega
  have acB:=fc.Kl (c:=cW) ane (Qn _ _ (Bx _)) hB1 (.loop { rec .ready none with state:=.busy });obtain⟨K3,Xe⟩:∃K3,K3=sx K2 (m+1) (.loop { rec .ready none with state:=.busy }):=⟨_,rfl⟩;rw[<-Xe]at acB;obtain⟨W3,hW3⟩:∃W3,W3=W2.putObj (m+1) (.loop { rec .ready none with state:=.busy }):=⟨_,rfl⟩;rw[<-hW3]at acB ⊢;have anf:K3 (m+1)=some (.loop { rec .ready none with state:=.busy }):=by rw[Xe];exact ag rfl
  have ang:∀r,r≠m+1->K3 r=K2 r:=λr h=>by rw[Xe];exact aa h
  have anh:∀{lv3:jx} {f3:Fr} {H3:Mem},y f2 H2=some (lv3,f3,H3)->iZ Hj H3:=λh=>(kx _ _ _ _ _ hxr).trans (ky _ _ _ _ _ h)
  -- what comes of it
  have fin:∀(lv3:jx) (f3:Fr) (H3:Mem) (jump:Option Code),y f2 H2=some (lv3,f3,H3)->∀(ρ4:Ren) (W4:World),ρ2.le ρ4->fc (cW.kp K3) ρ4 H3 W4 ->
   (Instr.endRound (m+1) jump).run c.P W4 = .ok (.bool jump.isNone) (W4.putObj (m+1) (.loop (rec (if jump.isNone then .ready else .done) jump))) /\
   fc (c.kp (KJ (rec (if jump.isNone then .ready else .done) jump))) ρ4 H3 (W4.putObj (m+1) (.loop (rec (if jump.isNone then .ready else .done) jump))) /\
   W.heap.size<=(W4.putObj (m+1) (.loop (rec (if jump.isNone then .ready else .done) jump))).heap.size /\
   (∀r,holds (c.kp (KJ (rec (if jump.isNone then .ready else .done) jump))) ρ4 H3 r->holds c1 ρ' Hj r\/W.heap.size<=r) /\
   (∀r,r<W.heap.size->¬holds c1 ρ' Hj r->(W4.putObj (m+1) (.loop (rec (if jump.isNone then .ready else .done) jump))).heap[r]? = W.heap[r]?):=by
   intro lv3 f3 H3 jump hyr ρ4 W4 le4 Kr;have hL4:W4.heap[m+1]? = some (.loop { rec .ready none with state:=.busy }):=Kr.stay.kept (m+1) _ anf;have hend:=run_endRound (P:=c.P) jump hL4;have ase:({ ({ rec .ready none with state:=.busy }:Loop) with state:=if jump.isNone then .ready else .done,pending:=jump }:Loop)=rec (if jump.isNone then .ready else .done) jump:=by rw[hrec]
   rw[ase]at hend;have ani:=fc.Kl (c:=cW) Kr anf hB1 (.loop (rec (if jump.isNone then .ready else .done) jump));obtain⟨rj,hrj⟩:∃rj,rj=rec (if jump.isNone then .ready else .done) jump:=⟨_,rfl⟩;rw[<-hrj]at hend ani ⊢;have anj:fc (cW.kp (KJ rj)) ρ4 H3 (W4.putObj (m+1) (.loop rj)):=ani.yX λr o hr=>by
    by_cases e:r=m+1
    .subst e;rw[Bx]at hr;cases hr;exact ag rfl
    unfold sx;rw[aa e,ang r e];rw[am8 rj (rec .ready none) r e]at hr;exact Qn r o hr
   have asf:fc (c.kp (KJ rj)) ρ4 H3 (W4.putObj (m+1) (.loop rj)):=by
    rw[hcW]at anj;exact fc.ahG (c:=c.kp (KJ rj)) (W:=W) anj hbelow
   have hsz:W.heap.size<=W4.heap.size:=by have:=Kr.below.size;rw[hcW]at this;exact this
   have rest:∀r,r<W.heap.size->¬holds c1 ρ' Hj r->K3 r=W.heap[r]? := λr hr hn=>by
    rw[ang r (λe=>hn (by rw[e];exact hm1))];exact ahM r hr hn
   refine⟨hend,asf,by simp only[World.putObj,Array.size_set,Array.size_setIfInBounds];exact hsz,λr hr=>?_,λr hr hn=>?_⟩
   .rcases hr with hr|hr|⟨i1,bi,xi,g1,g2,g3⟩
    .exact .inl (.inl (by rw[hc1];exact hr))
    .refine .inl (.inr (.inl ?_));rw[hc1];show KJ (rec .ready none) r≠none;have hr:KJ rj r≠none:=hr;by_cases e:r=m+1
     .subst e;rw[Bx];simp
     rw[am8 (rec .ready none) rj r e];exact hr
    have kk:=anh hyr;by_cases av4:i1<c.L
    .have l1:c.L<=Hj.lk:=by have:=hej.lk;rw[hc1]at this;exact this
     have l2:c.L<=Hj.size:=by have:=hej.A0;rw[hc1]at this;exact this
     have g1':Hj.get i1=some bi:=by rw[<-kk.2.2 i1 (by omega) (by omega)];exact g1
     have ash:∃x',ρ' i1=some (r,x'):=by
      rcases g2 with g2|g2
      .obtain ⟨r',x',_,_,_,m1,_⟩:=hej.blk i1 bi g1' g2;have:=le4 _ _ (le2 _ _ m1);rw[g3]at this;cases this;exact⟨_,m1⟩
      obtain⟨r',_,_,m1,_⟩:=hej.maps i1 bi g1' g2;have:=le4 _ _ (le2 _ _ m1);rw[g3]at this;cases this;exact⟨_,m1⟩
     obtain⟨x',hx'⟩:=ash;exact .inl (.inr (.inr ⟨i1,bi,x',g1',g2,hx'⟩))
    by_cases hrW:r<W.heap.size
    .by_cases hh2:holds c1 ρ' Hj r
     .exact .inl hh2
     exfalso;have hK:=Kr.Kk g1 g2 g3;have hK:K3 r=none:=hK;rw[rest r hrW hh2]at hK;rw[bW hrW]at hK;cases hK
    exact .inr (by omega)
   have e:r≠m+1:=λe=>hn (by rw[e];exact hm1)
   rw[World.putObj_heap_other e];have hK:=rest r hr hn;rw[bW hr]at hK;have:=Kr.stay.kept r _ hK;rw[this,bW hr]
  split at hrun
  .rename_i f3 H3 hyr;refine hy hpl (m+1) _ _ _ _ _ hyr (cW.kp K3) ahL (ahK.kp K3) _ ρ2 ar2 W3 Xd acB _ fun ρ4 ar4 W4 le4 asi Kr=>?_
   obtain⟨d1,d2,d3,d4,d5⟩:=fin _ _ _ none hyr ρ4 W4 le4 Kr;rw[hc1]at d4 d5;exact⟨_,_,d1,_,d3,d4,d5,.inl ⟨rfl,H3,ρ4,hrun,hkj.trans (anh hyr),Ren.le_trans hle (Ren.le_trans le2 le4),d2,rfl⟩⟩
  .rename_i f3 H3 hyr;cases hrun;refine hy hpl (m+1) _ _ _ _ _ hyr (cW.kp K3) ahL (ahK.kp K3) _ ρ2 ar2 W3 Xd acB _ fun ρ4 ar4 W4 le4 asi Kr=>?_
   obtain⟨d1,d2,d3,d4,d5⟩:=fin _ _ _ (some .ret) hyr ρ4 W4 le4 Kr;rw[hc1]at d4 d5;exact⟨_,_,d1,_,d3,d4,d5,.inr ⟨rfl,rfl,ρ4,Ren.le_trans hle (Ren.le_trans le2 le4),d2,rfl⟩⟩
  cases hrun
 have ank:Below w.heap.size w W1:=by rw[<-D2];exact((Below.refl _ w).alloc (aG _) _).alloc (by simp) _
 have acC:W1.cell? ⟨rs,0,none⟩=some (.string s):=by
  obtain⟨v',m1,m2⟩:=he.cell Xc b1 (show b.cells[0]? = some (.string s) by rw[hcells];rfl) rfl;cases m2;rw[<-m1];unfold World.cell?;simp only[ank.block rs Mn]
 have anl:W1.frozen? ⟨rs,0,none⟩=false:=by
  have h0:0<C.size:=(aF.1 hcell).1;have hno:=ar9.2 0 h0;unfold World.frozen?;simp only[ank.block rs Mn,b3];simpa using hno
 refine⟨m+1,[mark m],W1,{ target:=.fn (.func fid) #[.pointer (some ⟨rs,0,none⟩)],args := #[.func (.yield (m+1)) #[] #[]] },W1,fid,#[.func (.yield (m+1)) #[] #[]] ++ #[.pointer (some ⟨rs,0,none⟩)],W1,?_,?_,?_,?_,λ_=>by omega,?_⟩
 .rw[<-D2,hrec,hm];exact run_enterLoop_outer _ _ _ _ _
 .simp only[resolve,hgv];simp[go_sem]
 .intro f' _;trivial
 .simp only[invoke];exact am7.1 _ _
 refine(am7.2 19 (m+1) rs W1 _ J Jx (by omega) acC anl asb ?_ ?_ ?_ ?_ round ⟨H1,ρ,h,hkk,Ren.le_refl _,asa,rfl⟩).mono ?_
 .rintro j O W W' ⟨Hj,ρ',k1,k2,k3,k4,rfl⟩ hb;exact⟨Hj,ρ',k1,k2,k3,k4.beside hb,rfl⟩
 .rintro O W W' ⟨k0,ρ',k3,k4,rfl⟩ hb;exact⟨k0,ρ',k3,k4.beside hb,rfl⟩
 .rintro j O W ⟨Hj,ρ',k1,k2,k3,k4,rfl⟩ r hr;exact k4.MQ hr
 .rintro O W ⟨k0,ρ',k3,k4,rfl⟩ r hr;exact k4.MQ hr
 have anm:∀(rj:Loop) (ρ':Ren) (W:World),fc (c.kp (KJ rj)) ρ' H' W->∀rj':Loop,fc (c.kp (sx c.K m (.deferred (some [])))) ρ' H' (W.putObj (m+1) (.loop rj')):=λrj ρ' W emb rj'=>by
  refine(fc.Kl (c:=c) emb (Bx rj) (by omega) (.loop rj')).yX λr o hr=>?_
  by_cases e:r=m+1
  .subst e;unfold sx at hr;rw[aa (by omega),am9]at hr;cases hr
  have:sx (KJ rj) (m+1) (.loop rj') r=KJ rj r:=aa e;rw[this,MU,aa e];exact hr
 have Xd:∀ ρ',ρ.le ρ'->Fv K0 (c.kp (sx c.K m (.deferred (some [])))) ρ' f { ar with defers:=[mark m]++ar.defers }:=fun ρ' hle =>
  ⟨{ a with defers:=mark m::a.defers },⟨hr.n,hr.get⟩,⟨(xq.mono hle).tmps,by show mark m::ar.defers=_;rw[xq.dr]⟩,Marks.push hmk hBm asc⟩
 rintro e W2 ⟨⟨v,rfl⟩,O',⟨Hj,ρ',k1,k2,k3,k4,_⟩|⟨rfl,ρ',k3,k4,_⟩⟩
 .rw[List.drop_length]at k1;rw[DA]at k1;cases k1;have hLr:W2.heap[m+1]? = some (.loop (rec .ready none)):=k4.stay.kept (m+1) _ (Bx _);have hel:=run_endLoop (P:=c.P) hLr (by rw[hrec];simp);have hp:(rec .ready none).pending=none:=by rw[hrec]
  rw[hp]at hel;refine⟨none,_,hel,?_⟩;exact hQ _ ρ' _ _ k3 (Xd ρ' k3) (anm _ _ _ k4 _)
 have hLr:W2.heap[m+1]? = some (.loop (rec .done (some .ret))):=k4.stay.kept (m+1) _ (Bx _);have hel:=run_endLoop (P:=c.P) hLr (by rw[hrec];simp);have hp:(rec .done (some .ret)).pending=some .ret:=by rw[hrec]
 rw[hp]at hel;refine⟨some .ret,_,hel,?_⟩;exact wpIn_ret (hQ _ ρ' _ _ k3 (Xd ρ' k3) (anm _ _ _ k4 _))
theorem andThen_ok {G:Nat}{g k:Fr->Mem->Out}{x y:Code}(s:xS P G GR g x)(hy:xS P G GR k y):xS P G GR (λf H=>andThen (g f H) k) (.seq x y):=by
 intro f H A B C z;have h:andThen (g f H) k=some (A,B,C):=z;clear z;unfold andThen at h;split at h
 .rename_i t u e;obtain⟨i,j⟩:=s _ _ _ _ _ e;obtain⟨k2,D⟩:=hy _ _ _ _ _ h;refine⟨i.trans k2,λc K0 b d ρ ar w m n Q o=>wp_seq (j c K0 b d ρ ar w m n _ λK1 ρ' a w' m1 p q=>?_)⟩;exact D (c.kp K1) K0 b (d.kp K1) ρ' a w' p q Q λE ρ'' r v n1 n2 n3=>o E ρ'' r v (Ren.le_trans m1 n1) n2 n3
 .rename_i id t u e;cases h;obtain⟨i,j⟩:=s _ _ _ _ _ e;exact⟨i,λc K0 b d ρ ar w m n Q o=>wp_seq (j c K0 b d ρ ar w m n _ λK1 ρ' a w' m1 p q=>o K1 ρ' a w' m1 p q)⟩
 .rename_i t u e;cases h;obtain⟨i,j⟩:=s _ _ _ _ _ e;exact⟨i,λc K0 b d ρ ar w m n Q o=>wp_seq (j c K0 b d ρ ar w m n _ λK1 ρ' a w' m1 p q=>o K1 ρ' a w' m1 p q)⟩
 .rename_i l t u e;cases h;obtain⟨i,j⟩:=s _ _ _ _ _ e;exact⟨i,λc K0 b d ρ ar w m n Q o=>wp_seq (j c K0 b d ρ ar w m n _ λK1 ρ' a w' m1 p q=>o K1 ρ' a w' m1 p q)⟩
 cases h
theorem yZ {G:Nat}{g:Fr->Mem->Out}{B:Code}(t:xS P G GR g B):∀(n:Nat) f H u v s,zI g n f H=some (u,v,s)->iZ H s/\∀(c:Cx) (K0:Nat->Option Obj),c.P=P->c.At G GR->∀ ρ ar w,Fv K0 c ρ f ar->fc c ρ H w->∀Q:Exit->Act->World->Prop,
 (∀C ρ' a w',ρ.le ρ'->Fv K0 (c.kp C) ρ' v a->fc (c.kp C) ρ' s w'->Q u.exit' a w')->Code.rounds P B Q n ar w
 |0,f,H,u,v,s,h=>by cases h
 |n+1,f,H,u,v,s,h=>by
  have e:andThen (g f H) (zI g n)=some (u,v,s):=h;unfold andThen at e;split at e
  .rename_i y z i;obtain⟨j,k⟩:=t _ _ _ _ _ i;obtain⟨k2,D⟩:=yZ t n _ _ _ _ _ e;refine⟨j.trans k2,λc K0 b d ρ ar w m o Q p=>?_⟩;rw[rounds_succ];refine k c K0 b d ρ ar w m o _ λK1 ρ' a w' m1 q r=>?_
   exact D (c.kp K1) K0 b (d.kp K1) ρ' a w' q r Q λE ρ'' x A n1 n2 n3=>p E ρ'' x A (Ren.le_trans m1 n1) n2 n3
  .rename_i id y z i;cases e;obtain⟨j,k⟩:=t _ _ _ _ _ i;refine⟨j,λc K0 b d ρ ar w m o Q p=>?_⟩;rw[rounds_succ];exact k c K0 b d ρ ar w m o _ λK1 ρ' a w' m1 q r=>p K1 ρ' a w' m1 q r
  .rename_i y z i;cases e;obtain⟨j,k⟩:=t _ _ _ _ _ i;refine⟨j,λc K0 b d ρ ar w m o Q p=>?_⟩;rw[rounds_succ];exact k c K0 b d ρ ar w m o _ λK1 ρ' a w' m1 q r=>p K1 ρ' a w' m1 q r
  .rename_i l y z i;cases e;obtain⟨j,k⟩:=t _ _ _ _ _ i;refine⟨j,λc K0 b d ρ ar w m o Q p=>?_⟩;rw[rounds_succ];exact k c K0 b d ρ ar w m o _ λK1 ρ' a w' m1 q r=>p K1 ρ' a w' m1 q r
  cases e
def within (c:Code)(J:Code->Act->World->Prop)(Q:Exit->Act->World->Prop):Exit->Act->World->Prop
 |.goto l,a,w=>match findLabel c l with
  |some rest=>J rest a w
  |none=>Q (.goto l) a w
 |e,a,w=>Q e a w
def jumps (P:Program)(c:Code)(Q:Exit->Act->World->Prop):Nat->Code->Act->World->Prop
 |0,_,_,_=>False
 |n+1,d,a,w=>d.wp P (within c (jumps P c Q n) Q) a w
theorem wp_scope_within {c:Code}{Q:Exit->Act->World->Prop}{a:Act}{w:World}(n:Nat)(h:jumps P c Q n c a w):(Code.scope c).wp P Q a w:=by
 intro b k cs;have key:∀n d a w,jumps P c Q n d a w->∃e i w',Q e i w'/\Arrives P (lone (b.at a (.code d :: .inScope c::k)) cs w) b k cs e i w':=by
  intro n;induction n with
  |zero=>intro d a w h;exact h.elim
  |succ n p =>
   intro d a w h;obtain⟨e,a₁,w₁,g,f⟩:=h b (.inScope c::k) cs;cases e with
   |normal=>exact⟨.normal,a₁,w₁,g,Steps.trans f (.one step_inScope)⟩
   |exit id=>exact⟨.exit id,a₁,w₁,g,λm o=>f m (by simp[exitTo,o])⟩
   |goto l =>
    cases j:findLabel c l with
    |some rest =>
     simp only[within,j]at g;obtain⟨e₂,a₂,w₂,hq₂,harr₂⟩:=p rest a₁ w₁ g;exact⟨e₂,a₂,w₂,hq₂,.of_steps (f _ (by simp[gotoIn,j])) harr₂⟩
    |none =>
     simp only[within,j]at g;exact⟨.goto l,a₁,w₁,g,λm o=>f m (by simp[gotoIn,j,o])⟩
   |ret=>exact⟨_,a₁,w₁,g,f⟩
   |panic q=>exact⟨_,a₁,w₁,g,f⟩
   |outgrown=>exact⟨_,a₁,w₁,g,f⟩
 obtain⟨e,i,w',g,f⟩:=key n c a w h;exact⟨e,i,w',g,.of_steps (.one step_scope) f⟩
def Qo (P:Program)(G:Nat)(GR:List kV)(n:Nat)(J:vA):Prop :=
 ∀s rest f H d e b,J s rest f H=some (d,e,b)->iZ H b/\∀(c:Cx) (K0:Nat->Option Obj),c.P=P->c.At G GR->∀ ρ ar w,Fv K0 c ρ f ar->fc c ρ H w->∀Q:Exit->Act->World->Prop,
  (∀g ρ' a w',ρ.le ρ'->Fv K0 (c.kp g) ρ' e a->fc (c.kp g) ρ' b w'->Q d.exit' a w')->jumps P s Q n rest ar w
theorem zM {G n:Nat}{J:vA}(E:Qo P G GR n J){g:Fr->Mem->Out}{d:Code}(u:xS P G GR g d)(s:Code)(f:Fr)(H:Mem)(B:jx)(C:Fr)(v:Mem)(h:mY s J (g f H)=some (B,C,v)) :
 iZ H v/\∀(c:Cx) (K0:Nat->Option Obj),c.P=P->c.At G GR->∀ ρ ar w,Fv K0 c ρ f ar->fc c ρ H w->∀Q:Exit->Act->World->Prop,
 (∀D ρ' a w',ρ.le ρ'->Fv K0 (c.kp D) ρ' C a->fc (c.kp D) ρ' v w'->Q B.exit' a w')->jumps P s Q (n+1) d ar w:=by
 unfold mY at h;split at h
 .rename_i l x y r;obtain⟨p,q⟩:=u _ _ _ _ _ r;split at h
  .rename_i rest z;obtain⟨k2,F⟩:=E _ _ _ _ _ _ _ h;refine⟨p.trans k2,λc K0 b e ρ ar w i j Q k=>q c K0 b e ρ ar w i j _ λK1 ρ' a w' m1 m o=>?_⟩;show within s (jumps P s Q n) Q (.goto l) a w';simp only[within,z];exact F (c.kp K1) K0 b (e.kp K1) ρ' a w' m o Q λI ρ'' t A n1 n2 n3=>k I ρ'' t A (Ren.le_trans m1 n1) n2 n3
  rename_i z;cases h;refine⟨p,λc K0 b e ρ ar w i j Q k=>q c K0 b e ρ ar w i j _ λK1 ρ' a w' m1 m o=>?_⟩;show within s (jumps P s Q n) Q (.goto l) a w';simp only[within,z];exact k K1 ρ' a w' m1 m o
 .rename_i x y r;cases h;obtain⟨p,q⟩:=u _ _ _ _ _ r;exact⟨p,λc K0 b e ρ ar w i j Q k=>q c K0 b e ρ ar w i j _ λK1 ρ' a w' m1 m o=>k K1 ρ' a w' m1 m o⟩
 .rename_i id x y r;cases h;obtain⟨p,q⟩:=u _ _ _ _ _ r;exact⟨p,λc K0 b e ρ ar w i j Q k=>q c K0 b e ρ ar w i j _ λK1 ρ' a w' m1 m o=>k K1 ρ' a w' m1 m o⟩
 .rename_i x y r;cases h;obtain⟨p,q⟩:=u _ _ _ _ _ r;exact⟨p,λc K0 b e ρ ar w i j Q k=>q c K0 b e ρ ar w i j _ λK1 ρ' a w' m1 m o=>k K1 ρ' a w' m1 m o⟩
 cases h
theorem MV (F:j6 P){G:Nat}(v:rJ P G GR call)(N:Bt P call)(O:gp call)(R:P.follows .mixedOrders=true){n:Nat}{J:vA}(Z:Qo P G GR n J)(rounds:Nat)(S:Code):xS P G GR (lq P G call J rounds S) S:=by
 induction S with
 |skip =>
  intro f H k m o h;have A:some (jx.normal,f,H)=some (k,m,o):=h;cases A;exact⟨.refl _,λc K0 _ _ ρ ar w d e Q i=>wp_skip (i c.K ρ ar w (Ren.le_refl _) d e)⟩
 |region id ops draw=>exact yY F v O R id draw
 |seq x y T U=>exact andThen_ok T U
 |cond L x y T U =>
  intro f H k m o h;have p:ah (eU G L) (EZ (f.eval L) (lq P G call J rounds x) (lq P G call J rounds y) f H) none=some (k,m,o):=h;rw[ay]at p;split at p;case isFalse=>cases p
  rename_i V;unfold EZ at p;split at p
  .rename_i b hb;have val:∀{c:Cx} {K0:Nat->Option Obj} {ρ:Ren} {ar:Act} {w:World},c.At G GR->Fv K0 c ρ f ar->fc c ρ H w->ar.eval L = .bool b:=by
    intro c K0 ρ ar w r d e;obtain⟨a,hr,xq,_⟩:=d;have W:=xq.eval e.kE (x:=L) (by rw[r.g];exact V);rw[<-hr.eval,hb]at W;generalize ar.eval L=q at W;cases W;rfl
   cases b with
   |true =>
    obtain⟨t,u⟩:=T _ _ _ _ _ p;exact⟨t,λc K0 s r ρ ar w d e Q i=>wp_cond_true (val r d e) (u c K0 s r ρ ar w d e Q i)⟩
   |false =>
    obtain⟨t,u⟩:=U _ _ _ _ _ p;exact⟨t,λc K0 s r ρ ar w d e Q i=>wp_cond_false (val r d e) (u c K0 s r ρ ar w d e Q i)⟩
  cases p
 |block id b E =>
  intro f H k m o h;have p:oF id (lq P G call J rounds b f H)=some (k,m,o):=h;unfold oF at p;split at p
  .rename_i B X Y I;obtain⟨t,u⟩:=E _ _ _ _ _ I;rw[ay]at p;split at p
   .rename_i z;cases p;refine⟨t,λc K0 s r ρ ar w d e Q i=>wp_block (u c K0 s r ρ ar w d e _ λK1 ρ' j w' m1 C D=>?_)⟩;show (if B=id then Q .normal j w' else Q (.exit B) j w');rw[ag (by rw[aQ]at z;exact z)];exact i K1 ρ' j w' m1 C D
   rename_i z;cases p;refine⟨t,λc K0 s r ρ ar w d e Q i=>wp_block (u c K0 s r ρ ar w d e _ λK1 ρ' j w' m1 C D=>?_)⟩;show (if B=id then Q .normal j w' else Q (.exit B) j w');rw[aa (by rw[aQ]at z;exact z)];exact i K1 ρ' j w' m1 C D
  .rename_i X Y I;cases p;obtain⟨t,u⟩:=E _ _ _ _ _ I;exact⟨t,λc K0 s r ρ ar w d e Q i=>wp_block (u c K0 s r ρ ar w d e _ λK1 ρ' j w' m1 C D=>i K1 ρ' j w' m1 C D)⟩
  .rename_i X Y I;cases p;obtain⟨t,u⟩:=E _ _ _ _ _ I;exact⟨t,λc K0 s r ρ ar w d e Q i=>wp_block (u c K0 s r ρ ar w d e _ λK1 ρ' j w' m1 C D=>i K1 ρ' j w' m1 C D)⟩
  .rename_i l X Y I;cases p;obtain⟨t,u⟩:=E _ _ _ _ _ I;exact⟨t,λc K0 s r ρ ar w d e Q i=>wp_block (u c K0 s r ρ ar w d e _ λK1 ρ' j w' m1 C D=>i K1 ρ' j w' m1 C D)⟩
  cases p
 |loop b E =>
  intro f H k m o h;obtain⟨t,u⟩:=yZ E rounds f H k m o h;exact⟨t,λc K0 s r ρ ar w d e Q i=>wp_loop_rounds rounds (u c K0 s r ρ ar w d e Q i)⟩
 |exit id =>
  intro f H k m o h;have A:some (jx.exit id,f,H)=some (k,m,o):=h;cases A;exact⟨.refl _,λc K0 _ _ ρ ar w d e Q i=>wp_exit (i c.K ρ ar w (Ren.le_refl _) d e)⟩
 |ret =>
  intro f H k m o h;have A:some (jx.ret,f,H)=some (k,m,o):=h;cases A;exact⟨.refl _,λc K0 _ _ ρ ar w d e Q i=>wp_ret (i c.K ρ ar w (Ren.le_refl _) d e)⟩
 |rangeFunc g ps a b WC WD =>
  refine Fy N (λf H k m o h=>(WC f H k m o h).1) (λf H k m o h=>(WD f H k m o h).1) (λM l=>?_) (λM l=>?_)
  .rw[ak]at M;exact Iz F v O R J rounds a M.1
  rw[ak]at M;exact Iz F v O R J rounds b M.2
 |scope b E =>
  intro f H k m o h;have p:mY b J (lq P G call J rounds b f H)=some (k,m,o):=h;obtain⟨t,u⟩:=zM Z E b f H k m o p;exact⟨t,λc K0 s r ρ ar w d e Q i=>wp_scope_within (n+1) (u c K0 s r ρ ar w d e Q i)⟩
 |label l =>
  intro f H k m o h;have A:some (jx.normal,f,H)=some (k,m,o):=h;cases A;exact⟨.refl _,λc K0 _ _ ρ ar w d e Q i=>wp_label (i c.K ρ ar w (Ren.le_refl _) d e)⟩
 |goto l =>
  intro f H k m o h;have A:some (jx.goto l,f,H)=some (k,m,o):=h;cases A;exact⟨.refl _,λc K0 _ _ ρ ar w d e Q i=>wp_goto (i c.K ρ ar w (Ren.le_refl _) d e)⟩
 |refuse=>intro f H k m o h;cases h
theorem CC (b:j6 P){G:Nat}(a:rJ P G GR call)(c:Bt P call)(d:gp call)(e:P.follows .mixedOrders=true)(rounds:Nat):∀n,Qo P G GR n (wq P G call rounds n)
 |0=>λ_ _ _ _ _ _ _ h=>by cases h
 |n+1=>λs rest f H g i j h=>by
  have k:mY s (wq P G call rounds n) (lq P G call (wq P G call rounds n) rounds rest f H)=some (g,i,j):=h;exact zM (CC b a c d e rounds n) (MV b a c d e (CC b a c d e rounds n) rounds rest) s f H g i j k
def nL (tmps:dW):ResultVar->Sem Value
 |.tmp t=>pure (tmps.getD t undef)
 |.cell x t=>do loadVar t (<- asAddr (tmps.getD x undef))
theorem CD {c:Cx}{w:World}{ρ:Ren}{H:Mem}(j:fc c ρ H w){f:Fr}{a ar:Act}(d:Em f a)(g:Cj ρ a ar){r:ResultVar}{v:Value}(h:A8 c.P H f r=some v) :
 ∃v',bR ρ v v'/\(nL ar.tmps r).run c.P w = .ok v' w:=by
 cases r with
 |tmp t =>
  simp only[A8,aq]at h;subst h;rw[d.get];exact⟨_,g.tmps.getD t .undef,rfl⟩
 |cell x t =>
  simp only[A8]at h;rw[d.get]at h;have b:=g.tmps.getD x .undef;obtain⟨v',e,k⟩:=Sl j b h;refine⟨v',k,?_⟩;unfold sS at h;split at h
  .rename_i i off heq;rw[heq]at b;simp only[nL];generalize ar.tmps.getD x undef=q at b e ⊢;cases b with
   |ptr _ _ r y d =>
    simp only[Instr.loadAt,Instr.sureAddr,Sem.run_bind,Sem.run_pure,Result.andThen_ok]at e;simp only[asAddr,Sem.run_bind,Sem.run_pure,Result.andThen_ok];exact e
  cases h
theorem Bz {c:Cx}{w:World}{ρ:Ren}{H:Mem}(e:fc c ρ H w){f:Fr}{a ar:Act}(g:Em f a)(i:Cj ρ a ar):∀(rs:List ResultVar) {l:aW},lQ c.P H f rs=some l ->
 ∃b,LR (bR ρ) l b/\(rs.mapM (nL ar.tmps)).run c.P w = .ok b w
 |[],l,h=>by
  simp only[lQ,aq]at h;subst h;exact⟨[],.nil,by simp⟩
 |r::rs,l,h=>by
  simp only[lQ]at h;split at h
  .rename_i v vs j d;cases h;obtain⟨v',k,m⟩:=CD e g i j;obtain⟨b,n,o⟩:=Bz e g i rs d;refine⟨v'::b,LR.cons k n,?_⟩;rw[List.mapM_cons];simp only[Sem.run_bind,Sem.run_pure];rw[m];simp only[Result.andThen_ok];rw[o];rfl
  cases h
theorem wE {c:Cx}{w:World}{ρ:Ren}{H:Mem}(n:fc c ρ H w){f:Fr}{a ar:Act}(o:Em f a)(p:Cj ρ a ar){fn:Func}{l:aW}(h:lQ c.P H f fn.results.toList=some l) :
 ∃v',bR ρ (xH l) v'/\(results fn ar.tmps).run c.P w = .ok v' w:=by
 obtain⟨g,b,q⟩:=Bz n o p _ h;have d:(results fn ar.tmps).run c.P w = .ok (if B:g.toArray.size=1 then g.toArray[0] else .tuple g.toArray) w:=by
  have e:results fn ar.tmps=(do let vs <- fn.results.mapM (nL ar.tmps);pure (if h:vs.size=1 then vs[0] else .tuple vs)):=rfl;rw[e,Array.mapM_eq_mapM_toList];simp only[Sem.run_bind,Sem.run_map];rw[q];rfl
 refine⟨_,?_,d⟩
 match l,b with
 |[],b=>rw[b.Ie];exact .tuple _ _ rfl (λi x y r=>by simp at r)
 |[v],b =>
  obtain⟨v',s,rfl,m,j⟩:=b.xJ;rw[j.Ie];exact m
 |v::u::t,b =>
  obtain⟨v',s,rfl,m,j⟩:=b.xJ;obtain⟨z,k,rfl,C,A⟩:=j.xJ;have:¬((v'::z::k).toArray.size=1):=by simp
  rw[dif_neg this];have hA:=b.array;exact .tuple _ _ hA.1 hA.2
theorem IA:∀(l:aW) {f a:Fr} {i:Nat},f.fill i l=some a->a.n=f.n/\∀j,a.get j=if i<=j/\j<i+l.length/\j<f.n then (l[j-i]?).getD undef else f.get j
 |[],f,a,i,h=>by
  simp only[Fr.fill,aq]at h;subst h;exact⟨rfl,λj=>by rw[aa];simp;omega⟩
 |v::l,f,a,i,h=>by
  simp only[Fr.fill]at h;split at h
  .rename_i o g;obtain⟨d,e2⟩:=Fr.iK g;obtain⟨k,m⟩:=IA l h;refine⟨by rw[k,d],λj=>?_⟩;rw[m,e2,d];simp only[aq,aJ];by_cases e:i+1<=j/\j<i+1+l.length/\j<f.n
   .rw[ag e,ag (by omega)];have:j-i=(j-(i+1))+1:=by omega
    rw[this];simp
   rw[aa e];by_cases b:i=j/\j<f.n
   .obtain ⟨rfl,c⟩:=b;rw[ag ⟨rfl,c⟩,ag (by omega)];simp
   rw[aa b,aa (by omega)]
  cases h
theorem Fz {α:Type}:∀(d j:Nat),(Tr.full d:Tr α).get j=none
 |0,_=>rfl
 |d+1,j=>by
  show (Tr.n (Tr.full d) none (Tr.full d)).get j=none;rw[Tr.xK,Fz d,Fz d];simp
structure Xf (r:Nat)(w w':World):Prop where
 below:∀B,B<=r->Below B w w'
 rows:∀k,k≠r->k<w.heap.size->w'.heap[k]? = w.heap[k]?
 size:w.heap.size<=w'.heap.size
def ahN (P:Program)(f:FuncId)(u:Value):Prop:=∀(w:World) (r n:Nat) (t:TypeId) (fr:Nat×Nat) (C:dW),w.heap[r]? = some (.cells C t fr)->sq C fr->n<=C.size->C.size<9223372036854775808->P.underlying t=some (.int .u8) ->
 (∀(j:Nat) v,C[j]? = some v->∃k:Int,v = .int .u8 k)->Calls P f #[.slice (some ⟨r,0,none⟩) n C.size] w λe w'=>e = .returned u/\Xf r w w'
theorem fc.turned {c:Cx}{ρ:Ren}{H:Mem}{w w':World}(h:fc c ρ H w){r:Nat}(m:c.own r)(a:Xf r w w')(u:∃C t fr,w.heap[r]? = some (.cells C t fr))(g:∀i b x y,H.get i=some b->b.live=true->ρ i=some (x,y)->x≠r):fc c ρ H w':=by
 have lt:∀{k:Nat} {o:Obj},w.heap[k]? = some o->k<w.heap.size:=λh=>(aF.1 h).1
 obtain⟨D,t0,v,j⟩:=u;refine⟨⟨h.stay.below.trans (a.below _ m.1),λk o l=>?_⟩,bA h.base a.size,h.dom,h.lk,h.A0,h.kE,λi b hi n=>?_,h.inj,λi b hi z=>?_,h.xm⟩
 .have d:=h.stay.kept k o l;rw[a.rows k (λe=>by subst e;rw[m.2]at l;cases l) (lt d)];exact d
 .obtain ⟨q,x,C,fr,s,d,A,p,B⟩:=h.blk i b hi n;exact⟨q,x,C,fr,s,d,A,by rw[a.rows q (g i b q x hi n d) (lt p)];exact p,B⟩
 refine(h.maps i b hi z).heap λq es clock f=>?_
 rw[a.rows q (λe=>by subst e;rw[j]at f;cases f) (lt f)];exact f
theorem MW {t:TypeId}(h:J2 P t=true):P.underlying t=some (.int .u8)/\nI P t=some (.int .u8 0)/\dJ P t=some 1:=by
 unfold J2 at h;split at h
 .rename_i a b c;exact⟨a,b,c⟩
 cases h
theorem Xh {v:Value}(h:Mj v=true):∃k:Int,v = .int .u8 k:=by
 unfold Mj at h;split at h
 .exact ⟨_,rfl⟩
 cases h
structure lR (P:Program)(GR:List kV)(K:fZ):Prop where
 calls:∀f args v,K f args=some v->dm args=true->∀w,mG GR w->Calls P f args.toArray w λe w'=>e = .returned v/\Below w.heap.size w w'
 Xi:∀f u,K f qX=some u->ahN P f u
 Xj:∀f s items,K (sL f) [jk,.string s]=some (.tuple items)->dm items.toList=true->Km P f s items.toList
abbrev y4 (P:Program)(K:fZ):Prop:=lR P [] K
theorem y4.of {K:fZ}(b:∀f,K f qX=none)(c:∀f s,K (sL f) [jk,.string s]=none)(h:∀f args v,K f args=some v->∀w,Calls P f args.toArray w λe w'=>e = .returned v/\Below w.heap.size w w'):y4 P K :=
 ⟨λf args v a _ w _=>h f args v a w,(λf u a=>by rw[b]at a;cases a),(λf s items a=>by rw[c]at a;cases a)⟩
theorem wF:y4 P rX:=.of (λ_=>rfl) (λ_ _=>rfl) λ_ _ _ h=>by simp[rX]at h
theorem LR.m9 {ρ:Ren}{l b:aW}(h:LR (bR ρ) l b)(c:dm l=true):b=l:=by
 apply lO;intro i;by_cases hi:i<l.length
 .have a:i<b.length:=h.1 ▸ hi;have d:=h.2 i _ _ (aR hi) (aR a);rw[aR hi,aR a,Ev.m9 d (qy c (aR hi))]
 rw[eD (fX hi),eD (fX (h.1 ▸ hi))]
theorem MX {fn:Func}{r:Out}{v:Value}{b:Mem}(h:Ek P fn r=some (v,b)):∃c f l,r=some (c,f,b)/\(c = .normal\/c = .ret)/\lQ P b f fn.results.toList=some l/\v=xH l:=by
 unfold Ek at h;split at h
 .rename_i f e;obtain⟨a,rfl⟩:=bY h;simp only[aO]at a;obtain⟨l,d,rfl⟩:=a;exact⟨_,_,_,rfl,.inl rfl,d,rfl⟩
 .rename_i f e;obtain⟨a,rfl⟩:=bY h;simp only[aO]at a;obtain⟨l,d,rfl⟩:=a;exact⟨_,_,_,rfl,.inr rfl,d,rfl⟩
 cases h
theorem IB {fn:Func}{c:Cx}{K0:Nat->Option Obj}{h:Fr}{a ar:Act}{ρ:Ren}{H:Mem}{R:Ending->World->Prop}(b:Em h a)(i:Cj ρ a ar){l:aW}(j:lQ c.P H h fn.results.toList=some l)
 (k:∀v' w,bR ρ (xH l) v'->fc (c.kp K0) ρ H w->R (.returned v') w):∀(D:List Deferred) (K:Nat->Option Obj) (w:World),Marks c.B K0 K D->fc (c.kp K) ρ H w->LeavesInM Fence.wide 20 c.P fn ar.tmps R D .returning w
 |[],K,w,g,f=>by
  obtain⟨v',p,q⟩:=wE f b i j;exact⟨v',q,k v' w p (f.yX g)⟩
 |d::D,K,w,⟨m,s,t,n,g⟩,f=>by
  subst s;have u:w.heap[m]? = some (.deferred (some [])):=f.stay.kept m _ n;refine⟨by simp,.inl ⟨m,_,rfl,run_takeDeferred u,?_⟩⟩;refine IB b i j k D (MR K m) _ g ((fc.Kl (c:=c) f n t (.deferred none)).yX λr o b=>?_);unfold MR at b;split at b
  .cases b
  rename_i e;unfold sx;rw[aa e];exact b
theorem mH (f:j6 P){G:Nat}(b:rJ P G GR call)(g:Bt P call)(z:gp call)(A:P.follows .mixedOrders=true)(rounds:Nat){id:FuncId}{args:aW}{H k:Mem}{v:Value}(h:mZ P G call rounds id args H=some (v,k)) :
 iZ H k/\∀(c:Cx),c.P=P->c.At G GR->∀ ρ w args',fc c ρ H w->LR (bR ρ) args args' ->
  Calls P id args'.toArray w λe w'=>∃ ρ' v',e = .returned v'/\ρ.le ρ'/\bR ρ' v v'/\fc c ρ' k w':=by
 unfold mZ at h;split at h;case h_2=>cases h
 rename_i fn m;split at h;case h_2=>cases h
 rename_i C o;split at h;case h_2=>cases h
 rename_i D p;rw[ay]at h;split at h;case isFalse=>cases h
 rename_i hlen;have q:args.length<=fn.ntmps:=by simpa[bF] using hlen
 obtain⟨Y,Z,l,E,r,F,rfl⟩:=MX h;obtain⟨I,J⟩:=MV f b g z A (CC f b g z A rounds rounds) rounds C _ _ _ _ _ E;refine⟨I,λc L M ρ w args' N d=>callsIn_wide (n:=20) |>.1 (callsIn_of_wp_marks m o trivial (wpIn_wide.2 ?_))⟩;subst L;have O:Fv c.K c ρ D { tmps:=args'.toArray++Array.replicate (fn.ntmps-args'.toArray.size) undef,defers:=[] }:=by
  refine⟨{ tmps:=args.toArray++Array.replicate (fn.ntmps-args.toArray.size) undef,defers:=[] },?_,?_,λ_ _ h=>h⟩
  .obtain ⟨Q,e2⟩:=IA args p;refine⟨by rw[Q];simp;omega,λi=>?_⟩;rw[e2];by_cases hi:i<args.length
   .rw[ag (by simp;omega)];have:i<(args.toArray++Array.replicate (fn.ntmps-args.toArray.size) undef).size:=by simp;omega
    simp only[mg];rw[ij,ag (by simpa using hi)];simp
   have S:(args.toArray++Array.replicate (fn.ntmps-args.toArray.size) undef).getD i undef=undef:=by
    simp only[mg];rw[ij,aa (by simpa using hi),Array.getElem?_replicate];split<;>rfl
   rw[aa (by omega),Fr.get_eq,Fz,S];split<;>rfl
  refine⟨LR.of_array ?_,rfl⟩;have:args'.toArray.size=args.toArray.size:=by simp[d.1]
  rw[this];simp only[Array.toList_append];exact d.append ⟨rfl,λi x y B hy=>by
   rw[B]at hy;cases hy;have:x=undef:=by
    have:=bu B;simp at this;exact this.2
   subst this;exact .undef⟩
 refine J c c.K rfl M ρ _ w O N _ λK1 ρ' T w' m1 U V=>?_
 obtain⟨a,s,j,t⟩:=U;have u:=j.dr;have fin:=IB (fn:=fn) (c:=c) (K0:=c.K) s j F (R:=λe w'=>∃ ρ' v',e = .returned v'/\ρ.le ρ'/\bR ρ' (xH l) v'/\fc c ρ' k w') (λv' w2 W X=>⟨ρ',v',rfl,m1,W,X⟩) a.defers K1 w' t V;rw[<-u]at fin;rcases r with rfl|rfl
 .exact fin
 exact fin
theorem Ab (K:fZ)(G rounds:Nat)(id:FuncId)(args:aW)(H:Mem):pg P G K rounds 0 id args H=none:=rfl
theorem nr (K:fZ)(G rounds n:Nat)(id:FuncId)(args:aW)(H:Mem):pg P G K rounds (n+1) id args H=match K id args with|some v=>if dm args&&br v then some (v,H) else none|none=>oY (qm P K id args H) (oY (mZ P G (pg P G K rounds n) rounds id args H) (z0 P K id args H)):=by
 show Option.rec (motive:=λ_=>gQ) (oY (qm P K id args H) (oY (mZ P G (pg P G K rounds n) rounds id args H) (z0 P K id args H))) (λv=>ah (dm args&&br v) (some (v,H)) none) (K id args)=_;cases K id args with
 |none=>rfl
 |some v=>exact ay _ _ _
theorem Qp {K:fZ}{id:FuncId}(h:K id qX=none)(args:aW)(H:Mem):qm P K id args H=none:=by
 unfold qm;split
 .rw[h]
 rfl
theorem Xk {K:fZ}(Z:lR P GR K){id:FuncId}{args:aW}{H F:Mem}{v:Value}(h:qm P K id args H=some (v,F)){c:Cx}(j7:c.P=P){ρ:Ren}{w:World}{args':aW}(l:fc c ρ H w)(g:LR (bR ρ) args args') :
 Calls P id args'.toArray w λe w'=>∃ ρ' v',e = .returned v'/\ρ.le ρ'/\bR ρ' v v'/\fc c ρ' F w':=by
 subst j7;unfold qm at h;split at h;case h_2=>cases h
 rename_i i n c0;split at h;case h_2=>cases h
 rename_i u b hu hb;rw[ay]at h;split at h;case isFalse=>cases h
 rename_i a;simp only[ak,aQ]at a;obtain⟨⟨⟨⟨⟨f1,G⟩,f3⟩,I⟩,f5⟩,f6⟩:=a;have G:=aB G;have I:=aB I;obtain⟨t1,t2,J⟩:=MW f6;split at h;case h_2=>cases h
 rename_i H1 M;cases h;obtain⟨v',t',rfl,m,ht⟩:=g.xJ;have t:t'=[]:=ht.Ie;subst t;obtain⟨k1,k2,k3,k4,k5⟩:=o5 M;obtain⟨N,O⟩:=eA hb;cases m with
 |slice _ _ _ _ r x Q =>
  obtain⟨r',x',C,fr,s,R,e2,S,e4,e5,e6,e7,e8⟩:=l.blk i b N O;rw[Q]at R;cases R;have o:¬i<c.L:=by have:=l.lk;omega
  have own:=e2.resolve_left λh=>o h.1
  have A:=e4.resolve_left o;have hs:s=1:=by
   have:=e5.1.resolve_left o;rw[J]at this;cases this;rfl
  subst hs;have spare:=e8.resolve_left o;have hC:C.size=c0+x:=by rw[e6,f3,Nat.mul_one]
  have B:C.size<9223372036854775808:=by
   rcases spare.room with D|D|D
   .omega
   .have:=D 1 J;omega
   omega
  have f:∀(j:Nat) v,C[j]? = some v->∃k:Int,v = .int .u8 k:=by
   intro j v m;by_cases p:j<b.cells.length
   .have hc:=aR p;obtain⟨k,T⟩:=Xh (aN.1 f5 _ (ko p));obtain⟨v2,m1,U⟩:=e7.2 j _ hc (by rw[T];rfl);rw[m]at m1;cases m1;rw[T]at U;cases U;exact⟨k,rfl⟩
   rcases spare.zero j v (by omega) m with⟨z,V,W⟩|⟨_,rfl⟩
   .rw[t2]at V;cases V;simp[Value.cells]at W;exact⟨0,W⟩
   exact⟨0,rfl⟩
  have d:=Z.Xi id v hu w r n b.elem fr C S A (by omega) B t1 f;rw[hC]at d;refine d.mono ?_;rintro e w' ⟨rfl,E⟩;refine⟨ρ,v,rfl,Ren.le_refl _,eu _ f1,(l.kill M).turned own E ⟨C,_,fr,S⟩ λj X q y p Y hq e=>?_⟩;subst e;obtain⟨g1,g2⟩:=k3 j X p (.inl Y);exact g2 (l.inj j i X b q y x g1 Y N O hq Q)
theorem MY {K:fZ}{id:FuncId}{args:aW}{H b:Mem}{v:Value}(h:qm P K id args H=some (v,b)):iZ H b:=by
 unfold qm at h;split at h;case h_2=>cases h
 split at h;case h_2=>cases h
 rw[ay]at h;split at h;case isFalse=>cases h
 split at h;case h_2=>cases h
 rename_i c a;cases h;unfold kill at a;split at a
 .exact .set a
 cases a
theorem Ac {K:fZ}{id:FuncId}{args:aW}{H d:Mem}{v:Value}(h:z0 P K id args H=some (v,d)):∃(i:Nat) (s:ByteArray) (items:dW) (b:kV),args=[.pointer (some ⟨i,0,none⟩)]/\P.funcs[id]? = none/\v = .tuple (jk::items.toList).toArray/\alive H i=some b/\b.cells=[.string s]/\kill H i=some d/\dm items.toList=true/\K id [jk,.string s]=some (.tuple items):=by
 unfold z0 at h;split at h;case h_2=>cases h
 rename_i i;split at h;case h_2=>cases h
 rename_i a;split at h;case h_2=>cases h
 rename_i b f;split at h;case h_2=>cases h
 rename_i s g;split at h;case h_2=>cases h
 rename_i items e;rw[ay]at h;split at h;case isFalse=>cases h
 rename_i c;split at h;case h_2=>cases h
 rename_i d j;cases h;exact⟨i,s,items,b,rfl,a,rfl,f,g,j,c,e⟩
theorem MZ {G rounds:Nat}{id:FuncId}{args:aW}{H b:Mem}{v:Value}(h:mZ P G call rounds id args H=some (v,b)):P.funcs[id]? ≠ none:=by
 unfold mZ at h;split at h
 .rename_i fn a;rw[a];simp
 cases h
theorem CE (k:j6 P)(z:P.follows .mixedOrders=true){K:fZ}(r:lR P GR K)(G rounds:Nat):∀n,rJ P G GR (pg P G K rounds n)/\gp (pg P G K rounds n)/\Bt P (pg P G K rounds n)
 |0=>⟨λf args H v l h=>(by rw[Ab]at h;cases h),λf args H v l h=>(by rw[Ab]at h;cases h),λf i H v l _ h=>(by rw[Ab]at h;cases h)⟩
 |n+1=>by
  obtain⟨m,o,p⟩:=CE k z r G rounds n;refine⟨λf args H v l h g c A B ρ w args' t a=>?_,λf args H v l h=>?_,λf i H v l d h=>?_⟩
  .rw[nr]at h;split at h
   .rename_i u C;split at h
    .rename_i x;cases h;simp only[ak]at x;rw[a.m9 x.1];refine(r.calls f args _ C x.1 w (t.Ki B)).mono ?_;rintro e w' ⟨rfl,E⟩;exact⟨ρ,_,rfl,Ren.le_refl _,eu _ x.2,t.grow E⟩
    cases h
   unfold oY at h;split at h
   .rename_i q j;cases h;exact Xk r j A t a
   split at h
   .rename_i q j;cases h;exact(mH k m p o z rounds j).2 c A B ρ w args' t a
   obtain⟨_,_,items,_,_,d,rfl,_⟩:=Ac h;rcases g with g|g
   .exact absurd d g
   have:br (.tuple (jk::items.toList).toArray)=false:=rfl;rw[this]at g;cases g
  .rw[nr]at h;split at h
   .split at h
    .cases h;exact .refl _
    cases h
   unfold oY at h;split at h
   .rename_i q j;cases h;exact MY j
   split at h
   .rename_i q j;cases h;exact(mH k m p o z rounds j).1
   obtain⟨i,_,_,_,_,_,_,_,_,y,_⟩:=Ac h;unfold kill at y;split at y
   .exact .set y
   cases y
  rw[nr]at h;split at h
  .rename_i u C;have:dm [.pointer (some ⟨i,0,none⟩)]=false:=rfl;rw[this]at h;simp at h
  unfold oY at h;split at h
  .rename_i q j;simp[qm]at j
  split at h
  .rename_i q j;exact absurd d (MZ j)
  obtain⟨L,s,items,b,e,_,rfl,F,k2,I,D,J⟩:=Ac h;cases e;exact⟨s,items,b,rfl,F,k2,I,D,r.Xj _ _ _ J D⟩
theorem Qq (a:j6 P)(b:P.follows .mixedOrders=true){K:fZ}(c:lR P GR K)(G rounds n:Nat):rJ P G GR (pg P G K rounds n)/\gp (pg P G K rounds n) :=
 ⟨(CE a b c G rounds n).1,(CE a b c G rounds n).2.1⟩
theorem SB (b:j6 P)(i:P.follows .mixedOrders=true){K:fZ}(j:lR P GR K){G rounds n:Nat}{f:FuncId}{args:aW}{H d:Mem}{v:Value}(h:pg P G K rounds n f args H=some (v,d))
 (g:P.funcs[f]? ≠ none\/br v=true) {c:Cx} (k:c.P=P) (l:c.At G GR) {ρ:Ren} {w:World} {args':aW} (m:fc c ρ H w) (a:LR (bR ρ) args args') :
 Calls P f args'.toArray w λe w'=>∃ ρ' v',e = .returned v'/\ρ.le ρ'/\bR ρ' v v'/\fc c ρ' d w' :=
 (Qq b i j G rounds n).1 f args H v d h g c k l ρ w args' m a
theorem xV:∀(l:List kV) {H a:Mem},H.wu l=some a->a.size=H.size+l.length/\a.lk=a.size/\∀i,a.get i=if i<H.size then H.get i else l[i-H.size]?
 |[],H,a,h=>by
  simp only[Mem.wu,aq]at h;subst h;refine⟨rfl,rfl,λi=>?_⟩;show H.get i=_;split
  .rfl
  rename_i hi;cases d:H.get i with
  |none=>simp
  |some b=>exact absurd (Mem.fM d) hi
 |b::l,H,a,h=>by
  simp only[Mem.wu]at h;split at h
  .rename_i k e;obtain⟨q1,q2,q3⟩:=Mem.eG e;obtain⟨r1,f,g⟩:=xV l h;refine⟨by rw[r1,q1];simp;omega,f,λi=>?_⟩;rw[g,q1,q3];by_cases c:i<H.size
   .rw[ag (by omega),ag c,aa (by omega)]
   by_cases j:i=H.size
   .subst j;rw[ag (by omega),aa c,ag rfl];simp
   rw[aa (by omega),aa c];have:i-H.size=(i-(H.size+1))+1:=by omega
   rw[this];simp
  cases h
theorem fc.rows {rows:List kV}{H:Mem}(m:Mem.wu Mem.empty rows=some H){w:World}(n:mG rows w)(a:∀b∈rows,dm b.cells=true/\jK b=false) :
 fc ⟨P,w.heap.size,rows.length,rows.length,w,λ_=>none⟩ (λi=>if i<rows.length then some (i,0) else none) H w:=by
 obtain⟨p,e2,q⟩:=xV rows m;have es:H.size=rows.length:=by rw[p];simp[Mem.empty]
 have f:∀i,H.get i=rows[i]? := λi=>by rw[q,aa (by simp[Mem.empty])];simp[Mem.empty]
 refine⟨⟨Below.refl _ _,λr o h=>by cases h⟩,aG _,λi x h=>?_,?_,?_,λg s=>ag s,λi b hi t=>?_,λi j bi u r x y hi _ B _ k d=>?_,λi b hi e=>?_,λi j bi u r x y hi e=>?_⟩
 .rw[es];split at h
  .assumption
  cases h
 .rw[e2,es];exact aG _
 .rw[es];exact aG _
 .rw[f]at hi;have c:i<rows.length:=(bH.1 hi).1;obtain⟨fr,z,A⟩:=n.2 i b hi t;refine⟨i,0,b.cells.toArray,fr,0,ag c,.inl ⟨c,rfl⟩,z,.inr A,⟨.inl c,λ_=>rfl⟩,by simp,⟨by simp,λj v l _=>⟨v,by simpa using l,?_⟩⟩,.inl c⟩;exact eu _ (qy (a b (bu hi)).1 l)
 .split at k
  .split at d
   .cases k;cases d;rfl
   cases d
  cases k
 .rw[f]at hi;rw[(a b (bu hi)).2]at e;cases e
 rw[f]at hi;rw[(a bi (bu hi)).2]at e;cases e
theorem M9 (b:j6 P)(g:P.follows .mixedOrders=true){K:fZ}{rows:List kV}(i:lR P rows K){rounds depth:Nat}{f:FuncId}{args:aW}{v:Value}(h:J3 P K rows rounds depth f args=some v)(w:World)(d:mG rows w) :
 Calls P f args.toArray w λe w'=>e = .returned v/\Below w.heap.size w w':=by
 unfold J3 at h;split at h
 .rename_i H j;split at h
  .rename_i u n k;rw[ay]at h;split at h
   .rename_i a;cases h;simp only[ak,aN,aU]at a;refine(SB b g i k (.inr a.1.1) (c:=⟨P,w.heap.size,rows.length,rows.length,w,λ_=>none⟩) rfl ⟨rfl,d,d.1⟩ (fc.rows j d a.2) (args':=args) ⟨rfl,vf args a.1.2⟩).mono ?_;rintro e w' ⟨ρ',v',rfl,o,l,m⟩;exact⟨by rw[Ev.m9 l a.1.1],m.below⟩
   cases h
  cases h
 cases h
theorem Na (h:(P.funcs.toList.all λfn => !(fn.name == "runtime.NumGoroutine"))=true):j6 P:=by
 intro id fn b a;have c:fn∈P.funcs.toList:=by have:=bq b;simpa using this
 have:=aN.1 h fn c;simp[a]at this
end
end Go.Ev
namespace Go.Ev
open Go.WideShapes
end Go.Ev
namespace Go.Ev
def SC {H:Type}:DataW H->Value
 |.lit (.int k n)=>.int k n
 |.lit (.string s)=>.string ⟨s.toArray⟩
 |.lit (.bool b)=>.bool b
 |_=>undef
section
variable {P:Program} {w:World}
theorem Qr {H:Type}{enc:TypeId×Value->H}{sp:Nat->Bool}{held:Bool}{base fuel n:Nat}{t e:TypeId}{cs:aW}{ds:List (DataW H)}{p:List MemPlace}(g:P.underlying t=some (.array n e))(a:(∃k,P.underlying e=some (.int k))\/P.underlying e=some .string)
 (j:P.cellsOf e=1) (l:P.cellsOf t=n) (h:DataW.trod enc P w base sp held fuel t cs=some (.agg ds,p)):cs=ds.map SC:=by
 obtain⟨xs,m,_,ex,hlen,o,c⟩:=DataW.trod_array g h;have d:ds=xs.map (·.1):=DataW.agg.inj (lg ex).1
 subst d;apply lO;intro i;by_cases hi:i<n
 .have f:=c i hi;rw[j,Nat.mul_one,aR (by omega:i<xs.length)]at f;have q:∃v,(cs.drop i).take 1=[v]/\v=SC (xs[i]'(by omega)).1:=by
   rcases a with⟨k,a⟩|a
   .obtain ⟨z,b,e2,_⟩:=DataW.trod_int a f;exact⟨_,b,by rw[e2];rfl⟩
   obtain⟨s,b,e2,_⟩:=DataW.trod_string a f;exact⟨_,b,by rw[e2];simp[SC]⟩
  obtain⟨v,b,e2⟩:=q;have r:cs[i]? = some v:=by
   have u:((cs.drop i).take 1)[0]? = some v:=by rw[b];rfl
   simpa using u
  rw[r,e2,dg,dg,aR (by omega:i<xs.length)];rfl
 rw[eD (by omega),eD (by simp;omega)]
theorem laid_mem:∀{laid:List (String×DataW Unit)} {ps:List MemPlace},DataW.LaidVars P w laid ps->∀{nm:String} {d:DataW Unit},(nm,d)∈laid ->
 ∃g t cs fuel p,P.globalNamed nm=some g/\(P.globals[g]?).map (·.type)=some t/\w.var? P nm=some cs/\DataW.trod (λ_=>()) P w 0 (λ_=>true) false fuel t cs.toList=some (d,p)/\∀x∈MemPlace.row ⟨g,0,none⟩ cs.size,x∈ps
 |[],_,_,_,_,b=>by cases b
 |(n,d)::r,ps,h,nm,A,b=>by
  obtain⟨g,t,cs,fuel,p,q,f,i,j,k,l,rfl⟩:=h;rcases bD.1 b with heq|b
  .cases heq;exact⟨g,t,cs,fuel,p,f,i,j,k,λx c=>by simp[c]⟩
  obtain⟨m,o,e,a,s,u,k2,v,y,z⟩:=laid_mem l b;exact⟨m,o,e,a,s,u,k2,v,y,λx c=>by simp[z x c]⟩
def ano {H:Type}:DataW H->Option aW
 |.agg ds=>some (ds.map SC)
 |_=>none
theorem laid_at {laid:List (String×DataW Unit)}(h:laidMet P laid w){nm:String}{d:DataW Unit}{k:Nat}(v:laid[k]? = some (nm,d)){cv:aW}(f:ano d=some cv){g n:Nat}{t e:TypeId}(j:P.globalNamed nm=some g)(x:(P.globals[g]?).map (·.type)=some t)
 (y:P.underlying t=some (.array n e)) (z:(∃k,P.underlying e=some (.int k))\/P.underlying e=some .string) (A:P.cellsOf e=1) (i:P.cellsOf t=n) (l:cv.isEmpty=false) :
 ∃m,w.heap[g]? = some (.cells cv.toArray m (0,0)):=by
 obtain⟨ps,B,_,C⟩:=h;obtain⟨G,m,cs,fuel,p,o,k2,q,D,E⟩:=laid_mem B (bu v);rw[j]at o;cases o;rw[x]at k2;cases k2;cases d with
 |agg ds =>
  simp only[ano,aq]at f;have r:cs.toList=cv:=by rw[<-f];exact Qr y z A i D
  have a:0<cs.size:=by
   have H:cs.size=cv.length:=by rw[<-r];simp
   have I:cv.length≠0:=by intro F;rw[aS.1 F]at l;cases l
   omega
  have b:MemPlace.cell g 0∈MemPlace.row ⟨g,0,none⟩ cs.size:=by
   unfold MemPlace.row;simp only[cG,List.mem_range];exact⟨0,a,by simp⟩
  obtain⟨⟨c,u,s⟩,_⟩:=C g 0 (E _ b);simp only[World.var?,j,bh,s,aq]at q;subst q;exact⟨u,by rw[s,<-r]⟩
 |_=>cases f
def Ep:kV:=⟨[],0,false,false⟩
theorem FA {cv:aW}{a:TypeId}{g:Nat}(h:w.heap[g]? = some (.cells cv.toArray a (0,0))):∃fr,w.heap[g]? = some (.cells (kV.mk cv a true false).cells.toArray (kV.mk cv a true false).elem fr)/\sq (kV.mk cv a true false).cells.toArray fr :=
 ⟨(0,0),h,rZ _⟩
theorem ahO {o:Obj}{g:Nat}(h:w.heap[g]? = some o):g<w.heap.size:=(aF.1 h).1
end
end Go.Ev

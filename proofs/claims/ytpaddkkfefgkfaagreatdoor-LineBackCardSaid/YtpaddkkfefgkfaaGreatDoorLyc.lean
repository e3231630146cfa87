/- Regions whose order is drawn. Plans for regions whose order is drawn. Ranges over functions: rows beside the run's own, what an iterator promises, code in a round. Bodies and calls: the evaluator's answer is the machine's. Structs that came in by value: their cells. Package-level variables that read as given data: the rows that the evaluator starts with. -/
import Derived.Test.YtpaddkkfefgkfaaGreatDoorLyb
import Derived.RangeFuncLeaves
import Derived.RangeFuncRecord
import Derived.RangeFuncSeq
import Derived.OrdersIn
import Derived.TacticsIn
import Derived.LoopNIn
import Derived.Scope
import Derived.WideShapes
import Derived.ProofKit
import Derived.OpenShut
import Derived.ChangeArms
import Derived.FnData
import GoSem.ClaimJoined
set_option linter.unusedVariables false
set_option linter.unusedSimpArgs false

namespace Go.Ev
open Go.RowKit
section
variable {P:Program} {call:aN} {ops:Array Oper} {GR:List Blk}
inductive Reach (ops:Array Oper):Nat->Nat->Prop where
 |one {i:Nat} {o:Oper} {e:Edge} (ho:ops[i]? = some o) (he:e∈o.after) (hb:Region.binds .any e=true):Reach ops i e.on
 |more {i:Nat} {o:Oper} {e:Edge} {j:Nat} (ho:ops[i]? = some o) (he:e∈o.after) (hb:Region.binds .any e=true) (h:Reach ops e.on j):Reach ops i j
def HC (ops:Array Oper) (listed:Array Bool) (i:Nat):Prop:=∀(j:Nat) (oj:Oper),ops[j]? = some oj->ez oj.op=true->listed.getD j true=true->Reach ops i j
def EY (listed:Array Bool):Nat->Nat
 |0=>0
 |n+1=>EY listed n+if listed.getD n true=true then 0 else 1
theorem EZ {listed:Array Bool} {i:Nat}:∀n,EY (listed.setIfInBounds i true) n+(if i<n/\listed.getD i true=false then 1 else 0)=EY listed n
 |0=>by simp[EY]
 |
  n+1=>by
  have ih:=EZ (listed:=listed) (i:=i) n;simp only[EY];by_cases hin:i=n
  .
   subst hin;rw[if_neg (by omega)] at ih
   have e:(listed.setIfInBounds i true).getD i true=true:=by
    by_cases hlt:i<listed.size<;>simp[Array.getD,hlt]
   rw[e];cases hb:listed.getD i true with
   |true=>simp;omega
   |false=>simp;omega
  rw[getD_set_ne true hin];by_cases h1:i<n
  .
   have:i<n+1:=by omega
   simp only[h1,this,true_and] at ih ⊢;omega
  have:¬i<n+1:=by omega
  simp only[h1,this,false_and,if_false] at ih ⊢;omega
def cnt (ops:Array Oper) (listed:Array Bool):Nat:=EY listed ops.size
theorem JY {listed:Array Bool} {i:Nat} (hi:i<ops.size) (h:listed.getD i true=false):cnt ops (listed.setIfInBounds i true)+1=cnt ops listed:=by
 have:=EZ (listed:=listed) (i:=i) ops.size
 rw[if_pos ⟨hi,h⟩] at this
 exact this
theorem JZ {listed:Array Bool}:∀n,EY listed n<=n
 |0=>Nat.le_refl _
 |
  n+1=>by
  have:=JZ (listed:=listed) n;simp only[EY];split<;>omega
theorem u9 {listed:Array Bool} {i:Nat} (hi:i∈Region.ready .any ops listed):i<ops.size/\listed.getD i true=false/\cnt ops (listed.setIfInBounds i true)+1=cnt ops listed:=by
 obtain ⟨h0,o,ho,_⟩:=mem_ready.1 hi
 have hlt:=(Array.getElem?_eq_some_iff.1 ho).1
 exact ⟨hlt,h0,JY hlt h0⟩
def Ext (H H2:Mem):Prop:=∀(i:Nat) (b:Blk),H.get i=some b->H2.get i=some b
def E3:Option Nat->Mem->Mem->Prop
 |none,H,H2=>Ext H H2
 |some i,H,H2=>∀b:Blk,H.get i=some b->H2.get i=some b
theorem E3.HF {pr:Option Nat} {H H2:Mem} (h:Ext H H2):E3 pr H H2:=by
 cases pr with
 |none=>exact h
 |some i=>exact h i
inductive iG (P:Program) (call:aN) (ops:Array Oper) (Fin:Act->Mem->Prop) (RL:List (Nat×Option Nat)):Option Nat->Array Bool->List Nat->Act->Mem->Prop where
 |pay {listed:Array Bool} {l1 l2:List Nat} {i:Nat} {o:Oper} {R:Option (List Nat)} {lk:Bool} {a a':Act} {H H':Mem} (ho:ops[i]? = some o) (hm:makes P o=true) (hst:gY P call ops R lk o a H=some (a',H')) (hap:∀m∈l1++l2,∀om,ops[m]? = some om->∀x,o.dst=some x->x ∉ om.looksAt ops)
  (h:iG P call ops Fin RL none listed (l1++l2) a' H'):iG P call ops Fin RL none listed (l1++i::l2) a H
 |step {listed:Array Bool} {bC:List Nat} {a:Act} {H:Mem} (h0:Region.ready .any ops listed=[]->bC=[]/\Fin a H) (h:∀i∈Region.ready .any ops listed,iG P call ops Fin RL (some i) listed bC a H):iG P call ops Fin RL none listed bC a H
 |sync {listed:Array Bool} {bC:List Nat} {i:Nat} {o:Oper} {R:Option (List Nat)} {lk:Bool} {a a':Act} {H H':Mem} (ho:ops[i]? = some o) (hst:gY P call ops R lk o a H=some (a',H')) (hR:∀q∈RL,Reach ops i q.1\/E3 q.2 H H') (hap:∀m∈bC,∀om,ops[m]? = some om->(∀x,om.dst=some x->x ∉ o.looksAt ops/\o.dst≠some x)/\∀x,o.dst=some x->x ∉ om.looksAt ops)
  (h:iG P call ops Fin RL none (listed.setIfInBounds i true) bC a' H'):iG P call ops Fin RL (some i) listed bC a H
 |VP {listed:Array Bool} {bC:List Nat} {i:Nat} {o:Oper} {a:Act} {H:Mem} (ho:ops[i]? = some o) (hm:makes P o=true) (pU:(kU P a.eval o).isSome=true) (hd:∀m∈bC,∀om,ops[m]? = some om->om.dst≠o.dst/\∀x,om.dst=some x->x ∉ o.looksAt ops)
  (h:iG P call ops Fin RL none (listed.setIfInBounds i true) (i::bC) a H):iG P call ops Fin RL (some i) listed bC a H
theorem lZ {o:Oper} (h:makes P o=true):o.guard=none/\(∃d,o.dst=some d)/\((∃t,o.op = .alloc t)\/∃t len ps,o.op = .buildSlice t len ps):=by
 unfold makes at h
 split at h
 .
  rename_i h1 h2 h3;exact ⟨h2,⟨_,h3⟩,.inl ⟨_,h1⟩⟩
 .
  rename_i h1 h2 h3;exact ⟨h2,⟨_,h3⟩,.inr ⟨_,_,_,h1⟩⟩
 cases h
theorem si {o:Oper} (h:makes P o=true):quiet P o.op=false:=by
 obtain ⟨_,_,⟨t,h1⟩|⟨t,l,ps,h1⟩⟩:=lZ h<;>(rw[h1];rfl)
theorem S4 {H H1:Mem} {n:Nat} {b:Blk} (h:({ H with lk:=n }:Mem).push b=some H1):H.push b=some { H1 with lk:=H.lk }:=by
 unfold Mem.push at h ⊢
 cases hs:H.t.set H.size b with
 |none=>simp only[hs] at h;cases h
 |some t=>simp only[hs] at h;cases h;rfl
theorem S5 {o:Oper} (hm:makes P o=true) {ev:Operand->Value} {H H':Mem} {v:Value} (h:opA P call ev o H=some (v,H')) :
 ∃te cs sh,kU P ev o=some (te,cs,sh)/\H.push ⟨cs,te,true,true⟩=some H'/\v=rI sh H.size:=by
 obtain ⟨_,_,⟨t,h1⟩|⟨t,len,ps,h1⟩⟩:=lZ hm
 .
  unfold opA at h;rw[h1] at h;simp only at h;unfold lp at h;split at h
  .
   rename_i z hz;obtain ⟨h2,h3⟩:=mO h;exact ⟨t,z.cells.toList,none,by unfold kU;rw[h1];simp only[hz],h2,h3⟩
  cases h
 unfold opA at h
 rw[h1] at h
 simp only at h
 unfold fU at h
 split at h
 .
  rename_i e hu;split at h
  .
   rename_i s z hs hz;split at h
   .
    cases h
   rename_i hsz;split at h
   .
    rename_i cs hf;obtain ⟨h2,h3⟩:=lz h;exact ⟨e,cs.toList,some len,by unfold kU;rw[h1];simp only[hu,hs,hz,if_neg hsz,hf],h2,h3⟩
   cases h
  cases h
 cases h
theorem ve {o:Oper} {R:Option (List Nat)} {lk:Bool} {a a':Act} {H H':Mem} (hm:makes P o=true) (h:gY P call ops R lk o a H=some (a',H')) :
 ∃te cs sh,kU P a.eval o=some (te,cs,sh)/\H.push ⟨cs,te,true,true⟩=some H'/\a'=a.put o.dst (rI sh H.size):=by
 obtain ⟨hg,_,_⟩:=lZ hm
 have hw:Region.wanted o (yielded ops a.tmps)=true:=by unfold Region.wanted;rw[hg]
 have one:∀{H H':Mem} {a':Act},dg P call ops o a H=some (a',H')->∃te cs sh,kU P a.eval o=some (te,cs,sh)/\H.push ⟨cs,te,true,true⟩=some H'/\a'=a.put o.dst (rI sh H.size):=by
  intro H H' a' h;unfold dg at h;rw[if_pos hw] at h;simp only[Option.map_eq_some_iff] at h;obtain ⟨⟨v,H1⟩,h1,heq⟩:=h;cases heq;obtain ⟨te,cs,sh,e1,e2,e3⟩:=S5 hm h1;exact ⟨te,cs,sh,e1,e2,by rw[e3]⟩
 rcases lA h with ⟨h,_⟩|⟨_,⟨a1,H1⟩,h1,heq⟩
 .
  exact one h
 cases heq
 obtain ⟨te,cs,sh,e1,e2,e3⟩:=one h1
 exact ⟨te,cs,sh,e1,S4 e2,e3⟩
theorem E4 {ev ev':Operand->Value} {ps:Array (Nat×Operand)} (h:∀q∈ps,ev q.2=ev' q.2):gR ev ps=gR ev' ps:=by
 unfold gR
 apply List.map_congr_left
 intro q hq
 rw[h q (by simpa using hq)]
theorem HG {ev ev':Operand->Value} {o:Oper} (h:∀x∈o.op.operands,ev x=ev' x):kU P ev o=kU P ev' o:=by
 unfold kU
 split
 .
  rfl
 .
  rename_i t len ps hop;rw[E4 λq hq=>h q.2 (by rw[hop];simp[Op.operands];exact ⟨q.1,by simpa using hq⟩)]
 rfl
theorem pV {o:Oper} (a:Act) {dst:Option Tmp} (v:Value) (h:∀d,dst=some d->d ∉ o.looksAt ops):kU P (a.put dst v).eval o=kU P a.eval o :=
 HG λx hx=>Act.eval_put λd hd hxd=>h d hd (by
  subst hxd;exact List.mem_append_left _ (List.mem_filterMap.2 ⟨.tmp d,by simpa using hx,rfl⟩))
theorem N6 {ρ:Ren} {o:Oper} {ev ev':Operand->Value} (aA:VN ρ ev ev' o.op) {te:TypeId} {cs:List Value} {sh:Option Nat} (h:kU P ev o=some (te,cs,sh)) :
 (∃s,aM P te=some s)/\∃C:Array Value,LR (VRel ρ) cs C.toList/\∀w:World,(execOp ev' o).run P w = .ok (.value (rI sh w.heap.size)) (w.alloc (.cells C te)):=by
 unfold kU at h
 split at h
 .
  rename_i t hop;split at h
  .
   rename_i z hz;cases h;obtain ⟨_,h2,_⟩:=fY hz (default:World);refine ⟨tA hz,z.cells,(aU (ρ:=ρ) z h2).cells.list,λw=>?_⟩
   obtain ⟨h1,_⟩:=fY hz w;have:(Instr.alloc te true (.tuple #[])).run P w = .ok (.pointer (some ⟨w.heap.size,0,none⟩)) (w.alloc (.cells z.cells te)):=by simp[Instr.alloc,h1,newVar,newRow]
   simp[execOp,hop,this,rI]
  cases h
 .
  rename_i t len ps hop;have hp:=PR.parts (ev:=ev) (ev':=ev') ps.toList λq hq=>aA q.2 (by simp[hop,Op.operands];exact ⟨q.1,by simpa using hq⟩)
  split at h
  .
   rename_i e hu;split at h
   .
    rename_i s z hs hz;split at h
    .
     cases h
    rename_i hsz;split at h
    .
     rename_i cs' hf;cases h;obtain ⟨s',hs',hzz,hzn,_⟩:=yA (ρ:=ρ) hz (default:World);rw[hs] at hs';cases hs';obtain ⟨C,hf',hcs⟩:=pO _ _ _ _ _ hp hzz hf;refine ⟨⟨s,hs⟩,C,hcs.list,λw=>?_⟩
     have C6:Instr.fill (λi=>some (i*s,s)) z (ps.toList.map λq=>(q.1,ev' q.2))=some C:=hf'
     have hrun:(Instr.buildSlice t len (ps.toList.map λq=>(q.1,ev' q.2)).toArray).run P w = .ok (.slice (some ⟨w.heap.size,0,none⟩) len len) (w.alloc (.cells C te)):=by
      rcases pP hs hz with ⟨h0,rfl⟩|⟨h0,y,hy,rfl⟩
      .
       have NK:Array.range 0 = #[]:=rfl;simp[Instr.buildSlice,run_underlying hu,ck hs,h0,NK,C6,newRow]
      obtain ⟨hy1,_⟩:=fY hy w;have hsz':¬(16777216<len*s):=by simpa using hsz
      simp[Instr.buildSlice,run_underlying hu,ck hs,h0,hsz',hy1,C6,newRow]
     have e1:(ps.map λq=>(q.1,ev' q.2))=(ps.toList.map λq=>(q.1,ev' q.2)).toArray:=by apply Array.ext';simp
     simp only[execOp,hop];simp only[Sem.run_bind]
     have:(Instr.buildSlice t len (ps.map λ(i,x)=>(i,ev' x))).run P w = .ok (.slice (some ⟨w.heap.size,0,none⟩) len len) (w.alloc (.cells C te)):=by
      rw[<-hrun,<-e1]
     rw[this];rfl
    cases h
   cases h
  cases h
 cases h
theorem N7 {ρ:Ren} {i pa:Nat} (sh:Option Nat) (h:ρ i=some (pa,0)):VRel ρ (rI sh i) (rI sh pa):=by
 cases sh with
 |none=>exact .ptr _ _ _ _ h
 |some len=>exact .slice _ _ _ _ _ _ h
def dW:List (Option Tmp×Value)->Act->Act
 |[],a=>a
 |q::l,a=>dW l (a.put q.1 q.2)
theorem yI {d:Option Tmp} {v:Value}:∀(l:List (Option Tmp×Value)) (a:Act),(∀q∈l,∀x,q.1=some x->d≠some x)->dW l (a.put d v)=(dW l a).put d v
 |[],a,_=>rfl
 |
  q::l,a,h=>by
  simp only[dW];rw[<-yI l (a.put q.1 q.2) λx hx=>h x (by simp[hx])]
  rw[Act.put_comm a q.2 v (h q (by simp))]
theorem HH {d:Option Tmp} {v:Value} (l1 l2:List (Option Tmp×Value)) (a:Act) (h:∀q∈l1,∀x,q.1=some x->d≠some x):dW (l1++(d,v)::l2) a=dW (l1++l2) (a.put d v):=by
 induction l1 generalizing a with
 |nil=>rfl
 |
  cons q l1 ih =>
  simp only[List.cons_append,dW];rw[ih (a.put q.1 q.2) λx hx=>h x (by simp[hx])]
  rw[Act.put_comm a q.2 v (h q (by simp))]
def xP (Q:Exit->Act->World->Prop):Exit->Act->World->Prop:=λe a w=>match e with
 |.outgrown=>Q .outgrown a w
 |_=>False
theorem tJ {Q:Exit->Act->World->Prop} (h:LetsOut (xP Q)):LetsOut Q:=by
 obtain ⟨a,w,h⟩:=h
 exact ⟨a,w,h⟩
theorem Bu {j:Nat} {oj:Oper} {d:Option Tmp} {v:Value} (hj:ops[j]? = some oj) (h1:∀x,d=some x->x ∉ oj.looksAt ops) (h2:∀x,d=some x->oj.dst≠some x) (hsj:∀cs b,oj.op ≠ .select cs b)
 {Q:Exit->Act->World->Prop} {K:Act->World->Prop} {a:Act} {w:World} (h:wpOp P ops (xP Q) j (λa' w'=>K (a'.put d v) w') a w):wpOp P ops Q j K (a.put d v) w:=by
 unfold wpOp at *
 simp only[hj] at *
 rw[wanted_put oj a d v h1]
 split
 .
  rename_i hw;rw[if_pos hw] at h;rcases h with h|⟨hasks,abV⟩
  case inr=>exact .inr ⟨by unfold Oper.asks at *;rw[execOp_put oj hsj a d v h1];exact hasks,tJ abV⟩
  refine .inl ?_;unfold Oper.wp at *;rw[execOp_put oj hsj a d v h1];generalize (execOp a.eval oj).run P w=r at *;cases r with
  |
   ok n w' =>
   cases n<;>simp only[Oper.upon] at h ⊢
   case value u=>rw[Act.put_comm a v u h2];exact h
   case skip=>rw[Act.put_comm a v undef h2];exact h
   case defer df =>
    rw[Act.put_defers,Act.put_comm _ v undef h2];exact h
   case enter f args =>
    refine Calls.mono h λe w'' he=>?_
    cases e with
    |returned u=>show K ((a.put d v).put oj.dst u) w'';rw[Act.put_comm a v u h2];exact he
    |panicked c=>exact he.elim
    |outgrown=>exact tJ he
   case row row args=>exact Rows.mono h λu w'' he=>by rw[Act.put_comm a v u h2];exact he
  |
   halt x w' =>
   cases x<;>simp only[Oper.upon] at h ⊢
   case panic u=>exact h.elim
 rename_i hw
 rw[if_neg hw] at h
 rw[Act.put_comm a v undef h2];exact h
theorem Bw {j:Nat} {oj:Oper} (hj:ops[j]? = some oj) (hsj:∀cs b,oj.op ≠ .select cs b) {Q:Exit->Act->World->Prop} {K:Act->World->Prop} {w:World}:∀(l:List (Option Tmp×Value)) (a:Act),
 (∀q∈l,(∀x,q.1=some x->x ∉ oj.looksAt ops)/\∀x,q.1=some x->oj.dst≠some x)->wpOp P ops (xP Q) j (λa' w'=>K (dW l a') w') a w->wpOp P ops Q j K (dW l a) w
 |
  [],a,_,h=>by
  have:=Bu (d:=none) (v:=undef) (K:=K) hj (λx h=>by cases h) (λx h=>by cases h) hsj (a:=a) (w:=w) h
  exact this
 |
  q::l,a,hq,h=>by
  refine Bw hj hsj l (a.put q.1 q.2) (λx hx=>hq x (by simp[hx])) ?_
  exact Bu (Q:=xP Q) (K:=λa' w'=>K (dW l a') w') hj (hq q (by simp)).1 (hq q (by simp)).2 hsj h
abbrev Cx.kp (c:Cx) (K:Nat->Option Obj):Cx:={ c with K:=K }
theorem bg.qM {c:Cx} {ρ:Ren} {H:Mem} {w:World} {K K':Nat->Option Obj} (he:bg (c.kp K) ρ H w) (h:∀r o,K' r=some o->K r=some o):bg (c.kp K') ρ H w:=by
 have no:∀{r},K r=none->K' r=none:=λ{r} hr=>by
  cases hk:K' r with
  |none=>rfl
  |some o=>rw[h r o hk] at hr;cases hr
 refine ⟨⟨he.stay.below,λr o hr=>he.stay.kept r o (h r o hr)⟩,he.base,he.dom,he.lk,he.tw,he.dz,λi b hi hl=>?_,he.inj,λi b hi hm=>?_,he.pg⟩
 .
  obtain ⟨r,x,C,fr,s,h1,h2,h3⟩:=he.blk i b hi hl;exact ⟨r,x,C,fr,s,h1,h2.imp (λg=>⟨g.1,no g.2⟩) (λg=>⟨g.1,no g.2⟩),h3⟩
 obtain ⟨r,es,clock,h1,h2,h3⟩:=he.maps i b hi hm
 exact ⟨r,es,clock,h1,⟨h2.1,no h2.2⟩,h3⟩
theorem bg.HI {c:Cx} {ρ:Ren} {H:Mem} {w:World} {K:Nat->Option Obj} (he:bg (c.kp K) ρ H w) (o:Obj):bg (c.kp λr=>if r=w.heap.size then some o else K r) ρ H (w.alloc o):=by
 have lt:∀{r:Nat} {o:Obj},w.heap[r]? = some o->r<w.heap.size:=λh=>(Array.getElem?_eq_some_iff.1 h).1
 have g:=he.stay.alloc he.base o
 refine ⟨⟨g.below,λr o' hr=>?_⟩,Nat.le_trans he.base (by simp),he.dom,he.lk,he.tw,he.dz,λi b hi hl=>?_,he.inj,λi b hi hm=>?_,he.pg⟩
 .
  simp only at hr;split at hr
  .
   rename_i h;subst h;cases hr;show (w.heap.push _)[w.heap.size]? = _;simp
  exact g.kept r o' hr
 .
  obtain ⟨r,x,C,fr,s,h1,h2,h3,h4⟩:=he.blk i b hi hl;have hne:r≠w.heap.size:=Nat.ne_of_lt (lt h3);exact ⟨r,x,C,fr,s,h1,h2.imp (λg=>⟨g.1,by show (if r=_ then _ else _)=_;rw[if_neg hne];exact g.2⟩) (λg=>⟨g.1,by show (if r=_ then _ else _)=_;rw[if_neg hne];exact g.2⟩),by rw[Below.heap_alloc _ _ _ (lt h3)];exact h3,h4⟩
 obtain ⟨r,es,clock,h1,h2,h3,h4⟩:=he.maps i b hi hm
 have hne:r≠w.heap.size:=Nat.ne_of_lt (lt h3)
 exact ⟨r,es,clock,h1,⟨h2.1,by show (if r=_ then _ else _)=_;rw[if_neg hne];exact h2.2⟩,by rw[Below.heap_alloc _ _ _ (lt h3)];exact h3,h4⟩
theorem bg.Xk {c:Cx} {ρ:Ren} {H H':Mem} {w:World} {K:Nat->Option Obj} (he:bg (c.kp K) ρ H w) {t:TypeId} {cs:List Value} {C:Array Value} {pa s:Nat} (hs:aM c.P t=some s) (hC:LR (VRel ρ) cs C.toList) (hK:K pa=some (.cells C t)) (hB:c.B<=pa) (hp:H.push ⟨cs,t,true,true⟩=some H') :
 bg (c.kp λr=>if r=pa then none else K r) (ρ.put H.size (pa,0)) H' w:=by
 have he':bg (c.kp λr=>if r=pa then none else K r) ρ H w:=he.qM λr o hr=>by
  split at hr
  .
   cases hr
  exact hr
 refine he'.add hp he'.stay he'.base he'.blk he'.maps (λi b r' y hi hl hr e=>?_) (he.stay.kept pa _ hK) ⟨hB,if_pos rfl⟩ (j5 _) hs (by have:=hC.1;simp at this;omega) ?_ (λ_=>rfl) (yx.full (by have:=hC.1;simp at this;omega))
 .
  subst e;obtain ⟨r,x,C,fr,s,h1,h2,h3⟩:=he.blk i b hi hl;rw[hr] at h1;cases h1;rcases h2 with h2|h2
  .
   have:=h2.2;simp only at this;rw[hK] at this;cases this
  have:=h2.2;simp only at this;rw[hK] at this;cases this
 have:=hC.begins
 simpa using this
structure N8 (P:Program) (ops:Array Oper) (c:Cx) (K:Nat->Option Obj) (a:Act) (ρ:Ren) (ps:List (Nat×Nat×Option Nat)):Prop where
 each:∀q∈ps,c.B<=q.2.1/\c.K q.2.1=none/\∃o te cs C s d,ops[q.1]? = some o/\o.dst=some d/\kU P a.eval o=some (te,cs,q.2.2)/\aM P te=some s/\LR (VRel ρ) cs C.toList/\K q.2.1=some (.cells C te)
 rest:∀r,(∀q∈ps,q.2.1≠r)->K r=c.K r
 nodup:(ps.map (·.2.1)).Nodup
 Xl:ps.Pairwise λq q'=>∀o o',ops[q.1]? = some o->ops[q'.1]? = some o'->o.dst≠o'.dst
theorem N8.next {c:Cx} {K:Nat->Option Obj} {a:Act} {ρ ρ':Ren} {ps:List (Nat×Nat×Option Nat)} (h:N8 P ops c K a ρ ps) (hle:ρ.le ρ') {dst:Option Tmp} (v:Value) (hd:∀q∈ps,∀o,ops[q.1]? = some o->∀x,dst=some x->x ∉ o.looksAt ops):N8 P ops c K (a.put dst v) ρ' ps :=
 ⟨λq hq=>by
  obtain ⟨g1,g2,o,te,cs,C,s,d,g3,g4,g5,g6,g7,g8⟩:=h.each q hq;exact ⟨g1,g2,o,te,cs,C,s,d,g3,g4,by rw[pV a v (hd q hq o g3)];exact g5,g6,g7.mono λ_ _=>VRel.mono hle,g8⟩,h.rest,h.nodup,h.Xl⟩
def gb (ops:Array Oper) (ps:List (Nat×Nat×Option Nat)):List (Option Tmp×Value):=ps.map λq=>((ops[q.1]?).bind (·.dst),rI q.2.2 q.2.1)
theorem kq {o oi:Oper} (a:Act) (v:Value) (h:∀d,oi.dst=some d->d ∉ o.looksAt ops):∀x∈o.op.operands,(a.put oi.dst v).eval x=a.eval x:=λx hx=>Act.eval_put λd hd hxd=>h d hd (by
 subst hxd
 exact List.mem_append_left _ (List.mem_filterMap.2 ⟨.tmp d,by simpa using hx,rfl⟩))
theorem E5 {o:Oper} {ev ev':Operand->Value} (hv:∀x∈o.op.operands,ev x=ev' x) (hsel:∀cs b,o.op ≠ .select cs b):pureA P ev o=pureA P ev' o:=by
 have hc:execOp ev o=execOp ev' o:=execOp_congr o hsel hv
 have ho:aQ ev o.op=aQ ev' o.op:=by
  unfold aQ;rw[Bool.eq_iff_iff,List.all_eq_true,List.all_eq_true]
  constructor
  .
   intro hh x hx;rw[<-hv x (by simpa using hx)];exact hh x hx
  intro hh x hx;rw[hv x (by simpa using hx)];exact hh x hx
 unfold pureA
 rw[hc,ho]
theorem tK {ev ev':Operand->Value} {ps:Array (Nat×Operand)} (h:∀q∈ps,ev q.2=ev' q.2):gR ev ps=gR ev' ps:=by
 unfold gR
 apply List.map_congr_left
 intro q hq
 rw[h q (by simpa using hq)]
theorem Bx {o:Oper} {ev ev':Operand->Value} (H:Mem) (hv:∀x∈o.op.operands,ev x=ev' x) (hsel:∀cs b,o.op ≠ .select cs b):opA P call ev o H=opA P call ev' o H:=by
 have hp:=E5 (P:=P) hv hsel
 unfold opA
 split
 case h_1 hop=>rw[hv _ (by simp[hop,Op.operands])]
 case h_2 hop=>rw[hv _ (by simp[hop,Op.operands])]
 case h_3 c x y hop=>rw[hv c (by simp[hop,Op.operands]),hv x (by simp[hop,Op.operands]),hv y (by simp[hop,Op.operands])]
 case h_4 op t x y yt hop=>unfold pF;rw[hp,hv x (by simp[hop,Op.operands]),hv y (by simp[hop,Op.operands])]
 case h_5 hop=>rfl
 case h_6 t x hop=>rw[hv x (by simp[hop,Op.operands])]
 case h_7 t ps hop=>rw[tK λq hq=>hv q.2 (by simp[hop,Op.operands];exact ⟨q.1,by simpa using hq⟩)]
 case h_8 t len ps hop=>rw[tK λq hq=>hv q.2 (by simp[hop,Op.operands];exact ⟨q.1,by simpa using hq⟩)]
 case h_9 t x hop=>rw[hv x (by simp[hop,Op.operands])]
 case h_10 t x y hop=>rw[hv x (by simp[hop,Op.operands]),hv y (by simp[hop,Op.operands])]
 case h_11 x hop=>rw[hv x (by simp[hop,Op.operands])]
 case h_12 s x f hop=>rw[hv x (by simp[hop,Op.operands])]
 case h_13 t x ix hop=>rw[hv x (by simp[hop,Op.operands]),hv ix (by simp[hop,Op.operands])]
 case h_14 x k hop=>rw[hv x (by simp[hop,Op.operands])]
 case h_15 t l c hop=>rw[hv l (by simp[hop,Op.operands]),hv c (by simp[hop,Op.operands])]
 case h_16 fn first captured hop =>
  rw[Array.map_congr_left (xs:=first) λx hx=>hv x (by simp[hop,Op.operands,hx]),Array.map_congr_left (xs:=captured) λx hx=>hv x (by simp[hop,Op.operands,hx])]
 case h_17 t x lo hi hop =>
  have e1:lo.map ev=lo.map ev':=by cases lo with|none=>rfl|some y=>simp only[Option.map_some];rw[hv y (by simp[hop,Op.operands])]
  have e2:hi.map ev=hi.map ev':=by cases hi with|none=>rfl|some y=>simp only[Option.map_some];rw[hv y (by simp[hop,Op.operands])]
  unfold jg;rw[hp,e1,e2,hv x (by simp[hop,Op.operands])]
 case h_18 t x f hop=>rw[hv x (by simp[hop,Op.operands])]
 case h_19 t x ix hop=>unfold CO;rw[hp,hv x (by simp[hop,Op.operands]),hv ix (by simp[hop,Op.operands])]
 case h_20 s d x hop=>unfold eu;rw[hp,hv x (by simp[hop,Op.operands])]
 case h_21 cl hop =>
  have iw:∀x∈cl.args,ev x=ev' x:=λx hx=>hv x (by simp[hop,Op.operands,Call.operands,hx])
  unfold bp;split
  .
   rename_i f hf;unfold ym;rw[hp,hv f (by simp[hop,hf,Op.operands,Call.operands]),List.map_congr_left (l:=cl.args.toList) (f:=ev) (g:=ev') λx hx=>iw x (by simpa using hx)]
  .
   unfold lJ;split
   .
    unfold tn;split
    .
     rename_i x t hx _;rw[iw x (Array.mem_of_getElem? hx),hp]
    rfl
   .
    unfold lV;split
    .
     rename_i s x st xt hs0 hx0 _ _;rw[iw s (Array.mem_of_getElem? hs0),iw x (Array.mem_of_getElem? hx0)]
    rfl
   .
    unfold uR;split
    .
     rename_i d x dt Xf hx0 _;rw[iw d (Array.mem_of_getElem? Xf),iw x (Array.mem_of_getElem? hx0)]
    rfl
   .
    unfold nK;split
    .
     rename_i x t hx _;rw[iw x (Array.mem_of_getElem? hx)]
    rfl
   .
    unfold iN;split
    .
     rename_i x hx;rw[iw x (Array.mem_toList_iff.1 (by rw[hx];simp))]
    rfl
   .
    unfold uS;split
    .
     rename_i p n pt _ hx _;rw[iw p (Array.mem_toList_iff.1 (by rw[hx];simp)),iw n (Array.mem_toList_iff.1 (by rw[hx];simp))]
    rfl
   rw[hp]
  rfl
 case h_22 t r hop =>
  have e1:r.map ev=r.map ev':=by cases r with|none=>rfl|some y=>simp only[Option.map_some];rw[hv y (by simp[hop,Op.operands])]
  rw[e1]
 case h_23 t x k ok hop=>rw[hv x (by simp[hop,Op.operands]),hv k (by simp[hop,Op.operands])]
 case h_24 t m k x hop=>rw[hv m (by simp[hop,Op.operands]),hv k (by simp[hop,Op.operands]),hv x (by simp[hop,Op.operands])]
 case h_25 t m k x hop=>rw[hv m (by simp[hop,Op.operands]),hv k (by simp[hop,Op.operands]),hv x (by simp[hop,Op.operands])]
 case h_26=>rw[hp]
theorem Bz {o oi:Oper} (a:Act) (v:Value) (H:Mem) (h1:∀d,oi.dst=some d->d ∉ o.looksAt ops) (h2:∀d,oi.dst=some d->o.dst≠some d) (hsel:∀cs b,o.op ≠ .select cs b) :
 dg P call ops o (a.put oi.dst v) H=(dg P call ops o a H).map λr=>(r.1.put oi.dst v,r.2):=by
 unfold dg
 rw[wanted_put o a oi.dst v h1,Bx (P:=P) (call:=call) H (kq a v h1) hsel]
 split
 .
  cases opA P call a.eval o H with
  |none=>rfl
  |some r=>simp[Act.put_comm a v r.1 h2]
 simp[Act.put_comm a v undef h2]
theorem wF {op:Op} {s:Operand} (h:ee op=some s):s∈op.operands:=by
 unfold ee at h
 split at h
 .
  rename_i args ats;have:=Array.mem_of_getElem? h;simp only[Op.operands,Call.operands]
  simpa using this
 cases h
theorem AX {op:Op} {s:Operand} (h:fH op=some s):s∈op.operands:=by
 unfold fH at h
 split at h
 .
  cases h;simp[Op.operands]
 cases h
theorem yJ {o oi:Oper} {R:Option (List Nat)} {lk:Bool} (a:Act) (v:Value) (H:Mem) (h1:∀d,oi.dst=some d->d ∉ o.looksAt ops) (h2:∀d,oi.dst=some d->o.dst≠some d) (hsel:∀cs b,o.op ≠ .select cs b) :
 gY P call ops R lk o (a.put oi.dst v) H=(gY P call ops R lk o a H).map λr=>(r.1.put oi.dst v,r.2):=by
 unfold gY
 rw[Bz a v _ h1 h2 hsel,Bz a v _ h1 h2 hsel]
 split
 .
  cases hb:ee o.op with
  |
   some s =>
   simp only;rw[kq a v h1 s (wF hb)];split
   .
    rfl
   rfl
  |
   none =>
   simp only
   have hsc:cE R (a.put oi.dst v).eval o=cE R a.eval o:=by
    unfold cE;split
    .
     rename_i s hs;rw[kq a v h1 s (AX hs)]
    rfl
   rw[hsc];split
   .
    rfl
   cases dg P call ops o a { H with lk:=H.size } with
   |none=>rfl
   |some r=>rfl
 rfl
theorem pW {o:Oper} {a a':Act} {H H':Mem} (h:dg P call ops o a H=some (a',H')):∃u,a'=a.put o.dst u:=by
 unfold dg at h
 split at h
 .
  simp only[Option.map_eq_some_iff] at h;obtain ⟨r,_,heq⟩:=h;cases heq;exact ⟨_,rfl⟩
 cases h;exact ⟨_,rfl⟩
theorem eW {o:Oper} {R:Option (List Nat)} {lk:Bool} {a a':Act} {H H':Mem} (h:gY P call ops R lk o a H=some (a',H')):∃u,a'=a.put o.dst u:=by
 rcases lA h with ⟨h,_⟩|⟨_,u,hu,heq⟩
 .
  exact pW h
 cases heq;exact pW hu
theorem S6 (hno:cP P) {G:Nat} (hok:Nx G ops.toList=true) (hcall:jG P G GR call) (hk:bJ call) (hsel:∀(j:Nat) (o:Oper) cs b,ops[j]? = some o->o.op ≠ .select cs b) {c:Cx} (cU:c.P=P) (cA:c.At G GR) {Fin:Act->Mem->Prop} {Q:Exit->Act->World->Prop}
 {RL:List (Nat×Option Nat)} {x:Option Nat} {listed:Array Bool} {bC:List Nat} {a:Act} {H:Mem} (h:iG P call ops Fin RL x listed bC a H) :
 ∀(K:Nat->Option Obj) (ps:List (Nat×Nat×Option Nat)) (ρ:Ren) (w:World) (ar:Act),ps.map (·.1)=bC->N8 P ops c K a ρ ps->uP ρ a ar->bg (c.kp K) ρ H w->(∀a' H' ρ' ar' w',Fin a' H'->ρ.le ρ'->uP ρ' a' ar'->bg c ρ' H' w'->Q .normal ar' w') ->
  match x with
  |none=>∀n,cnt ops listed<=n->wpAny P .any ops Q n listed (dW (gb ops ps) ar) w
  |some i=>∀n,cnt ops (listed.setIfInBounds i true)<=n->wpOp P ops Q i (wpAny P .any ops Q n (listed.setIfInBounds i true)) (dW (gb ops ps) ar) w:=by
 have abW:∀{i:Nat} {o:Oper},ops[i]? = some o->o.op.operands.toList.all (bt G)=true:=λ{i o} ho=>List.all_eq_true.1 hok o (by have:=Array.mem_of_getElem? ho;simpa using this)
 induction h with
 |
  @pay listed l1 l2 i o R lk a a' H H' ho hm hst hap h ih =>
  intro K ps ρ w ar hps hO hs he hQ n hn;obtain ⟨ps1,ps2',rfl,hp1,N9⟩:=List.map_eq_append_iff.1 hps;obtain ⟨q,ps2,rfl,hq,N9⟩:=List.map_eq_cons_iff.1 N9;obtain ⟨hB,hc0,o',te,cs,C,s,d,ho',AY,pU,hsz,hC,hK⟩:=hO.each q (by simp)
  rw[hq,ho] at ho';cases ho';obtain ⟨te',cs',sh',hmade',hp,rfl⟩:=ve hm hst;rw[pU] at hmade';cases hmade'
  have hnd:q.2.1 ∉ (ps1++ps2).map (·.2.1)/\((ps1++ps2).map (·.2.1)).Nodup:=by
   have h1:=hO.nodup;rw[List.map_append,List.map_cons] at h1;have:=(List.perm_middle (a:=q.2.1) (l₁:=ps1.map (·.2.1)) (l₂:=ps2.map (·.2.1))).nodup_iff.1 h1;rw[List.map_append];exact List.nodup_cons.1 this
  have sub:∀{y:Nat×Nat×Option Nat},y∈ps1++ps2->y∈ps1++q::ps2:=λhx=>by
   rcases List.mem_append.1 hx with h1|h1
   .
    exact List.mem_append_left _ h1
   exact List.mem_append_right _ (List.mem_cons_of_mem _ h1)
  have hpw:=List.pairwise_append.1 hO.Xl;have hle:=he.pN (Nat.le_refl H.size) (q.2.1,0)
  have hmid:dW (gb ops (ps1++q::ps2)) ar=dW (gb ops (ps1++ps2)) (ar.put o.dst (rI q.2.2 q.2.1)):=by
   unfold gb;rw[List.map_append,List.map_cons,List.map_append];have e:(ops[q.1]?).bind (·.dst)=o.dst:=by rw[hq,ho];rfl
   rw[e];refine HH _ _ _ λy hy x hx hd=>?_
   obtain ⟨q',hq',rfl⟩:=List.mem_map.1 hy;obtain ⟨_,_,o2,S7,VQ,C2,s2,d2,De,_⟩:=hO.each q' (by simp[hq'])
   simp only[De,Option.bind_some] at hx;exact hpw.2.2 q' hq' q (by simp) o2 o De (by rw[hq];exact ho) (by rw[hx,hd])
  rw[hmid];subst cU
  have hO1:N8 c.P ops c (λr=>if r=q.2.1 then none else K r) a ρ (ps1++ps2):=by
   refine ⟨λy hy=>?_,λr hr=>?_,hnd.2,?_⟩
   .
    obtain ⟨g1,g2,o2,S7,VQ,C2,s2,d2,g3,g4,g5,g6,g7,g8⟩:=hO.each y (sub hy);refine ⟨g1,g2,o2,S7,VQ,C2,s2,d2,g3,g4,g5,g6,g7,?_⟩;have hne:y.2.1≠q.2.1:=λe=>hnd.1 (by rw[<-e];exact List.mem_map.2 ⟨y,hy,rfl⟩)
    rw[if_neg hne];exact g8
   .
    by_cases e:r=q.2.1
    .
     rw[if_pos e,e,hc0]
    rw[if_neg e];refine hO.rest r λy hy=>?_
    rcases List.mem_append.1 hy with h1|h1
    .
     exact hr y (List.mem_append_left _ h1)
    rcases List.mem_cons.1 h1 with rfl|h1
    .
     exact Ne.symm e
    exact hr y (List.mem_append_right _ h1)
   exact List.pairwise_append.2 ⟨hpw.1,(List.pairwise_cons.1 hpw.2.1).2,λy hy y' hy'=>hpw.2.2 y hy y' (by simp[hy'])⟩
  refine ih _ (ps1++ps2) (ρ.put H.size (q.2.1,0)) w _ (by rw[List.map_append,hp1,N9]) (hO1.next hle _ λy hy om HJ=>hap y.1 (by rw[<-hp1,<-N9,<-List.map_append];exact List.mem_map.2 ⟨y,hy,rfl⟩) om HJ) ((hs.mono hle).put o.dst (N7 _ (Ren.fq _ _ _))) (he.Xk hsz hC hK hB hp) (λa' H' ρ' ar' w' k0 k1=>hQ a' H' ρ' ar' w' k0 (Ren.le_trans hle k1)) n hn
 |
  @step listed bC a H h0 h ih =>
  intro K ps ρ w ar hps hO hs he hQ n hn
  have fin:Region.ready .any ops listed=[]->Q .normal (dW (gb ops ps) ar) w:=λhr=>by
   obtain ⟨h1,h2⟩:=h0 hr;subst h1;have:ps=[]:=List.map_eq_nil_iff.1 hps;subst this;have hKK:K=c.K:=funext λr=>hO.rest r λq hq=>by cases hq
   subst hKK;exact hQ _ _ ρ ar w h2 (Ren.le_refl _) hs he
  cases n with
  |
   zero =>
   have tL:Region.ready .any ops listed=[]:=List.eq_nil_iff_forall_not_mem.2 λi hi=>by
    have:=(u9 hi).2.2;omega
   exact ⟨tL,fin tL⟩
  |succ n=>exact ⟨fin,λi hi=>ih i hi K ps ρ w ar hps hO hs he hQ n (by have:=(u9 hi).2.2;omega)⟩
 |
  @sync listed bC i o R lk a a' H H' ho hst hR hap h ih =>
  intro K ps ρ w ar hps hO hs he hQ n hn;refine Bw ho (λcs b=>hsel i o cs b ho) _ _ (λq hq=>?_) ?_
  .
   obtain ⟨y,hy,rfl⟩:=List.mem_map.1 hq;obtain ⟨_,_,o2,S7,VQ,C2,s2,d2,De,_⟩:=hO.each y hy;have h1:=(hap y.1 (by rw[<-hps];exact List.mem_map.2 ⟨y,hy,rfl⟩) o2 De).1
   simp only[De,Option.bind_some];exact ⟨λx hx=>(h1 x hx).1,λx hx=>(h1 x hx).2⟩
  obtain ⟨u,rfl⟩:=eW hst;unfold wpOp;simp only[ho];exact Lv hno hcall hk (abW ho) hst (c:=c.kp K) cU ⟨cA.g,cA.rows,cA.len⟩ hs he fun ρ' ar' w' h1 h2 h3=>ih K ps ρ' w' ar' hps (hO.next h1 u λy hy om HJ=>(hap y.1 (by rw[<-hps];exact List.mem_map.2 ⟨y,hy,rfl⟩) om HJ).2) h2 h3 (λa'' H'' ρ'' ar'' w'' k0 k1=>hQ a'' H'' ρ'' ar'' w'' k0 (Ren.le_trans h1 k1)) n hn
 |
  @VP listed bC i o a H ho hm pU hd h ih =>
  intro K ps ρ w ar hps hO hs he hQ n hn;obtain ⟨hg,⟨d,AY⟩,_⟩:=lZ hm;obtain ⟨⟨te,cs,sh⟩,hmd⟩:=Option.isSome_iff_exists.1 pU;have hw:∀ar:Act,Region.wanted o (yielded ops ar.tmps)=true:=λar=>by unfold Region.wanted;rw[hg]
  subst cU;have hG0:=cA.g;subst hG0;have agk:VN ρ a.eval ar.eval o.op:=λx hx=>hs.eval he.dz (List.all_eq_true.1 (abW ho) x (by simpa using hx))
  have hsame:∀(l:List (Option Tmp×Value)) (ar:Act),(∀q∈l,∀x,q.1=some x->x ∉ o.looksAt ops)->∀x∈o.op.operands,(dW l ar).eval x=ar.eval x:=by
   intro l
   induction l with
   |nil=>intro ar _ x _;rfl
   |
    cons q l ih =>
    intro ar hq x hx;show (dW l (ar.put q.1 q.2)).eval x=_;rw[ih _ (λy hy=>hq y (by simp[hy])) x hx]
    exact kq (ops:=ops) (oi:={ o with dst:=q.1 }) ar q.2 (λd' hd'=>hq q (by simp) d' hd') x hx
  have aA:VN ρ a.eval (dW (gb ops ps) ar).eval o.op:=λx hx=>by
   rw[hsame (gb ops ps) ar (λq hq y hy=>?_) x hx]
   .
    exact agk x hx
   obtain ⟨z,hz,rfl⟩:=List.mem_map.1 hq;obtain ⟨_,_,o2,S7,VQ,C2,s2,d2,De,_⟩:=hO.each z hz;simp only[De,Option.bind_some] at hy;exact (hd z.1 (by rw[<-hps];exact List.mem_map.2 ⟨z,hz,rfl⟩) o2 De).2 y hy
  obtain ⟨⟨s,hsz⟩,C,hC,hrun⟩:=N6 aA hmd;unfold wpOp;simp only[ho];rw[if_pos (hw _)];refine .inl ?_;unfold Oper.wp;rw[hrun];simp only[Oper.upon];have fresh:=he.stay.fresh he.base
  have hne:∀q∈ps,q.2.1≠w.heap.size:=λq hq e=>by
   obtain ⟨_,_,o2,S7,VQ,C2,s2,d2,_,_,_,_,_,hK2⟩:=hO.each q hq;have:=fresh.2;simp only at this;rw[<-e,hK2] at this;cases this
  have hput:(dW (gb ops ps) ar).put o.dst (rI sh w.heap.size)=dW (gb ops ((i,w.heap.size,sh)::ps)) ar:=by
   have e:(ops[i]?).bind (·.dst)=o.dst:=by rw[ho];rfl
   unfold gb;rw[List.map_cons];simp only[dW];rw[e];refine (yI _ _ λy hy x hx hxd=>?_).symm
   obtain ⟨q,hq,rfl⟩:=List.mem_map.1 hy;obtain ⟨_,_,o2,S7,VQ,C2,s2,d2,De,_⟩:=hO.each q hq;simp only[De,Option.bind_some] at hx;exact (hd q.1 (by rw[<-hps];exact List.mem_map.2 ⟨q,hq,rfl⟩) o2 De).1 (by rw[hx,hxd])
  rw[hput];refine ih _ ((i,w.heap.size,sh)::ps) ρ _ ar (by simp[hps]) ⟨λq hq=>?_,λr hr=>?_,?_,?_⟩ hs (he.HI (.cells C te)) hQ n hn
  .
   rcases List.mem_cons.1 hq with rfl|hq
   .
    refine ⟨fresh.1,?_,o,te,cs,C,s,d,ho,AY,hmd,hsz,hC,if_pos rfl⟩;rw[<-hO.rest w.heap.size hne];exact fresh.2
   obtain ⟨g1,g2,o2,S7,VQ,C2,s2,d2,g3,g4,g5,g6,g7,g8⟩:=hO.each q hq;exact ⟨g1,g2,o2,S7,VQ,C2,s2,d2,g3,g4,g5,g6,g7,by rw[if_neg (hne q hq)];exact g8⟩
  .
   have:=hr (i,w.heap.size,sh) (by simp)
   simp only at this;rw[if_neg (Ne.symm this)];exact hO.rest r λq hq=>hr q (by simp[hq])
  .
   rw[List.map_cons];refine List.nodup_cons.2 ⟨λhm'=>?_,hO.nodup⟩
   obtain ⟨q,hq,e⟩:=List.mem_map.1 hm';exact hne q hq e
  refine List.pairwise_cons.2 ⟨λq hq o1 o2 h1 h2 e=>?_,hO.Xl⟩
  rw[ho] at h1;cases h1;exact (hd q.1 (by rw[<-hps];exact List.mem_map.2 ⟨q,hq,rfl⟩) o2 h2).1 e.symm
theorem cq {H H':Mem} {x:Option Value} {v:Value} (h:withMem H x=some (v,H')):H'=H/\∀H2,withMem H2 x=some (v,H2):=by
 obtain ⟨rfl,rfl⟩:=av h;exact ⟨rfl,λ_=>rfl⟩
theorem HK {ev:Operand->Value} {o:Oper} {args:Array Operand} {ats:Array TypeId} {H H':Mem} {v:Value} (h:tn P ev o args ats H=some (v,H')):H'=H/\∀H2,tn P ev o args ats H2=some (v,H2):=by
 unfold tn at h ⊢
 generalize args[0]? = x at h ⊢
 generalize ats[0]? = y at h ⊢
 cases x<;>cases y<;>first|(cases h;done)|exact cq h
theorem E6 {ev:Operand->Value} {o:Oper} {H H':Mem} {v:Value} (hq:quiet P o.op=true) (h:opA P call ev o H=some (v,H')) :
 H'=H/\(ez o.op=false->∀H2,opA P call ev o H2=some (v,H2))/\(∀H2,Ext H H2->opA P call ev o H2=some (v,H2)):=by
 have all:∀{f:Mem->Option (Value×Mem)},(H'=H/\∀H2,f H2=some (v,H2))->H'=H/\(ez o.op=false->∀H2,f H2=some (v,H2))/\(∀H2,Ext H H2->f H2=some (v,H2)):=λhh=>⟨hh.1,λ_=>hh.2,λH2 _=>hh.2 H2⟩
 unfold opA at h ⊢
 split at h
 case h_1 hop=>cases h;simp only[hop] at all ⊢;refine ⟨?_,?_,?_⟩<;>intros<;>trivial
 case h_2 hop=>cases h;simp only[hop] at all ⊢;refine ⟨?_,?_,?_⟩<;>intros<;>trivial
 case h_3 hop =>
  simp only[hop] at all ⊢;unfold yl at h ⊢;split at h
  .
   rename_i t ht;cases h;simp only;refine ⟨?_,?_,?_⟩<;>intros<;>trivial
  cases h
 case h_4 hop=>simp only[hop] at all ⊢;exact all (cq h)
 case h_5 hop=>simp[hop,quiet] at hq
 case h_6 hop=>simp[hop,quiet] at hq
 case h_7 hop=>simp only[hop] at all ⊢;exact all (cq h)
 case h_8 hop=>simp[hop,quiet] at hq
 case h_9 t x hop =>
  obtain ⟨hu,rfl⟩:=av h;simp only[hop];refine ⟨trivial,λhl=>by simp[ez] at hl,λH2 hx=>?_⟩
  have hal:∀i b,alive H' i=some b->alive H2 i=some b:=by
   intro i b hb;obtain ⟨h1,h2⟩:=alive_some hb;unfold alive;rw[hx i b h1];simp[h2]
  have:kS P H2 t (ev x)=some v:=by
   unfold kS at hu ⊢;split at hu
   .
    split at hu
    .
     rename_i n _ _;simp only[Option.map_eq_some_iff] at hu ⊢;obtain ⟨l,hl,rfl⟩:=hu;refine ⟨l,?_,rfl⟩;unfold bT at hl ⊢;split at hl
     .
      rename_i b hb;rw[hal _ _ hb];exact hl
     cases hl
    .
     split at hu
     .
      rename_i b hb;rw[hal _ _ hb];exact hu
     cases hu
    cases hu
   cases hu
  rw[this];rfl
 case h_10 hop=>simp[hop,quiet] at hq
 case h_11 hop =>
  simp only[hop] at all ⊢;unfold lU at h ⊢;split at h
  .
   rename_i q hx;cases h;simp only;refine ⟨?_,?_,?_⟩<;>intros<;>trivial
  .
   rename_i q1 q2 q3 hx;cases h;simp only;refine ⟨?_,?_,?_⟩<;>intros<;>trivial
  cases h
 case h_12 hop=>simp only[hop] at all ⊢;exact all (cq h)
 case h_13 hop=>simp only[hop] at all ⊢;exact all (cq h)
 case h_14 x k hop =>
  simp only[hop] at all ⊢;unfold lI at h ⊢;generalize ev x=q at h ⊢;cases q<;>first|(cases h;done)|exact all (cq h)
 case h_15 hop=>simp[hop,quiet] at hq
 case h_16 hop=>cases h;simp only[hop] at all ⊢;refine ⟨?_,?_,?_⟩<;>intros<;>trivial
 case h_17 hop =>
  simp only[hop] at all hq ⊢;simp only[quiet,Bool.not_eq_true'] at hq;unfold jg at h ⊢;rw[hq] at h ⊢;exact all (cq h)
 case h_18 hop=>simp only[hop] at all ⊢;exact all (cq h)
 case h_19 hop=>simp only[hop] at all ⊢;exact all (cq h)
 case h_20 s d x hop =>
  simp only[hop] at all hq ⊢;simp only[quiet,Bool.and_eq_true,Bool.not_eq_true'] at hq;unfold eu at h ⊢;split at h
  .
   rename_i u hu;cases h;simp only;refine ⟨?_,?_,?_⟩<;>intros<;>trivial
  exfalso;unfold dc at h;split at h
  .
   have hq1:=hq.1.1;clear h all hq;simp_all[pI]
  .
   have VS:=hq.1.2;clear h all hq;simp_all[pI]
  .
   have hq1:=hq.1.1;clear h all hq;simp_all[pI]
  .
   have hq3:=hq.2;clear h all hq;simp_all[Hs]
  .
   have hq3:=hq.2;clear h all hq;simp_all[Hs]
  cases h
 case h_21 cl hop =>
  obtain ⟨callee,args,ats⟩:=cl;simp only[hop] at all hq ⊢;unfold bp at h ⊢;cases callee with
  |value f=>simp[quiet] at hq
  |invoke r m=>cases h
  |
   builtin b =>
   simp only at h ⊢;unfold lJ at h ⊢;cases b
   case append=>simp[quiet] at hq
   case copy=>simp[quiet] at hq
   case len =>
    exact all (HK h)
   case cap =>
    simp only at h ⊢;unfold nK at h ⊢;split at h
    .
     rename_i x t hx0 Sz;obtain ⟨hu,rfl⟩:=av h;refine ⟨rfl,λhl=>by simp[ez] at hl,λH2 hx=>?_⟩
     have:xz P H2 t (ev x)=some v:=by
      unfold xz at hu ⊢;split at hu
      .
       split at hu
       .
        rename_i b hb
        have hal:∀i b,alive H' i=some b->alive H2 i=some b:=by
         intro i b hb;obtain ⟨h1,h2⟩:=alive_some hb;unfold alive;rw[hx i b h1];simp[h2]
        rw[hal _ _ hb];exact hu
       cases hu
      .
       exact hu
      cases hu
     rw[this];rfl
    cases h
   all_goals first|(simp[quiet] at hq;done)|(simp only at h ⊢;exact all (cq h))
 case h_22 hop=>simp[hop,quiet] at hq
 case h_23 t x k ok hop =>
  obtain ⟨hu,rfl⟩:=av h;simp only[hop];refine ⟨trivial,λhl=>by simp[ez] at hl,λH2 hx=>?_⟩
  have hen:∀{y:Value} {cs:List Value},jh H' y=some cs->jh H2 y=some cs:=by
   intro y cs hy;unfold jh at hy ⊢;split at hy
   .
    exact hy
   .
    split at hy
    .
     rename_i b hb;obtain ⟨h1,h2⟩:=oE hb;simp only[mapOf,hx _ b h1,h2];exact hy
    cases hy
   cases hy
  have:oX P H2 t (ev x) (ev k) ok=some v:=by
   unfold oX at hu ⊢;split at hu
   .
    split at hu
    .
     rename_i hd hz hcs;rw[hen hcs,hd,hz];exact hu
    cases hu
   cases hu
  rw[this];rfl
 case h_24 hop=>simp[hop,quiet] at hq
 case h_25 hop=>simp[hop,quiet] at hq
 case h_26=>exact all (cq h)
def QY (P:Program) (call:aN) (ops:Array Oper) (o:Oper) (v:Value) (a:Act) (H:Mem):Prop :=
 (Region.wanted o (yielded ops a.tmps)=true/\opA P call a.eval o H=some (v,H))\/(Region.wanted o (yielded ops a.tmps)=false/\v=undef)
theorem QY.step {o:Oper} {v:Value} {a:Act} {H:Mem} (h:QY P call ops o v a H):dg P call ops o a H=some (a.put o.dst v,H):=by
 unfold dg
 rcases h with ⟨h1,h3⟩|⟨h1,rfl⟩
 .
  simp only[h1,if_true,h3];rfl
 simp[h1]
theorem QY.S8 {o:Oper} {a a':Act} {H H':Mem} (hq:quiet P o.op=true) (h:dg P call ops o a H=some (a',H')):H'=H/\∃v,a'=a.put o.dst v/\QY P call ops o v a H:=by
 unfold dg at h
 split at h
 .
  rename_i hw;simp only[Option.map_eq_some_iff] at h;obtain ⟨⟨r1,r2⟩,hr,heq⟩:=h;cases heq;obtain ⟨h1,_,_⟩:=E6 hq hr;rw[h1] at hr ⊢;exact ⟨rfl,_,rfl,.inl ⟨hw,hr⟩⟩
 rename_i hw
 cases h
 exact ⟨rfl,_,rfl,.inr ⟨by simpa using hw,rfl⟩⟩
theorem QY.move {o oj:Oper} {v u:Value} {a:Act} {H:Mem} (h:QY P call ops o v a H) (hap:∀d,oj.dst=some d->d ∉ o.looksAt ops) (hsel:∀cs b,o.op ≠ .select cs b):QY P call ops o v (a.put oj.dst u) H:=by
 unfold QY at *
 rw[wanted_put o a oj.dst u hap,Bx (P:=P) (call:=call) H (kq a u hap) hsel]
 exact h
theorem QY.mem {o:Oper} {v:Value} {a:Act} {H H':Mem} (hq:quiet P o.op=true) (h:QY P call ops o v a H) (hm:ez o.op=false\/Ext H H'):QY P call ops o v a H':=by
 rcases h with ⟨h1,h3⟩|h
 .
  obtain ⟨_,k2,k3⟩:=E6 hq h3;rcases hm with hm|hm
  .
   exact .inl ⟨h1,k2 hm H'⟩
  exact .inl ⟨h1,k3 H' hm⟩
 exact .inr h
def l7 (ops:Array Oper) (listed:Array Bool):Prop :=
 ∀k o,ops[k]? = some o->listed.getD k false=true->∀e∈o.after,Region.binds .any e=true->listed.getD e.on false=true
theorem l7.add {listed:Array Bool} (h:l7 ops listed) {i:Nat} (hi:i∈Region.ready .any ops listed):l7 ops (listed.setIfInBounds i true):=by
 intro k o ho hk e he hb
 apply getD_set_true
 by_cases hik:i=k
 .
  subst hik;obtain ⟨_,o',ho',hall⟩:=mem_ready.1 hi;rw[ho] at ho';cases ho';exact hall e he hb
 rw[getD_set_ne false hik] at hk
 exact h k o ho hk e he hb
theorem tM {listed:Array Bool} (hc:l7 ops listed) {i j:Nat} (h:Reach ops i j) (hi:listed.getD i false=true):listed.getD j false=true:=by
 induction h with
 |one ho he hb=>exact hc _ _ ho hi _ he hb
 |more ho he hb _ ih=>exact ih (hc _ _ ho hi _ he hb)
theorem E7 {listed:Array Bool} (hc:l7 ops listed) {i j:Nat} (hi:i∈Region.ready .any ops listed) (hj:j∈Region.ready .any ops listed):¬Reach ops j i:=by
 intro h
 obtain ⟨hi0,_⟩:=mem_ready.1 hi
 have hcon:listed.getD i false=true->False:=by
  intro h1;by_cases hlt:i<listed.size
  .
   simp[Array.getD,hlt] at h1 hi0;rw[h1] at hi0;cases hi0
  simp[Array.getD,hlt] at h1
 obtain ⟨_,o,ho,hall⟩:=mem_ready.1 hj
 cases h with
 |one ho' he hb=>rw[ho] at ho';cases ho';exact hcon (hall _ he hb)
 |more ho' he hb h2=>rw[ho] at ho';cases ho';exact hcon (tM hc h2 (hall _ he hb))
def QM (o:Oper) (a:Act) (pr:Option Nat):Prop:=pr=none\/∃b t x off m,pr=some b/\o.op = .load t x/\a.eval x = .pointer (some ⟨b,off,m⟩)
theorem QY.agl {o:Oper} {v:Value} {a:Act} {H H':Mem} (hq:quiet P o.op=true) (h:QY P call ops o v a H) {pr:Option Nat} (hm:QM o a pr) (hp:E3 pr H H'):QY P call ops o v a H':=by
 rcases hm with rfl|⟨b,t,x,off,m,rfl,hop,hx⟩
 .
  exact h.mem hq (.inr hp)
 rcases h with ⟨h1,h3⟩|h
 .
  refine .inl ⟨h1,?_⟩;unfold opA at h3 ⊢;rw[hop] at h3 ⊢;simp only at h3 ⊢;obtain ⟨hu,_⟩:=av h3
  have hal:∀k,alive H b=some k->alive H' b=some k:=by
   intro k hb;obtain ⟨h1,h2⟩:=alive_some hb;unfold alive;rw[hp k h1];simp[h2]
  have:kS P H' t (a.eval x)=some v:=by
   rw[hx] at hu ⊢;unfold kS at hu ⊢;split at hu
   .
    rename_i heq;cases heq;split at hu
    .
     rename_i n _ _;simp only[Option.map_eq_some_iff] at hu ⊢;obtain ⟨l,hl,rfl⟩:=hu;refine ⟨l,?_,rfl⟩;unfold bT at hl ⊢;split at hl
     .
      rename_i k hb;rw[hal _ hb];exact hl
     cases hl
    .
     split at hu
     .
      rename_i k hb;rw[hal _ hb];exact hu
     cases hu
    cases hu
   cases hu
  rw[this];rfl
 exact .inr h
theorem QM.move {o:Oper} {a:Act} {pr:Option Nat} (h:QM o a pr) {dst:Option Tmp} (u:Value) (hd:∀d,dst=some d->d ∉ o.looksAt ops):QM o (a.put dst u) pr:=by
 rcases h with rfl|⟨b,t,x,off,m,rfl,hop,hx⟩
 .
  exact .inl rfl
 refine .inr ⟨b,t,x,off,m,rfl,hop,?_⟩
 rw[<-hx]
 exact Act.eval_put λd h1 h2=>hd d h1 (by
  subst h2;exact List.mem_append_left _ (List.mem_filterMap.2 ⟨.tmp d,by simp[hop,Op.operands],rfl⟩))
theorem iG.weak {Fin:Act->Mem->Prop} {RL RL':List (Nat×Option Nat)} (hsub:∀q∈RL,q∈RL') {x:Option Nat} {l:Array Bool} {bC:List Nat} {a:Act} {H:Mem} (h:iG P call ops Fin RL' x l bC a H):iG P call ops Fin RL x l bC a H:=by
 induction h with
 |pay ho hm hst hap _ ih=>exact .pay ho hm hst hap ih
 |step h0 _ ih=>exact .step h0 ih
 |sync ho hst hR hap _ ih=>exact .sync ho hst (λq hq=>hR q (hsub q hq)) hap ih
 |VP ho hm pU hd _ ih=>exact .VP ho hm pU hd ih
theorem HL (hk:bJ call) {Fin:Act->Mem->Prop} (hsel:∀(j:Nat) (o:Oper) cs b,ops[j]? = some o->o.op ≠ .select cs b) {i:Nat} {oi:Oper} {v:Value} (hi:ops[i]? = some oi) (hq:quiet P oi.op=true)
 {RL RL':List (Nat×Option Nat)} (hsub:∀q∈RL,q∈RL') {x:Option Nat} {l1:Array Bool} {bC:List Nat} {a1:Act} {H:Mem} (hA:iG P call ops Fin RL' x l1 bC a1 H):∀(listed:Array Bool) (a:Act),l1=listed.setIfInBounds i true->a1=a.put oi.dst v->(ez oi.op=false\/∃pr,(i,pr)∈RL'/\QM oi a pr) ->
  (∀(j:Nat) (oj:Oper),ops[j]? = some oj->j≠i->(listed.getD j true=false\/j∈bC)->(∀e∈oj.after,Region.binds .any e=true->e.on≠i)->oi.apart ops oj=true) ->
  (∀m∈bC,∀om,ops[m]? = some om->∀e∈om.after,Region.binds .any e=true->e.on≠i)->i ∉ bC ->
  l7 ops listed->i∈Region.ready .any ops listed->QY P call ops oi v a H ->
  match x with
  |none=>iG P call ops Fin RL none listed bC a H
  |some j=>j≠i->j∈Region.ready .any ops listed->iG P call ops Fin RL (some j) listed bC a H:=by
 have hni:∀{m:Nat} {om:Oper},ops[m]? = some om->makes P om=true->m≠i:=λHJ hm e=>by
  subst e;rw[hi] at HJ;cases HJ;rw[si hm] at hq;cases hq
 induction hA with
 |
  @pay l1 p1 p2 m o R lk a1 a' H H' ho hm hst abZ h ih =>
  rintro listed a rfl rfl hrd hfree xC hnp ia hr hy;have hap:=hfree m o ho (hni ho hm) (.inr (by simp)) (xC m (by simp) o ho)
  obtain ⟨q1,q2,q3⟩:=Oper.apart_spec hap;rw[yJ a v H q1 q2 (λcs b=>hsel m o cs b ho)] at hst
  simp only[Option.map_eq_some_iff] at hst;obtain ⟨⟨aj,Hj⟩,Lw,heq⟩:=hst;simp only[Prod.mk.injEq] at heq;obtain ⟨rfl,rfl⟩:=heq;obtain ⟨u,rfl⟩:=eW Lw;obtain ⟨_,_,_,_,hp,_⟩:=ve hm Lw
  have agm:Ext H Hj:=λk b hb=>by
   obtain ⟨_,_,e3⟩:=Mem.bf hp;rw[e3,if_neg (Nat.ne_of_lt (Mem.bI hb))];exact hb
  have sub:∀{y:Nat},y∈p1++p2->y∈p1++m::p2:=λhx=>by
   rcases List.mem_append.1 hx with h1|h1
   .
    exact List.mem_append_left _ h1
   exact List.mem_append_right _ (List.mem_cons_of_mem _ h1)
  exact iG.pay ho hm Lw abZ (ih listed _ rfl rfl (hrd.imp id λ⟨pr,e1,e2⟩=>⟨pr,e1,e2.move u q3⟩) (λj oj hj hji hh=>hfree j oj hj hji (hh.imp id sub)) (λk hk'=>xC k (sub hk')) (λh=>hnp (sub h)) ia hr ((hy.move q3 (λcs b=>hsel i oi cs b hi)).mem hq (.inr agm)))
 |
  @step l1 bC a1 H h0 h ih =>
  rintro listed a rfl rfl hrd hfree xC hnp ia hr hy;refine iG.step (λh=>(by rw[h] at hr;cases hr)) λj hj=>?_
  by_cases hji:j=i
  .
   subst hji
   have hn:∀m∈bC,∀om,ops[m]? = some om->(∀x,om.dst=some x->x ∉ oi.looksAt ops/\oi.dst≠some x)/\∀x,oi.dst=some x->x ∉ om.looksAt ops:=by
    intro m hm om HJ;have hne:m≠j:=λe=>hnp (by rw[<-e];exact hm)
    obtain ⟨q1,q2,q3⟩:=Oper.apart_spec (hfree m om HJ hne (.inr hm) (xC m hm om HJ));exact ⟨λx hx=>⟨q3 x hx,λe=>q2 x e hx⟩,q1⟩
   exact iG.sync (R:=none) (lk:=false) hi (by unfold gY;exact hy.step) (λq _=>.inr (E3.HF λ_ _ hb=>hb)) hn (iG.weak hsub (iG.step h0 h))
  exact ih j (ready_mono hj hji) listed a rfl rfl hrd hfree xC hnp ia hr hy hji hj
 |
  @sync l1 bC j oj R lk a1 a' H H' sj hst hR hap h ih =>
  rintro listed a rfl rfl hrd hfree xC hnp ia hr hy hji hj;obtain ⟨Lx,oj',hoj',hall⟩:=mem_ready.1 hj;rw[sj] at hoj';cases hoj'
  have hnot:∀e∈oj.after,Region.binds .any e=true->e.on≠i:=λe he hb heq=>by
   have h1:=hall e he hb;have h0:=(mem_ready.1 hr).1;rw[heq] at h1;rcases Nat.lt_or_ge i listed.size with h'|h'
   .
    simp[h'] at h0 h1;rw[h0] at h1;cases h1
   simp[Array.getElem?_eq_none h'] at h1
  obtain ⟨p1,p2,p3⟩:=Oper.apart_spec (hfree j oj sj hji (.inl Lx) hnot);rw[yJ a v H p1 p2 (λcs b=>hsel j oj cs b sj)] at hst
  simp only[Option.map_eq_some_iff] at hst;obtain ⟨⟨aj,Hj⟩,Lw,heq⟩:=hst;simp only[Prod.mk.injEq] at heq;obtain ⟨rfl,rfl⟩:=heq;refine iG.sync sj Lw (λq hq=>hR q (hsub q hq)) hap ?_
  have hfree':∀(k:Nat) (ok:Oper),ops[k]? = some ok->k≠i->((listed.setIfInBounds j true).getD k true=false\/k∈bC) ->
   (∀e∈ok.after,Region.binds .any e=true->e.on≠i)->oi.apart ops ok=true:=λk ok hk' hki hun hno=>by
   refine hfree k ok hk' hki (hun.imp (λhun=>?_) id) hno
   by_cases C3:j=k
   .
    subst C3;exact Lx
   rw[getD_set_ne true C3] at hun;exact hun
  obtain ⟨u,rfl⟩:=eW Lw
  have hyj:QY P call ops oi v a Hj:=by
   rcases hrd with hld|⟨pr,e1,e2⟩
   .
    exact hy.mem hq (.inl hld)
   rcases hR _ e1 with h1|h1
   .
    exact absurd h1 (E7 ia hr hj)
   exact hy.agl hq e2 h1
  exact ih (listed.setIfInBounds j true) _ (Array.setIfInBounds_comm _ _ (Ne.symm hji)) rfl (hrd.imp id λ⟨pr,e1,e2⟩=>⟨pr,e1,e2.move u p3⟩) hfree' xC hnp (ia.add hj) (ready_mono hr (Ne.symm hji)) (hyj.move p3 (λcs b=>hsel i oi cs b hi))
 |
  @VP l1 bC j oj a1 H sj hm pU hd h ih =>
  rintro listed a rfl rfl hrd hfree xC hnp ia hr hy hji hj;obtain ⟨Lx,oj',hoj',hall⟩:=mem_ready.1 hj;rw[sj] at hoj';cases hoj'
  have hnot:∀e∈oj.after,Region.binds .any e=true->e.on≠i:=λe he hb heq=>by
   have h1:=hall e he hb;have h0:=(mem_ready.1 hr).1;rw[heq] at h1;rcases Nat.lt_or_ge i listed.size with h'|h'
   .
    simp[h'] at h0 h1;rw[h0] at h1;cases h1
   simp[Array.getElem?_eq_none h'] at h1
  obtain ⟨p1,_,_⟩:=Oper.apart_spec (hfree j oj sj hji (.inl Lx) hnot);rw[pV a v p1] at pU
  refine iG.VP sj hm pU hd (ih (listed.setIfInBounds j true) a (Array.setIfInBounds_comm _ _ (Ne.symm hji)) rfl hrd (λk ok hk' hki hun hno=>?_) (λk hk' ok hok'=>?_) (λhh=>by
   rcases List.mem_cons.1 hh with e|hh
   .
    exact hji e.symm
   exact hnp hh) (ia.add hj) (ready_mono hr (Ne.symm hji)) hy)
  .
   rcases hun with hun|hun
   .
    refine hfree k ok hk' hki (.inl ?_) hno;by_cases C3:j=k
    .
     subst C3;exact Lx
    rw[getD_set_ne true C3] at hun;exact hun
   rcases List.mem_cons.1 hun with rfl|hun
   .
    exact hfree k ok hk' hki (.inl Lx) hno
   exact hfree k ok hk' hki (.inr hun) hno
  rcases List.mem_cons.1 hk' with rfl|hk'
  .
   rw[sj] at hok';cases hok';exact hnot
  exact xC k hk' ok hok'
end
end Go.Ev

namespace Go.Ev
open Go.RowKit
section
variable {P:Program} {call:aN} {ops:Array Oper}
theorem oF (m i:Nat):bit m i=m.testBit i:=by
 unfold bit
 rw[Nat.testBit_eq_decide_div_mod_eq]
 have e:Nat.land (Nat.shiftRight m i) 1=m/2 ^ i%2:=by
  show (m >>> i) &&& 1=_;rw[Nat.and_one_is_mod,Nat.shiftRight_eq_div_pow]
 rw[e,Bool.eq_iff_iff];simp[Nat.beq_eq]
theorem Df (m i j:Nat):bit (nv m i) j=(bit m j||decide (i=j)):=by
 rw[oF,oF]
 show (m ||| (1 <<< i)).testBit j=_
 rw[Nat.testBit_or,Nat.one_shiftLeft,Nat.testBit_two_pow]
theorem yK (j:Nat):bit 0 j=false:=by rw[oF];simp
theorem J0 (p L:Nat):Nat.beq (Nat.land p L) p=true↔∀j,bit p j=true->bit L j=true:=by
 rw[Nat.beq_eq]
 show (p &&& L)=p↔_
 constructor
 .
  intro h j hj;rw[oF] at hj ⊢;rw[<-h,Nat.testBit_and] at hj;simp at hj;exact hj.2
 intro h
 apply Nat.eq_of_testBit_eq
 intro j
 rw[Nat.testBit_and]
 cases hp:p.testBit j with
 |false=>rfl
 |true=>have:=h j (by rw[oF];exact hp);rw[oF] at this;simp[this]
theorem iT (o:Oper) (j:Nat):bit (lq o) j=true↔∃e∈o.after,Region.binds .any e=true/\e.on=j:=by
 have key:∀l:List Edge,bit (l.foldr (λe m=>pick2 (Region.binds .any e) (nv m e.on) m) 0) j=true↔∃e∈l,Region.binds .any e=true/\e.on=j:=by
  intro l
  induction l with
  |nil=>simp[yK]
  |
   cons e l ih =>
   simp only[List.foldr_cons,List.mem_cons,exists_eq_or_imp];cases hb:Region.binds .any e with
   |false=>show bit (l.foldr _ 0) j=true↔_;rw[ih];simp
   |true=>show bit (nv (l.foldr _ 0) e.on) j=true↔_;rw[Df,Bool.or_eq_true,ih];simp[or_comm]
 have:=key o.after.toList
 unfold lq
 rw[this];simp
theorem AZ (o:Oper) (d:Nat):bit (nO ops o) d=true↔d∈o.looksAt ops:=by
 have key:∀l:List Tmp,bit (l.foldr (λd m=>nv m d) 0) d=true↔d∈l:=by
  intro l
  induction l with
  |nil=>simp[yK]
  |
   cons e l ih =>
   simp only[List.foldr_cons,List.mem_cons];rw[Df,Bool.or_eq_true,ih];simp;constructor
   .
    rintro (h|h)
    .
     exact .inr h
    exact .inl h.symm
   rintro (h|h)
   .
    exact .inr h.symm
   exact .inl h
 exact key _
structure Xm (P:Program) (ops:Array Oper) (p:PO):Prop where
 o:ops[p.i]? = some p.o
 pre:p.pre=lq p.o
 looks:p.looks=nO ops p.o
 q:p.q=quiet P p.o.op
 ld:p.ld=ez p.o.op
 Ny:p.Ny=makes P p.o
 Sw:∀j,bit p.Sw j=true->Reach ops p.i j
theorem oG (pre j:Nat):∀l:List PO,bit (mN pre l) j=true->bit pre j=true\/∃p∈l,bit pre p.i=true/\bit p.Sw j=true
 |[],h=>.inl h
 |
  p::l,h=>by
  unfold mN at h;rw[pick2_eq] at h;split at h
  .
   rename_i hb;have h':(p.Sw ||| mN pre l).testBit j=true:=by rw[<-oF];exact h
   rw[Nat.testBit_or,Bool.or_eq_true] at h';rcases h' with h'|h'
   .
    exact .inr ⟨p,by simp,hb,by rw[oF];exact h'⟩
   rcases oG pre j l (by rw[oF];exact h') with h1|⟨q,hq,h2⟩
   .
    exact .inl h1
   exact .inr ⟨q,by simp[hq],h2⟩
  rcases oG pre j l h with h1|⟨q,hq,h2⟩
  .
   exact .inl h1
  exact .inr ⟨q,by simp[hq],h2⟩
theorem wG:∀(l:List Oper) (i:Nat) (acc:List PO),(∀j,l[j]? = ops[i+j]?)->(∀p∈acc,Xm P ops p)->(∀k,k<i->∃p∈acc,p.i=k) ->
 (∀p∈ny P ops l i acc,Xm P ops p)/\(∀k,k<i+l.length->∃p∈ny P ops l i acc,p.i=k)
 |[],i,acc,_,h1,h2=>⟨h1,by simpa[ny] using h2⟩
 |
  o::l,i,acc,hl,h1,h2=>by
  unfold ny;have h0:ops[i]? = some o:=by simpa using (hl 0).symm
  have hp:Xm P ops ⟨o,i,lq o,mN (lq o) acc,nO ops o,quiet P o.op,ez o.op,makes P o⟩:=by
   refine ⟨h0,rfl,rfl,rfl,rfl,rfl,λj hj=>?_⟩
   rcases oG _ _ _ hj with h|⟨p,hp,h3,h4⟩
   .
    obtain ⟨e,he,hb,rfl⟩:=(iT o j).1 h;exact .one h0 he hb
   obtain ⟨e,he,hb,heq⟩:=(iT o p.i).1 h3;exact .more h0 he hb (by rw[heq];exact (h1 p hp).Sw j h4)
  have:=wG l (i+1) (⟨o,i,lq o,mN (lq o) acc,nO ops o,quiet P o.op,ez o.op,makes P o⟩::acc)
   (λj=>by have:=hl (j+1);simpa[Nat.add_assoc,Nat.add_comm 1 j] using this)
   (λp hm=>by
    rcases List.mem_cons.1 hm with rfl|hm
    .
     exact hp
    exact h1 p hm)
   (λk hk=>by
    by_cases hki:k=i
    .
     exact ⟨_,List.mem_cons_self,hki.symm⟩
    obtain ⟨p,hm,hpk⟩:=h2 k (by omega);exact ⟨p,by simp[hm],hpk⟩)
  refine ⟨this.1,λk hk=>this.2 k ?_⟩
  simp only[List.length_cons] at hk;omega
structure yL (P:Program) (ops:Array Oper) (pos:List PO):Prop where
 each:∀p∈pos,Xm P ops p
 all:∀k,k<ops.size->∃p∈pos,p.i=k
theorem VT:yL P ops (ny P ops ops.toList 0 []).reverse:=by
 have:=wG (P:=P) (ops:=ops) ops.toList 0 [] (by simp) (by simp) (by simp)
 exact ⟨λp hp=>this.1 p (by simpa using hp),λk hk=>by
  obtain ⟨p,hm,h⟩:=this.2 k (by simpa using hk);exact ⟨p,by simpa using hm,h⟩⟩
structure J1 (ops:Array Oper) (L:Nat) (listed:Array Bool):Prop where
 size:listed.size=ops.size
 get:∀j,listed.getD j false=bit L j
theorem J1.yM {L:Nat} {listed:Array Bool} (h:J1 ops L listed) {j:Nat} (hj:j<ops.size):listed.getD j true=bit L j:=by
 rw[<-h.get]
 have:j<listed.size:=by rw[h.size];exact hj
 simp[Array.getD,this]
theorem J1.add {L:Nat} {listed:Array Bool} (h:J1 ops L listed) {i:Nat} (hi:i<ops.size):J1 ops (nv L i) (listed.setIfInBounds i true):=by
 refine ⟨by simpa using h.size,λj=>?_⟩
 rw[Df]
 by_cases hij:i=j
 .
  subst hij;have:i<listed.size:=by rw[h.size];exact hi
  simp[this]
 rw[getD_set_ne false hij,h.get];simp[hij]
theorem J1.zero:J1 ops 0 (Array.replicate ops.size false):=⟨by simp,λj=>by
 rw[yK]
 by_cases hlt:j<ops.size
 .
  simp[Array.getD,hlt]
 simp[Array.getD,hlt]⟩
theorem iH {pos:List PO} (hp:yL P ops pos) {L:Nat} {listed:Array Bool} (hl:J1 ops L listed) {p:PO} (hm:p∈pos):nA L p=true↔p.i∈Region.ready .any ops listed:=by
 have ho:=(hp.each p hm).o
 have hlt:p.i<ops.size:=(Array.getElem?_eq_some_iff.1 ho).1
 rw[mem_ready,hl.yM hlt]
 unfold nA
 rw[pick2_eq]
 constructor
 .
  intro h;split at h
  .
   cases h
  rename_i hb;refine ⟨by simpa using hb,p.o,ho,λe he agn=>?_⟩
  rw[hl.get];rw[(hp.each p hm).pre] at h;exact (J0 _ _).1 h e.on ((iT p.o e.on).2 ⟨e,he,agn,rfl⟩)
 rintro ⟨h1,o,ho',hall⟩
 rw[ho] at ho';cases ho'
 rw[if_neg (by rw[h1];simp)]
 rw[(hp.each p hm).pre]
 refine (J0 _ _).2 λj hj=>?_
 obtain ⟨e,he,hb,rfl⟩:=(iT p.o j).1 hj
 rw[<-hl.get];exact hall e he hb
theorem yN {pos:List PO} (hp:yL P ops pos) {L:Nat} {listed:Array Bool} (hl:J1 ops L listed) {i:Nat} (hi:i∈Region.ready .any ops listed):∃p∈pos,p.i=i/\nA L p=true:=by
 obtain ⟨_,o,ho,_⟩:=mem_ready.1 hi
 obtain ⟨p,hm,rfl⟩:=hp.all i (Array.getElem?_eq_some_iff.1 ho).1
 exact ⟨p,hm,rfl,(iH hp hl hm).2 hi⟩
theorem mP {x y:PO} (hx:Xm P ops x) (hy:Xm P ops y) (h:yq x y=true):x.o.apart ops y.o=true:=by
 unfold yq at h
 have nl:∀{z:PO} (hz:Xm P ops z) {d:Nat},bit z.looks d=false->(z.o.looksAt ops).contains d=false:=by
  intro z hz d hd;rw[hz.looks] at hd;rw[<-Bool.not_eq_true,List.contains_iff_mem,<-AZ,hd];simp
 unfold Oper.apart
 split at h
 .
  rename_i d e hd he;simp only[Bool.and_eq_true,Bool.not_eq_true'] at h;simp only[hd,he,nl hy h.1.1,nl hx h.2,Bool.not_false,Bool.true_and,Bool.and_true]
  have hne:¬(e=d):=by
   intro hh;subst hh;have:=h.1.2;rw[<-Bool.not_eq_true,Nat.beq_eq] at this;exact this rfl
  simp[hne]
 .
  rename_i d hd he;simp only[Bool.not_eq_true'] at h;rw[hd,he];simp only[nl hy h];simp
 .
  rename_i e hd he;simp only[Bool.not_eq_true'] at h;rw[hd,he];simp only[nl hx h];simp
 rename_i hd he
 rw[hd,he];rfl
theorem yO {pos:List PO} (hp:yL P ops pos) {L:Nat} {listed:Array Bool} (hl:J1 ops L listed) {p:PO} (hm:p∈pos) (h:VJ pos L p=true) :
 ∀(j:Nat) (oj:Oper),ops[j]? = some oj->j≠p.i->listed.getD j true=false->(∀e∈oj.after,Region.binds .any e=true->e.on≠p.i)->p.o.apart ops oj=true:=by
 intro j oj hj hji hun hno
 have hlt:j<ops.size:=(Array.getElem?_eq_some_iff.1 hj).1
 obtain ⟨r,hr,S9⟩:=hp.all j hlt
 have hro:=(hp.each r hr).o
 rw[S9,hj] at hro
 have Ly:oj=r.o:=by cases hro;rfl
 have:=List.all_eq_true.1 h r hr
 simp only[Bool.or_eq_true] at this
 rcases this with ((h1|h1)|h1)|h1
 .
  rw[Nat.beq_eq] at h1;exact absurd (S9 ▸ h1) hji
 .
  rw[S9,<-hl.yM hlt,hun] at h1;cases h1
 .
  rw[(hp.each r hr).pre] at h1;obtain ⟨e,he,hb,heq⟩:=(iT r.o p.i).1 h1;exact absurd heq (hno e (by rw[Ly];exact he) hb)
 rw[Ly];exact mP (hp.each p hm) (hp.each r hr) h1
theorem E8 {pos:List PO} (hp:yL P ops pos) {L:Nat} {listed:Array Bool} (hl:J1 ops L listed) {p:PO} (hm:p∈pos) (h:Ht pos L p=true):HC ops listed p.i:=by
 intro j oj hj hld ab0
 have hlt:j<ops.size:=(Array.getElem?_eq_some_iff.1 hj).1
 obtain ⟨r,hr,S9⟩:=hp.all j hlt
 have hro:=(hp.each r hr).o
 rw[S9,hj] at hro
 have Ly:oj=r.o:=by cases hro;rfl
 have:=List.all_eq_true.1 h r hr
 simp only[Bool.or_eq_true,Bool.not_eq_true'] at this
 rw[(hp.each r hr).ld,<-Ly,hld,S9,<-hl.yM hlt,ab0] at this
 rcases this with (h1|h1)|h1
 .
  cases h1
 .
  cases h1
 exact (hp.each p hm).Sw j h1
noncomputable def nS (P:Program) (call:aN) (ops:Array Oper):List (Oper×Bool)->Option (List Nat)->Act->Mem->Option (Act×Mem)
 |[],_,a,H=>some (a,H)
 |
  (o,lk)::l,R,a,H=>match gY P call ops R lk o a H with
  |some (a',H')=>nS P call ops l (jE a.eval o R) a' H'
  |none=>none
theorem E9 {ev:Operand->Value} {st xt:TypeId} {s x v:Value} {H H':Mem} (h:lg P H st xt s x=some (v,H')) {j:Nat} (hj:∀b off m l c,s = .slice (some ⟨b,off,m⟩) l c->j≠b) (k:Blk) (hk:H.get j=some k):H'.get j=some k:=by
 unfold lg at h
 split at h
 .
  split at h
  .
   split at h
   .
    split at h
    .
     cases h
    have push:∀{H1 H2:Mem} {e:TypeId} {cs:List Value} {n m:Nat} {u:Value},H1.get j=some k->eo H1 e cs n m=some (u,H2)->H2.get j=some k:=by
     intro H1 H2 e cs n m u h1 h2;obtain ⟨hp,_⟩:=iu h2;obtain ⟨_,_,e3⟩:=Mem.bf hp;rw[e3,if_neg (Nat.ne_of_lt (Mem.bI h1))];exact h1
    split at h
    .
     split at h
     .
      rename_i b off _ _ _;simp only[Option.map_eq_some_iff,Prod.mk.injEq] at h;obtain ⟨H1,hw,_,rfl⟩:=h;unfold cD at hw;split at hw
      .
       cases hw;exact hk
      split at hw
      .
       split at hw
       .
        obtain ⟨_,_,_,_,e5⟩:=Mem.eC hw;rw[e5,if_neg (hj _ _ _ _ _ rfl)];exact hk
       cases hw
      cases hw
     .
      split at h
      .
       cases h;exact hk
      cases h
     cases h
    split at h
    .
     split at h
     .
      split at h
      .
       rename_i H1 bM;refine push ?_ h;obtain ⟨_,_,_,e4,_⟩:=iQ bM;rw[e4 j (hj _ _ _ _ _ rfl)];exact hk
      cases h
     cases h
    .
     exact push hk h
    cases h
   cases h
  cases h
 cases h
theorem Oa {o:Oper} {s:Operand} (hb:ee o.op=some s) {a:Act} {H:Mem} {r:Act×Mem} (h:dg P call ops o a H=some r) {j:Nat} (hj:∀b off m l c,a.eval s = .slice (some ⟨b,off,m⟩) l c->j≠b) (k:Blk) (hk:H.get j=some k):r.2.get j=some k:=by
 unfold dg at h
 split at h
 .
  simp only[Option.map_eq_some_iff] at h;obtain ⟨⟨v,H1⟩,h1,rfl⟩:=h;unfold ee at hb;split at hb
  .
   rename_i args ats hop;unfold opA at h1;rw[hop] at h1;simp only at h1;unfold bp at h1;simp only at h1;unfold lJ at h1;simp only at h1;unfold lV at h1;split at h1
   .
    rename_i s0 x st xt h2 h3 h4 h5;rw[h2] at hb;cases hb;exact E9 (ev:=a.eval) h1 hj k hk
   cases h1
  cases hb
 cases h;exact hk
theorem HM {o:Oper} {s:Operand} (hb:fH o.op=some s) {a:Act} {H:Mem} {r:Act×Mem} (h:dg P call ops o a H=some r) {j:Nat} (hj:∀b off m,a.eval s = .pointer (some ⟨b,off,m⟩)->j≠b) (k:Blk) (hk:H.get j=some k):r.2.get j=some k:=by
 unfold dg at h
 split at h
 .
  simp only[Option.map_eq_some_iff] at h;obtain ⟨⟨v,H1⟩,h1,rfl⟩:=h;unfold fH at hb;split at hb
  .
   rename_i t s' x hop;cases hb;unfold opA at h1;rw[hop] at h1;simp only at h1;unfold jY at h1;split at h1
   .
    rename_i H2 hst;cases h1;unfold lR at hst;split at hst
    .
     rename_i i off n hp hn;split at hst
     .
      unfold cD at hst;split at hst
      .
       cases hst;exact hk
      split at hst
      .
       split at hst
       .
        obtain ⟨_,_,_,_,e5⟩:=Mem.eC hst;rw[e5,if_neg (hj _ _ _ hp)];exact hk
       cases hst
      cases hst
     cases hst
    cases hst
   cases h1
  cases hb
 cases h;exact hk
theorem oH {l:List PO} {p:PO} {ms:List PO} (h:CT l=some (p,ms)):p∈l/\(∀r∈l,r=p\/r∈ms)/\∀m∈ms,m∈l/\m.Ny=true:=by
 unfold CT at h
 split at h
 .
  rename_i q hf;cases h;have hm:p∈l.filter λp => !p.Ny:=by rw[hf];simp
  refine ⟨(List.mem_filter.1 hm).1,λr hr=>?_,λm hm=>List.mem_filter.1 hm⟩
  by_cases hk:r.Ny=true
  .
   exact .inr (List.mem_filter.2 ⟨hr,hk⟩)
  have:r∈l.filter λp => !p.Ny:=List.mem_filter.2 ⟨hr,by simpa using hk⟩
  rw[hf] at this;exact .inl (by simpa using this)
 .
  rename_i hf;split at h
  .
   cases h;refine ⟨by simp,λr hr=>by simpa using hr,λm hm=>⟨by simp[hm],?_⟩⟩
   have:=List.filter_eq_nil_iff.1 hf m (by simp[hm])
   simpa using this
  cases h
 cases h
structure vg (ops:Array Oper) (base:Array Bool) (bC:List Nat) (listed:Array Bool):Prop where
 size:listed.size=ops.size
 get:∀j,listed.getD j false=true↔base.getD j false=true\/j∈bC
theorem vg.yM {base listed:Array Bool} {bC:List Nat} (h:vg ops base bC listed) (hb:base.size=ops.size) {j:Nat} (hj:j<ops.size):listed.getD j true=false↔base.getD j true=false/\j ∉ bC:=by
 have e1:listed.getD j true=listed.getD j false:=by have:=h.size;simp[Array.getD,this,hj]
 have e2:base.getD j true=base.getD j false:=by simp[Array.getD,hb,hj]
 have:=h.get j
 rw[e1,e2,<-Bool.not_eq_true,<-Bool.not_eq_true,this]
 simp only[not_or]
theorem vg.set {base listed:Array Bool} {bC:List Nat} (h:vg ops base bC listed) (hb:base.size=ops.size) {i:Nat} (hi:i<ops.size):vg ops (base.setIfInBounds i true) bC (listed.setIfInBounds i true):=by
 refine ⟨by simpa using h.size,λj=>?_⟩
 by_cases hij:i=j
 .
  subst hij;have h1:i<listed.size:=by rw[h.size];exact hi
  have h2:i<base.size:=by rw[hb];exact hi
  simp[h1,h2]
 rw[getD_set_ne false hij,getD_set_ne false hij];exact h.get j
theorem vg.VP {base listed:Array Bool} {bC:List Nat} (h:vg ops base bC listed) {i:Nat} (hi:i<ops.size):vg ops base (i::bC) (listed.setIfInBounds i true):=by
 refine ⟨by simpa using h.size,λj=>?_⟩
 by_cases hij:i=j
 .
  subst hij;have h1:i<listed.size:=by rw[h.size];exact hi
  simp[h1]
 rw[getD_set_ne false hij,h.get]
 simp[Ne.symm hij]
theorem vg.pay {base listed:Array Bool} {l1 l2:List Nat} {i:Nat} (h:vg ops base (l1++i::l2) listed) (hb:base.size=ops.size) (hi:i<ops.size):vg ops (base.setIfInBounds i true) (l1++l2) listed:=by
 refine ⟨h.size,λj=>?_⟩
 rw[h.get]
 have h2:i<base.size:=by rw[hb];exact hi
 by_cases hij:i=j
 .
  subst hij;simp[h2]
 rw[getD_set_ne false hij]
 simp[Ne.symm hij]
theorem Fa {listed:Array Bool} (hc:l7 ops listed) {j k:Nat} {o:Oper} (sj:ops[j]? = some o) (hall:∀e∈o.after,Region.binds .any e=true->listed.getD e.on false=true) (h:Reach ops j k):listed.getD k false=true:=by
 cases h with
 |one ho' he' hb'=>rw[sj] at ho';cases ho';exact hall _ he' hb'
 |more ho' he' hb' h2'=>rw[sj] at ho';cases ho';exact tM hc h2' (hall _ he' hb')
theorem Lz (_hk:bJ call) (aiE:∀(j:Nat) (o:Oper) cs b,ops[j]? = some o->o.op ≠ .select cs b) {pos:List PO} (hp:yL P ops pos) {af:Act} {Hf:Mem}:∀(n L:Nat) (base:Array Bool) (l:List (Oper×Bool)),oZ pos n L=some l->J1 ops L base ->
 ∀m∈pos,m.Ny=true->nA L m=true->∀R a H,nS P call ops l R a H=some (af,Hf)->(kU P a.eval m.o).isSome=true:=by
 intro n
 induction n with
 |
  zero =>
  intro L base l h hl m hmp hmk hrm R a H hd;unfold oZ at h;split at h
  .
   rename_i hf;exact absurd hrm (List.find?_eq_none.1 hf m hmp)
  cases h
 |
  succ n ih =>
  intro L base l h hl m hmp hmk hrm R a H hd;have hmm:makes P m.o=true:=by rw[<-(hp.each m hmp).Ny];exact hmk
  have hmo:=(hp.each m hmp).o;have hmr:=(iH hp hl hmp).1 hrm
  have go:∀{p:PO},p∈pos->m.i≠p.i->nA (nv L p.i) m=true:=λ{p} HN hne=>by
   have hlt:p.i<ops.size:=(Array.getElem?_eq_some_iff.1 (hp.each p HN).o).1;exact (iH hp (hl.add hlt) hmp).2 (ready_mono hmr hne)
  unfold oZ at h;split at h
  .
   rename_i p hf;have hm:=List.mem_of_find?_eq_some hf;have Xn:=List.find?_some hf;simp only[Bool.and_eq_true] at Xn;have hq:quiet P p.o.op=true:=by rw[<-(hp.each p hm).q];exact Xn.1
   have ho:=(hp.each p hm).o;have hlt:p.i<ops.size:=(Array.getElem?_eq_some_iff.1 ho).1;have Np:=(iH hp hl hm).1 Xn.2
   have hne:m.i≠p.i:=λe=>by
    rw[e,ho] at hmo;have e2:p.o=m.o:=Option.some.inj hmo;rw[<-e2] at hmm;rw[si hmm] at hq;cases hq
   rw[pick2_eq] at h;split at h
   case isFalse=>cases h
   rename_i hfree;split at h
   case h_2=>cases h
   rename_i l' hl';cases h;simp only[nS] at hd;split at hd
   case h_2=>cases hd
   rename_i a1 H1 hst;obtain ⟨u,rfl⟩:=eW hst
   have hap:=yO hp hl hm hfree m.i m.o hmo hne (mem_ready.1 hmr).1 (λe he hb heq=>by
    obtain ⟨_,o2,De,hall⟩:=mem_ready.1 hmr;rw[hmo] at De;cases De;have h1:=hall e he hb;rw[heq] at h1;have h0:=(mem_ready.1 Np).1;have:base.getD p.i true=base.getD p.i false:=by have:=hl.size;simp[Array.getD,this,hlt]
    rw[this,h1] at h0;cases h0)
   rw[<-pV (ops:=ops) a u (Oper.apart_spec hap).1];exact ih _ _ _ hl' (hl.add hlt) m hmp hmk (go hm hne) _ _ _ hd
  split at h
  .
   rename_i hf;have:m∈pos.filter (nA L):=List.mem_filter.2 ⟨hmp,hrm⟩;rw[hf] at this;cases this
  rename_i q0 r0 hf;split at h
  case h_2=>cases h
  rename_i p ms hch;obtain ⟨c1,c2,c3⟩:=oH hch;rw[<-hf] at c1 c2 c3;obtain ⟨hm,hr⟩:=List.mem_filter.1 c1;have ho:=(hp.each p hm).o;have hlt:p.i<ops.size:=(Array.getElem?_eq_some_iff.1 ho).1;rw[pick2_eq] at h;split at h
  case isFalse=>cases h
  rename_i Xo;split at h
  case h_2=>cases h
  rename_i l' hl';cases h;simp only[nS] at hd;split at hd
  case h_2=>cases hd
  rename_i a1 H1 hst;by_cases hne:m.i=p.i
  .
   rw[hne,ho] at hmo;have e2:p.o=m.o:=Option.some.inj hmo;rw[e2] at hst;obtain ⟨te,cs,sh,h1,_⟩:=ve hmm hst;rw[h1];rfl
  obtain ⟨u,rfl⟩:=eW hst;rcases c2 m (List.mem_filter.2 ⟨hmp,hrm⟩) with rfl|hms
  .
   exact absurd rfl hne
  have h1:=List.all_eq_true.1 Xo m hms;simp only[Bool.and_eq_true] at h1;rw[<-pV (ops:=ops) a u (Oper.apart_spec (mP (hp.each m hmp) (hp.each p hm) h1.1.1)).2.2];exact ih _ _ _ hl' (hl.add hlt) m hmp hmk (go hm hne) _ _ _ hd
def oI (R:Option (List Nat)) (RL:List (Nat×Option Nat)):Prop :=
 match R with
 |none=>True
 |some l=>∀q∈RL,∃b∈l,q.2=some b
theorem oI.next {R:Option (List Nat)} {RL:List (Nat×Option Nat)} (h:oI R RL) (ev:Operand->Value) (o:Oper):oI (jE ev o R) RL:=by
 unfold jE
 split
 .
  split
  .
   rename_i l b _ _ _
   exact λq hq=>by
    obtain ⟨b',h1,h2⟩:=h q hq;exact ⟨b',by simp[h1],h2⟩
  trivial
 rw[pick2_eq]
 split
 .
  trivial
 exact h
theorem HO {R:Option (List Nat)} {RL:List (Nat×Option Nat)} (h:oI R RL) (a:Act) (o:Oper) (i:Nat) (hl:ez o.op=true):∃pr,QM o a pr/\oI (jE a.eval o R) ((i,pr)::RL):=by
 unfold jE
 split
 .
  rename_i t x hop;split
  .
   rename_i l b off m hx;refine ⟨some b,.inr ⟨b,t,x,off,m,rfl,hop,hx⟩,λq hq=>?_⟩
   rcases List.mem_cons.1 hq with rfl|hq
   .
    exact ⟨b,by simp,rfl⟩
   obtain ⟨b',h1,h2⟩:=h q hq;exact ⟨b',by simp[h1],h2⟩
  exact ⟨none,.inl rfl,trivial⟩
 rw[pick2_eq,if_pos hl]
 exact ⟨none,.inl rfl,trivial⟩
theorem HP (hk:bJ call) {R:Option (List Nat)} {RL:List (Nat×Option Nat)} (h:oI R RL) {o:Oper} {lk:Bool} {a:Act} {H:Mem} {r:Act×Mem} (hst:gY P call ops R lk o a H=some r) (hl:lk=true):∀q∈RL,E3 q.2 H r.2:=by
 intro q hq
 rcases lA hst with ⟨hs,hc⟩|⟨_,u,hu,rfl⟩
 .
  obtain ⟨s,hb,ia⟩:=hc hl
  have key:∀j,(∀b off m l c,a.eval s = .slice (some ⟨b,off,m⟩) l c->j≠b)->(∀b off m,a.eval s = .pointer (some ⟨b,off,m⟩)->j≠b)->∀k,H.get j=some k->r.2.get j=some k:=λj hj hj2 k hkk=>by
   rcases hb with hb|hb
   .
    exact Oa hb hs hj k hkk
   exact HM hb hs hj2 k hkk
  unfold nB at ia;split at ia
  .
   rename_i hx;exact E3.HF λj k hkk=>key j (λb off m l c e=>by rw[hx] at e;cases e) (λb off m e=>by rw[hx] at e;cases e) k hkk
  .
   rename_i b off m l c lr hx;obtain ⟨b',h1,h2⟩:=h q hq;rw[h2];intro k hkk;refine key b' (λb2 off2 m2 l2 c2 e=>?_) (λb2 off2 m2 e=>by rw[hx] at e;cases e) k hkk
   rw[hx] at e;cases e;have:=List.all_eq_true.1 ia b' h1;intro e2;rw[e2] at this;simp at this
  .
   rename_i b off m lr hx;obtain ⟨b',h1,h2⟩:=h q hq;rw[h2];intro k hkk;refine key b' (λb2 off2 m2 l2 c2 e=>by rw[hx] at e;cases e) (λb2 off2 m2 e=>?_) k hkk
   rw[hx] at e;cases e;have:=List.all_eq_true.1 ia b' h1;intro e2;rw[e2] at this;simp at this
  cases ia
 obtain ⟨_,_,h3⟩:=EW hk hu
 exact E3.HF λj k hkk=>by
  have hlt:=Mem.bI hkk;show u.2.get j=some k;rw[h3 j hlt hlt];exact hkk
theorem LA (hk:bJ call) (hsel:∀(j:Nat) (o:Oper) cs b,ops[j]? = some o->o.op ≠ .select cs b) {pos:List PO} (hp:yL P ops pos) {af:Act} {Hf:Mem}:∀(n L:Nat) (base:Array Bool) (l:List (Oper×Bool)),oZ pos n L=some l->J1 ops L base->l7 ops base ->
 ∀(bC:List Nat) (listed:Array Bool),vg ops base bC listed->(∀m∈bC,m∈Region.ready .any ops base/\∃o,ops[m]? = some o/\makes P o=true)->bC.Nodup->(∀m∈bC,∀m'∈bC,m≠m'->∀o o',ops[m]? = some o->ops[m']? = some o'->o.dst≠o'.dst) ->
 ∀(RL:List (Nat×Option Nat)) (R:Option (List Nat)),(∀q∈RL,base.getD q.1 true=true/\∃o,ops[q.1]? = some o/\ez o.op=true)->oI R RL->∀a H,nS P call ops l R a H=some (af,Hf)->iG P call ops (λx y=>x=af/\y=Hf) RL none listed bC a H:=by
 intro n
 induction n with
 |
  zero =>
  intro L base l h hl _ bC listed uQ gP _ _ RL R hRL LB a H hd;unfold oZ at h;split at h
  .
   rename_i hf;cases h;simp only[nS,Option.some.injEq] at hd;cases hd
   have tL:∀i,i ∉ Region.ready .any ops base:=by
    intro i hi;obtain ⟨p,hm,_,hr⟩:=yN hp hl hi;have:=List.find?_eq_none.1 hf p hm;exact this hr
   have hpn:bC=[]:=List.eq_nil_iff_forall_not_mem.2 λm hm=>tL m (gP m hm).1
   subst hpn;refine iG.step (λ_=>⟨rfl,rfl,rfl⟩) λi hi=>absurd ?_ (tL i)
   obtain ⟨h0,o,ho,hall⟩:=mem_ready.1 hi;have hlt:=(Array.getElem?_eq_some_iff.1 ho).1;exact mem_ready.2 ⟨((uQ.yM hl.size hlt).1 h0).1,o,ho,λe he hb=>by simpa using (uQ.get _).1 (hall e he hb)⟩
  cases h
 |
  succ n ih =>
  intro L base l h hl ia bC listed uQ gP hnd AY RL R hRL LB a H hd
  have Xp:l7 ops listed:=by
   intro k o ho hk' e he hb;rcases (uQ.get k).1 hk' with h1|h1
   .
    exact (uQ.get _).2 (.inl (ia k o ho h1 e he hb))
   obtain ⟨_,o',ho',hall⟩:=mem_ready.1 (gP k h1).1;rw[ho] at ho';cases ho';exact (uQ.get _).2 (.inl (hall e he hb))
  unfold oZ at h;split at h
  .
   rename_i p hf;have hm:=List.mem_of_find?_eq_some hf;have Xn:=List.find?_some hf;simp only[Bool.and_eq_true] at Xn;have Np:=(iH hp hl hm).1 Xn.2;have hq:quiet P p.o.op=true:=by rw[<-(hp.each p hm).q];exact Xn.1
   have ho:=(hp.each p hm).o;have hlt:p.i<ops.size:=(Array.getElem?_eq_some_iff.1 ho).1
   have hnp:p.i ∉ bC:=λhpi=>by
    obtain ⟨_,o,ho',hmk⟩:=gP _ hpi;rw[ho] at ho';cases ho';rw[si hmk] at hq;cases hq
   rw[pick2_eq] at h;split at h
   .
    rename_i hfree;split at h
    .
     rename_i l' hl';cases h;simp only[nS] at hd;split at hd
     .
      rename_i a1 H1 hst;have hst':dg P call ops p.o a H=some (a1,H1):=by simpa[gY] using hst
      obtain ⟨rfl,v,rfl,hy⟩:=QY.S8 hq hst';have hfr:=yO hp hl hm hfree
      have Ta:p.i∈Region.ready .any ops listed:=by
       obtain ⟨h0,o,ho',hall⟩:=mem_ready.1 Np;exact mem_ready.2 ⟨(uQ.yM hl.size hlt).2 ⟨h0,hnp⟩,o,ho',λe he hb=>(uQ.get _).2 (.inl (hall e he hb))⟩
      have hno:∀m∈bC,∀o,ops[m]? = some o->∀e∈o.after,Region.binds .any e=true->e.on≠p.i:=by
       intro m hm' o ho' e he hb heq;obtain ⟨_,o2,De,hall⟩:=mem_ready.1 (gP m hm').1;rw[ho'] at De;cases De;have h1:=hall e he hb;rw[heq] at h1;have h0:=(mem_ready.1 Np).1;have:base.getD p.i true=base.getD p.i false:=by have:=hl.size;simp[Array.getD,this,hlt]
       rw[this,h1] at h0;cases h0
      have up:∀q∈RL,(base.setIfInBounds p.i true).getD q.1 true=true/\∃o,ops[q.1]? = some o/\ez o.op=true:=λq hq=>⟨by
       by_cases e:p.i=q.1
       .
        rw[<-e];by_cases hlt':p.i<base.size<;>simp[Array.getD,hlt']
       rw[getD_set_ne true e];exact (hRL q hq).1,(hRL q hq).2⟩
      have self:(base.setIfInBounds p.i true).getD p.i true=true:=by by_cases hlt':p.i<base.size<;>simp[Array.getD,hlt']
      have hpend':∀m∈bC,m∈Region.ready .any ops (base.setIfInBounds p.i true)/\∃o,ops[m]? = some o/\makes P o=true:=λm hm'=>⟨ready_mono (gP m hm').1 (λe=>hnp (by rw[<-e];exact hm')),(gP m hm').2⟩
      obtain ⟨RL',hsub',hrd,agp⟩:∃RL',(∀q∈RL,q∈RL')/\(ez p.o.op=false\/∃pr,(p.i,pr)∈RL'/\QM p.o a pr)/\iG P call ops (λx y=>x=af/\y=Hf) RL' none (listed.setIfInBounds p.i true) bC (a.put p.o.dst v) H1:=by
       cases hld:ez p.o.op with
       |false=>exact ⟨RL,λ_ h=>h,.inl rfl,ih _ _ _ hl' (hl.add hlt) (ia.add Np) bC (listed.setIfInBounds p.i true) (uQ.set hl.size hlt) hpend' hnd AY RL _ up (LB.next _ _) _ _ hd⟩
       |
        true =>
        obtain ⟨pr,e1,e2⟩:=HO LB a p.o p.i hld
        exact ⟨(p.i,pr)::RL,λq hq=>by simp[hq],.inr ⟨pr,by simp,e1⟩,ih _ _ _ hl' (hl.add hlt) (ia.add Np) bC (listed.setIfInBounds p.i true) (uQ.set hl.size hlt) hpend' hnd AY _ _ (λq hq=>by
         rcases List.mem_cons.1 hq with rfl|hq
         .
          exact ⟨self,p.o,ho,hld⟩
         exact up q hq) e2 _ _ hd⟩
      refine HL hk hsel ho hq hsub' agp listed a rfl rfl hrd ?_ hno hnp Xp Ta hy;rintro j oj sj hji (hj|hj) xC
      .
       exact hfr j oj sj hji ((uQ.yM hl.size (Array.getElem?_eq_some_iff.1 sj).1).1 hj).1 xC
      exact hfr j oj sj hji (mem_ready.1 (gP j hj).1).1 xC
     cases hd
    cases h
   cases h
  split at h
  .
   rename_i hf;cases h;simp only[nS,Option.some.injEq] at hd;cases hd
   have tL:∀i,i ∉ Region.ready .any ops base:=by
    intro i hi;obtain ⟨p,hm,_,hr⟩:=yN hp hl hi;have:p∈pos.filter (nA L):=List.mem_filter.2 ⟨hm,hr⟩;rw[hf] at this;cases this
   have hpn:bC=[]:=List.eq_nil_iff_forall_not_mem.2 λm hm=>tL m (gP m hm).1
   subst hpn;refine iG.step (λ_=>⟨rfl,rfl,rfl⟩) λi hi=>absurd ?_ (tL i)
   obtain ⟨h0,o,ho,hall⟩:=mem_ready.1 hi;have hlt:=(Array.getElem?_eq_some_iff.1 ho).1;exact mem_ready.2 ⟨((uQ.yM hl.size hlt).1 h0).1,o,ho,λe he hb=>by simpa using (uQ.get _).1 (hall e he hb)⟩
  rename_i q0 r0 hf;split at h
  case h_2=>cases h
  rename_i p ms hch;obtain ⟨c1,c2,c3⟩:=oH hch;rw[<-hf] at c1 c2 c3;obtain ⟨hm,hr⟩:=List.mem_filter.1 c1;have Np:=(iH hp hl hm).1 hr;have ho:=(hp.each p hm).o;have hlt:p.i<ops.size:=(Array.getElem?_eq_some_iff.1 ho).1;rw[pick2_eq] at h;split at h
  case isFalse=>cases h
  rename_i Xo;split at h
  case h_2=>cases h
  rename_i l' hl';cases h;simp only[nS] at hd;split at hd
  case h_2=>cases hd
  rename_i a1 H1 hst
  -- what may wait
  have wait:∀m∈ms,m.o.apart ops p.o=true/\(∀r∈pos,bit r.pre m.i=true->Reach ops r.i p.i)/\∀m'∈ms,m.i≠m'.i->m.o.apart ops m'.o=true:=by
   intro m hmm;have hmp:=(List.mem_filter.1 (c3 m hmm).1).1;have h1:=List.all_eq_true.1 Xo m hmm;simp only[Bool.and_eq_true,List.all_eq_true,Bool.or_eq_true,Bool.not_eq_true'] at h1;refine ⟨mP (hp.each m hmp) (hp.each p hm) h1.1.1,λr SA hb=>?_,λm' hm' hne=>?_⟩
   .
    rcases h1.1.2 r SA with h2|h2
    .
     rw[hb] at h2;cases h2
    exact (hp.each r SA).Sw _ h2
   rcases h1.2 m' hm' with h2|h2
   .
    rw[Nat.beq_eq] at h2;exact absurd h2 hne
   exact mP (hp.each m hmp) (hp.each m' (List.mem_filter.1 (c3 m' hm').1).1) h2
  -- those that are ready are p,and those that may wait
  have cls:∀j∈Region.ready .any ops base,j=p.i\/∃m∈ms,m.i=j/\ops[j]? = some m.o/\makes P m.o=true:=by
   intro j hj;obtain ⟨r,SA,rfl,VM⟩:=yN hp hl hj;rcases c2 r (List.mem_filter.2 ⟨SA,VM⟩) with rfl|Sx
   .
    exact .inl rfl
   exact .inr ⟨r,Sx,rfl,(hp.each r SA).o,by rw[<-(hp.each r SA).Ny];exact (c3 r Sx).2⟩
  have up:∀q∈RL,(base.setIfInBounds p.i true).getD q.1 true=true/\∃o,ops[q.1]? = some o/\ez o.op=true:=λq hq=>⟨by
   by_cases e:p.i=q.1
   .
    rw[<-e];by_cases hlt':p.i<base.size<;>simp[Array.getD,hlt']
   rw[getD_set_ne true e];exact (hRL q hq).1,(hRL q hq).2⟩
  by_cases HN:p.i∈bC
  .
   -- it is done already: the row is paid
   obtain ⟨l1,l2,rfl⟩:=List.append_of_mem HN;obtain ⟨_,o,ho',hmk⟩:=gP p.i HN;rw[ho] at ho';cases ho'
   have hnd':p.i ∉ l1++l2/\(l1++l2).Nodup:=by
    have:=(List.perm_middle (a:=p.i) (l₁:=l1) (l₂:=l2)).nodup_iff.1 hnd;exact List.nodup_cons.1 this
   have hsub:∀{x},x∈l1++l2->x∈l1++p.i::l2:=λhx=>by
    rcases List.mem_append.1 hx with h1|h1
    .
     exact List.mem_append_left _ h1
    exact List.mem_append_right _ (List.mem_cons_of_mem _ h1)
   have hpl:∀m∈l1++l2,∀om,ops[m]? = some om->∀x,p.o.dst=some x->x ∉ om.looksAt ops:=by
    intro m hm' om HJ;rcases cls m (gP m (hsub hm')).1 with h2|⟨q,VU,h2,h3,_⟩
    .
     exact absurd (by rw[<-h2];exact hm') hnd'.1
    rw[HJ] at h3;cases h3;exact (Oper.apart_spec (wait q VU).1).2.2
   exact iG.pay ho hmk hst hpl (ih _ _ _ hl' (hl.add hlt) (ia.add Np) (l1++l2) listed (uQ.pay hl.size hlt)
    (λm hm'=>⟨ready_mono (gP m (hsub hm')).1 (λe=>hnd'.1 (by rw[<-e];exact hm')),(gP m (hsub hm')).2⟩) hnd'.2 (λm VV m' hm2=>AY m (hsub VV) m' (hsub hm2)) RL _ up (LB.next _ _) _ _ hd)
  -- by how many may still be done ahead
  have key:∀(k:Nat) (bC:List Nat) (listed:Array Bool),cnt ops listed<=k->vg ops base bC listed->(∀m∈bC,m∈Region.ready .any ops base/\∃o,ops[m]? = some o/\makes P o=true)->bC.Nodup->(∀m∈bC,∀m'∈bC,m≠m'->∀o o',ops[m]? = some o->ops[m']? = some o'->o.dst≠o'.dst)->p.i ∉ bC ->
   iG P call ops (λx y=>x=af/\y=Hf) RL none listed bC a H:=by
   intro k
   induction k with
   |
    zero =>
    intro bC listed hk' uQ _ _ _ HN;exfalso;obtain ⟨h0,_⟩:=mem_ready.1 Np;have:=JY (ops:=ops) hlt ((uQ.yM hl.size hlt).2 ⟨h0,HN⟩);omega
   |
    succ k ihk =>
    intro bC listed hk' uQ gP hnd AY HN
    have Xp:l7 ops listed:=by
     intro k o ho hk' e he hb;rcases (uQ.get k).1 hk' with h1|h1
     .
      exact (uQ.get _).2 (.inl (ia k o ho h1 e he hb))
     obtain ⟨_,o',ho',hall⟩:=mem_ready.1 (gP k h1).1;rw[ho] at ho';cases ho';exact (uQ.get _).2 (.inl (hall e he hb))
    have agq:listed.getD p.i false=true->False:=λhh=>by
     rcases (uQ.get _).1 hh with h1|h1
     .
      have h0:=(mem_ready.1 Np).1;have:base.getD p.i true=base.getD p.i false:=by have:=hl.size;simp[Array.getD,this,hlt]
      rw[this,h1] at h0;cases h0
     exact HN h1
    have Ta:p.i∈Region.ready .any ops listed:=by
     obtain ⟨h0,o,ho',hall⟩:=mem_ready.1 Np;exact mem_ready.2 ⟨(uQ.yM hl.size hlt).2 ⟨h0,HN⟩,o,ho',λe he hb=>(uQ.get _).2 (.inl (hall e he hb))⟩
    have back:∀j∈Region.ready .any ops listed,j∈Region.ready .any ops base/\j ∉ bC:=by
     intro j hj;obtain ⟨h0,o,sj,hall⟩:=mem_ready.1 hj;have Tb:=(Array.getElem?_eq_some_iff.1 sj).1;obtain ⟨b0,b1⟩:=(uQ.yM hl.size Tb).1 h0;refine ⟨mem_ready.2 ⟨b0,o,sj,λe he hb=>?_⟩,b1⟩
     rcases (uQ.get _).1 (hall e he hb) with h1|h1
     .
      exact h1
     exfalso;rcases cls _ (gP _ h1).1 with h2|⟨m,hmm,h2,_⟩
     .
      exact HN (by rw[<-h2];exact h1)
     obtain ⟨r,SA,S9⟩:=hp.all j Tb;have hro:=(hp.each r SA).o;rw[S9,sj] at hro;have Ly:o=r.o:=by cases hro;rfl
     have Ob:Reach ops r.i p.i:=(wait m hmm).2.1 r SA (by
      rw[(hp.each r SA).pre];exact (iT r.o m.i).2 ⟨e,by rw[<-Ly];exact he,hb,h2.symm⟩)
     rw[S9] at Ob;exact agq (Fa Xp sj hall Ob)
    refine iG.step (λh0=>(by rw[h0] at Ta;cases Ta)) λj hj=>?_
    obtain ⟨hjb,hjp⟩:=back j hj;by_cases hji:j=p.i
    .
     subst hji;refine iG.sync ho hst (λq hq=>?_) (λm hm' om HJ=>?_) (ih _ _ _ hl' (hl.add hlt) (ia.add Np) bC _ (uQ.set hl.size hlt) (λm hm'=>⟨ready_mono (gP m hm').1 (λe=>HN (by rw[<-e];exact hm')),(gP m hm').2⟩) hnd AY RL _ up (LB.next _ _) _ _ hd)
     .
      cases hlk:(!Ht pos L p) with
      |true=>rw[hlk] at hst;exact .inr (HP hk LB hst rfl q hq)
      |
       false =>
       obtain ⟨e1,o2,e2,e3⟩:=hRL q hq;exact .inl (E8 hp hl hm (by simpa using hlk) q.1 o2 e2 e3 e1)
     rcases cls m (gP m hm').1 with h2|⟨q,VU,h2,h3,_⟩
     .
      exact absurd (by rw[<-h2];exact hm') HN
     rw[HJ] at h3;cases h3;obtain ⟨p1,p2,p3⟩:=Oper.apart_spec (wait q VU).1;exact ⟨λx hx=>⟨p1 x hx,p2 x hx⟩,p3⟩
    rcases cls j hjb with h2|⟨q,VU,h2,h3,h4⟩
    .
     exact absurd h2 hji
    have Tb:=(Array.getElem?_eq_some_iff.1 h3).1;have VS:∀m∈bC,m≠j:=λm hm' e=>hjp (by rw[<-e];exact hm')
    have Xq:∀m∈bC,∀om,ops[m]? = some om->om.dst≠q.o.dst/\∀x,om.dst=some x->x ∉ q.o.looksAt ops:=by
     intro m hm' om HJ;rcases cls m (gP m hm').1 with h5|⟨q',hqm',h5,h6,_⟩
     .
      exact absurd (by rw[<-h5];exact hm') HN
     rw[HJ] at h6;cases h6;obtain ⟨p1,p2,_⟩:=Oper.apart_spec ((wait q' hqm').2.2 q VU (by rw[h5,h2];exact VS m hm'))
     obtain ⟨_,⟨d,hdq⟩,_⟩:=lZ h4;exact ⟨λe=>p2 d (by rw[e,hdq]) hdq,p1⟩
    have pU:(kU P a.eval q.o).isSome=true:=by
     obtain ⟨u,rfl⟩:=eW hst;have hqp:=(List.mem_filter.1 (c3 q VU).1).1;rw[<-pV (ops:=ops) a u (Oper.apart_spec (wait q VU).1).2.2];exact Lz hk hsel hp n _ _ _ hl' (hl.add hlt) q hqp (c3 q VU).2 ((iH hp (hl.add hlt) hqp).2 (by rw[h2];exact ready_mono hjb hji)) _ _ _ hd
    refine iG.VP h3 h4 pU Xq (ihk (j::bC) _ (by have:=(u9 hj).2.2;omega) (uQ.VP Tb) (λm hm'=>?_) (List.nodup_cons.2 ⟨hjp,hnd⟩) (λm VV m' hm2 hne o o' e1 e2=>?_) (λhpm=>?_))
    .
     rcases List.mem_cons.1 hm' with rfl|hm'
     .
      exact ⟨hjb,q.o,h3,h4⟩
     exact gP m hm'
    .
     rcases List.mem_cons.1 VV with g1|g1
     .
      rw[g1,h3] at e1;cases e1;rcases List.mem_cons.1 hm2 with g2|g2
      .
       exact absurd (g1.trans g2.symm) hne
      exact Ne.symm (Xq m' g2 o' e2).1
     rcases List.mem_cons.1 hm2 with g2|g2
     .
      rw[g2,h3] at e2;cases e2;exact (Xq m g1 o e1).1
     exact AY m g1 m' g2 hne o o' e1 e2
    rcases List.mem_cons.1 hpm with e|hpm
    .
     exact hji e.symm
    exact HN hpm
  exact key _ bC listed (Nat.le_refl _) uQ gP hnd AY HN
theorem yP (o:Oper) (lk:Bool) (l:List (Oper×Bool)) (R:Option (List Nat)) (f:Fr) (H:Mem):rJ P call ops.toList ((o,lk)::l) R f H=match kf P call ops.toList R lk o f H with|some (f',H')=>rJ P call ops.toList l (jE f.eval o R) f' H'|none=>none:=by
 show Option.rec (motive:=λ_=>Option (Fr×Mem)) none (λr=>rJ P call ops.toList l (jE f.eval o R) r.1 r.2) (kf P call ops.toList R lk o f H)=_
 cases kf P call ops.toList R lk o f H with
 |none=>rfl
 |some r=>rfl
theorem BA:∀(l:List (Oper×Bool)) {R:Option (List Nat)} {f f':Fr} {a:Act} {H H':Mem},xO f a->rJ P call ops.toList l R f H=some (f',H')->∃a',nS P call ops l R a H=some (a',H')/\xO f' a'
 |
  [],R,f,f',a,H,H',hr,h=>by
  have h':some (f,H)=some (f',H'):=h;cases h';exact ⟨a,rfl,hr⟩
 |
  (o,lk)::l,R,f,f',a,H,H',hr,h=>by
  rw[yP] at h;split at h
  .
   rename_i f1 H1 h1;obtain ⟨a1,h2,h3⟩:=Lu hr h1;rw[hr.eval] at h;obtain ⟨a',h4,h5⟩:=BA l h3 h;exact ⟨a',by simp only[nS,h2];exact h4,h5⟩
  cases h
theorem Oc {o:Oper} {s:Operand} (hb:fH o.op=some s) {l:List Oper} {f f':Fr} {H H':Mem} (h:dB P call l o f { H with lk:=H.size }=some (f',H')) :
 dB P call l o f H=some (f',H)/\H'={ H with lk:=H.size }:=by
 unfold dB at h ⊢
 rw[pick2_eq] at h ⊢
 split at h
 .
  rename_i hw;rw[if_pos hw];unfold fH at hb;split at hb
  .
   rename_i t s' x hop;have e:∀M,opA P call f.eval o M=jY P t (f.eval s') (f.eval x) M:=λM=>by unfold opA;rw[hop]
   rw[e] at h ⊢
   have key:∀{H2:Mem},lR P { H with lk:=H.size } t (f.eval s') (f.eval x)=some H2->lR P H t (f.eval s') (f.eval x)=some H/\H2={ H with lk:=H.size }:=by
    intro H2 hst;unfold lR at hst ⊢;split at hst
    .
     split at hst
     .
      rename_i hsz;simp only[if_pos hsz];unfold cD at hst ⊢;split at hst
      .
       rename_i hem;cases hst;exact ⟨if_pos hem,rfl⟩
      split at hst
      .
       split at hst
       .
        obtain ⟨q1,q2,q3,q4,q5⟩:=Mem.eC hst;exfalso;simp only at q1 q2;omega
       cases hst
      cases hst
     cases hst
    cases hst
   unfold jY at h ⊢;cases hst:lR P { H with lk:=H.size } t (f.eval s') (f.eval x) with
   |none=>rw[hst] at h;cases h
   |
    some H2 =>
    obtain ⟨k1,rfl⟩:=key hst;rw[hst] at h;rw[k1];unfold nM at h ⊢;simp only at h ⊢;split at h
    .
     rename_i f1 h1;cases h;exact ⟨by simp only[h1],rfl⟩
    cases h
  cases hb
 rename_i hw
 rw[if_neg hw]
 unfold nM at h ⊢
 simp only at h ⊢
 split at h
 .
  rename_i f1 h1;cases h;exact ⟨by simp only[h1],rfl⟩
 cases h
theorem BB (o:Oper) (l:List Oper) (f:Fr) (H:Mem):Ez P call ops.toList (o::l) f H=match nN P call ops.toList o f H with|some (f',H')=>Ez P call ops.toList l f' H'|none=>none:=by
 show Option.rec (motive:=λ_=>Option (Fr×Mem)) none (λr=>Ez P call ops.toList l r.1 r.2) (nN P call ops.toList o f H)=_
 cases nN P call ops.toList o f H with
 |none=>rfl
 |some r=>rfl
end
end Go.Ev

namespace Go.Ev
open Go.RowKit
def holds (c:Cx) (ρ:Ren) (H:Mem) (r:Nat):Prop:=r<c.B\/c.K r≠none\/∃i b x,H.get i=some b/\(b.live=true\/cO b=true)/\ρ i=some (r,x)
structure HQ (O:Nat->Prop) (W W':World):Prop where
 os:W'.os=W.os
 tape:W'.tape=W.tape
 output:W'.output=W.output
 size:W.heap.size<=W'.heap.size
 same:∀r,O r->W'.heap[r]? = W.heap[r]?
theorem bg.beside {c:Cx} {ρ:Ren} {H:Mem} {w w':World} (h:bg c ρ H w) (hb:HQ (holds c ρ H) w w'):bg c ρ H w':=by
 refine ⟨⟨⟨hb.os.trans h.below.os,hb.tape.trans h.below.tape,hb.output.trans h.below.output,Nat.le_trans h.below.size hb.size,λk hk=>(hb.same k (.inl hk)).trans (h.below.block k hk)⟩,λr o hr=>?_⟩,
  Nat.le_trans h.base hb.size,h.dom,h.lk,h.tw,h.dz,λi b hi hl=>?_,h.inj,λi b hi hm=>?_,h.pg⟩
 .
  rw[hb.same r (.inr (.inl (by rw[hr];simp)))];exact h.stay.kept r o hr
 .
  obtain ⟨r,x,C,fr,s,h1,h2,h3,h4⟩:=h.blk i b hi hl;exact ⟨r,x,C,fr,s,h1,h2,by rw[hb.same r (.inr (.inr ⟨i,b,x,hi,.inl hl,h1⟩))];exact h3,h4⟩
 obtain ⟨r,es,clock,h1,h2,h3,h4⟩:=h.maps i b hi hm
 exact ⟨r,es,clock,h1,h2,by rw[hb.same r (.inr (.inr ⟨i,b,0,hi,.inr hm,h1⟩))];exact h3,h4⟩
theorem bg.Fb {c:Cx} {ρ:Ren} {H:Mem} {w:World} (h:bg c ρ H w) {r:Nat} (hr:holds c ρ H r):r<w.heap.size:=by
 have lt:∀{k:Nat} {o:Obj},w.heap[k]? = some o->k<w.heap.size:=λh=>(Array.getElem?_eq_some_iff.1 h).1
 rcases hr with hr|hr|⟨i,b,x,hi,hl,hρ⟩
 .
  exact Nat.lt_of_lt_of_le hr h.base
 .
  cases hk:c.K r with
  |none=>exact absurd hk hr
  |some o=>exact lt (h.stay.kept r o hk)
 rcases hl with hl|hm
 .
  obtain ⟨r',x',C,fr,s,h1,_,h3,_⟩:=h.blk i b hi hl;rw[hρ] at h1;cases h1;exact lt h3
 obtain ⟨r',es,clock,h1,_,h3,_⟩:=h.maps i b hi hm
 rw[hρ] at h1;cases h1;exact lt h3
theorem bg.Dg {c:Cx} {ρ:Ren} {H:Mem} {w:World} (h:bg c ρ H w) {i:Nat} {b:Blk} {r x:Nat} (hi:H.get i=some b) (hl:b.live=true\/cO b=true) (hρ:ρ i=some (r,x)):c.K r=none:=by
 rcases hl with hl|hm
 .
  obtain ⟨r',x',C,fr,s,h1,h2,_⟩:=h.blk i b hi hl;rw[hρ] at h1;cases h1;rcases h2 with h2|h2<;>exact h2.2
 obtain ⟨r',es,clock,h1,h2,_⟩:=h.maps i b hi hm
 rw[hρ] at h1;cases h1;exact h2.2
open Classical in
noncomputable def tN (c:Cx) (ρ:Ren) (H:Mem) (W:World) (r:Nat):Option Obj :=
 if c.K r≠none then c.K r else if holds c ρ H r then none else W.heap[r]?
theorem bg.hold {c:Cx} {ρ:Ren} {H:Mem} {w:World} (h:bg c ρ H w):bg (c.kp (tN c ρ H w)) ρ H w:=by
 have no:∀{i:Nat} {b:Blk} {r x:Nat},H.get i=some b->(b.live=true\/cO b=true)->ρ i=some (r,x)->tN c ρ H w r=none:=λ{i b r x} hi hl hρ=>by
  unfold tN;rw[if_neg (by rw[h.Dg hi hl hρ];simp),if_pos (.inr (.inr ⟨i,b,x,hi,hl,hρ⟩))]
 refine ⟨⟨h.below,λr o hr=>?_⟩,h.base,h.dom,h.lk,h.tw,h.dz,λi b hi hl=>?_,h.inj,λi b hi hm=>?_,h.pg⟩
 .
  have hr:tN c ρ H w r=some o:=hr;unfold tN at hr;split at hr
  .
   exact h.stay.kept r o hr
  split at hr
  .
   cases hr
  exact hr
 .
  obtain ⟨r,x,C,fr,s,h1,h2,h3⟩:=h.blk i b hi hl;have hn:(c.kp (tN c ρ H w)).K r=none:=no hi (.inl hl) h1;exact ⟨r,x,C,fr,s,h1,h2.imp (λg=>⟨g.1,hn⟩) (λg=>⟨g.1,hn⟩),h3⟩
 obtain ⟨r,es,clock,h1,h2,h3⟩:=h.maps i b hi hm
 exact ⟨r,es,clock,h1,⟨h2.1,no hi (.inr hm) h1⟩,h3⟩
def kr (K:Nat->Option Obj) (m:Nat) (o:Obj):Nat->Option Obj:=λr=>if r=m then some o else K r
def Fc (K:Nat->Option Obj) (m:Nat):Nat->Option Obj:=λr=>if r=m then none else K r
theorem bg.Dh {c:Cx} {ρ:Ren} {H:Mem} {w:World} {K:Nat->Option Obj} (h:bg (c.kp K) ρ H w) {m:Nat} {o:Obj} (hK:K m=some o) (hB:c.B<=m) (o':Obj):bg (c.kp (kr K m o')) ρ H (w.putObj m o'):=by
 have hm:w.heap[m]? = some o:=h.stay.kept m o hK
 have hlt:m<w.heap.size:=(Array.getElem?_eq_some_iff.1 hm).1
 have ne:∀{i:Nat} {b:Blk} {r x:Nat},H.get i=some b->(b.live=true\/cO b=true)->ρ i=some (r,x)->r≠m:=λ{i b r x} hi hl hρ e=>by
  subst e;have:=h.Dg hi hl hρ;have:K r=none:=this;rw[hK] at this;cases this
 have SB:∀r,r≠m->(w.putObj m o').heap[r]? = w.heap[r]? := λr hr=>World.putObj_heap_other hr
 have hK':∀{r:Nat},r≠m->kr K m o' r=K r:=λhr=>if_neg hr
 have hsz:(w.putObj m o').heap.size=w.heap.size:=by simp
 refine ⟨⟨⟨h.below.os,h.below.tape,h.below.output,by rw[hsz];exact h.below.size,λk hk=>(SB k (by have:k<c.B:=hk;omega)).trans (h.below.block k hk)⟩,λr o1 hr=>?_⟩,by rw[hsz];exact h.base,h.dom,h.lk,h.tw,h.dz,λi b hi hl=>?_,h.inj,λi b hi hb=>?_,h.pg⟩
 .
  have hr:kr K m o' r=some o1:=hr;by_cases e:r=m
  .
   subst e;unfold kr at hr;rw[if_pos rfl] at hr;cases hr;exact World.putObj_heap_same hlt
  rw[hK' e] at hr;rw[SB r e];exact h.stay.kept r o1 hr
 .
  obtain ⟨r,x,C,fr,s,h1,h2,h3,h4⟩:=h.blk i b hi hl;have e:=ne hi (.inl hl) h1;have e2:(c.kp (kr K m o')).K r=(c.kp K).K r:=hK' e;exact ⟨r,x,C,fr,s,h1,h2.imp (λg=>⟨g.1,e2.trans g.2⟩) (λg=>⟨g.1,e2.trans g.2⟩),(SB r e).trans h3,h4⟩
 obtain ⟨r,es,clock,h1,h2,h3,h4⟩:=h.maps i b hi hb
 have e:=ne hi (.inr hb) h1
 have e2:(c.kp (kr K m o')).K r=(c.kp K).K r:=hK' e
 exact ⟨r,es,clock,h1,⟨h2.1,e2.trans h2.2⟩,(SB r e).trans h3,h4⟩
theorem bg.Xr {c:Cx} {ρ:Ren} {H:Mem} {w:World} (h:bg c ρ H w):bg { c with w0:=w } ρ H w :=
 ⟨⟨Below.refl _ _,h.stay.kept⟩,h.base,h.dom,h.lk,h.tw,h.dz,h.blk,h.inj,h.maps,h.pg⟩
theorem bg.Xs {c:Cx} {ρ:Ren} {H:Mem} {w W:World} (h:bg { c with w0:=W } ρ H w) (hb:Below c.B c.w0 W):bg c ρ H w :=
 ⟨⟨hb.trans h.below,h.stay.kept⟩,h.base,h.dom,h.lk,h.tw,h.dz,h.blk,h.inj,h.maps,h.pg⟩
def mark (m:Nat):Deferred:={ target:=.collected m,args := #[] }
def Marks (B:Nat) (K0:Nat->Option Obj):(Nat->Option Obj)->List Deferred->Prop
 |K,[]=>∀r o,K0 r=some o->K r=some o
 |K,d::D=>∃m,d=mark m/\B<=m/\K m=some (.deferred (some []))/\Marks B K0 (Fc K m) D
theorem Marks.mono {B:Nat} {K0:Nat->Option Obj}:∀{D:List Deferred} {K K':Nat->Option Obj},(∀r o,K r=some o->K' r=some o)->Marks B K0 K D->Marks B K0 K' D
 |[],K,K',h,hm=>λr o hr=>h r o (hm r o hr)
 |d::D,K,K',h,⟨m,h1,h2,h3,h4⟩=>⟨m,h1,h2,h _ _ h3,h4.mono λr o hr=>by
  unfold Fc at hr ⊢;split at hr
  .
   cases hr
  rename_i hne;rw[if_neg hne];exact h r o hr⟩
theorem Marks.push {B:Nat} {K0 K:Nat->Option Obj} {D:List Deferred} (h:Marks B K0 K D) {m:Nat} (hB:B<=m) (hm:K m=none):Marks B K0 (kr K m (.deferred (some []))) (mark m::D) :=
 ⟨m,rfl,hB,if_pos rfl,h.mono λr o hr=>by
  have hne:r≠m:=λe=>by subst e;rw[hm] at hr;cases hr
  unfold Fc kr;rw[if_neg hne,if_neg hne];exact hr⟩
def J2 (P:Program) (fid:FuncId) (s:ByteArray) (items:List Value):Prop :=
 (∀args w,(callFunc fid args).run P w = .ok (.enter fid args) w)/\∀(n l rs:Nat) (W:World) (O:Nat->Prop) (J:Nat->(Nat->Prop)->World->Prop) (Jx:(Nat->Prop)->World->Prop),9<=n ->
  W.cell? ⟨rs,0,none⟩=some (.string s)->W.frozen? ⟨rs,0,none⟩=false->¬O rs ->
  (∀i O W W',J i O W->HQ O W W'->J i O W')->(∀O W W',Jx O W->HQ O W W'->Jx O W')->(∀i O W,J i O W->∀r,O r->r<W.heap.size)->(∀O W,Jx O W->∀r,O r->r<W.heap.size) ->
  (∀i O W x,J i O W->items[i]? = some x->YieldAt Fence.wide n P l #[x] W λe W'=>∃O',W.heap.size<=W'.heap.size/\(∀r,O' r->O r\/W.heap.size<=r)/\(∀r,r<W.heap.size->¬O r->W'.heap[r]? = W.heap[r]?) /\
   ((e = .returned (.bool true)/\J (i+1) O' W')\/(e = .returned (.bool false)/\Jx O' W'))) ->
  J 0 O W->CallsIn Fence.wide n P fid #[.func (.yield l) #[] #[],.pointer (some ⟨rs,0,none⟩)] W λe W'=>(∃v,e = .returned v)/\∃O',J items.length O' W'\/Jx O' W'
section
variable {P:Program} {ops:Array Oper} {l n:Nat}
theorem ab2 {Q:Exit->Act->World->Prop} (hQ:∀a w,¬Q .outgrown a w) {o:Oper} (hd:lX o=true) {K K':Act->World->Prop} (hK:∀a w,K a w->K' a w) {a:Act} {w:World}
 (h:o.wp P a w K Q\/(o.asks P a w/\LetsOut Q)):o.wpIn (Fence.wide.inRound l) n P a w K' Q:=by
 rcases h with h|⟨_,a',w',h⟩
 case inr=>exact absurd h (hQ _ _)
 have hnd:∀c,o.op ≠ .defer c:=λc e=>by unfold lX at hd;rw[e] at hd;cases hd
 refine ⟨λ_ _=>trivial,?_⟩
 have:(Fence.wide.inRound l).round=some l:=rfl
 rw[this,Oper.semAt_some l a.eval o hnd]
 unfold Oper.wp at h
 generalize (execOp a.eval o).run P w=r at h ⊢
 have dn:(Fence.wide.inRound l).depth.isSome=true->1<=n:=λe=>by simp[Fence.wide] at e
 cases r with
 |
  ok x w' =>
  cases x<;>simp only[Oper.upon,Oper.uponIn] at h ⊢ <;>
   first
    |exact hK _ _ h
    |exact h.elim
    |exact ⟨dn,callsIn_wide (n:=n-1) |>.2 (Calls.mono h (λe w'' he=>by cases e<;>first|exact hK _ _ he|exact he))⟩
    |exact ⟨dn,λc cs _=>let ⟨v,w2,hv,hs⟩:=h c cs;⟨v,w2,hK _ _ hv,stepsIn_wide.2 hs⟩⟩
 |halt x w'=>cases x<;>simp only[Oper.upon,Oper.uponIn] at h ⊢ <;> exact h
theorem Od {Q:Exit->Act->World->Prop} (hQ:∀a w,¬Q .outgrown a w):∀(L:List Oper),L.all lX=true->∀(a:Act) (w:World),wpList P ops Q L a w->wpListIn (Fence.wide.inRound l) n P ops Q L a w
 |[],_,a,w,h=>h
 |
  o::L,hd,a,w,h=>by
  rw[List.all_cons,Bool.and_eq_true] at hd;have ih:=Od hQ L hd.2;simp only[wpList] at h;simp only[wpListIn];split
  .
   rename_i hw;rw[if_pos hw] at h;exact ab2 hQ hd.1 ih h
  rename_i hw;rw[if_neg hw] at h;exact ⟨λ_ _=>trivial,ih _ _ h⟩
theorem J3 {Q:Exit->Act->World->Prop} (hQ:∀a w,¬Q .outgrown a w) (hd:ops.toList.all lX=true):∀(fuel:Nat) (listed:Array Bool) (a:Act) (w:World),wpAny P .any ops Q fuel listed a w->wpAnyIn (Fence.wide.inRound l) n P .any ops Q fuel listed a w
 |0,listed,a,w,h=>h
 |
  fuel+1,listed,a,w,h=>by
  refine ⟨h.1,λi hi=>?_⟩
  have hh:=h.2 i hi;unfold wpOp at hh;unfold wpOpIn;split
  .
   rename_i ho;simp only[ho] at hh;exact J3 hQ hd fuel _ _ _ hh
  rename_i o ho;simp only[ho] at hh;have hod:lX o=true:=List.all_eq_true.1 hd o (by have:=Array.mem_of_getElem? ho;simpa using this)
  split
  .
   rename_i hw;rw[if_pos hw] at hh;exact ab2 hQ hod (J3 hQ hd fuel _) hh
  rename_i hw;rw[if_neg hw] at hh;exact ⟨λ_ _=>trivial,J3 hQ hd fuel _ _ _ hh⟩
end
end Go.Ev

namespace Go.Ev
open Go.RowKit
section
variable {P:Program} {call:aN} {ops:Array Oper} {GR:List Blk}
def yQ (K0:Nat->Option Obj) (c:Cx) (ρ:Ren) (f:Fr) (ar:Act):Prop:=∃a,xO f a/\uP ρ a ar/\Marks c.B K0 c.K a.defers
theorem Di {f f1:Fr} {a a1:Act} {o:Oper} {H H1:Mem} (hr:xO f a) (h:dB P call ops.toList o f H=some (f1,H1)) (h2:dg P call ops o a H=some (a1,H1)):a1.defers=a.defers:=by
 obtain ⟨u,rfl⟩:=pW h2
 cases o.dst<;>rfl
theorem wH {o:Oper} {f f':Fr} {H H':Mem} {l:List Oper} (h:nN P call l o f H=some (f',H')) :
 dB P call l o f H=some (f',H')\/∃v,gB o l f=true/\AO P f.eval o=some v/\f.put o.dst v=some f'/\H'=H:=by
 unfold nN at h
 split at h
 .
  rename_i r hr;cases h;exact .inl hr
 rw[pick2_eq] at h
 split at h
 .
  rename_i hw;unfold nM at h;split at h
  .
   rename_i v H1 hv;obtain ⟨hv2,e2⟩:=av hv;split at h
   .
    rename_i f1 hf;cases h;exact .inr ⟨v,hw,hv2,hf,e2⟩
   cases h
  cases h
 cases h
theorem Oe (hno:cP P) {G:Nat} {o:Oper} {a ar:Act} {H:Mem} {v:Value} (hok:o.op.operands.toList.all (bt G)=true) (hw:Region.wanted o (yielded ops a.tmps)=true) (h:AO P a.eval o=some v) {c:Cx} (cU:c.P=P) (cA:c.At G GR) {w:World} {ρ:Ren} (hs:uP ρ a ar) (he:bg c ρ H w)
 {Q:Exit->Act->World->Prop} {K:Act->World->Prop} (hK:∀ ρ' ar' w',ρ.le ρ'->uP ρ' (a.put o.dst v) ar'->bg c ρ' H w'->K ar' w') :
 if Region.wanted o (yielded ops ar.tmps) then o.wp P ar w K Q\/(o.asks P ar w/\LetsOut Q) else K (ar.put o.dst undef) w:=by
 subst cU
 have hG0:=cA.g
 subst hG0
 have aA:VN ρ a.eval ar.eval o.op:=λx hx=>hs.eval he.dz (List.all_eq_true.1 hok x (by simpa using hx))
 rw[yG hs,if_pos hw]
 refine .inl ?_
 unfold Oper.wp
 obtain ⟨ρ',w',v',h1,h2,h3,h4⟩:=Xh he aA h
 rcases h4 with h4|⟨h4,rfl⟩
 .
  rw[h4];exact hK ρ' _ _ h1 ((hs.mono h1).put o.dst h3) h2
 rw[h4];exact hK ρ' _ _ h1 ((hs.mono h1).put o.dst h3) h2
theorem Dj (hno:cP P) {G:Nat} (hcall:jG P G GR call) {c:Cx} (cU:c.P=P) (cA:c.At G GR) {Q:Exit->Act->World->Prop}:∀(l:List Oper) {f f':Fr} {a ar:Act} {H H':Mem} {ρ:Ren} {w:World},(∀o∈l,o.op.operands.toList.all (bt G)=true)->Ez P call ops.toList l f H=some (f',H')->xO f a->uP ρ a ar->bg c ρ H w ->
 (∀ ρ' a' ar' w',ρ.le ρ'->xO f' a'->a'.defers=a.defers->uP ρ' a' ar'->bg c ρ' H' w'->Q .normal ar' w')->wpList P ops Q l ar w
 |
  [],f,f',a,ar,H,H',ρ,w,_,h,hr,hs,he,hK=>by
  have h':some (f,H)=some (f',H'):=h;cases h';exact hK ρ a ar w (Ren.le_refl _) hr rfl hs he
 |
  o::l,f,f',a,ar,H,H',ρ,w,hok,h,hr,hs,he,hK=>by
  rw[BB] at h;split at h
  .
   rename_i f1 H1 h1;rcases wH h1 with h1|⟨v,hw,hv,hf,rfl⟩
   .
    obtain ⟨a1,h2,h3⟩:=nR hr h1;have hd:=Di hr h1 h2;exact yH (Q:=Q) hno hcall (hok o (by simp)) h2 cU cA hs he fun ρ' ar' w' k1 k2 k3=>Dj hno hcall cU cA l (λx hx=>hok x (by simp[hx])) h h3 k2 k3 fun ρ'' a'' ar'' w'' m1 m0 md m2 m3=>hK ρ'' a'' ar'' w'' (Ren.le_trans k1 m1) m0 (md.trans hd) m2 m3
   have hd:(a.put o.dst v).defers=a.defers:=by cases o.dst<;>rfl
   rw[hr.wanted] at hw;rw[hr.eval] at hv;exact Oe (Q:=Q) hno (hok o (by simp)) hw hv cU cA hs he fun ρ' ar' w' k1 k2 k3=>Dj hno hcall cU cA l (λx hx=>hok x (by simp[hx])) h (hr.put hf) k2 k3 fun ρ'' a'' ar'' w'' m1 m0 md m2 m3=>hK ρ'' a'' ar'' w'' (Ren.le_trans k1 m1) m0 (md.trans hd) m2 m3
  cases h
theorem yR (hk:bJ call):∀(l:List Oper) {f f':Fr} {H H':Mem},Ez P call ops.toList l f H=some (f',H')->cn H H'
 |
  [],f,f',H,H',h=>by
  have h':some (f,H)=some (f',H'):=h;cases h';exact .refl _
 |
  o::l,f,f',H,H',h=>by
  rw[BB] at h;split at h
  .
   rename_i f1 H1 h1;refine cn.trans ?_ (yR hk l h);rcases wH h1 with h1|⟨_,_,_,_,rfl⟩
   case inr=>exact .refl _
   unfold dB at h1;rw[pick2_eq] at h1;split at h1
   .
    unfold nM at h1;split at h1
    .
     rename_i v H2 hop;split at h1
     .
      cases h1;exact u7 hk hop
     cases h1
    cases h1
   unfold nM at h1;simp only at h1;split at h1
   .
    cases h1;exact .refl _
   cases h1
  cases h
theorem Fe (hk:bJ call) {o:Oper} {R:Option (List Nat)} {lk:Bool} {f f':Fr} {H H':Mem} (h:kf P call ops.toList R lk o f H=some (f',H')):cn H H':=by
 have hst:∀{H H':Mem} {f':Fr},dB P call ops.toList o f H=some (f',H')->cn H H':=by
  intro H H' f' h1;unfold dB at h1;rw[pick2_eq] at h1;split at h1
  .
   unfold nM at h1;split at h1
   .
    rename_i v H2 hop;split at h1
    .
     cases h1;exact u7 hk hop
    cases h1
   cases h1
  unfold nM at h1;simp only at h1;split at h1
  .
   cases h1;exact .refl _
  cases h1
 unfold kf at h
 rw[pick2_eq] at h
 split at h
 .
  split at h
  .
   rw[pick2_eq] at h;split at h
   .
    exact hst h
   cases h
  rw[pick2_eq] at h;split at h
  .
   exact hst h
  split at h
  .
   rename_i f1 H1 h1;cases h;obtain ⟨q1,_,q3⟩:=hst h1;exact ⟨q1,rfl,λi _ hs=>q3 i hs hs⟩
  cases h
 exact hst h
theorem wJ (hk:bJ call):∀(l:List (Oper×Bool)) {R:Option (List Nat)} {f f':Fr} {H H':Mem},rJ P call ops.toList l R f H=some (f',H')->cn H H'
 |
  [],R,f,f',H,H',h=>by
  have h':some (f,H)=some (f',H'):=h;cases h';exact .refl _
 |
  (o,lk)::l,R,f,f',H,H',h=>by
  rw[yP] at h;split at h
  .
   rename_i f1 H1 h1;exact (Fe hk h1).trans (wJ hk l h)
  cases h
def Leave.exit':Leave->Exit
 |.normal=>.normal
 |.exit id=>.exit id
 |.ret=>.ret
 |.goto l=>.goto l
def pX (P:Program) (G:Nat) (GR:List Blk) (g:Fr->Mem->Out) (cd:Code):Prop :=
 ∀f H lv f' H',g f H=some (lv,f',H')->cn H H'/\∀(c:Cx) (K0:Nat->Option Obj),c.P=P->c.At G GR->∀ ρ ar w,yQ K0 c ρ f ar->bg c ρ H w->∀Q:Exit->Act->World->Prop,
  (∀K' ρ' ar' w',ρ.le ρ'->yQ K0 (c.kp K') ρ' f' ar'->bg (c.kp K') ρ' H' w'->Q lv.exit' ar' w')->cd.wp P Q ar w
theorem Cx.At.kp {c:Cx} {G:Nat} (h:c.At G GR) (K:Nat->Option Obj):(c.kp K).At G GR:=⟨h.g,h.rows,h.len⟩
theorem pY (h:Bi ops.toList=true):∀(j:Nat) (o:Oper) cs b,ops[j]? = some o->o.op ≠ .select cs b:=by
 intro j o cs b hj he
 have hm:o∈ops.toList:=by
  have:=Array.mem_of_getElem? hj;simpa using this
 have:=List.all_eq_true.1 h o hm
 simp[he] at this
theorem yS {r:Option (Fr×Mem)} {lv:Leave} {f:Fr} {H:Mem} (h:atEnd r=some (lv,f,H)):lv = .normal/\r=some (f,H):=by
 cases r with
 |none=>cases h
 |
  some q =>
  have h':some (Leave.normal,q.1,q.2)=some (lv,f,H):=h;cases h';exact ⟨rfl,rfl⟩
theorem tO:∀(l:List (Oper×Bool)) {R:Option (List Nat)} {a a':Act} {H H':Mem},nS P call ops l R a H=some (a',H')->a'.defers=a.defers
 |
  [],R,a,a',H,H',h=>by
  have h':some (a,H)=some (a',H'):=h;cases h';rfl
 |
  (o,lk)::l,R,a,a',H,H',h=>by
  simp only[nS] at h;split at h
  .
   rename_i a1 H1 h1;obtain ⟨u,rfl⟩:=eW h1;refine (tO l h).trans ?_;cases o.dst<;>rfl
  cases h
theorem wK (hno:cP P) {G:Nat} (hcall:jG P G GR call) (hk:bJ call) {draw:Bool} {f f':Fr} {H H':Mem} {lv:Leave} (h:jZ P G call ops draw f H=some (lv,f',H')) :
 lv = .normal/\cn H H'/\∀(c:Cx),c.P=P->c.At G GR->∀ ρ a ar w,xO f a->uP ρ a ar->bg c ρ H w->∀Q:Exit->Act->World->Prop,
  (∀ ρ' a' ar' w',ρ.le ρ'->xO f' a'->a'.defers=a.defers->uP ρ' a' ar'->bg c ρ' H' w'->Q .normal ar' w') ->
  (draw=true->wpAny P .any ops Q ops.size (Array.replicate ops.size false) ar w.drew)/\(draw=false->wpList P ops Q ops.toList ar w):=by
 unfold jZ at h
 rw[pick2_eq] at h
 split at h
 case isFalse=>cases h
 rename_i hok
 rw[pick2_eq] at h
 split at h
 .
  rename_i hd;subst hd;cases hpl:plan P ops with
  |none=>rw[hpl] at h;cases h
  |
   some l =>
   rw[hpl] at h;obtain ⟨rfl,hdr⟩:=yS (r:=rJ P call ops.toList l (some []) f H) h;unfold plan Hu at hpl;rw[pick2_eq] at hpl;split at hpl
   case isFalse=>cases hpl
   rename_i hns;refine ⟨rfl,wJ hk l hdr,λc cU cA ρ a ar w hr pq he Q hQ=>⟨λ_=>?_,(λh=>by cases h)⟩⟩
   obtain ⟨a',hds,hr'⟩:=BA l hr hdr;have hdf:=tO l hds
   have ia:l7 ops (Array.replicate ops.size false):=by
    intro k o _ hk';by_cases hlt:k<ops.size
    .
     simp[Array.getD,hlt] at hk'
    simp[Array.getD,hlt] at hk'
   have Xa:=LA hk (pY hns) VT _ _ _ _ hpl J1.zero ia [] (Array.replicate ops.size false) ⟨by simp,λj=>by simp⟩ (λm hm=>(by cases hm)) List.nodup_nil (λm hm=>(by cases hm)) [] (some []) (λq hq=>(by cases hq)) (λq hq=>(by cases hq)) a H hds
   refine S6 hno hok hcall hk (pY hns) (c:=c) cU cA Xa c.K [] ρ w.drew ar rfl ⟨λq hq=>(by cases hq),λr _=>rfl,List.nodup_nil,List.Pairwise.nil⟩ pq he.drew ?_ ops.size (JZ _)
   rintro a'' H'' ρ' ar' w' ⟨rfl,rfl⟩ h1 h2 h3;exact hQ ρ' _ ar' w' h1 hr' hdf h2 h3
 rename_i hd
 have hd':draw=false:=by simpa using hd
 subst hd'
 obtain ⟨rfl,hop⟩:=yS h
 exact ⟨rfl,yR hk _ hop,λc cU cA ρ a ar w hr hs he Q hQ=>⟨(λh=>by cases h),λ_=>Dj hno hcall cU cA ops.toList (λo ho=>List.all_eq_true.1 hok o ho) hop hr hs he hQ⟩⟩
theorem vh (hno:cP P) {G:Nat} (hcall:jG P G GR call) (hk:bJ call) (hm:P.follows .mixedOrders=true) (id:Nat) (draw:Bool):pX P G GR (jZ P G call ops draw) (.region id ops draw):=by
 intro f H lv f' H' h
 obtain ⟨rfl,k1,w1⟩:=wK hno hcall hk h
 refine ⟨k1,λc K0 cU cA ρ ar w hs he Q hQ=>?_⟩
 obtain ⟨a,hr,pq,hmk⟩:=hs
 have g:=w1 c cU cA ρ a ar w hr pq he Q fun ρ' a' ar' w' m1 m2 m3 m4 m5=>hQ c.K ρ' ar' w' m1 ⟨a',m2,m4,by rw[m3];exact hmk⟩ m5
 cases draw with
 |true=>exact wp_region_any hm (g.1 rfl)
 |false=>exact wp_region_list (g.2 rfl)
def Og (ρ:Ren) (f:Fr) (ar:Act):Prop:=∃a,xO f a/\uP ρ a ar/\a.defers=[]
def pZ (P:Program) (G:Nat) (GR:List Blk) (l:Nat) (g:Fr->Mem->Out) (cd:Code):Prop :=
 ∀f H lv f' H',g f H=some (lv,f',H')->∀(c:Cx),c.P=P->c.At G GR->∀n ρ ar w,Og ρ f ar->bg c ρ H w->∀Q:Exit->Act->World->Prop,
  (∀ ρ' ar' w',ρ.le ρ'->Og ρ' f' ar'->bg c ρ' H' w'->Q lv.exit' ar' w')->cd.wpIn (Fence.wide.inRound l) n P Q ar w
theorem Ff (hno:cP P) {G l:Nat} (hcall:jG P G GR call) (hk:bJ call) (hm:P.follows .mixedOrders=true) (id:Nat) (draw:Bool) (hp:ops.toList.all lX=true):pZ P G GR l (jZ P G call ops draw) (.region id ops draw):=by
 intro f H lv f' H' h c cU cA n ρ ar w hs he Q hQ
 obtain ⟨rfl,_,w1⟩:=wK hno hcall hk h
 obtain ⟨a,hr,pq,hmk⟩:=hs
 let Q':Exit->Act->World->Prop:=λe a w=>match e with
  |.normal=>Q .normal a w
  |_=>False
 have hQ':∀a w,¬Q' .outgrown a w:=λ_ _ h=>h
 have g:=w1 c cU cA ρ a ar w hr pq he Q' fun ρ' a' ar' w' m1 m2 m3 m4 m5=>hQ ρ' ar' w' m1 ⟨a',m2,m4,by rw[m3];exact hmk⟩ m5
 refine Go.wpIn_mono (Q:=Q') ?_ (λe a w h=>by cases e<;>first|exact h|exact h.elim)
 cases draw with
 |true=>exact wpIn_region_any hm (J3 hQ' hp _ _ _ _ (g.1 rfl))
 |false=>exact wpIn_region_list (Od hQ' _ hp _ _ (g.2 rfl))
theorem Dk {G l:Nat} {g k:Fr->Mem->Out} {x y:Code} (hx:pZ P G GR l g x) (hy:pZ P G GR l k y):pZ P G GR l (λf H=>andThen (g f H) k) (.seq x y):=by
 intro f H lv f' H' h0
 have h:andThen (g f H) k=some (lv,f',H'):=h0
 clear h0
 intro c cU cA n ρ ar w hs he Q hQ
 unfold andThen at h
 split at h
 .
  rename_i f1 H1 h1;exact wpIn_seq (hx _ _ _ _ _ h1 c cU cA n ρ ar w hs he _ fun ρ' ar' w' m1 m2 m3=>hy _ _ _ _ _ h c cU cA n ρ' ar' w' m2 m3 Q fun ρ'' ar'' w'' n1 n2 n3=>hQ ρ'' ar'' w'' (Ren.le_trans m1 n1) n2 n3)
 .
  rename_i id f1 H1 h1;cases h;exact wpIn_seq (hx _ _ _ _ _ h1 c cU cA n ρ ar w hs he _ fun ρ' ar' w' m1 m2 m3=>hQ ρ' ar' w' m1 m2 m3)
 .
  rename_i f1 H1 h1;cases h;exact wpIn_seq (hx _ _ _ _ _ h1 c cU cA n ρ ar w hs he _ fun ρ' ar' w' m1 m2 m3=>hQ ρ' ar' w' m1 m2 m3)
 .
  rename_i l f1 H1 h1;cases h;exact wpIn_seq (hx _ _ _ _ _ h1 c cU cA n ρ ar w hs he _ fun ρ' ar' w' m1 m2 m3=>hQ ρ' ar' w' m1 m2 m3)
 cases h
theorem BC {G l:Nat} {g:Fr->Mem->Out} {cd:Code} (hb:pZ P G GR l g cd):∀(m:Nat) f H lv f' H',wC g m f H=some (lv,f',H')->∀(c:Cx),c.P=P->c.At G GR->∀n ρ ar w,Og ρ f ar->bg c ρ H w->∀Q:Exit->Act->World->Prop,
 (∀ ρ' ar' w',ρ.le ρ'->Og ρ' f' ar'->bg c ρ' H' w'->Q lv.exit' ar' w')->Code.roundsIn (Fence.wide.inRound l) n P cd Q m ar w
 |0,f,H,lv,f',H',h=>by cases h
 |
  m+1,f,H,lv,f',H',h=>by
  intro c cU cA n ρ ar w hs he Q hQ;have h0:andThen (g f H) (wC g m)=some (lv,f',H'):=h;show cd.wpIn _ n P (Exit.then (Code.roundsIn _ n P cd Q m) Q) ar w;unfold andThen at h0;split at h0
  .
   rename_i f1 H1 h1;exact hb _ _ _ _ _ h1 c cU cA n ρ ar w hs he _ fun ρ' ar' w' m1 m2 m3=>BC hb m _ _ _ _ _ h0 c cU cA n ρ' ar' w' m2 m3 Q fun ρ'' ar'' w'' n1 n2 n3=>hQ ρ'' ar'' w'' (Ren.le_trans m1 n1) n2 n3
  .
   rename_i id f1 H1 h1;cases h0;exact hb _ _ _ _ _ h1 c cU cA n ρ ar w hs he _ fun ρ' ar' w' m1 m2 m3=>hQ ρ' ar' w' m1 m2 m3
  .
   rename_i f1 H1 h1;cases h0;exact hb _ _ _ _ _ h1 c cU cA n ρ ar w hs he _ fun ρ' ar' w' m1 m2 m3=>hQ ρ' ar' w' m1 m2 m3
  .
   rename_i l f1 H1 h1;cases h0;exact hb _ _ _ _ _ h1 c cU cA n ρ ar w hs he _ fun ρ' ar' w' m1 m2 m3=>hQ ρ' ar' w' m1 m2 m3
  cases h0
theorem BF (hno:cP P) {G l:Nat} (hcall:jG P G GR call) (hk:bJ call) (hm:P.follows .mixedOrders=true) (J:o4) (rounds:Nat) (cd:Code):rZ cd=true->pZ P G GR l (iq P G call J rounds cd) cd:=by
 induction cd with
 |
  skip =>
  intro _ f H lv f' H' h c _ _ n ρ ar w hs he Q hQ;have h':some (Leave.normal,f,H)=some (lv,f',H'):=h;cases h';exact wpIn_skip (hQ ρ ar w (Ren.le_refl _) hs he)
 |region id ops draw=>exact λhp=>Ff hno hcall hk hm id draw hp
 |
  seq x y Oh Oi =>
  intro hp;have hp:(rZ x&&rZ y)=true:=hp;rw[Bool.and_eq_true] at hp;exact Dk (Oh hp.1) (Oi hp.2)
 |
  cond cc x y Oh Oi =>
  intro hp;have hp:(rZ x&&rZ y)=true:=hp;rw[Bool.and_eq_true] at hp;intro f H lv f' H' h c cU cA n ρ ar w hs he Q hQ;have h0:pick2 (bt G cc) (Bj (f.eval cc) (iq P G call J rounds x) (iq P G call J rounds y) f H) none=some (lv,f',H'):=h;rw[pick2_eq] at h0;split at h0
  case isFalse=>cases h0
  rename_i hok;unfold Bj at h0;split at h0
  .
   rename_i b hb
   have val:ar.eval cc = .bool b:=by
    obtain ⟨a,hr,pq,_⟩:=hs;have hv:=pq.eval he.dz (x:=cc) (by rw[cA.g];exact hok)
    rw[<-hr.eval,hb] at hv;generalize ar.eval cc=q at hv;cases hv;rfl
   cases b with
   |true=>exact wpIn_cond_true val (Oh hp.1 _ _ _ _ _ h0 c cU cA n ρ ar w hs he Q hQ)
   |false=>exact wpIn_cond_false val (Oi hp.2 _ _ _ _ _ h0 c cU cA n ρ ar w hs he Q hQ)
  cases h0
 |
  block id b ih =>
  intro hp f H lv f' H' h c cU cA n ρ ar w hs he Q hQ;have h0:fW id (iq P G call J rounds b f H)=some (lv,f',H'):=h;unfold fW at h0;split at h0
  .
   rename_i id' f1 H1 h1;rw[pick2_eq] at h0;split at h0
   .
    rename_i hid;cases h0;refine wpIn_block (ih hp _ _ _ _ _ h1 c cU cA n ρ ar w hs he _ fun ρ' ar' w' m1 m2 m3=>?_)
    show (if id'=id then Q .normal ar' w' else Q (.exit id') ar' w');rw[if_pos (by rw[Nat.beq_eq] at hid;exact hid)];exact hQ ρ' ar' w' m1 m2 m3
   rename_i hid;cases h0;refine wpIn_block (ih hp _ _ _ _ _ h1 c cU cA n ρ ar w hs he _ fun ρ' ar' w' m1 m2 m3=>?_)
   show (if id'=id then Q .normal ar' w' else Q (.exit id') ar' w');rw[if_neg (by rw[Nat.beq_eq] at hid;exact hid)];exact hQ ρ' ar' w' m1 m2 m3
  .
   rename_i f1 H1 h1;cases h0;exact wpIn_block (ih hp _ _ _ _ _ h1 c cU cA n ρ ar w hs he _ fun ρ' ar' w' m1 m2 m3=>hQ ρ' ar' w' m1 m2 m3)
  .
   rename_i f1 H1 h1;cases h0;exact wpIn_block (ih hp _ _ _ _ _ h1 c cU cA n ρ ar w hs he _ fun ρ' ar' w' m1 m2 m3=>hQ ρ' ar' w' m1 m2 m3)
  .
   rename_i l f1 H1 h1;cases h0;exact wpIn_block (ih hp _ _ _ _ _ h1 c cU cA n ρ ar w hs he _ fun ρ' ar' w' m1 m2 m3=>hQ ρ' ar' w' m1 m2 m3)
  cases h0
 |
  loop b ih =>
  intro hp f H lv f' H' h c cU cA n ρ ar w hs he Q hQ;exact wpIn_loop_rounds rounds (BC (ih hp) rounds f H lv f' H' h c cU cA n ρ ar w hs he Q hQ)
 |
  exit id =>
  intro _ f H lv f' H' h c _ _ n ρ ar w hs he Q hQ;have h':some (Leave.exit id,f,H)=some (lv,f',H'):=h;cases h';exact wpIn_exit (hQ ρ ar w (Ren.le_refl _) hs he)
 |
  ret =>
  intro _ f H lv f' H' h c _ _ n ρ ar w hs he Q hQ;have h':some (Leave.ret,f,H)=some (lv,f',H'):=h;cases h';exact wpIn_ret (hQ ρ ar w (Ren.le_refl _) hs he)
 |rangeFunc=>intro hp;cases hp
 |scope b ih=>intro hp;cases hp
 |
  label l =>
  intro _ f H lv f' H' h c _ _ n ρ ar w hs he Q hQ;have h':some (Leave.normal,f,H)=some (lv,f',H'):=h;cases h';exact wpIn_label (hQ ρ ar w (Ren.le_refl _) hs he)
 |
  goto l =>
  intro _ f H lv f' H' h c _ _ n ρ ar w hs he Q hQ;have h':some (Leave.goto l,f,H)=some (lv,f',H'):=h;cases h';exact wpIn_goto (hQ ρ ar w (Ren.le_refl _) hs he)
 |refuse=>intro _ f H lv f' H' h;cases h
def tP (P:Program) (call:aN):Prop :=
 ∀fid i H v H1,P.funcs[uT fid]? = none->call (uT fid) [.pointer (some ⟨i,0,none⟩)] H=some (v,H1)->∃(s:ByteArray) (items:Array Value) (b:Blk),v = .tuple (fk::items.toList).toArray/\alive H i=some b/\b.cells=[.string s]/\kill H i=some H1/\addrFreeL items.toList=true/\J2 P fid s items.toList
theorem wL (p:Tmp) (x y:Fr->Mem->Out) (f:Fr) (H:Mem):qH p x y f [] H=some (.normal,f,H):=rfl
theorem tQ (p:Tmp) (x y:Fr->Mem->Out) (f:Fr) (v:Value) (l:List Value) (H:Mem):qH p x y f (v::l) H=match f.put (some p) v with
 |
  some f1=>match x f1 H with
  |
   some (.normal,f2,H2)=>match y f2 H2 with
   |some (.normal,_,H3)=>qH p x y f l H3
   |some (.ret,_,H3)=>some (.ret,f,H3)
   |_=>none
  |_=>none
 |none=>none:=rfl
theorem tR {p:Tmp} {x y:Fr->Mem->Out} {f:Fr} (hx:∀f H lv f' H',x f H=some (lv,f',H')->cn H H') (hy:∀f H lv f' H',y f H=some (lv,f',H')->cn H H'):∀(l:List Value) {H H':Mem} {lv:Leave} {f':Fr},qH p x y f l H=some (lv,f',H')->cn H H'/\f'=f/\(lv = .normal\/lv = .ret)
 |
  [],H,H',lv,f',h=>by
  rw[wL] at h;cases h;exact ⟨.refl _,rfl,.inl rfl⟩
 |
  v::l,H,H',lv,f',h=>by
  rw[tQ] at h;split at h
  case h_2=>cases h
  split at h
  case h_2=>cases h
  rename_i h2;split at h
  .
   rename_i h3;obtain ⟨k,e⟩:=tR hx hy l h;exact ⟨((hx _ _ _ _ _ h2).trans (hy _ _ _ _ _ h3)).trans k,e⟩
  .
   rename_i h3;cases h;exact ⟨(hx _ _ _ _ _ h2).trans (hy _ _ _ _ _ h3),rfl,.inr rfl⟩
  cases h
theorem Oj (hit:tP P call) {G:Nat} {x y:Fr->Mem->Out} {g:Operand} {ps:Array Tmp} {assign body:Code} {pl:Bool}
 (kx:∀f H lv f' H',x f H=some (lv,f',H')->cn H H') (ky:∀f H lv f' H',y f H=some (lv,f',H')->cn H H')
 (hx:pl=true->∀l,pZ P G GR l x assign) (hy:pl=true->∀l,pZ P G GR l y body):pX P G GR (Hv P G call g ps.toList pl x y) (.rangeFunc g ps assign body):=by
 intro f H lv f' H' h
 unfold Hv at h
 rw[pick2_eq] at h
 split at h
 case isFalse=>cases h
 rename_i hok
 rw[Bool.and_eq_true] at hok
 obtain ⟨hok,hpl⟩:=hok
 split at h
 case h_2=>cases h
 rename_i p fid ta caps hps hfg
 split at h
 case h_2=>cases h
 rename_i i hta ab3 hnone
 split at h
 case h_2=>cases h
 rename_i agu H1 ia
 split at h
 case h_2=>cases h
 rename_i u0 itl Xt
 obtain ⟨s,items,b,e1,Ok,hcells,bM,hfree,ab4⟩:=hit _ _ _ _ _ hnone ia
 cases e1
 have Xt:fk::items.toList=u0::itl:=by simpa using Xt
 cases Xt
 obtain ⟨hks,hff,hlv⟩:=tR kx ky _ h
 have hff:=hff.symm
 subst hff
 obtain ⟨q1,q2,q3,q4,q5⟩:=iQ bM
 have hkk:cn H H1:=by
  unfold kill at bM;split at bM
  .
   exact .set bM
  cases bM
 refine ⟨hkk.trans hks,λc K0 cU cA ρ ar w hs he Q hQ=>?_⟩
 subst cU
 obtain ⟨a,hr,pq,hmk⟩:=hs
 -- the function
 have hv:=pq.eval he.dz (x:=g) (by rw[cA.g];exact hok)
 rw[<-hr.eval,hfg] at hv
 obtain ⟨hgi,AE⟩:=alive_some Ok
 obtain ⟨rs,rx,C,fr,sz,b1,b2,b3,b4,b5,b6,b7,b8⟩:=he.blk i b hgi AE
 have hiL:¬i<c.L:=by have:=he.lk;omega
 have hown:c.own rs:=b2.resolve_left λh=>hiL h.1
 have agw:=b4.resolve_left hiL
 have hgv:ar.eval g = .func (.func fid) #[] #[.pointer (some ⟨rs,0,none⟩)]:=by
  generalize ar.eval g=q at hv;cases hv with
  |
   func _ _ a' _ b' sa ha sb hb =>
   have ea:a' = #[]:=by
    have:ta.size=0:=by rw[<-Array.length_toList,hta];rfl
    exact Array.size_eq_zero_iff.1 (by omega)
   have ec:caps = #[.pointer (some ⟨i,0,none⟩)]:=by rw[<-Array.toArray_toList (xs:=caps),ab3]
   subst ec;have hs1:b'.size=1:=by simpa using sb.symm
   obtain ⟨v',hb'⟩:∃v',b' = #[v']:=⟨b'[0],by
    apply Array.ext
    .
     simpa using hs1
    intro j h1 h2;have:j=0:=by simp at h2;omega
    subst this;rfl⟩
   subst hb';have:=hb 0 _ _ (by rfl) (by rfl)
   cases this with
   |
    ptr _ _ r' x' hr' =>
    rw[b1] at hr';cases hr';rw[ea]
 have hcell:C[0]? = some (.string s):=by
  obtain ⟨v',m1,m2⟩:=b7.2 0 (.string s) (by rw[hcells];rfl) rfl
  cases m2;exact m1
 have Hy:rs<w.heap.size:=(Array.getElem?_eq_some_iff.1 b3).1
 -- the record
 have lt:∀{W:World} {k:Nat} {o:Obj},W.heap[k]? = some o->k<W.heap.size:=λh=>(Array.getElem?_eq_some_iff.1 h).1
 have NY:bg c ρ H1 w:=he.kill bM
 refine wpIn_wide (n:=20) |>.1 (wpIn_rangeFunc ?_)
 intro fn hfn
 have hps':ps = #[p]:=by rw[<-Array.toArray_toList (xs:=ps),hps]
 subst hps'
 obtain ⟨rec,hrec⟩:∃rec:LoopState->Option Code->Loop,rec=λst pe=>{ state:=st,pending:=pe,fn,tmps:=ar.tmps,params := #[p],assign,body,defers:=w.heap.size }:=⟨_,rfl⟩
 obtain ⟨W1,SC⟩:∃W1,(w.alloc (.deferred (some []))).alloc (.loop (rec .ready none))=W1:=⟨_,rfl⟩
 obtain ⟨m,hm⟩:∃m,m=w.heap.size:=⟨_,rfl⟩
 have hBm:c.B<=m:=by rw[hm];exact he.base
 obtain ⟨KJ,hKJ⟩:∃KJ:Loop->Nat->Option Obj,KJ=λr=>kr (kr c.K m (.deferred (some []))) (m+1) (.loop r):=⟨_,rfl⟩
 have Fg:∀r k,KJ r k=if k=m+1 then some (.loop r) else if k=m then some (.deferred (some [])) else c.K k:=λr k=>by rw[hKJ];rfl
 have agx:bg (c.kp (KJ (rec .ready none))) ρ H1 W1:=by
  have e0:=(show bg (c.kp c.K) ρ H1 w from NY).HI (.deferred (some []));have e1:=e0.HI (.loop (rec .ready none));rw[SC] at e1;refine e1.qM λr o hr=>?_
  rw[Fg] at hr;rw[World.size_alloc,<-hm];exact hr
 have afq:W1.heap.size=m+2:=by rw[<-SC,World.size_alloc,World.size_alloc,hm]
 -- between two rounds
 let J:Nat->(Nat->Prop)->World->Prop:=λj O W=>∃Hj ρ',qH p x y f (items.toList.drop j) Hj=some (lv,f,H')/\cn H Hj/\ρ.le ρ'/\bg (c.kp (KJ (rec .ready none))) ρ' Hj W/\O=holds (c.kp (KJ (rec .ready none))) ρ' Hj
 let Jx:(Nat->Prop)->World->Prop:=λO W=>lv = .ret/\∃ ρ',ρ.le ρ'/\bg (c.kp (KJ (rec .done (some .ret)))) ρ' H' W/\O=holds (c.kp (KJ (rec .done (some .ret)))) ρ' H'
 have agy:¬holds (c.kp (KJ (rec .ready none))) ρ H1 rs:=by
  rintro (h|h|⟨j,bj,xj,hj,nP,hρj⟩)
  .
   have:=hown.1;have h:rs<c.B:=h;omega
  .
   apply h;show KJ (rec .ready none) rs=none;rw[Fg,if_neg (by omega),if_neg (by omega)]
   exact hown.2
  obtain ⟨g1,g2⟩:=q3 j bj hj nP;rcases nP with nP|nP
  .
   exact g2 (he.inj j i bj b rs xj rx g1 nP hgi AE hρj b1)
  obtain ⟨r',es,clock,m1,m2,m3,_⟩:=he.maps j bj g1 nP;rw[hρj] at m1;cases m1;rw[b3] at m3;cases m3
 have ajY:∀r:Loop,KJ r m=some (.deferred (some [])):=λr=>by rw[Fg,if_neg (by omega),if_pos rfl]
 have tS:∀r:Loop,KJ r (m+1)=some (.loop r):=λr=>by rw[Fg,if_pos rfl]
 have ajZ:∀(r:Loop) (k:Nat),k≠m->k≠m+1->KJ r k=c.K k:=λr k h1 h2=>by rw[Fg,if_neg h2,if_neg h1]
 have ab5:∀(r r':Loop) (k:Nat),k≠m+1->KJ r k=KJ r' k:=λr r' k h=>by rw[Fg,Fg,if_neg h,if_neg h]
 have agz:c.K m=none:=by
  cases hc:c.K m with
  |none=>rfl
  |some o=>have:=lt (he.stay.kept m o hc);omega
 have ab6:c.K (m+1)=none:=by
  cases hc:c.K (m+1) with
  |none=>rfl
  |some o=>have:=lt (he.stay.kept (m+1) o hc);omega
 -- one round
 have round:∀j O W v,J j O W->items.toList[j]? = some v->YieldAt Fence.wide 19 c.P (m+1) #[v] W λe W'=>∃O',W.heap.size<=W'.heap.size/\(∀r,O' r->O r\/W.heap.size<=r)/\(∀r,r<W.heap.size->¬O r->W'.heap[r]? = W.heap[r]?) /\
  ((e = .returned (.bool true)/\J (j+1) O' W')\/(e = .returned (.bool false)/\Jx O' W')):=by
  rintro j O W v ⟨Hj,ρ',hrun,hkj,hle,Tc,rfl⟩ hv;have hL:W.heap[m+1]? = some (.loop (rec .ready none)):=Tc.stay.kept (m+1) _ (tS _);have hyd:=run_yield (P:=c.P) (args := #[v]) hL (by rw[hrec];rfl)
  have ab7:items.toList.drop j=v::items.toList.drop (j+1):=by
   have hlt:=(List.getElem?_eq_some_iff.1 hv).1;rw[List.drop_eq_getElem_cons hlt]
   congr 1
   exact (List.getElem?_eq_some_iff.1 hv).2
  rw[ab7,tQ] at hrun;split at hrun
  case h_2=>cases hrun
  rename_i f1 hf1;split at hrun
  case h_2=>cases hrun
  rename_i f2 H2 hxr;have Xu:addrFree v=true:=iP hfree hv
  -- the frame of the round
  have ab8:Og ρ' f1 { tmps:=((rec .ready none).params.zip #[v]).foldl (λt (t',a)=>t.setIfInBounds t' a) (rec .ready none).tmps,defers:=[] }:=by
   refine ⟨{ tmps:=(a.put (some p) v).tmps,defers:=[] },?_,?_,rfl⟩
   .
    have:=hr.put hf1;exact ⟨this.n,this.get⟩
   have h1:=(pq.mono hle).put (some p) (aU v Xu);refine ⟨?_,rfl⟩;have e:((rec .ready none).params.zip #[v]).foldl (λt (t',a)=>t.setIfInBounds t' a) (rec .ready none).tmps=(ar.put (some p) v).tmps:=by rw[hrec];simp[Act.put]
   rw[e];exact h1.tmps
  refine ⟨_,_,_,_,hyd,?_⟩;have hbody:(rec .ready none).body=body:=by rw[hrec]
  have hassign:(rec .ready none).assign=assign:=by rw[hrec]
  rw[hbody,hassign];refine roundIn_of_wpIn (F:=Fence.wide) trivial ?_
  -- all other rows stay
  obtain ⟨c1,hc1⟩:∃c1,c1=c.kp (KJ (rec .ready none)):=⟨_,rfl⟩;rw[<-hc1] at Tc;obtain ⟨K2,hK2⟩:∃K2,K2=tN c1 ρ' Hj W:=⟨_,rfl⟩;obtain ⟨cW,Xv⟩:∃cW:Cx,cW={ c with w0:=W }:=⟨_,rfl⟩
  have hbelow:Below c.B c.w0 W:=by have:=Tc.below;rw[hc1] at this;exact this
  have Xw:cW.At G GR:=by rw[Xv];exact ⟨cA.g,Tc.Dd (by rw[hc1];exact cA.kp _),cA.len⟩
  have Xx:cW.P=c.P:=by rw[Xv]
  have agB:cW.B=c.B:=by rw[Xv]
  have aj1:cW.L=c.L:=by rw[Xv]
  have hh:bg (cW.kp K2) ρ' Hj W:=by
   have:=Tc.hold.Xr;rw[<-hK2,hc1] at this;rw[Xv];exact this
  have HR:∀r o,KJ (rec .ready none) r=some o->K2 r=some o:=λr o h=>by
   rw[hK2];unfold tN;have:c1.K r=some o:=by rw[hc1];exact h
   rw[if_pos (by rw[this];simp),this]
  have Xy:∀r,r<W.heap.size->¬holds c1 ρ' Hj r->K2 r=W.heap[r]? := λr hr hn=>by
   rw[hK2];unfold tN;rw[if_neg (λh=>hn (.inr (.inl h))),if_neg hn]
  have VV:holds c1 ρ' Hj (m+1):=.inr (.inl (by rw[hc1];show KJ _ _≠none;rw[tS];simp))
  refine hx hpl (m+1) _ _ _ _ _ hxr (cW.kp K2) Xx (Xw.kp K2) _ ρ' _ W ab8 hh _ fun ρ2 ar2 W2 le2 Ol ab9=>?_
  have hL2:W2.heap[m+1]? = some (.loop (rec .ready none)):=ab9.stay.kept (m+1) _ (HR _ _ (tS _));refine ⟨_,run_beginRound hL2 (by rw[hrec]),?_⟩
  have hB1:cW.B<=m+1:=by rw[agB];omega
  have Td:=bg.Dh (c:=cW) ab9 (HR _ _ (tS _)) hB1 (.loop { rec .ready none with state:=.busy })
  obtain ⟨K3,Om⟩:∃K3,K3=kr K2 (m+1) (.loop { rec .ready none with state:=.busy }):=⟨_,rfl⟩
  rw[<-Om] at Td;obtain ⟨W3,hW3⟩:∃W3,W3=W2.putObj (m+1) (.loop { rec .ready none with state:=.busy }):=⟨_,rfl⟩
  rw[<-hW3] at Td ⊢;have acd:K3 (m+1)=some (.loop { rec .ready none with state:=.busy }):=by rw[Om];exact if_pos rfl
  have ace:∀r,r≠m+1->K3 r=K2 r:=λr h=>by rw[Om];exact if_neg h
  have acf:∀{lv3:Leave} {f3:Fr} {H3:Mem},y f2 H2=some (lv3,f3,H3)->cn Hj H3:=λh=>(kx _ _ _ _ _ hxr).trans (ky _ _ _ _ _ h)
  -- what comes of it
  have fin:∀(lv3:Leave) (f3:Fr) (H3:Mem) (jump:Option Code),y f2 H2=some (lv3,f3,H3)->∀(ρ4:Ren) (W4:World),ρ2.le ρ4->bg (cW.kp K3) ρ4 H3 W4 ->
   (Instr.endRound (m+1) jump).run c.P W4 = .ok (.bool jump.isNone) (W4.putObj (m+1) (.loop (rec (if jump.isNone then .ready else .done) jump))) /\
   bg (c.kp (KJ (rec (if jump.isNone then .ready else .done) jump))) ρ4 H3 (W4.putObj (m+1) (.loop (rec (if jump.isNone then .ready else .done) jump))) /\
   W.heap.size<=(W4.putObj (m+1) (.loop (rec (if jump.isNone then .ready else .done) jump))).heap.size /\
   (∀r,holds (c.kp (KJ (rec (if jump.isNone then .ready else .done) jump))) ρ4 H3 r->holds c1 ρ' Hj r\/W.heap.size<=r) /\
   (∀r,r<W.heap.size->¬holds c1 ρ' Hj r->(W4.putObj (m+1) (.loop (rec (if jump.isNone then .ready else .done) jump))).heap[r]? = W.heap[r]?):=by
   intro lv3 f3 H3 jump VW ρ4 W4 VX Dl;have hL4:W4.heap[m+1]? = some (.loop { rec .ready none with state:=.busy }):=Dl.stay.kept (m+1) _ acd
   have hend:=run_endRound (P:=c.P) jump hL4;have agC:({ ({ rec .ready none with state:=.busy }:Loop) with state:=if jump.isNone then .ready else .done,pending:=jump }:Loop)=rec (if jump.isNone then .ready else .done) jump:=by rw[hrec]
   rw[agC] at hend;have acg:=bg.Dh (c:=cW) Dl acd hB1 (.loop (rec (if jump.isNone then .ready else .done) jump));obtain ⟨rj,hrj⟩:∃rj,rj=rec (if jump.isNone then .ready else .done) jump:=⟨_,rfl⟩;rw[<-hrj] at hend acg ⊢
   have ach:bg (cW.kp (KJ rj)) ρ4 H3 (W4.putObj (m+1) (.loop rj)):=acg.qM λr o hr=>by
    by_cases e:r=m+1
    .
     subst e;rw[tS] at hr;cases hr;exact if_pos rfl
    unfold kr;rw[if_neg e,ace r e];rw[ab5 rj (rec .ready none) r e] at hr;exact HR r o hr
   have agD:bg (c.kp (KJ rj)) ρ4 H3 (W4.putObj (m+1) (.loop rj)):=by
    rw[Xv] at ach;exact bg.Xs (c:=c.kp (KJ rj)) (W:=W) ach hbelow
   have hsz:W.heap.size<=W4.heap.size:=by have:=Dl.below.size;rw[Xv] at this;exact this
   have rest:∀r,r<W.heap.size->¬holds c1 ρ' Hj r->K3 r=W.heap[r]? := λr hr hn=>by
    rw[ace r (λe=>hn (by rw[e];exact VV))];exact Xy r hr hn
   refine ⟨hend,agD,by simp only[World.putObj,Array.size_set,Array.size_setIfInBounds];exact hsz,λr hr=>?_,λr hr hn=>?_⟩
   .
    rcases hr with hr|hr|⟨i1,bi,xi,g1,g2,g3⟩
    .
     exact .inl (.inl (by rw[hc1];exact hr))
    .
     refine .inl (.inr (.inl ?_));rw[hc1];show KJ (rec .ready none) r≠none;have hr:KJ rj r≠none:=hr;by_cases e:r=m+1
     .
      subst e;rw[tS];simp
     rw[ab5 (rec .ready none) rj r e];exact hr
    have kk:=acf VW;by_cases aj6:i1<c.L
    .
     have l1:c.L<=Hj.lk:=by have:=Tc.lk;rw[hc1] at this;exact this
     have l2:c.L<=Hj.size:=by have:=Tc.tw;rw[hc1] at this;exact this
     have g1':Hj.get i1=some bi:=by rw[<-kk.2.2 i1 (by omega) (by omega)];exact g1
     have agE:∃x',ρ' i1=some (r,x'):=by
      rcases g2 with g2|g2
      .
       obtain ⟨r',x',_,_,_,m1,_⟩:=Tc.blk i1 bi g1' g2;have:=VX _ _ (le2 _ _ m1);rw[g3] at this;cases this;exact ⟨_,m1⟩
      obtain ⟨r',_,_,m1,_⟩:=Tc.maps i1 bi g1' g2;have:=VX _ _ (le2 _ _ m1);rw[g3] at this;cases this;exact ⟨_,m1⟩
     obtain ⟨x',hx'⟩:=agE;exact .inl (.inr (.inr ⟨i1,bi,x',g1',g2,hx'⟩))
    by_cases hrW:r<W.heap.size
    .
     by_cases hh2:holds c1 ρ' Hj r
     .
      exact .inl hh2
     exfalso;have hK:=Dl.Dg g1 g2 g3;have hK:K3 r=none:=hK;rw[rest r hrW hh2] at hK;rw[Array.getElem?_eq_getElem hrW] at hK;cases hK
    exact .inr (by omega)
   have e:r≠m+1:=λe=>hn (by rw[e];exact VV)
   rw[World.putObj_heap_other e];have hK:=rest r hr hn;rw[Array.getElem?_eq_getElem hr] at hK;have:=Dl.stay.kept r _ hK;rw[this,Array.getElem?_eq_getElem hr]
  split at hrun
  .
   rename_i f3 H3 VW;refine hy hpl (m+1) _ _ _ _ _ VW (cW.kp K3) Xx (Xw.kp K3) _ ρ2 ar2 W3 Ol Td _ fun ρ4 ar4 W4 VX agF Dl=>?_
   obtain ⟨d1,d2,d3,d4,d5⟩:=fin _ _ _ none VW ρ4 W4 VX Dl;rw[hc1] at d4 d5;exact ⟨_,_,d1,_,d3,d4,d5,.inl ⟨rfl,H3,ρ4,hrun,hkj.trans (acf VW),Ren.le_trans hle (Ren.le_trans le2 VX),d2,rfl⟩⟩
  .
   rename_i f3 H3 VW;cases hrun;refine hy hpl (m+1) _ _ _ _ _ VW (cW.kp K3) Xx (Xw.kp K3) _ ρ2 ar2 W3 Ol Td _ fun ρ4 ar4 W4 VX agF Dl=>?_
   obtain ⟨d1,d2,d3,d4,d5⟩:=fin _ _ _ (some .ret) VW ρ4 W4 VX Dl;rw[hc1] at d4 d5;exact ⟨_,_,d1,_,d3,d4,d5,.inr ⟨rfl,rfl,ρ4,Ren.le_trans hle (Ren.le_trans le2 VX),d2,rfl⟩⟩
  cases hrun
 have aci:Below w.heap.size w W1:=by rw[<-SC];exact ((Below.refl _ w).alloc (Nat.le_refl _) _).alloc (by simp) _
 have Te:W1.cell? ⟨rs,0,none⟩=some (.string s):=by
  obtain ⟨v',m1,m2⟩:=he.cell Ok b1 (show b.cells[0]? = some (.string s) by rw[hcells];rfl) rfl
  cases m2;rw[<-m1];unfold World.cell?;simp only[aci.block rs Hy]
 have acj:W1.frozen? ⟨rs,0,none⟩=false:=by
  have h0:0<C.size:=(Array.getElem?_eq_some_iff.1 hcell).1;have hno:=agw.2 0 h0;unfold World.frozen?;simp only[aci.block rs Hy,b3]
  simpa using hno
 refine ⟨m+1,[mark m],W1,{ target:=.fn (.func fid) #[.pointer (some ⟨rs,0,none⟩)],args := #[.func (.yield (m+1)) #[] #[]] },W1,fid,#[.func (.yield (m+1)) #[] #[]] ++ #[.pointer (some ⟨rs,0,none⟩)],W1,?_,?_,?_,?_,λ_=>by omega,?_⟩
 .
  rw[<-SC,hrec,hm];exact run_enterLoop_outer _ _ _ _ _
 .
  simp only[resolve,hgv];simp[go_sem]
 .
  intro f' _;trivial
 .
  simp only[invoke];exact ab4.1 _ _
 refine (ab4.2 19 (m+1) rs W1 _ J Jx (by omega) Te acj agy ?_ ?_ ?_ ?_ round ⟨H1,ρ,h,hkk,Ren.le_refl _,agx,rfl⟩).mono ?_
 .
  rintro j O W W' ⟨Hj,ρ',k1,k2,k3,k4,rfl⟩ hb;exact ⟨Hj,ρ',k1,k2,k3,k4.beside hb,rfl⟩
 .
  rintro O W W' ⟨k0,ρ',k3,k4,rfl⟩ hb;exact ⟨k0,ρ',k3,k4.beside hb,rfl⟩
 .
  rintro j O W ⟨Hj,ρ',k1,k2,k3,k4,rfl⟩ r hr;exact k4.Fb hr
 .
  rintro O W ⟨k0,ρ',k3,k4,rfl⟩ r hr;exact k4.Fb hr
 have ack:∀(rj:Loop) (ρ':Ren) (W:World),bg (c.kp (KJ rj)) ρ' H' W->∀rj':Loop,bg (c.kp (kr c.K m (.deferred (some [])))) ρ' H' (W.putObj (m+1) (.loop rj')):=λrj ρ' W emb rj'=>by
  refine (bg.Dh (c:=c) emb (tS rj) (by omega) (.loop rj')).qM λr o hr=>?_
  by_cases e:r=m+1
  .
   subst e;unfold kr at hr;rw[if_neg (by omega),ab6] at hr;cases hr
  have:kr (KJ rj) (m+1) (.loop rj') r=KJ rj r:=if_neg e;rw[this,Fg,if_neg e];exact hr
 have Ol:∀ ρ',ρ.le ρ'->yQ K0 (c.kp (kr c.K m (.deferred (some [])))) ρ' f { ar with defers:=[mark m]++ar.defers }:=fun ρ' hle =>
  ⟨{ a with defers:=mark m::a.defers },⟨hr.n,hr.get⟩,⟨(pq.mono hle).tmps,by show mark m::ar.defers=_;rw[pq.dr]⟩,Marks.push hmk hBm agz⟩
 rintro e W2 ⟨⟨v,rfl⟩,O',⟨Hj,ρ',k1,k2,k3,k4,_⟩|⟨rfl,ρ',k3,k4,_⟩⟩
 .
  rw[List.drop_length] at k1;rw[wL] at k1;cases k1;have hLr:W2.heap[m+1]? = some (.loop (rec .ready none)):=k4.stay.kept (m+1) _ (tS _);have hel:=run_endLoop (P:=c.P) hLr (by rw[hrec];simp)
  have hp:(rec .ready none).pending=none:=by rw[hrec]
  rw[hp] at hel;refine ⟨none,_,hel,?_⟩;exact hQ _ ρ' _ _ k3 (Ol ρ' k3) (ack _ _ _ k4 _)
 have hLr:W2.heap[m+1]? = some (.loop (rec .done (some .ret))):=k4.stay.kept (m+1) _ (tS _)
 have hel:=run_endLoop (P:=c.P) hLr (by rw[hrec];simp)
 have hp:(rec .done (some .ret)).pending=some .ret:=by rw[hrec]
 rw[hp] at hel
 refine ⟨some .ret,_,hel,?_⟩
 exact wpIn_ret (hQ _ ρ' _ _ k3 (Ol ρ' k3) (ack _ _ _ k4 _))
theorem andThen_ok {G:Nat} {g k:Fr->Mem->Out} {x y:Code} (hx:pX P G GR g x) (hy:pX P G GR k y):pX P G GR (λf H=>andThen (g f H) k) (.seq x y):=by
 intro f H lv f' H' h0
 have h:andThen (g f H) k=some (lv,f',H'):=h0
 clear h0
 unfold andThen at h
 split at h
 .
  rename_i f1 H1 h1;obtain ⟨k1,w1⟩:=hx _ _ _ _ _ h1;obtain ⟨k2,w2⟩:=hy _ _ _ _ _ h;refine ⟨k1.trans k2,λc K0 cU cA ρ ar w hs he Q hQ=>wp_seq (w1 c K0 cU cA ρ ar w hs he _ λK1 ρ' ar' w' m1 m2 m3=>?_)⟩
  exact w2 (c.kp K1) K0 cU (cA.kp K1) ρ' ar' w' m2 m3 Q λK2 ρ'' ar'' w'' n1 n2 n3=>hQ K2 ρ'' ar'' w'' (Ren.le_trans m1 n1) n2 n3
 .
  rename_i id f1 H1 h1;cases h;obtain ⟨k1,w1⟩:=hx _ _ _ _ _ h1;exact ⟨k1,λc K0 cU cA ρ ar w hs he Q hQ=>wp_seq (w1 c K0 cU cA ρ ar w hs he _ λK1 ρ' ar' w' m1 m2 m3=>hQ K1 ρ' ar' w' m1 m2 m3)⟩
 .
  rename_i f1 H1 h1;cases h;obtain ⟨k1,w1⟩:=hx _ _ _ _ _ h1;exact ⟨k1,λc K0 cU cA ρ ar w hs he Q hQ=>wp_seq (w1 c K0 cU cA ρ ar w hs he _ λK1 ρ' ar' w' m1 m2 m3=>hQ K1 ρ' ar' w' m1 m2 m3)⟩
 .
  rename_i l f1 H1 h1;cases h;obtain ⟨k1,w1⟩:=hx _ _ _ _ _ h1;exact ⟨k1,λc K0 cU cA ρ ar w hs he Q hQ=>wp_seq (w1 c K0 cU cA ρ ar w hs he _ λK1 ρ' ar' w' m1 m2 m3=>hQ K1 ρ' ar' w' m1 m2 m3)⟩
 cases h
theorem tT {G:Nat} {g:Fr->Mem->Out} {cd:Code} (hb:pX P G GR g cd):∀(n:Nat) f H lv f' H',wC g n f H=some (lv,f',H')->cn H H'/\∀(c:Cx) (K0:Nat->Option Obj),c.P=P->c.At G GR->∀ ρ ar w,yQ K0 c ρ f ar->bg c ρ H w->∀Q:Exit->Act->World->Prop,
 (∀K' ρ' ar' w',ρ.le ρ'->yQ K0 (c.kp K') ρ' f' ar'->bg (c.kp K') ρ' H' w'->Q lv.exit' ar' w')->Code.rounds P cd Q n ar w
 |0,f,H,lv,f',H',h=>by cases h
 |
  n+1,f,H,lv,f',H',h=>by
  have h0:andThen (g f H) (wC g n)=some (lv,f',H'):=h;unfold andThen at h0;split at h0
  .
   rename_i f1 H1 h1;obtain ⟨k1,w1⟩:=hb _ _ _ _ _ h1;obtain ⟨k2,w2⟩:=tT hb n _ _ _ _ _ h0;refine ⟨k1.trans k2,λc K0 cU cA ρ ar w hs he Q hQ=>?_⟩
   rw[rounds_succ];refine w1 c K0 cU cA ρ ar w hs he _ λK1 ρ' ar' w' m1 m2 m3=>?_
   exact w2 (c.kp K1) K0 cU (cA.kp K1) ρ' ar' w' m2 m3 Q λK2 ρ'' ar'' w'' n1 n2 n3=>hQ K2 ρ'' ar'' w'' (Ren.le_trans m1 n1) n2 n3
  .
   rename_i id f1 H1 h1;cases h0;obtain ⟨k1,w1⟩:=hb _ _ _ _ _ h1;refine ⟨k1,λc K0 cU cA ρ ar w hs he Q hQ=>?_⟩
   rw[rounds_succ];exact w1 c K0 cU cA ρ ar w hs he _ λK1 ρ' ar' w' m1 m2 m3=>hQ K1 ρ' ar' w' m1 m2 m3
  .
   rename_i f1 H1 h1;cases h0;obtain ⟨k1,w1⟩:=hb _ _ _ _ _ h1;refine ⟨k1,λc K0 cU cA ρ ar w hs he Q hQ=>?_⟩
   rw[rounds_succ];exact w1 c K0 cU cA ρ ar w hs he _ λK1 ρ' ar' w' m1 m2 m3=>hQ K1 ρ' ar' w' m1 m2 m3
  .
   rename_i l f1 H1 h1;cases h0;obtain ⟨k1,w1⟩:=hb _ _ _ _ _ h1;refine ⟨k1,λc K0 cU cA ρ ar w hs he Q hQ=>?_⟩
   rw[rounds_succ];exact w1 c K0 cU cA ρ ar w hs he _ λK1 ρ' ar' w' m1 m2 m3=>hQ K1 ρ' ar' w' m1 m2 m3
  cases h0
def within (c:Code) (J:Code->Act->World->Prop) (Q:Exit->Act->World->Prop):Exit->Act->World->Prop
 |
  .goto l,a,w=>match findLabel c l with
  |some rest=>J rest a w
  |none=>Q (.goto l) a w
 |e,a,w=>Q e a w
def jumps (P:Program) (c:Code) (Q:Exit->Act->World->Prop):Nat->Code->Act->World->Prop
 |0,_,_,_=>False
 |n+1,d,a,w=>d.wp P (within c (jumps P c Q n) Q) a w
theorem wp_scope_within {c:Code} {Q:Exit->Act->World->Prop} {a:Act} {w:World} (n:Nat) (h:jumps P c Q n c a w):(Code.scope c).wp P Q a w:=by
 intro b k cs
 have key:∀n d a w,jumps P c Q n d a w->∃e a' w',Q e a' w'/\Arrives P (lone (b.at a (.code d :: .inScope c::k)) cs w) b k cs e a' w':=by
  intro n
  induction n with
  |zero=>intro d a w h;exact h.elim
  |
   succ n ih =>
   intro d a w h;obtain ⟨e,a₁,w₁,hq,harr⟩:=h b (.inScope c::k) cs;cases e with
   |normal=>exact ⟨.normal,a₁,w₁,hq,Steps.trans harr (.one step_inScope)⟩
   |exit id=>exact ⟨.exit id,a₁,w₁,hq,λk' hk=>harr k' (by simp[exitTo,hk])⟩
   |
    goto l =>
    cases hf:findLabel c l with
    |
     some rest =>
     simp only[within,hf] at hq;obtain ⟨e₂,a₂,w₂,hq₂,harr₂⟩:=ih rest a₁ w₁ hq;exact ⟨e₂,a₂,w₂,hq₂,.of_steps (harr _ (by simp[gotoIn,hf])) harr₂⟩
    |
     none =>
     simp only[within,hf] at hq;exact ⟨.goto l,a₁,w₁,hq,λk' hk=>harr k' (by simp[gotoIn,hf,hk])⟩
   |ret=>exact ⟨_,a₁,w₁,hq,harr⟩
   |panic ch=>exact ⟨_,a₁,w₁,hq,harr⟩
   |outgrown=>exact ⟨_,a₁,w₁,hq,harr⟩
 obtain ⟨e,a',w',hq,harr⟩:=key n c a w h
 exact ⟨e,a',w',hq,.of_steps (.one step_scope) harr⟩
def HS (P:Program) (G:Nat) (GR:List Blk) (n:Nat) (J:o4):Prop :=
 ∀s rest f H lv f' H',J s rest f H=some (lv,f',H')->cn H H'/\∀(c:Cx) (K0:Nat->Option Obj),c.P=P->c.At G GR->∀ ρ ar w,yQ K0 c ρ f ar->bg c ρ H w->∀Q:Exit->Act->World->Prop,
  (∀K' ρ' ar' w',ρ.le ρ'->yQ K0 (c.kp K') ρ' f' ar'->bg (c.kp K') ρ' H' w'->Q lv.exit' ar' w')->jumps P s Q n rest ar w
theorem rN {G n:Nat} {J:o4} (hJ:HS P G GR n J) {g:Fr->Mem->Out} {d:Code} (hd:pX P G GR g d) (s:Code) (f:Fr) (H:Mem) (lv:Leave) (f':Fr) (H':Mem) (h:eT s J (g f H)=some (lv,f',H')) :
 cn H H'/\∀(c:Cx) (K0:Nat->Option Obj),c.P=P->c.At G GR->∀ ρ ar w,yQ K0 c ρ f ar->bg c ρ H w->∀Q:Exit->Act->World->Prop,
 (∀K' ρ' ar' w',ρ.le ρ'->yQ K0 (c.kp K') ρ' f' ar'->bg (c.kp K') ρ' H' w'->Q lv.exit' ar' w')->jumps P s Q (n+1) d ar w:=by
 unfold eT at h
 split at h
 .
  rename_i l f1 H1 h1;obtain ⟨k1,w1⟩:=hd _ _ _ _ _ h1;split at h
  .
   rename_i rest hf;obtain ⟨k2,w2⟩:=hJ _ _ _ _ _ _ _ h;refine ⟨k1.trans k2,λc K0 cU cA ρ ar w hs he Q hQ=>w1 c K0 cU cA ρ ar w hs he _ λK1 ρ' ar' w' m1 m2 m3=>?_⟩
   show within s (jumps P s Q n) Q (.goto l) ar' w';simp only[within,hf];exact w2 (c.kp K1) K0 cU (cA.kp K1) ρ' ar' w' m2 m3 Q λK2 ρ'' ar'' w'' n1 n2 n3=>hQ K2 ρ'' ar'' w'' (Ren.le_trans m1 n1) n2 n3
  rename_i hf;cases h;refine ⟨k1,λc K0 cU cA ρ ar w hs he Q hQ=>w1 c K0 cU cA ρ ar w hs he _ λK1 ρ' ar' w' m1 m2 m3=>?_⟩
  show within s (jumps P s Q n) Q (.goto l) ar' w';simp only[within,hf];exact hQ K1 ρ' ar' w' m1 m2 m3
 .
  rename_i f1 H1 h1;cases h;obtain ⟨k1,w1⟩:=hd _ _ _ _ _ h1;exact ⟨k1,λc K0 cU cA ρ ar w hs he Q hQ=>w1 c K0 cU cA ρ ar w hs he _ λK1 ρ' ar' w' m1 m2 m3=>hQ K1 ρ' ar' w' m1 m2 m3⟩
 .
  rename_i id f1 H1 h1;cases h;obtain ⟨k1,w1⟩:=hd _ _ _ _ _ h1;exact ⟨k1,λc K0 cU cA ρ ar w hs he Q hQ=>w1 c K0 cU cA ρ ar w hs he _ λK1 ρ' ar' w' m1 m2 m3=>hQ K1 ρ' ar' w' m1 m2 m3⟩
 .
  rename_i f1 H1 h1;cases h;obtain ⟨k1,w1⟩:=hd _ _ _ _ _ h1;exact ⟨k1,λc K0 cU cA ρ ar w hs he Q hQ=>w1 c K0 cU cA ρ ar w hs he _ λK1 ρ' ar' w' m1 m2 m3=>hQ K1 ρ' ar' w' m1 m2 m3⟩
 cases h
theorem Fh (hno:cP P) {G:Nat} (hcall:jG P G GR call) (hit:tP P call) (hk:bJ call) (hm:P.follows .mixedOrders=true) {n:Nat} {J:o4} (hJ:HS P G GR n J) (rounds:Nat) (cd:Code):pX P G GR (iq P G call J rounds cd) cd:=by
 induction cd with
 |
  skip =>
  intro f H lv f' H' h;have h':some (Leave.normal,f,H)=some (lv,f',H'):=h;cases h';exact ⟨.refl _,λc K0 _ _ ρ ar w hs he Q hQ=>wp_skip (hQ c.K ρ ar w (Ren.le_refl _) hs he)⟩
 |region id ops draw=>exact vh hno hcall hk hm id draw
 |seq x y Oh Oi=>exact andThen_ok Oh Oi
 |
  cond cc x y Oh Oi =>
  intro f H lv f' H' h;have h0:pick2 (bt G cc) (Bj (f.eval cc) (iq P G call J rounds x) (iq P G call J rounds y) f H) none=some (lv,f',H'):=h;rw[pick2_eq] at h0;split at h0
  case isFalse=>cases h0
  rename_i hok;unfold Bj at h0;split at h0
  .
   rename_i b hb
   have val:∀{c:Cx} {K0:Nat->Option Obj} {ρ:Ren} {ar:Act} {w:World},c.At G GR->yQ K0 c ρ f ar->bg c ρ H w->ar.eval cc = .bool b:=by
    intro c K0 ρ ar w cA hs he;obtain ⟨a,hr,pq,_⟩:=hs;have hv:=pq.eval he.dz (x:=cc) (by rw[cA.g];exact hok)
    rw[<-hr.eval,hb] at hv;generalize ar.eval cc=q at hv;cases hv;rfl
   cases b with
   |
    true =>
    obtain ⟨k1,w1⟩:=Oh _ _ _ _ _ h0;exact ⟨k1,λc K0 cU cA ρ ar w hs he Q hQ=>wp_cond_true (val cA hs he) (w1 c K0 cU cA ρ ar w hs he Q hQ)⟩
   |
    false =>
    obtain ⟨k1,w1⟩:=Oi _ _ _ _ _ h0;exact ⟨k1,λc K0 cU cA ρ ar w hs he Q hQ=>wp_cond_false (val cA hs he) (w1 c K0 cU cA ρ ar w hs he Q hQ)⟩
  cases h0
 |
  block id b ih =>
  intro f H lv f' H' h;have h0:fW id (iq P G call J rounds b f H)=some (lv,f',H'):=h;unfold fW at h0;split at h0
  .
   rename_i id' f1 H1 h1;obtain ⟨k1,w1⟩:=ih _ _ _ _ _ h1;rw[pick2_eq] at h0;split at h0
   .
    rename_i hid;cases h0;refine ⟨k1,λc K0 cU cA ρ ar w hs he Q hQ=>wp_block (w1 c K0 cU cA ρ ar w hs he _ λK1 ρ' ar' w' m1 m2 m3=>?_)⟩
    show (if id'=id then Q .normal ar' w' else Q (.exit id') ar' w');rw[if_pos (by rw[Nat.beq_eq] at hid;exact hid)];exact hQ K1 ρ' ar' w' m1 m2 m3
   rename_i hid;cases h0;refine ⟨k1,λc K0 cU cA ρ ar w hs he Q hQ=>wp_block (w1 c K0 cU cA ρ ar w hs he _ λK1 ρ' ar' w' m1 m2 m3=>?_)⟩
   show (if id'=id then Q .normal ar' w' else Q (.exit id') ar' w');rw[if_neg (by rw[Nat.beq_eq] at hid;exact hid)];exact hQ K1 ρ' ar' w' m1 m2 m3
  .
   rename_i f1 H1 h1;cases h0;obtain ⟨k1,w1⟩:=ih _ _ _ _ _ h1;exact ⟨k1,λc K0 cU cA ρ ar w hs he Q hQ=>wp_block (w1 c K0 cU cA ρ ar w hs he _ λK1 ρ' ar' w' m1 m2 m3=>hQ K1 ρ' ar' w' m1 m2 m3)⟩
  .
   rename_i f1 H1 h1;cases h0;obtain ⟨k1,w1⟩:=ih _ _ _ _ _ h1;exact ⟨k1,λc K0 cU cA ρ ar w hs he Q hQ=>wp_block (w1 c K0 cU cA ρ ar w hs he _ λK1 ρ' ar' w' m1 m2 m3=>hQ K1 ρ' ar' w' m1 m2 m3)⟩
  .
   rename_i l f1 H1 h1;cases h0;obtain ⟨k1,w1⟩:=ih _ _ _ _ _ h1;exact ⟨k1,λc K0 cU cA ρ ar w hs he Q hQ=>wp_block (w1 c K0 cU cA ρ ar w hs he _ λK1 ρ' ar' w' m1 m2 m3=>hQ K1 ρ' ar' w' m1 m2 m3)⟩
  cases h0
 |
  loop b ih =>
  intro f H lv f' H' h;obtain ⟨k1,w1⟩:=tT ih rounds f H lv f' H' h;exact ⟨k1,λc K0 cU cA ρ ar w hs he Q hQ=>wp_loop_rounds rounds (w1 c K0 cU cA ρ ar w hs he Q hQ)⟩
 |
  exit id =>
  intro f H lv f' H' h;have h':some (Leave.exit id,f,H)=some (lv,f',H'):=h;cases h';exact ⟨.refl _,λc K0 _ _ ρ ar w hs he Q hQ=>wp_exit (hQ c.K ρ ar w (Ren.le_refl _) hs he)⟩
 |
  ret =>
  intro f H lv f' H' h;have h':some (Leave.ret,f,H)=some (lv,f',H'):=h;cases h';exact ⟨.refl _,λc K0 _ _ ρ ar w hs he Q hQ=>wp_ret (hQ c.K ρ ar w (Ren.le_refl _) hs he)⟩
 |
  rangeFunc g ps a b SL SM =>
  refine Oj hit (λf H lv f' H' h=>(SL f H lv f' H' h).1) (λf H lv f' H' h=>(SM f H lv f' H' h).1) (λhp l=>?_) (λhp l=>?_)
  .
   rw[Bool.and_eq_true] at hp;exact BF hno hcall hk hm J rounds a hp.1
  rw[Bool.and_eq_true] at hp;exact BF hno hcall hk hm J rounds b hp.2
 |
  scope b ih =>
  intro f H lv f' H' h;have h0:eT b J (iq P G call J rounds b f H)=some (lv,f',H'):=h;obtain ⟨k1,w1⟩:=rN hJ ih b f H lv f' H' h0;exact ⟨k1,λc K0 cU cA ρ ar w hs he Q hQ=>wp_scope_within (n+1) (w1 c K0 cU cA ρ ar w hs he Q hQ)⟩
 |
  label l =>
  intro f H lv f' H' h;have h':some (Leave.normal,f,H)=some (lv,f',H'):=h;cases h';exact ⟨.refl _,λc K0 _ _ ρ ar w hs he Q hQ=>wp_label (hQ c.K ρ ar w (Ren.le_refl _) hs he)⟩
 |
  goto l =>
  intro f H lv f' H' h;have h':some (Leave.goto l,f,H)=some (lv,f',H'):=h;cases h';exact ⟨.refl _,λc K0 _ _ ρ ar w hs he Q hQ=>wp_goto (hQ c.K ρ ar w (Ren.le_refl _) hs he)⟩
 |refuse=>intro f H lv f' H' h;cases h
theorem vk (hno:cP P) {G:Nat} (hcall:jG P G GR call) (hit:tP P call) (hk:bJ call) (hm:P.follows .mixedOrders=true) (rounds:Nat):∀n,HS P G GR n (r7 P G call rounds n)
 |0=>λ_ _ _ _ _ _ _ h=>by cases h
 |
  n+1=>λs rest f H lv f' H' h=>by
  have h0:eT s (r7 P G call rounds n) (iq P G call (r7 P G call rounds n) rounds rest f H)=some (lv,f',H'):=h;exact rN (vk hno hcall hit hk hm rounds n) (Fh hno hcall hit hk hm (vk hno hcall hit hk hm rounds n) rounds rest) s f H lv f' H' h0
def fu (tmps:Array Value):ResultVar->Sem Value
 |.tmp t=>pure (tmps.getD t undef)
 |.cell x t=>do loadVar t (<- asAddr (tmps.getD x undef))
theorem vn {c:Cx} {w:World} {ρ:Ren} {H:Mem} (he:bg c ρ H w) {f:Fr} {a ar:Act} (hr:xO f a) (hs:uP ρ a ar) {r:ResultVar} {v:Value} (h:tu c.P H f r=some v) :
 ∃v',VRel ρ v v'/\(fu ar.tmps r).run c.P w = .ok v' w:=by
 cases r with
 |
  tmp t =>
  simp only[tu,Option.some.injEq] at h;subst h;rw[hr.get];exact ⟨_,hs.tmps.getD t .undef,rfl⟩
 |
  cell x t =>
  simp only[tu] at h;rw[hr.get] at h;have hx:=hs.tmps.getD x .undef;obtain ⟨v',h1,h2⟩:=JQ he hx h;refine ⟨v',h2,?_⟩;unfold kS at h;split at h
  .
   rename_i i off heq;rw[heq] at hx;simp only[fu];generalize ar.tmps.getD x undef=q at hx h1 ⊢;cases hx with
   |
    ptr _ _ r y hr =>
    simp only[Instr.loadAt,Instr.sureAddr,Sem.run_bind,Sem.run_pure,Result.andThen_ok] at h1;simp only[asAddr,Sem.run_bind,Sem.run_pure,Result.andThen_ok];exact h1
  cases h
theorem tU {c:Cx} {w:World} {ρ:Ren} {H:Mem} (he:bg c ρ H w) {f:Fr} {a ar:Act} (hr:xO f a) (hs:uP ρ a ar):∀(rs:List ResultVar) {l:List Value},eA c.P H f rs=some l ->
 ∃l',LR (VRel ρ) l l'/\(rs.mapM (fu ar.tmps)).run c.P w = .ok l' w
 |
  [],l,h=>by
  simp only[eA,Option.some.injEq] at h;subst h;exact ⟨[],.nil,by simp⟩
 |
  r::rs,l,h=>by
  simp only[eA] at h;split at h
  .
   rename_i v vs hv hvs;cases h;obtain ⟨v',h1,h2⟩:=vn he hr hs hv;obtain ⟨l',h3,h4⟩:=tU he hr hs rs hvs;refine ⟨v'::l',LR.cons h1 h3,?_⟩;rw[List.mapM_cons];simp only[Sem.run_bind,Sem.run_pure];rw[h2];simp only[Result.andThen_ok];rw[h4];rfl
  cases h
theorem oJ {c:Cx} {w:World} {ρ:Ren} {H:Mem} (he:bg c ρ H w) {f:Fr} {a ar:Act} (hr:xO f a) (pq:uP ρ a ar) {fn:Func} {l:List Value} (h:eA c.P H f fn.results.toList=some l) :
 ∃v',VRel ρ (rz l) v'/\(results fn ar.tmps).run c.P w = .ok v' w:=by
 obtain ⟨l',h1,h2⟩:=tU he hr pq _ h
 have hrun:(results fn ar.tmps).run c.P w = .ok (if hh:l'.toArray.size=1 then l'.toArray[0] else .tuple l'.toArray) w:=by
  have e:results fn ar.tmps=(do let vs <- fn.results.mapM (fu ar.tmps);pure (if h:vs.size=1 then vs[0] else .tuple vs)):=rfl;rw[e,Array.mapM_eq_mapM_toList];simp only[Sem.run_bind,Sem.run_map];rw[h2];rfl
 refine ⟨_,?_,hrun⟩
 match l,h1 with
 |[],h1=>rw[h1.Bk];exact .tuple _ _ rfl (λi x y hx=>by simp at hx)
 |
  [v],h1 =>
  obtain ⟨v',t',rfl,hv,ht⟩:=h1.pL;rw[ht.Bk];exact hv
 |
  v::u::t,h1 =>
  obtain ⟨v',t',rfl,hv,ht⟩:=h1.pL;obtain ⟨u',t'',rfl,hu,ht'⟩:=ht.pL;have:¬((v'::u'::t'').toArray.size=1):=by simp
  rw[dif_neg this];have hA:=h1.array;exact .tuple _ _ hA.1 hA.2
theorem BG:∀(l:List Value) {f f':Fr} {i:Nat},f.fill i l=some f'->f'.n=f.n/\∀j,f'.get j=if i<=j/\j<i+l.length/\j<f.n then (l[j-i]?).getD undef else f.get j
 |
  [],f,f',i,h=>by
  simp only[Fr.fill,Option.some.injEq] at h;subst h;exact ⟨rfl,λj=>by rw[if_neg];simp;omega⟩
 |
  v::l,f,f',i,h=>by
  simp only[Fr.fill] at h;split at h
  .
   rename_i f1 h1;obtain ⟨e1,e2⟩:=Fr.cy h1;obtain ⟨e3,e4⟩:=BG l h;refine ⟨by rw[e3,e1],λj=>?_⟩
   rw[e4,e2,e1];simp only[Option.some.injEq,List.length_cons];by_cases hj:i+1<=j/\j<i+1+l.length/\j<f.n
   .
    rw[if_pos hj,if_pos (by omega)]
    have:j-i=(j-(i+1))+1:=by omega
    rw[this];simp
   rw[if_neg hj];by_cases hij:i=j/\j<f.n
   .
    obtain ⟨rfl,hlt⟩:=hij;rw[if_pos ⟨rfl,hlt⟩,if_pos (by omega)];simp
   rw[if_neg hij,if_neg (by omega)]
  cases h
theorem yU {α:Type}:∀(d j:Nat),(Tr.full d:Tr α).get j=none
 |0,_=>rfl
 |
  d+1,j=>by
  show (Tr.n (Tr.full d) none (Tr.full d)).get j=none;rw[Tr.pM,yU d,yU d];simp
structure On (r:Nat) (w w':World):Prop where
 below:∀B,B<=r->Below B w w'
 rows:∀k,k≠r->k<w.heap.size->w'.heap[k]? = w.heap[k]?
 size:w.heap.size<=w'.heap.size
def Xz (P:Program) (f:FuncId) (u:Value):Prop:=∀(w:World) (r n:Nat) (t:TypeId) (fr:Nat×Nat) (C:Array Value),w.heap[r]? = some (.cells C t fr)->kg C fr->n<=C.size->C.size<9223372036854775808->P.underlying t=some (.int .u8) ->
 (∀(j:Nat) v,C[j]? = some v->∃k:Int,v = .int .u8 k)->Calls P f #[.slice (some ⟨r,0,none⟩) n C.size] w λe w'=>e = .returned u/\On r w w'
theorem bg.turned {c:Cx} {ρ:Ren} {H:Mem} {w w':World} (h:bg c ρ H w) {r:Nat} (hr:c.own r) (ht:On r w w') (hc:∃C t fr,w.heap[r]? = some (.cells C t fr)) (hne:∀i b x y,H.get i=some b->b.live=true->ρ i=some (x,y)->x≠r):bg c ρ H w':=by
 have lt:∀{k:Nat} {o:Obj},w.heap[k]? = some o->k<w.heap.size:=λh=>(Array.getElem?_eq_some_iff.1 h).1
 obtain ⟨C0,t0,fr0,hC0⟩:=hc
 refine ⟨⟨h.stay.below.trans (ht.below _ hr.1),λk o hk=>?_⟩,Nat.le_trans h.base ht.size,h.dom,h.lk,h.tw,h.dz,λi b hi hl=>?_,h.inj,λi b hi hm=>?_,h.pg⟩
 .
  have h1:=h.stay.kept k o hk;rw[ht.rows k (λe=>by subst e;rw[hr.2] at hk;cases hk) (lt h1)];exact h1
 .
  obtain ⟨q,x,C,fr,s,h1,h2,h3,h4⟩:=h.blk i b hi hl;exact ⟨q,x,C,fr,s,h1,h2,by rw[ht.rows q (hne i b q x hi hl h1) (lt h3)];exact h3,h4⟩
 refine (h.maps i b hi hm).heap λq es clock hh=>?_
 rw[ht.rows q (λe=>by subst e;rw[hC0] at hh;cases hh) (lt hh)];exact hh
theorem Fi {t:TypeId} (h:CV P t=true):P.underlying t=some (.int .u8)/\fj P t=some (.int .u8 0)/\aM P t=some 1:=by
 unfold CV at h
 split at h
 .
  rename_i h1 h2 h3;exact ⟨h1,h2,h3⟩
 cases h
theorem Oo {v:Value} (h:EA v=true):∃k:Int,v = .int .u8 k:=by
 unfold EA at h
 split at h
 .
  exact ⟨_,rfl⟩
 cases h
structure dP (P:Program) (GR:List Blk) (K:bP):Prop where
 calls:∀f args v,K f args=some v->addrFreeL args=true->∀w,dV GR w->Calls P f args.toArray w λe w'=>e = .returned v/\Below w.heap.size w w'
 VY:∀f u,K f jk=some u->Xz P f u
 VZ:∀f s items,K (uT f) [fk,.string s]=some (.tuple items)->addrFreeL items.toList=true->J2 P f s items.toList
abbrev qN (P:Program) (K:bP):Prop:=dP P [] K
theorem qN.of {K:bP} (h0:∀f,K f jk=none) (h1:∀f s,K (uT f) [fk,.string s]=none) (h:∀f args v,K f args=some v->∀w,Calls P f args.toArray w λe w'=>e = .returned v/\Below w.heap.size w w'):qN P K :=
 ⟨λf args v hk _ w _=>h f args v hk w,(λf u hk=>by rw[h0] at hk;cases hk),(λf s items hk=>by rw[h1] at hk;cases hk)⟩
theorem sk:qN P j3:=.of (λ_=>rfl) (λ_ _=>rfl) λ_ _ _ h=>by simp[j3] at h
theorem LR.dU {ρ:Ren} {l l':List Value} (h:LR (VRel ρ) l l') (hf:addrFreeL l=true):l'=l:=by
 apply List.ext_getElem?
 intro i
 by_cases hi:i<l.length
 .
  have hi':i<l'.length:=h.1 ▸ hi;have hr:=h.2 i _ _ (List.getElem?_eq_getElem hi) (List.getElem?_eq_getElem hi');rw[List.getElem?_eq_getElem hi,List.getElem?_eq_getElem hi',Ev.dU hr (iP hf (List.getElem?_eq_getElem hi))]
 rw[List.getElem?_eq_none (Nat.le_of_not_lt hi),List.getElem?_eq_none (Nat.le_of_not_lt (h.1 ▸ hi))]
theorem Fj {fn:Func} {r:Out} {v:Value} {H':Mem} (h:CU P fn r=some (v,H')):∃lv f l,r=some (lv,f,H')/\(lv = .normal\/lv = .ret)/\eA P H' f fn.results.toList=some l/\v=rz l:=by
 unfold CU at h
 split at h
 .
  rename_i f H1;obtain ⟨h1,rfl⟩:=av h;simp only[Option.map_eq_some_iff] at h1;obtain ⟨l,hl,rfl⟩:=h1;exact ⟨_,_,_,rfl,.inl rfl,hl,rfl⟩
 .
  rename_i f H1;obtain ⟨h1,rfl⟩:=av h;simp only[Option.map_eq_some_iff] at h1;obtain ⟨l,hl,rfl⟩:=h1;exact ⟨_,_,_,rfl,.inr rfl,hl,rfl⟩
 cases h
theorem BH {fn:Func} {c:Cx} {K0:Nat->Option Obj} {f1:Fr} {a ar:Act} {ρ:Ren} {H:Mem} {R:Ending->World->Prop} (hr:xO f1 a) (hs:uP ρ a ar) {l:List Value} (hl:eA c.P H f1 fn.results.toList=some l)
 (hR:∀v' w,VRel ρ (rz l) v'->bg (c.kp K0) ρ H w->R (.returned v') w):∀(D:List Deferred) (K:Nat->Option Obj) (w:World),Marks c.B K0 K D->bg (c.kp K) ρ H w->LeavesInM Fence.wide 20 c.P fn ar.tmps R D .returning w
 |
  [],K,w,hm,he=>by
  obtain ⟨v',p1,p2⟩:=oJ he hr hs hl;exact ⟨v',p2,hR v' w p1 (he.qM hm)⟩
 |
  d::D,K,w,⟨m,hd,hB,hK,hm⟩,he=>by
  subst hd;have hw:w.heap[m]? = some (.deferred (some [])):=he.stay.kept m _ hK;refine ⟨by simp,.inl ⟨m,_,rfl,run_takeDeferred hw,?_⟩⟩
  refine BH hr hs hl hR D (Fc K m) _ hm ((bg.Dh (c:=c) he hK hB (.deferred none)).qM λr o hr=>?_)
  unfold Fc at hr;split at hr
  .
   cases hr
  rename_i e;unfold kr;rw[if_neg e];exact hr
theorem iy (hno:cP P) {G:Nat} (hcall:jG P G GR call) (hit:tP P call) (hk:bJ call) (hm:P.follows .mixedOrders=true) (rounds:Nat) {id:FuncId} {args:List Value} {H H':Mem} {v:Value} (h:jF P G call rounds id args H=some (v,H')) :
 cn H H'/\∀(c:Cx),c.P=P->c.At G GR->∀ ρ w args',bg c ρ H w->LR (VRel ρ) args args' ->
  Calls P id args'.toArray w λe w'=>∃ ρ' v',e = .returned v'/\ρ.le ρ'/\VRel ρ' v v'/\bg c ρ' H' w':=by
 unfold jF at h
 split at h
 case h_2=>cases h
 rename_i fn hfn
 split at h
 case h_2=>cases h
 rename_i cd hcd
 split at h
 case h_2=>cases h
 rename_i f0 V0
 rw[pick2_eq] at h
 split at h
 case isFalse=>cases h
 rename_i hlen
 have hlen':args.length<=fn.ntmps:=by simpa[Nat.ble_eq] using hlen
 obtain ⟨lv,f1,l,hr,hlv,hl,rfl⟩:=Fj h
 obtain ⟨k1,w1⟩:=Fh hno hcall hit hk hm (vk hno hcall hit hk hm rounds rounds) rounds cd _ _ _ _ _ hr
 refine ⟨k1,λc cU cA ρ w args' he hargs=>callsIn_wide (n:=20) |>.1 (callsIn_of_wp_marks hfn hcd trivial (wpIn_wide.2 ?_))⟩
 subst cU
 have pq:yQ c.K c ρ f0 { tmps:=args'.toArray++Array.replicate (fn.ntmps-args'.toArray.size) undef,defers:=[] }:=by
  refine ⟨{ tmps:=args.toArray++Array.replicate (fn.ntmps-args.toArray.size) undef,defers:=[] },?_,?_,λ_ _ h=>h⟩
  .
   obtain ⟨e1,e2⟩:=BG args V0;refine ⟨by rw[e1];simp;omega,λi=>?_⟩
   rw[e2];by_cases hi:i<args.length
   .
    rw[if_pos (by simp;omega)]
    have:i<(args.toArray++Array.replicate (fn.ntmps-args.toArray.size) undef).size:=by simp;omega
    simp only[Array.getD_eq_getD_getElem?];rw[Array.getElem?_append,if_pos (by simpa using hi)]
    simp
   have e3:(args.toArray++Array.replicate (fn.ntmps-args.toArray.size) undef).getD i undef=undef:=by
    simp only[Array.getD_eq_getD_getElem?];rw[Array.getElem?_append,if_neg (by simpa using hi),Array.getElem?_replicate]
    split<;>rfl
   rw[if_neg (by omega),Fr.get_eq,yU,e3]
   split<;>rfl
  refine ⟨LR.of_array ?_,rfl⟩;have:args'.toArray.size=args.toArray.size:=by simp[hargs.1]
  rw[this];simp only[Array.toList_append]
  exact hargs.append ⟨rfl,λi x y hx hy=>by
   rw[hx] at hy;cases hy
   have:x=undef:=by
    have:=List.mem_of_getElem? hx;simp at this;exact this.2
   subst this;exact .undef⟩
 refine w1 c c.K rfl cA ρ _ w pq he _ λK1 ρ' ar' w' m1 m2 m3=>?_
 obtain ⟨a,hr',hs',hmk⟩:=m2
 have hdr:=hs'.dr
 have fin:=BH (fn:=fn) (c:=c) (K0:=c.K) hr' hs' hl (R:=λe w'=>∃ ρ' v',e = .returned v'/\ρ.le ρ'/\VRel ρ' (rz l) v'/\bg c ρ' H' w') (λv' w2 p1 p2=>⟨ρ',v',rfl,m1,p1,p2⟩) a.defers K1 w' hmk m3
 rw[<-hdr] at fin
 rcases hlv with rfl|rfl
 .
  exact fin
 exact fin
theorem sn (K:bP) (G rounds:Nat) (id:FuncId) (args:List Value) (H:Mem):iO P G K rounds 0 id args H=none:=rfl
theorem gh (K:bP) (G rounds n:Nat) (id:FuncId) (args:List Value) (H:Mem):iO P G K rounds (n+1) id args H=match K id args with|some v=>if addrFreeL args&&addrFree v then some (v,H) else none|none=>iB (jl P K id args H) (iB (jF P G (iO P G K rounds n) rounds id args H) (yu P K id args H)):=by
 show Option.rec (motive:=λ_=>Option (Value×Mem)) (iB (jl P K id args H) (iB (jF P G (iO P G K rounds n) rounds id args H) (yu P K id args H))) (λv=>pick2 (addrFreeL args&&addrFree v) (some (v,H)) none) (K id args)=_
 cases K id args with
 |none=>rfl
 |some v=>exact pick2_eq _ _ _
theorem HT {K:bP} {id:FuncId} (h:K id jk=none) (args:List Value) (H:Mem):jl P K id args H=none:=by
 unfold jl
 split
 .
  rw[h]
 rfl
theorem Oq {K:bP} (hK:dP P GR K) {id:FuncId} {args:List Value} {H H':Mem} {v:Value} (h:jl P K id args H=some (v,H')) {c:Cx} (cU:c.P=P) {ρ:Ren} {w:World} {args':List Value} (he:bg c ρ H w) (hargs:LR (VRel ρ) args args') :
 Calls P id args'.toArray w λe w'=>∃ ρ' v',e = .returned v'/\ρ.le ρ'/\VRel ρ' v v'/\bg c ρ' H' w':=by
 subst cU
 unfold jl at h
 split at h
 case h_2=>cases h
 rename_i i n c0
 split at h
 case h_2=>cases h
 rename_i u b hu hb
 rw[pick2_eq] at h
 split at h
 case isFalse=>cases h
 rename_i hcond
 simp only[Bool.and_eq_true,Nat.beq_eq] at hcond
 obtain ⟨⟨⟨⟨⟨f1,f2⟩,f3⟩,f4⟩,f5⟩,f6⟩:=hcond
 have f2:=Nat.le_of_ble_eq_true f2
 have f4:=Nat.le_of_ble_eq_true f4
 obtain ⟨t1,t2,t3⟩:=Fi f6
 split at h
 case h_2=>cases h
 rename_i H1 bM
 cases h
 obtain ⟨v',t',rfl,hv,ht⟩:=hargs.pL
 have ht':t'=[]:=ht.Bk
 subst ht'
 obtain ⟨k1,k2,k3,k4,k5⟩:=iQ bM
 obtain ⟨hg,hl⟩:=alive_some hb
 cases hv with
 |
  slice _ _ _ _ r x hr =>
  obtain ⟨r',x',C,fr,s,e1,e2,e3,e4,e5,e6,e7,e8⟩:=he.blk i b hg hl;rw[hr] at e1;cases e1;have hL:¬i<c.L:=by have:=he.lk;omega
  have own:=e2.resolve_left λh=>hL h.1
  have unf:=e4.resolve_left hL
  have hs:s=1:=by
   have:=e5.1.resolve_left hL;rw[t3] at this;cases this;rfl
  subst hs;have spare:=e8.resolve_left hL;have hC:C.size=c0+x:=by rw[e6,f3,Nat.mul_one]
  have h63:C.size<9223372036854775808:=by
   rcases spare.room with h1|h1|h1
   .
    omega
   .
    have:=h1 1 t3;omega
   omega
  have hbytes:∀(j:Nat) v,C[j]? = some v->∃k:Int,v = .int .u8 k:=by
   intro j v hv;by_cases hj:j<b.cells.length
   .
    have hc:=List.getElem?_eq_getElem hj;obtain ⟨k,hk⟩:=Oo (List.all_eq_true.1 f5 _ (List.getElem_mem hj));obtain ⟨v2,m1,m2⟩:=e7.2 j _ hc (by rw[hk];rfl)
    rw[hv] at m1;cases m1;rw[hk] at m2;cases m2;exact ⟨k,rfl⟩
   rcases spare.zero j v (by omega) hv with ⟨z,hz,hm⟩|⟨_,rfl⟩
   .
    rw[t2] at hz;cases hz;simp[Value.cells] at hm;exact ⟨0,hm⟩
   exact ⟨0,rfl⟩
  have hcall:=hK.VY id v hu w r n b.elem fr C e3 unf (by omega) h63 t1 hbytes
  rw[hC] at hcall;refine hcall.mono ?_;rintro e w' ⟨rfl,htn⟩;refine ⟨ρ,v,rfl,Ren.le_refl _,aU _ f1,(he.kill bM).turned own htn ⟨C,_,fr,e3⟩ λj bj q y hj nP hq e=>?_⟩
  subst e;obtain ⟨g1,g2⟩:=k3 j bj hj (.inl nP);exact g2 (he.inj j i bj b q y x g1 nP hg hl hq hr)
theorem Fk {K:bP} {id:FuncId} {args:List Value} {H H':Mem} {v:Value} (h:jl P K id args H=some (v,H')):cn H H':=by
 unfold jl at h
 split at h
 case h_2=>cases h
 split at h
 case h_2=>cases h
 rw[pick2_eq] at h
 split at h
 case isFalse=>cases h
 split at h
 case h_2=>cases h
 rename_i H1 bM
 cases h
 unfold kill at bM
 split at bM
 .
  exact .set bM
 cases bM
theorem sq {K:bP} {id:FuncId} {args:List Value} {H H1:Mem} {v:Value} (h:yu P K id args H=some (v,H1)):∃(i:Nat) (s:ByteArray) (items:Array Value) (b:Blk),args=[.pointer (some ⟨i,0,none⟩)]/\P.funcs[id]? = none/\v = .tuple (fk::items.toList).toArray/\alive H i=some b/\b.cells=[.string s]/\kill H i=some H1/\addrFreeL items.toList=true/\K id [fk,.string s]=some (.tuple items):=by
 unfold yu at h
 split at h
 case h_2=>cases h
 rename_i i
 split at h
 case h_2=>cases h
 rename_i hnone
 split at h
 case h_2=>cases h
 rename_i b hb
 split at h
 case h_2=>cases h
 rename_i s hs
 split at h
 case h_2=>cases h
 rename_i items hki
 rw[pick2_eq] at h
 split at h
 case isFalse=>cases h
 rename_i hfree
 split at h
 case h_2=>cases h
 rename_i H1 bM
 cases h
 exact ⟨i,s,items,b,rfl,hnone,rfl,hb,hs,bM,hfree,hki⟩
theorem Fl {G rounds:Nat} {id:FuncId} {args:List Value} {H H':Mem} {v:Value} (h:jF P G call rounds id args H=some (v,H')):P.funcs[id]? ≠ none:=by
 unfold jF at h
 split at h
 .
  rename_i fn hfn;rw[hfn];simp
 cases h
theorem vo (hno:cP P) (hm:P.follows .mixedOrders=true) {K:bP} (hK:dP P GR K) (G rounds:Nat):∀n,jG P G GR (iO P G K rounds n)/\bJ (iO P G K rounds n)/\tP P (iO P G K rounds n)
 |0=>⟨λf args H v H' h=>(by rw[sn] at h;cases h),λf args H v H' h=>(by rw[sn] at h;cases h),λf i H v H' _ h=>(by rw[sn] at h;cases h)⟩
 |
  n+1=>by
  obtain ⟨ih1,ih2,ih3⟩:=vo hno hm hK G rounds n;refine ⟨λf args H v H' h Sy c cU cA ρ w args' he hargs=>?_,λf args H v H' h=>?_,λf i H v H' hnone h=>?_⟩
  .
   rw[gh] at h;split at h
   .
    rename_i u hu;split at h
    .
     rename_i hf;cases h;simp only[Bool.and_eq_true] at hf;rw[hargs.dU hf.1];refine (hK.calls f args _ hu hf.1 w (he.Dd cA)).mono ?_;rintro e w' ⟨rfl,hb⟩;exact ⟨ρ,_,rfl,Ren.le_refl _,aU _ hf.2,he.grow hb⟩
    cases h
   unfold iB at h;split at h
   .
    rename_i q hq;cases h;exact Oq hK hq cU he hargs
   split at h
   .
    rename_i q hq;cases h;exact (iy hno ih1 ih3 ih2 hm rounds hq).2 c cU cA ρ w args' he hargs
   obtain ⟨_,_,items,_,_,hnone,rfl,_⟩:=sq h;rcases Sy with Sy|Sy
   .
    exact absurd hnone Sy
   have:addrFree (.tuple (fk::items.toList).toArray)=false:=rfl;rw[this] at Sy;cases Sy
  .
   rw[gh] at h;split at h
   .
    split at h
    .
     cases h;exact .refl _
    cases h
   unfold iB at h;split at h
   .
    rename_i q hq;cases h;exact Fk hq
   split at h
   .
    rename_i q hq;cases h;exact (iy hno ih1 ih3 ih2 hm rounds hq).1
   obtain ⟨i,_,_,_,_,_,_,_,_,bM,_⟩:=sq h;unfold kill at bM;split at bM
   .
    exact .set bM
   cases bM
  rw[gh] at h;split at h
  .
   rename_i u hu;have:addrFreeL [.pointer (some ⟨i,0,none⟩)]=false:=rfl;rw[this] at h;simp at h
  unfold iB at h;split at h
  .
   rename_i q hq;simp[jl] at hq
  split at h
  .
   rename_i q hq;exact absurd hnone (Fl hq)
  obtain ⟨i',s,items,b,e,_,rfl,k1,k2,k3,k4,k5⟩:=sq h;cases e;exact ⟨s,items,b,rfl,k1,k2,k3,k4,hK.VZ _ _ _ k5 k4⟩
theorem HU (hno:cP P) (hm:P.follows .mixedOrders=true) {K:bP} (hK:dP P GR K) (G rounds n:Nat):jG P G GR (iO P G K rounds n)/\bJ (iO P G K rounds n) :=
 ⟨(vo hno hm hK G rounds n).1,(vo hno hm hK G rounds n).2.1⟩
theorem Dm (hno:cP P) (hm:P.follows .mixedOrders=true) {K:bP} (hK:dP P GR K) {G rounds n:Nat} {f:FuncId} {args:List Value} {H H':Mem} {v:Value} (h:iO P G K rounds n f args H=some (v,H'))
 (Sy:P.funcs[f]? ≠ none\/addrFree v=true) {c:Cx} (cU:c.P=P) (cA:c.At G GR) {ρ:Ren} {w:World} {args':List Value} (he:bg c ρ H w) (hargs:LR (VRel ρ) args args') :
 Calls P f args'.toArray w λe w'=>∃ ρ' v',e = .returned v'/\ρ.le ρ'/\VRel ρ' v v'/\bg c ρ' H' w' :=
 (HU hno hm hK G rounds n).1 f args H v H' h Sy c cU cA ρ w args' he hargs
theorem p5:∀(l:List Blk) {H H':Mem},H.oD l=some H'->H'.size=H.size+l.length/\H'.lk=H'.size/\∀i,H'.get i=if i<H.size then H.get i else l[i-H.size]?
 |
  [],H,H',h=>by
  simp only[Mem.oD,Option.some.injEq] at h;subst h;refine ⟨rfl,rfl,λi=>?_⟩
  show H.get i=_;split
  .
   rfl
  rename_i hi;cases hg:H.get i with
  |none=>simp
  |some b=>exact absurd (Mem.bI hg) hi
 |
  b::l,H,H',h=>by
  simp only[Mem.oD] at h;split at h
  .
   rename_i H1 hp;obtain ⟨q1,q2,q3⟩:=Mem.bf hp;obtain ⟨r1,r2,r3⟩:=p5 l h;refine ⟨by rw[r1,q1];simp;omega,r2,λi=>?_⟩
   rw[r3,q1,q3];by_cases h1:i<H.size
   .
    rw[if_pos (by omega),if_pos h1,if_neg (by omega)]
   by_cases h2:i=H.size
   .
    subst h2;rw[if_pos (by omega),if_neg h1,if_pos rfl];simp
   rw[if_neg (by omega),if_neg h1]
   have:i-H.size=(i-(H.size+1))+1:=by omega
   rw[this];simp
  cases h
theorem bg.rows {rows:List Blk} {H:Mem} (hH:Mem.oD Mem.empty rows=some H) {w:World} (hw:dV rows w) (hfree:∀b∈rows,addrFreeL b.cells=true/\cO b=false) :
 bg ⟨P,w.heap.size,rows.length,rows.length,w,λ_=>none⟩ (λi=>if i<rows.length then some (i,0) else none) H w:=by
 obtain ⟨e1,e2,e3⟩:=p5 rows hH
 have es:H.size=rows.length:=by rw[e1];simp[Mem.empty]
 have eg:∀i,H.get i=rows[i]? := λi=>by rw[e3,if_neg (by simp[Mem.empty])];simp[Mem.empty]
 refine ⟨⟨Below.refl _ _,λr o h=>by cases h⟩,Nat.le_refl _,λi x h=>?_,?_,?_,λg hg=>if_pos hg,λi b hi hl=>?_,λi j bi bj r x y hi _ hj _ hr hr'=>?_,λi b hi hm=>?_,λi j bi bj r x y hi hm=>?_⟩
 .
  rw[es];split at h
  .
   assumption
  cases h
 .
  rw[e2,es];exact Nat.le_refl _
 .
  rw[es];exact Nat.le_refl _
 .
  rw[eg] at hi;have hlt:i<rows.length:=(List.getElem?_eq_some_iff.1 hi).1;obtain ⟨fr,h1,h2⟩:=hw.2 i b hi hl;refine ⟨i,0,b.cells.toArray,fr,0,if_pos hlt,.inl ⟨hlt,rfl⟩,h1,.inr h2,⟨.inl hlt,λ_=>rfl⟩,by simp,⟨by simp,λj v hv _=>⟨v,by simpa using hv,?_⟩⟩,.inl hlt⟩
  exact aU _ (iP (hfree b (List.mem_of_getElem? hi)).1 hv)
 .
  split at hr
  .
   split at hr'
   .
    cases hr;cases hr';rfl
   cases hr'
  cases hr
 .
  rw[eg] at hi;rw[(hfree b (List.mem_of_getElem? hi)).2] at hm;cases hm
 rw[eg] at hi
 rw[(hfree bi (List.mem_of_getElem? hi)).2] at hm;cases hm
theorem wM (hno:cP P) (hm:P.follows .mixedOrders=true) {K:bP} {rows:List Blk} (hK:dP P rows K) {rounds depth:Nat} {f:FuncId} {args:List Value} {v:Value} (h:xM P K rows rounds depth f args=some v) (w:World) (hw:dV rows w) :
 Calls P f args.toArray w λe w'=>e = .returned v/\Below w.heap.size w w':=by
 unfold xM at h
 split at h
 .
  rename_i H hH;split at h
  .
   rename_i u H' hc;rw[pick2_eq] at h;split at h
   .
    rename_i hf;cases h;simp only[Bool.and_eq_true,List.all_eq_true,Bool.not_eq_true'] at hf;refine (Dm hno hm hK hc (.inr hf.1.1) (c:=⟨P,w.heap.size,rows.length,rows.length,w,λ_=>none⟩) rfl ⟨rfl,hw,hw.1⟩ (bg.rows hH hw hf.2) (args':=args) ⟨rfl,nC args hf.1.2⟩).mono ?_
    rintro e w' ⟨ρ',v',rfl,h1,h2,h3⟩;exact ⟨by rw[Ev.dU h2 hf.1.1],h3.below⟩
   cases h
  cases h
 cases h
theorem Fm (h:(P.funcs.toList.all λfn => !(fn.name == "runtime.NumGoroutine"))=true):cP P:=by
 intro id fn hfn hname
 have hm:fn∈P.funcs.toList:=by have:=Array.mem_of_getElem? hfn;simpa using this
 have:=List.all_eq_true.1 h fn hm
 simp[hname] at this
end
end Go.Ev

namespace Go.Ev
open Go.WideShapes
end Go.Ev

namespace Go.Ev
def J4 {H:Type}:DataW H->Value
 |.lit (.int k n)=>.int k n
 |.lit (.string s)=>.string ⟨s.toArray⟩
 |.lit (.bool b)=>.bool b
 |_=>undef
section
variable {P:Program} {w:World}
theorem HV {H:Type} {enc:TypeId×Value->H} {sp:Nat->Bool} {held:Bool} {base fuel n:Nat} {t e:TypeId} {cs:List Value} {ds:List (DataW H)} {p:List MemPlace} (ht:P.underlying t=some (.array n e)) (he:(∃k,P.underlying e=some (.int k))\/P.underlying e=some .string)
 (hc:P.cellsOf e=1) (hct:P.cellsOf t=n) (h:DataW.trod enc P w base sp held fuel t cs=some (.agg ds,p)):cs=ds.map J4:=by
 obtain ⟨xs,m,_,ex,hlen,hxl,hel⟩:=DataW.trod_array ht h
 have hds:ds=xs.map (·.1):=DataW.agg.inj (Prod.mk.inj ex).1
 subst hds
 apply List.ext_getElem?
 intro i
 by_cases hi:i<n
 .
  have h1:=hel i hi;rw[hc,Nat.mul_one,List.getElem?_eq_getElem (by omega:i<xs.length)] at h1
  have h2:∃v,(cs.drop i).take 1=[v]/\v=J4 (xs[i]'(by omega)).1:=by
   rcases he with ⟨k,he⟩|he
   .
    obtain ⟨z,e1,e2,_⟩:=DataW.trod_int he h1;exact ⟨_,e1,by rw[e2];rfl⟩
   obtain ⟨s,e1,e2,_⟩:=DataW.trod_string he h1;exact ⟨_,e1,by rw[e2];simp[J4]⟩
  obtain ⟨v,e1,e2⟩:=h2
  have e3:cs[i]? = some v:=by
   have h0:((cs.drop i).take 1)[0]? = some v:=by rw[e1];rfl
   simpa using h0
  rw[e3,e2,List.getElem?_map,List.getElem?_map,List.getElem?_eq_getElem (by omega:i<xs.length)]
  rfl
 rw[List.getElem?_eq_none (by omega),List.getElem?_eq_none (by simp;omega)]
theorem laid_mem:∀{laid:List (String×DataW Unit)} {ps:List MemPlace},DataW.LaidVars P w laid ps->∀{nm:String} {d:DataW Unit},(nm,d)∈laid ->
 ∃g t cs fuel p,P.globalNamed nm=some g/\(P.globals[g]?).map (·.type)=some t/\w.var? P nm=some cs/\DataW.trod (λ_=>()) P w 0 (λ_=>true) false fuel t cs.toList=some (d,p)/\∀x∈MemPlace.row ⟨g,0,none⟩ cs.size,x∈ps
 |[],_,_,_,_,hm=>by cases hm
 |
  (n,d)::r,ps,h,nm,d',hm=>by
  obtain ⟨g,t,cs,fuel,p,q,h1,h2,h3,h4,h5,rfl⟩:=h;rcases List.mem_cons.1 hm with heq|hm
  .
   cases heq;exact ⟨g,t,cs,fuel,p,h1,h2,h3,h4,λx hx=>by simp[hx]⟩
  obtain ⟨g',t',cs',fuel',p',k1,k2,k3,k4,k5⟩:=laid_mem h5 hm;exact ⟨g',t',cs',fuel',p',k1,k2,k3,k4,λx hx=>by simp[k5 x hx]⟩
def acm {H:Type}:DataW H->Option (List Value)
 |.agg ds=>some (ds.map J4)
 |_=>none
theorem laid_at {laid:List (String×DataW Unit)} (h:laidMet P laid w) {nm:String} {d:DataW Unit} {k:Nat} (hm:laid[k]? = some (nm,d)) {cv:List Value} (hd:acm d=some cv) {g n:Nat} {t e:TypeId} (hg:P.globalNamed nm=some g) (ht:(P.globals[g]?).map (·.type)=some t)
 (hu:P.underlying t=some (.array n e)) (he:(∃k,P.underlying e=some (.int k))\/P.underlying e=some .string) (hc:P.cellsOf e=1) (hct:P.cellsOf t=n) (hn:cv.isEmpty=false) :
 ∃t',w.heap[g]? = some (.cells cv.toArray t' (0,0)):=by
 obtain ⟨ps,h1,_,h2⟩:=h
 obtain ⟨g',t',cs,fuel,p,k1,k2,k3,k4,k5⟩:=laid_mem h1 (List.mem_of_getElem? hm)
 rw[hg] at k1;cases k1
 rw[ht] at k2;cases k2
 cases d with
 |
  agg ds =>
  simp only[acm,Option.some.injEq] at hd;have e1:cs.toList=cv:=by rw[<-hd];exact HV hu he hc hct k4
  have hpos:0<cs.size:=by
   have h4:cs.size=cv.length:=by rw[<-e1];simp
   have h3:cv.length≠0:=by intro h0;rw[List.length_eq_zero_iff.1 h0] at hn;cases hn
   omega
  have hrow:MemPlace.cell g 0∈MemPlace.row ⟨g,0,none⟩ cs.size:=by
   unfold MemPlace.row;simp only[List.mem_map,List.mem_range];exact ⟨0,hpos,by simp⟩
  obtain ⟨⟨c,u,hh⟩,_⟩:=h2 g 0 (k5 _ hrow);simp only[World.var?,hg,Option.bind_some,hh,Option.some.injEq] at k3;subst k3;exact ⟨u,by rw[hh,<-e1]⟩
 |_=>cases hd
def xQ:Blk:=⟨[],0,false,false⟩
theorem yV {cv:List Value} {t':TypeId} {g:Nat} (h:w.heap[g]? = some (.cells cv.toArray t' (0,0))):∃fr,w.heap[g]? = some (.cells (Blk.mk cv t' true false).cells.toArray (Blk.mk cv t' true false).elem fr)/\kg (Blk.mk cv t' true false).cells.toArray fr :=
 ⟨(0,0),h,j5 _⟩
theorem XA {o:Obj} {g:Nat} (h:w.heap[g]? = some o):g<w.heap.size:=(Array.getElem?_eq_some_iff.1 h).1
end
end Go.Ev

/- Regions whose order is drawn. Plans for regions whose order is drawn. Ranges over functions: rows beside the run's own, what an iterator promises, code in a round. Bodies and calls: the evaluator's answer is the machine's. Structs that came in by value: their cells. Package-level variables that read as given data: the rows that the evaluator starts with. -/
import Derived.Test.YtpaddkkfefgkfaaGreatDoorLyb
import Derived.RangeFuncLeaves
import Derived.RangeFuncRecord
import Derived.RangeFuncSeq
import Derived.OrdersIn
import Derived.TacticsIn
import Derived.LoopNIn
import Derived.Scope
import Derived.WideShapes
import Derived.ProofKit
import Derived.OpenShut
import Derived.ChangeArms
import Derived.FnData
import GoSem.ClaimJoined
set_option linter.unusedVariables false
set_option linter.unusedSimpArgs false

namespace Go.Ev
open Go.RowKit
section
variable {P:Program} {call:aM} {ops:Array Oper} {GR:List Blk}
inductive Reach (ops:Array Oper):Nat->Nat->Prop where
 |one {i:Nat} {o:Oper} {e:Edge} (ho:ops[i]? = some o) (he:e∈o.after) (hb:Region.binds .any e=true):Reach ops i e.on
 |more {i:Nat} {o:Oper} {e:Edge} {j:Nat} (ho:ops[i]? = some o) (he:e∈o.after) (hb:Region.binds .any e=true) (h:Reach ops e.on j):Reach ops i j
def Gr (ops:Array Oper) (listed:Array Bool) (i:Nat):Prop:=∀(j:Nat) (oj:Oper),ops[j]? = some oj->eA oj.op=true->listed.getD j true=true->Reach ops i j
def D8 (listed:Array Bool):Nat->Nat
 |0=>0
 |n+1=>D8 listed n+if listed.getD n true=true then 0 else 1
theorem D9 {listed:Array Bool} {i:Nat}:∀n,D8 (listed.setIfInBounds i true) n+(if i<n/\listed.getD i true=false then 1 else 0)=D8 listed n
 |0=>by simp[D8]
 |
  n+1=>by
  have ih:=D9 (listed:=listed) (i:=i) n;simp only[D8];by_cases hin:i=n
  .
   subst hin;rw[if_neg (by omega)] at ih
   have e:(listed.setIfInBounds i true).getD i true=true:=by
    by_cases hlt:i<listed.size<;>simp[Array.getD,hlt]
   rw[e];cases hb:listed.getD i true with
   |true=>simp;omega
   |false=>simp;omega
  rw[getD_set_ne true hin];by_cases h1:i<n
  .
   have:i<n+1:=by omega
   simp only[h1,this,true_and] at ih ⊢;omega
  have:¬i<n+1:=by omega
  simp only[h1,this,false_and,if_false] at ih ⊢;omega
def cnt (ops:Array Oper) (listed:Array Bool):Nat:=D8 listed ops.size
theorem ID {listed:Array Bool} {i:Nat} (hi:i<ops.size) (h:listed.getD i true=false):cnt ops (listed.setIfInBounds i true)+1=cnt ops listed:=by
 have:=D9 (listed:=listed) (i:=i) ops.size
 rw[if_pos ⟨hi,h⟩] at this
 exact this
theorem IE {listed:Array Bool}:∀n,D8 listed n<=n
 |0=>Nat.le_refl _
 |
  n+1=>by
  have:=IE (listed:=listed) n;simp only[D8];split<;>omega
theorem uH {listed:Array Bool} {i:Nat} (hi:i∈Region.ready .any ops listed):i<ops.size/\listed.getD i true=false/\cnt ops (listed.setIfInBounds i true)+1=cnt ops listed:=by
 obtain ⟨h0,o,ho,_⟩:=mem_ready.1 hi
 have hlt:=(Array.getElem?_eq_some_iff.1 ho).1
 exact ⟨hlt,h0,ID hlt h0⟩
def Ext (H H2:Mem):Prop:=∀(i:Nat) (b:Blk),H.get i=some b->H2.get i=some b
def Ea:Option Nat->Mem->Mem->Prop
 |none,H,H2=>Ext H H2
 |some i,H,H2=>∀b:Blk,H.get i=some b->H2.get i=some b
theorem Ea.Gs {pr:Option Nat} {H H2:Mem} (h:Ext H H2):Ea pr H H2:=by
 cases pr with
 |none=>exact h
 |some i=>exact h i
inductive gW (P:Program) (call:aM) (ops:Array Oper) (Fin:Act->Mem->Prop) (RL:List (Nat×Option Nat)):Option Nat->Array Bool->List Nat->Act->Mem->Prop where
 |pay {listed:Array Bool} {l1 l2:List Nat} {i:Nat} {o:Oper} {R:Option (List Nat)} {lk:Bool} {a a':Act} {H H':Mem} (ho:ops[i]? = some o) (hm:makes P o=true) (hst:gD P call ops R lk o a H=some (a',H')) (hap:∀m∈l1++l2,∀om,ops[m]? = some om->∀x,o.dst=some x->x ∉ om.looksAt ops)
  (h:gW P call ops Fin RL none listed (l1++l2) a' H'):gW P call ops Fin RL none listed (l1++i::l2) a H
 |step {listed:Array Bool} {bz:List Nat} {a:Act} {H:Mem} (h0:Region.ready .any ops listed=[]->bz=[]/\Fin a H) (h:∀i∈Region.ready .any ops listed,gW P call ops Fin RL (some i) listed bz a H):gW P call ops Fin RL none listed bz a H
 |sync {listed:Array Bool} {bz:List Nat} {i:Nat} {o:Oper} {R:Option (List Nat)} {lk:Bool} {a a':Act} {H H':Mem} (ho:ops[i]? = some o) (hst:gD P call ops R lk o a H=some (a',H')) (hR:∀q∈RL,Reach ops i q.1\/Ea q.2 H H') (hap:∀m∈bz,∀om,ops[m]? = some om->(∀x,om.dst=some x->x ∉ o.looksAt ops/\o.dst≠some x)/\∀x,o.dst=some x->x ∉ om.looksAt ops)
  (h:gW P call ops Fin RL none (listed.setIfInBounds i true) bz a' H'):gW P call ops Fin RL (some i) listed bz a H
 |Uf {listed:Array Bool} {bz:List Nat} {i:Nat} {o:Oper} {a:Act} {H:Mem} (ho:ops[i]? = some o) (hm:makes P o=true) (oU:(j5 P a.eval o).isSome=true) (hd:∀m∈bz,∀om,ops[m]? = some om->om.dst≠o.dst/\∀x,om.dst=some x->x ∉ o.looksAt ops)
  (h:gW P call ops Fin RL none (listed.setIfInBounds i true) (i::bz) a H):gW P call ops Fin RL (some i) listed bz a H
theorem kQ {o:Oper} (h:makes P o=true):o.guard=none/\(∃d,o.dst=some d)/\((∃t,o.op = .alloc t)\/∃t len ps,o.op = .buildSlice t len ps):=by
 unfold makes at h
 split at h
 .
  rename_i h1 h2 h3;exact ⟨h2,⟨_,h3⟩,.inl ⟨_,h1⟩⟩
 .
  rename_i h1 h2 h3;exact ⟨h2,⟨_,h3⟩,.inr ⟨_,_,_,h1⟩⟩
 cases h
theorem rF {o:Oper} (h:makes P o=true):quiet P o.op=false:=by
 obtain ⟨_,_,⟨t,h1⟩|⟨t,l,ps,h1⟩⟩:=kQ h<;>(rw[h1];rfl)
theorem Rh {H H1:Mem} {n:Nat} {b:Blk} (h:({ H with lk:=n }:Mem).push b=some H1):H.push b=some { H1 with lk:=H.lk }:=by
 unfold Mem.push at h ⊢
 cases hs:H.t.set H.size b with
 |none=>simp only[hs] at h;cases h
 |some t=>simp only[hs] at h;cases h;rfl
theorem Ri {o:Oper} (hm:makes P o=true) {ev:Operand->Value} {H H':Mem} {v:Value} (h:opA P call ev o H=some (v,H')) :
 ∃te cs sh,j5 P ev o=some (te,cs,sh)/\H.push ⟨cs,te,true,true⟩=some H'/\v=qN sh H.size:=by
 obtain ⟨_,_,⟨t,h1⟩|⟨t,len,ps,h1⟩⟩:=kQ hm
 .
  unfold opA at h;rw[h1] at h;simp only at h;unfold kf at h;split at h
  .
   rename_i z hz;obtain ⟨h2,h3⟩:=lM h;exact ⟨t,z.cells.toList,none,by unfold j5;rw[h1];simp only[hz],h2,h3⟩
  cases h
 unfold opA at h
 rw[h1] at h
 simp only at h
 unfold fM at h
 split at h
 .
  rename_i e hu;split at h
  .
   rename_i s z hs hz;split at h
   .
    cases h
   rename_i hsz;split at h
   .
    rename_i cs hf;obtain ⟨h2,h3⟩:=ko h;exact ⟨e,cs.toList,some len,by unfold j5;rw[h1];simp only[hu,hs,hz,if_neg hsz,hf],h2,h3⟩
   cases h
  cases h
 cases h
theorem uI {o:Oper} {R:Option (List Nat)} {lk:Bool} {a a':Act} {H H':Mem} (hm:makes P o=true) (h:gD P call ops R lk o a H=some (a',H')) :
 ∃te cs sh,j5 P a.eval o=some (te,cs,sh)/\H.push ⟨cs,te,true,true⟩=some H'/\a'=a.put o.dst (qN sh H.size):=by
 obtain ⟨hg,_,_⟩:=kQ hm
 have hw:Region.wanted o (yielded ops a.tmps)=true:=by unfold Region.wanted;rw[hg]
 have one:∀{H H':Mem} {a':Act},dc P call ops o a H=some (a',H')->∃te cs sh,j5 P a.eval o=some (te,cs,sh)/\H.push ⟨cs,te,true,true⟩=some H'/\a'=a.put o.dst (qN sh H.size):=by
  intro H H' a' h;unfold dc at h;rw[if_pos hw] at h;simp only[Option.map_eq_some_iff] at h;obtain ⟨⟨v,H1⟩,h1,heq⟩:=h;cases heq;obtain ⟨te,cs,sh,e1,e2,e3⟩:=Ri hm h1;exact ⟨te,cs,sh,e1,e2,by rw[e3]⟩
 rcases kq h with ⟨h,_⟩|⟨_,⟨a1,H1⟩,h1,heq⟩
 .
  exact one h
 cases heq
 obtain ⟨te,cs,sh,e1,e2,e3⟩:=one h1
 exact ⟨te,cs,sh,e1,Rh e2,e3⟩
theorem Eb {ev ev':Operand->Value} {ps:Array (Nat×Operand)} (h:∀q∈ps,ev q.2=ev' q.2):gz ev ps=gz ev' ps:=by
 unfold gz
 apply List.map_congr_left
 intro q hq
 rw[h q (by simpa using hq)]
theorem Gt {ev ev':Operand->Value} {o:Oper} (h:∀x∈o.op.operands,ev x=ev' x):j5 P ev o=j5 P ev' o:=by
 unfold j5
 split
 .
  rfl
 .
  rename_i t len ps hop;rw[Eb λq hq=>h q.2 (by rw[hop];simp[Op.operands];exact ⟨q.1,by simpa using hq⟩)]
 rfl
theorem oV {o:Oper} (a:Act) {dst:Option Tmp} (v:Value) (h:∀d,dst=some d->d ∉ o.looksAt ops):j5 P (a.put dst v).eval o=j5 P a.eval o :=
 Gt λx hx=>Act.eval_put λd hd ZJ=>h d hd (by
  subst ZJ;exact List.mem_append_left _ (List.mem_filterMap.2 ⟨.tmp d,by simpa using hx,rfl⟩))
theorem Mb {ρ:Ren} {o:Oper} {ev ev':Operand->Value} (aC:Ud ρ ev ev' o.op) {te:TypeId} {cs:List Value} {sh:Option Nat} (h:j5 P ev o=some (te,cs,sh)) :
 (∃s,aK P te=some s)/\∃C:Array Value,LR (VRel ρ) cs C.toList/\∀w:World,(execOp ev' o).run P w = .ok (.value (qN sh w.heap.size)) (w.alloc (.cells C te)):=by
 unfold j5 at h
 split at h
 .
  rename_i t hop;split at h
  .
   rename_i z hz;cases h;obtain ⟨_,h2,_⟩:=fQ hz (default:World);refine ⟨sN hz,z.cells,(aO (ρ:=ρ) z h2).cells.list,λw=>?_⟩
   obtain ⟨h1,_⟩:=fQ hz w;have:(Instr.alloc te true (.tuple #[])).run P w = .ok (.pointer (some ⟨w.heap.size,0,none⟩)) (w.alloc (.cells z.cells te)):=by simp[Instr.alloc,h1,newVar,newRow]
   simp[execOp,hop,this,qN]
  cases h
 .
  rename_i t len ps hop;have hp:=PR.parts (ev:=ev) (ev':=ev') ps.toList λq hq=>aC q.2 (by simp[hop,Op.operands];exact ⟨q.1,by simpa using hq⟩)
  split at h
  .
   rename_i e hu;split at h
   .
    rename_i s z hs hz;split at h
    .
     cases h
    rename_i hsz;split at h
    .
     rename_i cs' hf;cases h;obtain ⟨s',hs',hzz,hzn,_⟩:=xP (ρ:=ρ) hz (default:World);rw[hs] at hs';cases hs';obtain ⟨C,hf',hcs⟩:=oR _ _ _ _ _ hp hzz hf;refine ⟨⟨s,hs⟩,C,hcs.list,λw=>?_⟩
     have Cp:Instr.fill (λi=>some (i*s,s)) z (ps.toList.map λq=>(q.1,ev' q.2))=some C:=hf'
     have hrun:(Instr.buildSlice t len (ps.toList.map λq=>(q.1,ev' q.2)).toArray).run P w = .ok (.slice (some ⟨w.heap.size,0,none⟩) len len) (w.alloc (.cells C te)):=by
      rcases oS hs hz with ⟨h0,rfl⟩|⟨h0,y,hy,rfl⟩
      .
       have LX:Array.range 0 = #[]:=rfl;simp[Instr.buildSlice,run_underlying hu,cq hs,h0,LX,Cp,newRow]
      obtain ⟨hy1,_⟩:=fQ hy w;have hsz':¬(16777216<len*s):=by simpa using hsz
      simp[Instr.buildSlice,run_underlying hu,cq hs,h0,hsz',hy1,Cp,newRow]
     have e1:(ps.map λq=>(q.1,ev' q.2))=(ps.toList.map λq=>(q.1,ev' q.2)).toArray:=by apply Array.ext';simp
     simp only[execOp,hop];simp only[Sem.run_bind]
     have:(Instr.buildSlice t len (ps.map λ(i,x)=>(i,ev' x))).run P w = .ok (.slice (some ⟨w.heap.size,0,none⟩) len len) (w.alloc (.cells C te)):=by
      rw[<-hrun,<-e1]
     rw[this];rfl
    cases h
   cases h
  cases h
 cases h
theorem Mc {ρ:Ren} {i pa:Nat} (sh:Option Nat) (h:ρ i=some (pa,0)):VRel ρ (qN sh i) (qN sh pa):=by
 cases sh with
 |none=>exact .ptr _ _ _ _ h
 |some len=>exact .slice _ _ _ _ _ _ h
def dU:List (Option Tmp×Value)->Act->Act
 |[],a=>a
 |q::l,a=>dU l (a.put q.1 q.2)
theorem xX {d:Option Tmp} {v:Value}:∀(l:List (Option Tmp×Value)) (a:Act),(∀q∈l,∀x,q.1=some x->d≠some x)->dU l (a.put d v)=(dU l a).put d v
 |[],a,_=>rfl
 |
  q::l,a,h=>by
  simp only[dU];rw[<-xX l (a.put q.1 q.2) λx hx=>h x (by simp[hx])]
  rw[Act.put_comm a q.2 v (h q (by simp))]
theorem Gu {d:Option Tmp} {v:Value} (l1 l2:List (Option Tmp×Value)) (a:Act) (h:∀q∈l1,∀x,q.1=some x->d≠some x):dU (l1++(d,v)::l2) a=dU (l1++l2) (a.put d v):=by
 induction l1 generalizing a with
 |nil=>rfl
 |
  cons q l1 ih =>
  simp only[List.cons_append,dU];rw[ih (a.put q.1 q.2) λx hx=>h x (by simp[hx])]
  rw[Act.put_comm a q.2 v (h q (by simp))]
def wV (Q:Exit->Act->World->Prop):Exit->Act->World->Prop:=λe a w=>match e with
 |.outgrown=>Q .outgrown a w
 |_=>False
theorem sY {Q:Exit->Act->World->Prop} (h:LetsOut (wV Q)):LetsOut Q:=by
 obtain ⟨a,w,h⟩:=h
 exact ⟨a,w,h⟩
theorem AL {j:Nat} {oj:Oper} {d:Option Tmp} {v:Value} (hj:ops[j]? = some oj) (h1:∀x,d=some x->x ∉ oj.looksAt ops) (h2:∀x,d=some x->oj.dst≠some x) (hsj:∀cs b,oj.op ≠ .select cs b)
 {Q:Exit->Act->World->Prop} {K:Act->World->Prop} {a:Act} {w:World} (h:wpOp P ops (wV Q) j (λa' w'=>K (a'.put d v) w') a w):wpOp P ops Q j K (a.put d v) w:=by
 unfold wpOp at *
 simp only[hj] at *
 rw[wanted_put oj a d v h1]
 split
 .
  rename_i hw;rw[if_pos hw] at h;rcases h with h|⟨hasks,ZK⟩
  case inr=>exact .inr ⟨by unfold Oper.asks at *;rw[execOp_put oj hsj a d v h1];exact hasks,sY ZK⟩
  refine .inl ?_;unfold Oper.wp at *;rw[execOp_put oj hsj a d v h1];generalize (execOp a.eval oj).run P w=r at *;cases r with
  |
   ok n w' =>
   cases n<;>simp only[Oper.upon] at h ⊢
   case value u=>rw[Act.put_comm a v u h2];exact h
   case skip=>rw[Act.put_comm a v undef h2];exact h
   case defer df =>
    rw[Act.put_defers,Act.put_comm _ v undef h2];exact h
   case enter f args =>
    refine Calls.mono h λe w'' he=>?_
    cases e with
    |returned u=>show K ((a.put d v).put oj.dst u) w'';rw[Act.put_comm a v u h2];exact he
    |panicked c=>exact he.elim
    |outgrown=>exact sY he
   case row row args=>exact Rows.mono h λu w'' he=>by rw[Act.put_comm a v u h2];exact he
  |
   halt x w' =>
   cases x<;>simp only[Oper.upon] at h ⊢
   case panic u=>exact h.elim
 rename_i hw
 rw[if_neg hw] at h
 rw[Act.put_comm a v undef h2];exact h
theorem AO {j:Nat} {oj:Oper} (hj:ops[j]? = some oj) (hsj:∀cs b,oj.op ≠ .select cs b) {Q:Exit->Act->World->Prop} {K:Act->World->Prop} {w:World}:∀(l:List (Option Tmp×Value)) (a:Act),
 (∀q∈l,(∀x,q.1=some x->x ∉ oj.looksAt ops)/\∀x,q.1=some x->oj.dst≠some x)->wpOp P ops (wV Q) j (λa' w'=>K (dU l a') w') a w->wpOp P ops Q j K (dU l a) w
 |
  [],a,_,h=>by
  have:=AL (d:=none) (v:=undef) (K:=K) hj (λx h=>by cases h) (λx h=>by cases h) hsj (a:=a) (w:=w) h
  exact this
 |
  q::l,a,hq,h=>by
  refine AO hj hsj l (a.put q.1 q.2) (λx hx=>hq x (by simp[hx])) ?_
  exact AL (Q:=wV Q) (K:=λa' w'=>K (dU l a') w') hj (hq q (by simp)).1 (hq q (by simp)).2 hsj h
abbrev Cx.kp (c:Cx) (K:Nat->Option Obj):Cx:={ c with K:=K }
theorem bg.qp {c:Cx} {ρ:Ren} {H:Mem} {w:World} {K K':Nat->Option Obj} (he:bg (c.kp K) ρ H w) (h:∀r o,K' r=some o->K r=some o):bg (c.kp K') ρ H w:=by
 have no:∀{r},K r=none->K' r=none:=λ{r} hr=>by
  cases hk:K' r with
  |none=>rfl
  |some o=>rw[h r o hk] at hr;cases hr
 refine ⟨⟨he.stay.below,λr o hr=>he.stay.kept r o (h r o hr)⟩,he.base,he.dom,he.lk,he.sM,he.cZ,λi b hi hl=>?_,he.inj,λi b hi hm=>?_,he.oy⟩
 .
  obtain ⟨r,x,C,fr,s,h1,h2,h3⟩:=he.blk i b hi hl;exact ⟨r,x,C,fr,s,h1,h2.imp (λg=>⟨g.1,no g.2⟩) (λg=>⟨g.1,no g.2⟩),h3⟩
 obtain ⟨r,es,clock,h1,h2,h3⟩:=he.maps i b hi hm
 exact ⟨r,es,clock,h1,⟨h2.1,no h2.2⟩,h3⟩
theorem bg.Gv {c:Cx} {ρ:Ren} {H:Mem} {w:World} {K:Nat->Option Obj} (he:bg (c.kp K) ρ H w) (o:Obj):bg (c.kp λr=>if r=w.heap.size then some o else K r) ρ H (w.alloc o):=by
 have lt:∀{r:Nat} {o:Obj},w.heap[r]? = some o->r<w.heap.size:=λh=>(Array.getElem?_eq_some_iff.1 h).1
 have g:=he.stay.alloc he.base o
 refine ⟨⟨g.below,λr o' hr=>?_⟩,Nat.le_trans he.base (by simp),he.dom,he.lk,he.sM,he.cZ,λi b hi hl=>?_,he.inj,λi b hi hm=>?_,he.oy⟩
 .
  simp only at hr;split at hr
  .
   rename_i h;subst h;cases hr;show (w.heap.push _)[w.heap.size]? = _;simp
  exact g.kept r o' hr
 .
  obtain ⟨r,x,C,fr,s,h1,h2,h3,h4⟩:=he.blk i b hi hl;have hne:r≠w.heap.size:=Nat.ne_of_lt (lt h3);exact ⟨r,x,C,fr,s,h1,h2.imp (λg=>⟨g.1,by show (if r=_ then _ else _)=_;rw[if_neg hne];exact g.2⟩) (λg=>⟨g.1,by show (if r=_ then _ else _)=_;rw[if_neg hne];exact g.2⟩),by rw[Below.heap_alloc _ _ _ (lt h3)];exact h3,h4⟩
 obtain ⟨r,es,clock,h1,h2,h3,h4⟩:=he.maps i b hi hm
 have hne:r≠w.heap.size:=Nat.ne_of_lt (lt h3)
 exact ⟨r,es,clock,h1,⟨h2.1,by show (if r=_ then _ else _)=_;rw[if_neg hne];exact h2.2⟩,by rw[Below.heap_alloc _ _ _ (lt h3)];exact h3,h4⟩
theorem bg.Vz {c:Cx} {ρ:Ren} {H H':Mem} {w:World} {K:Nat->Option Obj} (he:bg (c.kp K) ρ H w) {t:TypeId} {cs:List Value} {C:Array Value} {pa s:Nat} (hs:aK c.P t=some s) (hC:LR (VRel ρ) cs C.toList) (hK:K pa=some (.cells C t)) (hB:c.B<=pa) (hp:H.push ⟨cs,t,true,true⟩=some H') :
 bg (c.kp λr=>if r=pa then none else K r) (ρ.put H.size (pa,0)) H' w:=by
 have he':bg (c.kp λr=>if r=pa then none else K r) ρ H w:=he.qp λr o hr=>by
  split at hr
  .
   cases hr
  exact hr
 refine he'.add hp he'.stay he'.base he'.blk he'.maps (λi b r' y hi hl hr e=>?_) (he.stay.kept pa _ hK) ⟨hB,if_pos rfl⟩ (jz _) hs (by have:=hC.1;simp at this;omega) ?_ (λ_=>rfl) (xM.full (by have:=hC.1;simp at this;omega))
 .
  subst e;obtain ⟨r,x,C,fr,s,h1,h2,h3⟩:=he.blk i b hi hl;rw[hr] at h1;cases h1;rcases h2 with h2|h2
  .
   have:=h2.2;simp only at this;rw[hK] at this;cases this
  have:=h2.2;simp only at this;rw[hK] at this;cases this
 have:=hC.begins
 simpa using this
structure Md (P:Program) (ops:Array Oper) (c:Cx) (K:Nat->Option Obj) (a:Act) (ρ:Ren) (ps:List (Nat×Nat×Option Nat)):Prop where
 each:∀q∈ps,c.B<=q.2.1/\c.K q.2.1=none/\∃o te cs C s d,ops[q.1]? = some o/\o.dst=some d/\j5 P a.eval o=some (te,cs,q.2.2)/\aK P te=some s/\LR (VRel ρ) cs C.toList/\K q.2.1=some (.cells C te)
 rest:∀r,(∀q∈ps,q.2.1≠r)->K r=c.K r
 nodup:(ps.map (·.2.1)).Nodup
 VA:ps.Pairwise λq q'=>∀o o',ops[q.1]? = some o->ops[q'.1]? = some o'->o.dst≠o'.dst
theorem Md.next {c:Cx} {K:Nat->Option Obj} {a:Act} {ρ ρ':Ren} {ps:List (Nat×Nat×Option Nat)} (h:Md P ops c K a ρ ps) (hle:ρ.le ρ') {dst:Option Tmp} (v:Value) (hd:∀q∈ps,∀o,ops[q.1]? = some o->∀x,dst=some x->x ∉ o.looksAt ops):Md P ops c K (a.put dst v) ρ' ps :=
 ⟨λq hq=>by
  obtain ⟨g1,g2,o,te,cs,C,s,d,g3,g4,g5,g6,g7,g8⟩:=h.each q hq;exact ⟨g1,g2,o,te,cs,C,s,d,g3,g4,by rw[oV a v (hd q hq o g3)];exact g5,g6,g7.mono λ_ _=>VRel.mono hle,g8⟩,h.rest,h.nodup,h.VA⟩
def fS (ops:Array Oper) (ps:List (Nat×Nat×Option Nat)):List (Option Tmp×Value):=ps.map λq=>((ops[q.1]?).bind (·.dst),qN q.2.2 q.2.1)
theorem jL {o oi:Oper} (a:Act) (v:Value) (h:∀d,oi.dst=some d->d ∉ o.looksAt ops):∀x∈o.op.operands,(a.put oi.dst v).eval x=a.eval x:=λx hx=>Act.eval_put λd hd ZJ=>h d hd (by
 subst ZJ
 exact List.mem_append_left _ (List.mem_filterMap.2 ⟨.tmp d,by simpa using hx,rfl⟩))
theorem Ec {o:Oper} {ev ev':Operand->Value} (hv:∀x∈o.op.operands,ev x=ev' x) (hsel:∀cs b,o.op ≠ .select cs b):pureA P ev o=pureA P ev' o:=by
 have hc:execOp ev o=execOp ev' o:=execOp_congr o hsel hv
 have ho:aR ev o.op=aR ev' o.op:=by
  unfold aR;rw[Bool.eq_iff_iff,List.all_eq_true,List.all_eq_true]
  constructor
  .
   intro hh x hx;rw[<-hv x (by simpa using hx)];exact hh x hx
  intro hh x hx;rw[hv x (by simpa using hx)];exact hh x hx
 unfold pureA
 rw[hc,ho]
theorem sZ {ev ev':Operand->Value} {ps:Array (Nat×Operand)} (h:∀q∈ps,ev q.2=ev' q.2):gz ev ps=gz ev' ps:=by
 unfold gz
 apply List.map_congr_left
 intro q hq
 rw[h q (by simpa using hq)]
theorem AP {o:Oper} {ev ev':Operand->Value} (H:Mem) (hv:∀x∈o.op.operands,ev x=ev' x) (hsel:∀cs b,o.op ≠ .select cs b):opA P call ev o H=opA P call ev' o H:=by
 have hp:=Ec (P:=P) hv hsel
 unfold opA
 split
 case h_1 hop=>rw[hv _ (by simp[hop,Op.operands])]
 case h_2 hop=>rw[hv _ (by simp[hop,Op.operands])]
 case h_3 c x y hop=>rw[hv c (by simp[hop,Op.operands]),hv x (by simp[hop,Op.operands]),hv y (by simp[hop,Op.operands])]
 case h_4 op t x y yt hop=>unfold oI;rw[hp,hv x (by simp[hop,Op.operands]),hv y (by simp[hop,Op.operands])]
 case h_5 hop=>rfl
 case h_6 t x hop=>rw[hv x (by simp[hop,Op.operands])]
 case h_7 t ps hop=>rw[sZ λq hq=>hv q.2 (by simp[hop,Op.operands];exact ⟨q.1,by simpa using hq⟩)]
 case h_8 t len ps hop=>rw[sZ λq hq=>hv q.2 (by simp[hop,Op.operands];exact ⟨q.1,by simpa using hq⟩)]
 case h_9 t x hop=>rw[hv x (by simp[hop,Op.operands])]
 case h_10 t x y hop=>rw[hv x (by simp[hop,Op.operands]),hv y (by simp[hop,Op.operands])]
 case h_11 x hop=>rw[hv x (by simp[hop,Op.operands])]
 case h_12 s x f hop=>rw[hv x (by simp[hop,Op.operands])]
 case h_13 t x ix hop=>rw[hv x (by simp[hop,Op.operands]),hv ix (by simp[hop,Op.operands])]
 case h_14 x k hop=>rw[hv x (by simp[hop,Op.operands])]
 case h_15 t l c hop=>rw[hv l (by simp[hop,Op.operands]),hv c (by simp[hop,Op.operands])]
 case h_16 fn first captured hop =>
  rw[Array.map_congr_left (xs:=first) λx hx=>hv x (by simp[hop,Op.operands,hx]),Array.map_congr_left (xs:=captured) λx hx=>hv x (by simp[hop,Op.operands,hx])]
 case h_17 t x lo hi hop =>
  have e1:lo.map ev=lo.map ev':=by cases lo with|none=>rfl|some y=>simp only[Option.map_some];rw[hv y (by simp[hop,Op.operands])]
  have e2:hi.map ev=hi.map ev':=by cases hi with|none=>rfl|some y=>simp only[Option.map_some];rw[hv y (by simp[hop,Op.operands])]
  unfold iH;rw[hp,e1,e2,hv x (by simp[hop,Op.operands])]
 case h_18 t x f hop=>rw[hv x (by simp[hop,Op.operands])]
 case h_19 t x ix hop=>unfold Cc;rw[hp,hv x (by simp[hop,Op.operands]),hv ix (by simp[hop,Op.operands])]
 case h_20 s d x hop=>unfold ez;rw[hp,hv x (by simp[hop,Op.operands])]
 case h_21 cl hop =>
  have gm:∀x∈cl.args,ev x=ev' x:=λx hx=>hv x (by simp[hop,Op.operands,Call.operands,hx])
  unfold bp;split
  .
   rename_i f hf;unfold xG;rw[hp,hv f (by simp[hop,hf,Op.operands,Call.operands]),List.map_congr_left (l:=cl.args.toList) (f:=ev) (g:=ev') λx hx=>gm x (by simpa using hx)]
  .
   unfold kE;split
   .
    unfold sI;split
    .
     rename_i x t hx _;rw[gm x (Array.mem_of_getElem? hx),hp]
    rfl
   .
    unfold kM;split
    .
     rename_i s x st xt hs0 hx0 _ _;rw[gm s (Array.mem_of_getElem? hs0),gm x (Array.mem_of_getElem? hx0)]
    rfl
   .
    unfold uv;split
    .
     rename_i d x dt Vv hx0 _;rw[gm d (Array.mem_of_getElem? Vv),gm x (Array.mem_of_getElem? hx0)]
    rfl
   .
    unfold mL;split
    .
     rename_i x t hx _;rw[gm x (Array.mem_of_getElem? hx)]
    rfl
   .
    unfold ia;split
    .
     rename_i x hx;rw[gm x (Array.mem_toList_iff.1 (by rw[hx];simp))]
    rfl
   .
    unfold uw;split
    .
     rename_i p n pt _ hx _;rw[gm p (Array.mem_toList_iff.1 (by rw[hx];simp)),gm n (Array.mem_toList_iff.1 (by rw[hx];simp))]
    rfl
   rw[hp]
  rfl
 case h_22 t r hop =>
  have e1:r.map ev=r.map ev':=by cases r with|none=>rfl|some y=>simp only[Option.map_some];rw[hv y (by simp[hop,Op.operands])]
  rw[e1]
 case h_23 t x k ok hop=>rw[hv x (by simp[hop,Op.operands]),hv k (by simp[hop,Op.operands])]
 case h_24 t m k x hop=>rw[hv m (by simp[hop,Op.operands]),hv k (by simp[hop,Op.operands]),hv x (by simp[hop,Op.operands])]
 case h_25 t m k x hop=>rw[hv m (by simp[hop,Op.operands]),hv k (by simp[hop,Op.operands]),hv x (by simp[hop,Op.operands])]
 case h_26=>rw[hp]
theorem AQ {o oi:Oper} (a:Act) (v:Value) (H:Mem) (h1:∀d,oi.dst=some d->d ∉ o.looksAt ops) (h2:∀d,oi.dst=some d->o.dst≠some d) (hsel:∀cs b,o.op ≠ .select cs b) :
 dc P call ops o (a.put oi.dst v) H=(dc P call ops o a H).map λr=>(r.1.put oi.dst v,r.2):=by
 unfold dc
 rw[wanted_put o a oi.dst v h1,AP (P:=P) (call:=call) H (jL a v h1) hsel]
 split
 .
  cases opA P call a.eval o H with
  |none=>rfl
  |some r=>simp[Act.put_comm a v r.1 h2]
 simp[Act.put_comm a v undef h2]
theorem vS {op:Op} {s:Operand} (h:ef op=some s):s∈op.operands:=by
 unfold ef at h
 split at h
 .
  rename_i args ats;have:=Array.mem_of_getElem? h;simp only[Op.operands,Call.operands]
  simpa using this
 cases h
theorem Ab {op:Op} {s:Operand} (h:fC op=some s):s∈op.operands:=by
 unfold fC at h
 split at h
 .
  cases h;simp[Op.operands]
 cases h
theorem xY {o oi:Oper} {R:Option (List Nat)} {lk:Bool} (a:Act) (v:Value) (H:Mem) (h1:∀d,oi.dst=some d->d ∉ o.looksAt ops) (h2:∀d,oi.dst=some d->o.dst≠some d) (hsel:∀cs b,o.op ≠ .select cs b) :
 gD P call ops R lk o (a.put oi.dst v) H=(gD P call ops R lk o a H).map λr=>(r.1.put oi.dst v,r.2):=by
 unfold gD
 rw[AQ a v _ h1 h2 hsel,AQ a v _ h1 h2 hsel]
 split
 .
  cases hb:ef o.op with
  |
   some s =>
   simp only;rw[jL a v h1 s (vS hb)];split
   .
    rfl
   rfl
  |
   none =>
   simp only
   have hsc:cw R (a.put oi.dst v).eval o=cw R a.eval o:=by
    unfold cw;split
    .
     rename_i s hs;rw[jL a v h1 s (Ab hs)]
    rfl
   rw[hsc];split
   .
    rfl
   cases dc P call ops o a { H with lk:=H.size } with
   |none=>rfl
   |some r=>rfl
 rfl
theorem oW {o:Oper} {a a':Act} {H H':Mem} (h:dc P call ops o a H=some (a',H')):∃u,a'=a.put o.dst u:=by
 unfold dc at h
 split at h
 .
  simp only[Option.map_eq_some_iff] at h;obtain ⟨r,_,heq⟩:=h;cases heq;exact ⟨_,rfl⟩
 cases h;exact ⟨_,rfl⟩
theorem eW {o:Oper} {R:Option (List Nat)} {lk:Bool} {a a':Act} {H H':Mem} (h:gD P call ops R lk o a H=some (a',H')):∃u,a'=a.put o.dst u:=by
 rcases kq h with ⟨h,_⟩|⟨_,u,hu,heq⟩
 .
  exact oW h
 cases heq;exact oW hu
theorem Rj (hno:cz P) {G:Nat} (hok:LM G ops.toList=true) (hcall:jg P G GR call) (hk:bE call) (hsel:∀(j:Nat) (o:Oper) cs b,ops[j]? = some o->o.op ≠ .select cs b) {c:Cx} (cJ:c.P=P) (cr:c.At G GR) {Fin:Act->Mem->Prop} {Q:Exit->Act->World->Prop}
 {RL:List (Nat×Option Nat)} {x:Option Nat} {listed:Array Bool} {bz:List Nat} {a:Act} {H:Mem} (h:gW P call ops Fin RL x listed bz a H) :
 ∀(K:Nat->Option Obj) (ps:List (Nat×Nat×Option Nat)) (ρ:Ren) (w:World) (ar:Act),ps.map (·.1)=bz->Md P ops c K a ρ ps->ur ρ a ar->bg (c.kp K) ρ H w->(∀a' H' ρ' ar' w',Fin a' H'->ρ.le ρ'->ur ρ' a' ar'->bg c ρ' H' w'->Q .normal ar' w') ->
  match x with
  |none=>∀n,cnt ops listed<=n->wpAny P .any ops Q n listed (dU (fS ops ps) ar) w
  |some i=>∀n,cnt ops (listed.setIfInBounds i true)<=n->wpOp P ops Q i (wpAny P .any ops Q n (listed.setIfInBounds i true)) (dU (fS ops ps) ar) w:=by
 have ZL:∀{i:Nat} {o:Oper},ops[i]? = some o->o.op.operands.toList.all (bq G)=true:=λ{i o} ho=>List.all_eq_true.1 hok o (by have:=Array.mem_of_getElem? ho;simpa using this)
 induction h with
 |
  @pay listed l1 l2 i o R lk a a' H H' ho hm hst hap h ih =>
  intro K ps ρ w ar hps hO hs he hQ n hn;obtain ⟨ps1,ps2',rfl,hp1,Me⟩:=List.map_eq_append_iff.1 hps;obtain ⟨q,ps2,rfl,hq,Me⟩:=List.map_eq_cons_iff.1 Me;obtain ⟨hB,hc0,o',te,cs,C,s,d,ho',Ac,oU,hsz,hC,hK⟩:=hO.each q (by simp)
  rw[hq,ho] at ho';cases ho';obtain ⟨te',cs',sh',hmade',hp,rfl⟩:=uI hm hst;rw[oU] at hmade';cases hmade'
  have hnd:q.2.1 ∉ (ps1++ps2).map (·.2.1)/\((ps1++ps2).map (·.2.1)).Nodup:=by
   have h1:=hO.nodup;rw[List.map_append,List.map_cons] at h1;have:=(List.perm_middle (a:=q.2.1) (l₁:=ps1.map (·.2.1)) (l₂:=ps2.map (·.2.1))).nodup_iff.1 h1;rw[List.map_append];exact List.nodup_cons.1 this
  have sub:∀{y:Nat×Nat×Option Nat},y∈ps1++ps2->y∈ps1++q::ps2:=λhx=>by
   rcases List.mem_append.1 hx with h1|h1
   .
    exact List.mem_append_left _ h1
   exact List.mem_append_right _ (List.mem_cons_of_mem _ h1)
  have hpw:=List.pairwise_append.1 hO.VA;have hle:=he.oQ (Nat.le_refl H.size) (q.2.1,0)
  have hmid:dU (fS ops (ps1++q::ps2)) ar=dU (fS ops (ps1++ps2)) (ar.put o.dst (qN q.2.2 q.2.1)):=by
   unfold fS;rw[List.map_append,List.map_cons,List.map_append];have e:(ops[q.1]?).bind (·.dst)=o.dst:=by rw[hq,ho];rfl
   rw[e];refine Gu _ _ _ λy hy x hx hd=>?_
   obtain ⟨q',hq',rfl⟩:=List.mem_map.1 hy;obtain ⟨_,_,o2,Rk,Ug,C2,s2,d2,Cv,_⟩:=hO.each q' (by simp[hq'])
   simp only[Cv,Option.bind_some] at hx;exact hpw.2.2 q' hq' q (by simp) o2 o Cv (by rw[hq];exact ho) (by rw[hx,hd])
  rw[hmid];subst cJ
  have hO1:Md c.P ops c (λr=>if r=q.2.1 then none else K r) a ρ (ps1++ps2):=by
   refine ⟨λy hy=>?_,λr hr=>?_,hnd.2,?_⟩
   .
    obtain ⟨g1,g2,o2,Rk,Ug,C2,s2,d2,g3,g4,g5,g6,g7,g8⟩:=hO.each y (sub hy);refine ⟨g1,g2,o2,Rk,Ug,C2,s2,d2,g3,g4,g5,g6,g7,?_⟩;have hne:y.2.1≠q.2.1:=λe=>hnd.1 (by rw[<-e];exact List.mem_map.2 ⟨y,hy,rfl⟩)
    rw[if_neg hne];exact g8
   .
    by_cases e:r=q.2.1
    .
     rw[if_pos e,e,hc0]
    rw[if_neg e];refine hO.rest r λy hy=>?_
    rcases List.mem_append.1 hy with h1|h1
    .
     exact hr y (List.mem_append_left _ h1)
    rcases List.mem_cons.1 h1 with rfl|h1
    .
     exact Ne.symm e
    exact hr y (List.mem_append_right _ h1)
   exact List.pairwise_append.2 ⟨hpw.1,(List.pairwise_cons.1 hpw.2.1).2,λy hy y' hy'=>hpw.2.2 y hy y' (by simp[hy'])⟩
  refine ih _ (ps1++ps2) (ρ.put H.size (q.2.1,0)) w _ (by rw[List.map_append,hp1,Me]) (hO1.next hle _ λy hy om Gw=>hap y.1 (by rw[<-hp1,<-Me,<-List.map_append];exact List.mem_map.2 ⟨y,hy,rfl⟩) om Gw) ((hs.mono hle).put o.dst (Mc _ (Ren.fh _ _ _))) (he.Vz hsz hC hK hB hp) (λa' H' ρ' ar' w' k0 k1=>hQ a' H' ρ' ar' w' k0 (Ren.le_trans hle k1)) n hn
 |
  @step listed bz a H h0 h ih =>
  intro K ps ρ w ar hps hO hs he hQ n hn
  have fin:Region.ready .any ops listed=[]->Q .normal (dU (fS ops ps) ar) w:=λhr=>by
   obtain ⟨h1,h2⟩:=h0 hr;subst h1;have:ps=[]:=List.map_eq_nil_iff.1 hps;subst this;have hKK:K=c.K:=funext λr=>hO.rest r λq hq=>by cases hq
   subst hKK;exact hQ _ _ ρ ar w h2 (Ren.le_refl _) hs he
  cases n with
  |
   zero =>
   have s6:Region.ready .any ops listed=[]:=List.eq_nil_iff_forall_not_mem.2 λi hi=>by
    have:=(uH hi).2.2;omega
   exact ⟨s6,fin s6⟩
  |succ n=>exact ⟨fin,λi hi=>ih i hi K ps ρ w ar hps hO hs he hQ n (by have:=(uH hi).2.2;omega)⟩
 |
  @sync listed bz i o R lk a a' H H' ho hst hR hap h ih =>
  intro K ps ρ w ar hps hO hs he hQ n hn;refine AO ho (λcs b=>hsel i o cs b ho) _ _ (λq hq=>?_) ?_
  .
   obtain ⟨y,hy,rfl⟩:=List.mem_map.1 hq;obtain ⟨_,_,o2,Rk,Ug,C2,s2,d2,Cv,_⟩:=hO.each y hy;have h1:=(hap y.1 (by rw[<-hps];exact List.mem_map.2 ⟨y,hy,rfl⟩) o2 Cv).1
   simp only[Cv,Option.bind_some];exact ⟨λx hx=>(h1 x hx).1,λx hx=>(h1 x hx).2⟩
  obtain ⟨u,rfl⟩:=eW hst;unfold wpOp;simp only[ho];exact J8 hno hcall hk (ZL ho) hst (c:=c.kp K) cJ ⟨cr.g,cr.rows,cr.len⟩ hs he fun ρ' ar' w' h1 h2 h3=>ih K ps ρ' w' ar' hps (hO.next h1 u λy hy om Gw=>(hap y.1 (by rw[<-hps];exact List.mem_map.2 ⟨y,hy,rfl⟩) om Gw).2) h2 h3 (λa'' H'' ρ'' ar'' w'' k0 k1=>hQ a'' H'' ρ'' ar'' w'' k0 (Ren.le_trans h1 k1)) n hn
 |
  @Uf listed bz i o a H ho hm oU hd h ih =>
  intro K ps ρ w ar hps hO hs he hQ n hn;obtain ⟨hg,⟨d,Ac⟩,_⟩:=kQ hm;obtain ⟨⟨te,cs,sh⟩,hmd⟩:=Option.isSome_iff_exists.1 oU;have hw:∀ar:Act,Region.wanted o (yielded ops ar.tmps)=true:=λar=>by unfold Region.wanted;rw[hg]
  subst cJ;have ZI:=cr.g;subst ZI;have aee:Ud ρ a.eval ar.eval o.op:=λx hx=>hs.eval he.cZ (List.all_eq_true.1 (ZL ho) x (by simpa using hx))
  have hsame:∀(l:List (Option Tmp×Value)) (ar:Act),(∀q∈l,∀x,q.1=some x->x ∉ o.looksAt ops)->∀x∈o.op.operands,(dU l ar).eval x=ar.eval x:=by
   intro l
   induction l with
   |nil=>intro ar _ x _;rfl
   |
    cons q l ih =>
    intro ar hq x hx;show (dU l (ar.put q.1 q.2)).eval x=_;rw[ih _ (λy hy=>hq y (by simp[hy])) x hx]
    exact jL (ops:=ops) (oi:={ o with dst:=q.1 }) ar q.2 (λd' hd'=>hq q (by simp) d' hd') x hx
  have aC:Ud ρ a.eval (dU (fS ops ps) ar).eval o.op:=λx hx=>by
   rw[hsame (fS ops ps) ar (λq hq y hy=>?_) x hx]
   .
    exact aee x hx
   obtain ⟨z,hz,rfl⟩:=List.mem_map.1 hq;obtain ⟨_,_,o2,Rk,Ug,C2,s2,d2,Cv,_⟩:=hO.each z hz;simp only[Cv,Option.bind_some] at hy;exact (hd z.1 (by rw[<-hps];exact List.mem_map.2 ⟨z,hz,rfl⟩) o2 Cv).2 y hy
  obtain ⟨⟨s,hsz⟩,C,hC,hrun⟩:=Mb aC hmd;unfold wpOp;simp only[ho];rw[if_pos (hw _)];refine .inl ?_;unfold Oper.wp;rw[hrun];simp only[Oper.upon];have fresh:=he.stay.fresh he.base
  have hne:∀q∈ps,q.2.1≠w.heap.size:=λq hq e=>by
   obtain ⟨_,_,o2,Rk,Ug,C2,s2,d2,_,_,_,_,_,ZM⟩:=hO.each q hq;have:=fresh.2;simp only at this;rw[<-e,ZM] at this;cases this
  have hput:(dU (fS ops ps) ar).put o.dst (qN sh w.heap.size)=dU (fS ops ((i,w.heap.size,sh)::ps)) ar:=by
   have e:(ops[i]?).bind (·.dst)=o.dst:=by rw[ho];rfl
   unfold fS;rw[List.map_cons];simp only[dU];rw[e];refine (xX _ _ λy hy x hx ZJ=>?_).symm
   obtain ⟨q,hq,rfl⟩:=List.mem_map.1 hy;obtain ⟨_,_,o2,Rk,Ug,C2,s2,d2,Cv,_⟩:=hO.each q hq;simp only[Cv,Option.bind_some] at hx;exact (hd q.1 (by rw[<-hps];exact List.mem_map.2 ⟨q,hq,rfl⟩) o2 Cv).1 (by rw[hx,ZJ])
  rw[hput];refine ih _ ((i,w.heap.size,sh)::ps) ρ _ ar (by simp[hps]) ⟨λq hq=>?_,λr hr=>?_,?_,?_⟩ hs (he.Gv (.cells C te)) hQ n hn
  .
   rcases List.mem_cons.1 hq with rfl|hq
   .
    refine ⟨fresh.1,?_,o,te,cs,C,s,d,ho,Ac,hmd,hsz,hC,if_pos rfl⟩;rw[<-hO.rest w.heap.size hne];exact fresh.2
   obtain ⟨g1,g2,o2,Rk,Ug,C2,s2,d2,g3,g4,g5,g6,g7,g8⟩:=hO.each q hq;exact ⟨g1,g2,o2,Rk,Ug,C2,s2,d2,g3,g4,g5,g6,g7,by rw[if_neg (hne q hq)];exact g8⟩
  .
   have:=hr (i,w.heap.size,sh) (by simp)
   simp only at this;rw[if_neg (Ne.symm this)];exact hO.rest r λq hq=>hr q (by simp[hq])
  .
   rw[List.map_cons];refine List.nodup_cons.2 ⟨λhm'=>?_,hO.nodup⟩
   obtain ⟨q,hq,e⟩:=List.mem_map.1 hm';exact hne q hq e
  refine List.pairwise_cons.2 ⟨λq hq o1 o2 h1 h2 e=>?_,hO.VA⟩
  rw[ho] at h1;cases h1;exact (hd q.1 (by rw[<-hps];exact List.mem_map.2 ⟨q,hq,rfl⟩) o2 h2).1 e.symm
theorem bY {H H':Mem} {x:Option Value} {v:Value} (h:withMem H x=some (v,H')):H'=H/\∀H2,withMem H2 x=some (v,H2):=by
 obtain ⟨rfl,rfl⟩:=ax h;exact ⟨rfl,λ_=>rfl⟩
theorem Gx {ev:Operand->Value} {o:Oper} {args:Array Operand} {ats:Array TypeId} {H H':Mem} {v:Value} (h:sI P ev o args ats H=some (v,H')):H'=H/\∀H2,sI P ev o args ats H2=some (v,H2):=by
 unfold sI at h ⊢
 generalize args[0]? = x at h ⊢
 generalize ats[0]? = y at h ⊢
 cases x<;>cases y<;>first|(cases h;done)|exact bY h
theorem Ed {ev:Operand->Value} {o:Oper} {H H':Mem} {v:Value} (hq:quiet P o.op=true) (h:opA P call ev o H=some (v,H')) :
 H'=H/\(eA o.op=false->∀H2,opA P call ev o H2=some (v,H2))/\(∀H2,Ext H H2->opA P call ev o H2=some (v,H2)):=by
 have all:∀{f:Mem->Option (Value×Mem)},(H'=H/\∀H2,f H2=some (v,H2))->H'=H/\(eA o.op=false->∀H2,f H2=some (v,H2))/\(∀H2,Ext H H2->f H2=some (v,H2)):=λhh=>⟨hh.1,λ_=>hh.2,λH2 _=>hh.2 H2⟩
 unfold opA at h ⊢
 split at h
 case h_1 hop=>cases h;simp only[hop] at all ⊢;refine ⟨?_,?_,?_⟩<;>intros<;>trivial
 case h_2 hop=>cases h;simp only[hop] at all ⊢;refine ⟨?_,?_,?_⟩<;>intros<;>trivial
 case h_3 hop =>
  simp only[hop] at all ⊢;unfold xF at h ⊢;split at h
  .
   rename_i t ht;cases h;simp only;refine ⟨?_,?_,?_⟩<;>intros<;>trivial
  cases h
 case h_4 hop=>simp only[hop] at all ⊢;exact all (bY h)
 case h_5 hop=>simp[hop,quiet] at hq
 case h_6 hop=>simp[hop,quiet] at hq
 case h_7 hop=>simp only[hop] at all ⊢;exact all (bY h)
 case h_8 hop=>simp[hop,quiet] at hq
 case h_9 t x hop =>
  obtain ⟨hu,rfl⟩:=ax h;simp only[hop];refine ⟨trivial,λhl=>by simp[eA] at hl,λH2 hx=>?_⟩
  have hal:∀i b,alive H' i=some b->alive H2 i=some b:=by
   intro i b hb;obtain ⟨h1,h2⟩:=alive_some hb;unfold alive;rw[hx i b h1];simp[h2]
  have:j4 P H2 t (ev x)=some v:=by
   unfold j4 at hu ⊢;split at hu
   .
    split at hu
    .
     rename_i n _ _;simp only[Option.map_eq_some_iff] at hu ⊢;obtain ⟨l,hl,rfl⟩:=hu;refine ⟨l,?_,rfl⟩;unfold bN at hl ⊢;split at hl
     .
      rename_i b hb;rw[hal _ _ hb];exact hl
     cases hl
    .
     split at hu
     .
      rename_i b hb;rw[hal _ _ hb];exact hu
     cases hu
    cases hu
   cases hu
  rw[this];rfl
 case h_10 hop=>simp[hop,quiet] at hq
 case h_11 hop =>
  simp only[hop] at all ⊢;unfold kL at h ⊢;split at h
  .
   rename_i q hx;cases h;simp only;refine ⟨?_,?_,?_⟩<;>intros<;>trivial
  .
   rename_i q1 q2 q3 hx;cases h;simp only;refine ⟨?_,?_,?_⟩<;>intros<;>trivial
  cases h
 case h_12 hop=>simp only[hop] at all ⊢;exact all (bY h)
 case h_13 hop=>simp only[hop] at all ⊢;exact all (bY h)
 case h_14 x k hop =>
  simp only[hop] at all ⊢;unfold kD at h ⊢;generalize ev x=q at h ⊢;cases q<;>first|(cases h;done)|exact all (bY h)
 case h_15 hop=>simp[hop,quiet] at hq
 case h_16 hop=>cases h;simp only[hop] at all ⊢;refine ⟨?_,?_,?_⟩<;>intros<;>trivial
 case h_17 hop =>
  simp only[hop] at all hq ⊢;simp only[quiet,Bool.not_eq_true'] at hq;unfold iH at h ⊢;rw[hq] at h ⊢;exact all (bY h)
 case h_18 hop=>simp only[hop] at all ⊢;exact all (bY h)
 case h_19 hop=>simp only[hop] at all ⊢;exact all (bY h)
 case h_20 s d x hop =>
  simp only[hop] at all hq ⊢;simp only[quiet,Bool.and_eq_true,Bool.not_eq_true'] at hq;unfold ez at h ⊢;split at h
  .
   rename_i u hu;cases h;simp only;refine ⟨?_,?_,?_⟩<;>intros<;>trivial
  exfalso;unfold dG at h;split at h
  .
   have hq1:=hq.1.1;clear h all hq;simp_all[oL]
  .
   have Uh:=hq.1.2;clear h all hq;simp_all[oL]
  .
   have hq1:=hq.1.1;clear h all hq;simp_all[oL]
  .
   have hq3:=hq.2;clear h all hq;simp_all[Gh]
  .
   have hq3:=hq.2;clear h all hq;simp_all[Gh]
  cases h
 case h_21 cl hop =>
  obtain ⟨callee,args,ats⟩:=cl;simp only[hop] at all hq ⊢;unfold bp at h ⊢;cases callee with
  |value f=>simp[quiet] at hq
  |invoke r m=>cases h
  |
   builtin b =>
   simp only at h ⊢;unfold kE at h ⊢;cases b
   case append=>simp[quiet] at hq
   case copy=>simp[quiet] at hq
   case len =>
    exact all (Gx h)
   case cap =>
    simp only at h ⊢;unfold mL at h ⊢;split at h
    .
     rename_i x t hx0 QF;obtain ⟨hu,rfl⟩:=ax h;refine ⟨rfl,λhl=>by simp[eA] at hl,λH2 hx=>?_⟩
     have:wG P H2 t (ev x)=some v:=by
      unfold wG at hu ⊢;split at hu
      .
       split at hu
       .
        rename_i b hb
        have hal:∀i b,alive H' i=some b->alive H2 i=some b:=by
         intro i b hb;obtain ⟨h1,h2⟩:=alive_some hb;unfold alive;rw[hx i b h1];simp[h2]
        rw[hal _ _ hb];exact hu
       cases hu
      .
       exact hu
      cases hu
     rw[this];rfl
    cases h
   all_goals first|(simp[quiet] at hq;done)|(simp only at h ⊢;exact all (bY h))
 case h_22 hop=>simp[hop,quiet] at hq
 case h_23 t x k ok hop =>
  obtain ⟨hu,rfl⟩:=ax h;simp only[hop];refine ⟨trivial,λhl=>by simp[eA] at hl,λH2 hx=>?_⟩
  have hen:∀{y:Value} {cs:List Value},iI H' y=some cs->iI H2 y=some cs:=by
   intro y cs hy;unfold iI at hy ⊢;split at hy
   .
    exact hy
   .
    split at hy
    .
     rename_i b hb;obtain ⟨h1,h2⟩:=nF hb;simp only[mapOf,hx _ b h1,h2];exact hy
    cases hy
   cases hy
  have:oa P H2 t (ev x) (ev k) ok=some v:=by
   unfold oa at hu ⊢;split at hu
   .
    split at hu
    .
     rename_i hd hz hcs;rw[hen hcs,hd,hz];exact hu
    cases hu
   cases hu
  rw[this];rfl
 case h_24 hop=>simp[hop,quiet] at hq
 case h_25 hop=>simp[hop,quiet] at hq
 case h_26=>exact all (bY h)
def QY (P:Program) (call:aM) (ops:Array Oper) (o:Oper) (v:Value) (a:Act) (H:Mem):Prop :=
 (Region.wanted o (yielded ops a.tmps)=true/\opA P call a.eval o H=some (v,H))\/(Region.wanted o (yielded ops a.tmps)=false/\v=undef)
theorem QY.step {o:Oper} {v:Value} {a:Act} {H:Mem} (h:QY P call ops o v a H):dc P call ops o a H=some (a.put o.dst v,H):=by
 unfold dc
 rcases h with ⟨h1,h3⟩|⟨h1,rfl⟩
 .
  simp only[h1,if_true,h3];rfl
 simp[h1]
theorem QY.Rl {o:Oper} {a a':Act} {H H':Mem} (hq:quiet P o.op=true) (h:dc P call ops o a H=some (a',H')):H'=H/\∃v,a'=a.put o.dst v/\QY P call ops o v a H:=by
 unfold dc at h
 split at h
 .
  rename_i hw;simp only[Option.map_eq_some_iff] at h;obtain ⟨⟨r1,r2⟩,hr,heq⟩:=h;cases heq;obtain ⟨h1,_,_⟩:=Ed hq hr;rw[h1] at hr ⊢;exact ⟨rfl,_,rfl,.inl ⟨hw,hr⟩⟩
 rename_i hw
 cases h
 exact ⟨rfl,_,rfl,.inr ⟨by simpa using hw,rfl⟩⟩
theorem QY.move {o oj:Oper} {v u:Value} {a:Act} {H:Mem} (h:QY P call ops o v a H) (hap:∀d,oj.dst=some d->d ∉ o.looksAt ops) (hsel:∀cs b,o.op ≠ .select cs b):QY P call ops o v (a.put oj.dst u) H:=by
 unfold QY at *
 rw[wanted_put o a oj.dst u hap,AP (P:=P) (call:=call) H (jL a u hap) hsel]
 exact h
theorem QY.mem {o:Oper} {v:Value} {a:Act} {H H':Mem} (hq:quiet P o.op=true) (h:QY P call ops o v a H) (hm:eA o.op=false\/Ext H H'):QY P call ops o v a H':=by
 rcases h with ⟨h1,h3⟩|h
 .
  obtain ⟨_,k2,k3⟩:=Ed hq h3;rcases hm with hm|hm
  .
   exact .inl ⟨h1,k2 hm H'⟩
  exact .inl ⟨h1,k3 H' hm⟩
 exact .inr h
def kS (ops:Array Oper) (listed:Array Bool):Prop :=
 ∀k o,ops[k]? = some o->listed.getD k false=true->∀e∈o.after,Region.binds .any e=true->listed.getD e.on false=true
theorem kS.add {listed:Array Bool} (h:kS ops listed) {i:Nat} (hi:i∈Region.ready .any ops listed):kS ops (listed.setIfInBounds i true):=by
 intro k o ho hk e he hb
 apply getD_set_true
 by_cases hik:i=k
 .
  subst hik;obtain ⟨_,o',ho',hall⟩:=mem_ready.1 hi;rw[ho] at ho';cases ho';exact hall e he hb
 rw[getD_set_ne false hik] at hk
 exact h k o ho hk e he hb
theorem s7 {listed:Array Bool} (hc:kS ops listed) {i j:Nat} (h:Reach ops i j) (hi:listed.getD i false=true):listed.getD j false=true:=by
 induction h with
 |one ho he hb=>exact hc _ _ ho hi _ he hb
 |more ho he hb _ ih=>exact ih (hc _ _ ho hi _ he hb)
theorem Ee {listed:Array Bool} (hc:kS ops listed) {i j:Nat} (hi:i∈Region.ready .any ops listed) (hj:j∈Region.ready .any ops listed):¬Reach ops j i:=by
 intro h
 obtain ⟨Y2,_⟩:=mem_ready.1 hi
 have hcon:listed.getD i false=true->False:=by
  intro h1;by_cases hlt:i<listed.size
  .
   simp[Array.getD,hlt] at h1 Y2;rw[h1] at Y2;cases Y2
  simp[Array.getD,hlt] at h1
 obtain ⟨_,o,ho,hall⟩:=mem_ready.1 hj
 cases h with
 |one ho' he hb=>rw[ho] at ho';cases ho';exact hcon (hall _ he hb)
 |more ho' he hb h2=>rw[ho] at ho';cases ho';exact hcon (s7 hc h2 (hall _ he hb))
def QM (o:Oper) (a:Act) (pr:Option Nat):Prop:=pr=none\/∃b t x off m,pr=some b/\o.op = .load t x/\a.eval x = .pointer (some ⟨b,off,m⟩)
theorem QY.aef {o:Oper} {v:Value} {a:Act} {H H':Mem} (hq:quiet P o.op=true) (h:QY P call ops o v a H) {pr:Option Nat} (hm:QM o a pr) (hp:Ea pr H H'):QY P call ops o v a H':=by
 rcases hm with rfl|⟨b,t,x,off,m,rfl,hop,hx⟩
 .
  exact h.mem hq (.inr hp)
 rcases h with ⟨h1,h3⟩|h
 .
  refine .inl ⟨h1,?_⟩;unfold opA at h3 ⊢;rw[hop] at h3 ⊢;simp only at h3 ⊢;obtain ⟨hu,_⟩:=ax h3
  have hal:∀k,alive H b=some k->alive H' b=some k:=by
   intro k hb;obtain ⟨h1,h2⟩:=alive_some hb;unfold alive;rw[hp k h1];simp[h2]
  have:j4 P H' t (a.eval x)=some v:=by
   rw[hx] at hu ⊢;unfold j4 at hu ⊢;split at hu
   .
    rename_i heq;cases heq;split at hu
    .
     rename_i n _ _;simp only[Option.map_eq_some_iff] at hu ⊢;obtain ⟨l,hl,rfl⟩:=hu;refine ⟨l,?_,rfl⟩;unfold bN at hl ⊢;split at hl
     .
      rename_i k hb;rw[hal _ hb];exact hl
     cases hl
    .
     split at hu
     .
      rename_i k hb;rw[hal _ hb];exact hu
     cases hu
    cases hu
   cases hu
  rw[this];rfl
 exact .inr h
theorem QM.move {o:Oper} {a:Act} {pr:Option Nat} (h:QM o a pr) {dst:Option Tmp} (u:Value) (hd:∀d,dst=some d->d ∉ o.looksAt ops):QM o (a.put dst u) pr:=by
 rcases h with rfl|⟨b,t,x,off,m,rfl,hop,hx⟩
 .
  exact .inl rfl
 refine .inr ⟨b,t,x,off,m,rfl,hop,?_⟩
 rw[<-hx]
 exact Act.eval_put λd h1 h2=>hd d h1 (by
  subst h2;exact List.mem_append_left _ (List.mem_filterMap.2 ⟨.tmp d,by simp[hop,Op.operands],rfl⟩))
theorem gW.weak {Fin:Act->Mem->Prop} {RL RL':List (Nat×Option Nat)} (hsub:∀q∈RL,q∈RL') {x:Option Nat} {l:Array Bool} {bz:List Nat} {a:Act} {H:Mem} (h:gW P call ops Fin RL' x l bz a H):gW P call ops Fin RL x l bz a H:=by
 induction h with
 |pay ho hm hst hap _ ih=>exact .pay ho hm hst hap ih
 |step h0 _ ih=>exact .step h0 ih
 |sync ho hst hR hap _ ih=>exact .sync ho hst (λq hq=>hR q (hsub q hq)) hap ih
 |Uf ho hm oU hd _ ih=>exact .Uf ho hm oU hd ih
theorem Gy (hk:bE call) {Fin:Act->Mem->Prop} (hsel:∀(j:Nat) (o:Oper) cs b,ops[j]? = some o->o.op ≠ .select cs b) {i:Nat} {oi:Oper} {v:Value} (hi:ops[i]? = some oi) (hq:quiet P oi.op=true)
 {RL RL':List (Nat×Option Nat)} (hsub:∀q∈RL,q∈RL') {x:Option Nat} {l1:Array Bool} {bz:List Nat} {a1:Act} {H:Mem} (hA:gW P call ops Fin RL' x l1 bz a1 H):∀(listed:Array Bool) (a:Act),l1=listed.setIfInBounds i true->a1=a.put oi.dst v->(eA oi.op=false\/∃pr,(i,pr)∈RL'/\QM oi a pr) ->
  (∀(j:Nat) (oj:Oper),ops[j]? = some oj->j≠i->(listed.getD j true=false\/j∈bz)->(∀e∈oj.after,Region.binds .any e=true->e.on≠i)->oi.apart ops oj=true) ->
  (∀m∈bz,∀om,ops[m]? = some om->∀e∈om.after,Region.binds .any e=true->e.on≠i)->i ∉ bz ->
  kS ops listed->i∈Region.ready .any ops listed->QY P call ops oi v a H ->
  match x with
  |none=>gW P call ops Fin RL none listed bz a H
  |some j=>j≠i->j∈Region.ready .any ops listed->gW P call ops Fin RL (some j) listed bz a H:=by
 have hni:∀{m:Nat} {om:Oper},ops[m]? = some om->makes P om=true->m≠i:=λGw hm e=>by
  subst e;rw[hi] at Gw;cases Gw;rw[rF hm] at hq;cases hq
 induction hA with
 |
  @pay l1 p1 p2 m o R lk a1 a' H H' ho hm hst ZN h ih =>
  rintro listed a rfl rfl hrd hfree wK hnp gF hr hy;have hap:=hfree m o ho (hni ho hm) (.inr (by simp)) (wK m (by simp) o ho)
  obtain ⟨q1,q2,q3⟩:=Oper.apart_spec hap;rw[xY a v H q1 q2 (λcs b=>hsel m o cs b ho)] at hst
  simp only[Option.map_eq_some_iff] at hst;obtain ⟨⟨aj,Hj⟩,J9,heq⟩:=hst;simp only[Prod.mk.injEq] at heq;obtain ⟨rfl,rfl⟩:=heq;obtain ⟨u,rfl⟩:=eW J9;obtain ⟨_,_,_,_,hp,_⟩:=uI hm J9
  have aeg:Ext H Hj:=λk b hb=>by
   obtain ⟨_,_,e3⟩:=Mem.aY hp;rw[e3,if_neg (Nat.ne_of_lt (Mem.bC hb))];exact hb
  have sub:∀{y:Nat},y∈p1++p2->y∈p1++m::p2:=λhx=>by
   rcases List.mem_append.1 hx with h1|h1
   .
    exact List.mem_append_left _ h1
   exact List.mem_append_right _ (List.mem_cons_of_mem _ h1)
  exact gW.pay ho hm J9 ZN (ih listed _ rfl rfl (hrd.imp id λ⟨pr,e1,e2⟩=>⟨pr,e1,e2.move u q3⟩) (λj oj hj hji hh=>hfree j oj hj hji (hh.imp id sub)) (λk hk'=>wK k (sub hk')) (λh=>hnp (sub h)) gF hr ((hy.move q3 (λcs b=>hsel i oi cs b hi)).mem hq (.inr aeg)))
 |
  @step l1 bz a1 H h0 h ih =>
  rintro listed a rfl rfl hrd hfree wK hnp gF hr hy;refine gW.step (λh=>(by rw[h] at hr;cases hr)) λj hj=>?_
  by_cases hji:j=i
  .
   subst hji
   have hn:∀m∈bz,∀om,ops[m]? = some om->(∀x,om.dst=some x->x ∉ oi.looksAt ops/\oi.dst≠some x)/\∀x,oi.dst=some x->x ∉ om.looksAt ops:=by
    intro m hm om Gw;have hne:m≠j:=λe=>hnp (by rw[<-e];exact hm)
    obtain ⟨q1,q2,q3⟩:=Oper.apart_spec (hfree m om Gw hne (.inr hm) (wK m hm om Gw));exact ⟨λx hx=>⟨q3 x hx,λe=>q2 x e hx⟩,q1⟩
   exact gW.sync (R:=none) (lk:=false) hi (by unfold gD;exact hy.step) (λq _=>.inr (Ea.Gs λ_ _ hb=>hb)) hn (gW.weak hsub (gW.step h0 h))
  exact ih j (ready_mono hj hji) listed a rfl rfl hrd hfree wK hnp gF hr hy hji hj
 |
  @sync l1 bz j oj R lk a1 a' H H' rG hst hR hap h ih =>
  rintro listed a rfl rfl hrd hfree wK hnp gF hr hy hji hj;obtain ⟨Ka,oj',hoj',hall⟩:=mem_ready.1 hj;rw[rG] at hoj';cases hoj'
  have hnot:∀e∈oj.after,Region.binds .any e=true->e.on≠i:=λe he hb heq=>by
   have h1:=hall e he hb;have h0:=(mem_ready.1 hr).1;rw[heq] at h1;rcases Nat.lt_or_ge i listed.size with h'|h'
   .
    simp[h'] at h0 h1;rw[h0] at h1;cases h1
   simp[Array.getElem?_eq_none h'] at h1
  obtain ⟨p1,p2,p3⟩:=Oper.apart_spec (hfree j oj rG hji (.inl Ka) hnot);rw[xY a v H p1 p2 (λcs b=>hsel j oj cs b rG)] at hst
  simp only[Option.map_eq_some_iff] at hst;obtain ⟨⟨aj,Hj⟩,J9,heq⟩:=hst;simp only[Prod.mk.injEq] at heq;obtain ⟨rfl,rfl⟩:=heq;refine gW.sync rG J9 (λq hq=>hR q (hsub q hq)) hap ?_
  have hfree':∀(k:Nat) (ok:Oper),ops[k]? = some ok->k≠i->((listed.setIfInBounds j true).getD k true=false\/k∈bz) ->
   (∀e∈ok.after,Region.binds .any e=true->e.on≠i)->oi.apart ops ok=true:=λk ok hk' hki hun hno=>by
   refine hfree k ok hk' hki (hun.imp (λhun=>?_) id) hno
   by_cases Cm:j=k
   .
    subst Cm;exact Ka
   rw[getD_set_ne true Cm] at hun;exact hun
  obtain ⟨u,rfl⟩:=eW J9
  have hyj:QY P call ops oi v a Hj:=by
   rcases hrd with Y3|⟨pr,e1,e2⟩
   .
    exact hy.mem hq (.inl Y3)
   rcases hR _ e1 with h1|h1
   .
    exact absurd h1 (Ee gF hr hj)
   exact hy.aef hq e2 h1
  exact ih (listed.setIfInBounds j true) _ (Array.setIfInBounds_comm _ _ (Ne.symm hji)) rfl (hrd.imp id λ⟨pr,e1,e2⟩=>⟨pr,e1,e2.move u p3⟩) hfree' wK hnp (gF.add hj) (ready_mono hr (Ne.symm hji)) (hyj.move p3 (λcs b=>hsel i oi cs b hi))
 |
  @Uf l1 bz j oj a1 H rG hm oU hd h ih =>
  rintro listed a rfl rfl hrd hfree wK hnp gF hr hy hji hj;obtain ⟨Ka,oj',hoj',hall⟩:=mem_ready.1 hj;rw[rG] at hoj';cases hoj'
  have hnot:∀e∈oj.after,Region.binds .any e=true->e.on≠i:=λe he hb heq=>by
   have h1:=hall e he hb;have h0:=(mem_ready.1 hr).1;rw[heq] at h1;rcases Nat.lt_or_ge i listed.size with h'|h'
   .
    simp[h'] at h0 h1;rw[h0] at h1;cases h1
   simp[Array.getElem?_eq_none h'] at h1
  obtain ⟨p1,_,_⟩:=Oper.apart_spec (hfree j oj rG hji (.inl Ka) hnot);rw[oV a v p1] at oU
  refine gW.Uf rG hm oU hd (ih (listed.setIfInBounds j true) a (Array.setIfInBounds_comm _ _ (Ne.symm hji)) rfl hrd (λk ok hk' hki hun hno=>?_) (λk hk' ok hok'=>?_) (λhh=>by
   rcases List.mem_cons.1 hh with e|hh
   .
    exact hji e.symm
   exact hnp hh) (gF.add hj) (ready_mono hr (Ne.symm hji)) hy)
  .
   rcases hun with hun|hun
   .
    refine hfree k ok hk' hki (.inl ?_) hno;by_cases Cm:j=k
    .
     subst Cm;exact Ka
    rw[getD_set_ne true Cm] at hun;exact hun
   rcases List.mem_cons.1 hun with rfl|hun
   .
    exact hfree k ok hk' hki (.inl Ka) hno
   exact hfree k ok hk' hki (.inr hun) hno
  rcases List.mem_cons.1 hk' with rfl|hk'
  .
   rw[rG] at hok';cases hok';exact hnot
  exact wK k hk' ok hok'
end
end Go.Ev

namespace Go.Ev
open Go.RowKit
section
variable {P:Program} {call:aM} {ops:Array Oper}
theorem nG (m i:Nat):bit m i=m.testBit i:=by
 unfold bit
 rw[Nat.testBit_eq_decide_div_mod_eq]
 have e:Nat.land (Nat.shiftRight m i) 1=m/2 ^ i%2:=by
  show (m >>> i) &&& 1=_;rw[Nat.and_one_is_mod,Nat.shiftRight_eq_div_pow]
 rw[e,Bool.eq_iff_iff];simp[Nat.beq_eq]
theorem Cw (m i j:Nat):bit (mg m i) j=(bit m j||decide (i=j)):=by
 rw[nG,nG]
 show (m ||| (1 <<< i)).testBit j=_
 rw[Nat.testBit_or,Nat.one_shiftLeft,Nat.testBit_two_pow]
theorem xZ (j:Nat):bit 0 j=false:=by rw[nG];simp
theorem IG (p L:Nat):Nat.beq (Nat.land p L) p=true↔∀j,bit p j=true->bit L j=true:=by
 rw[Nat.beq_eq]
 show (p &&& L)=p↔_
 constructor
 .
  intro h j hj;rw[nG] at hj ⊢;rw[<-h,Nat.testBit_and] at hj;simp at hj;exact hj.2
 intro h
 apply Nat.eq_of_testBit_eq
 intro j
 rw[Nat.testBit_and]
 cases hp:p.testBit j with
 |false=>rfl
 |true=>have:=h j (by rw[nG];exact hp);rw[nG] at this;simp[this]
theorem iy (o:Oper) (j:Nat):bit (kg o) j=true↔∃e∈o.after,Region.binds .any e=true/\e.on=j:=by
 have key:∀l:List Edge,bit (l.foldr (λe m=>pick2 (Region.binds .any e) (mg m e.on) m) 0) j=true↔∃e∈l,Region.binds .any e=true/\e.on=j:=by
  intro l
  induction l with
  |nil=>simp[xZ]
  |
   cons e l ih =>
   simp only[List.foldr_cons,List.mem_cons,exists_eq_or_imp];cases hb:Region.binds .any e with
   |false=>show bit (l.foldr _ 0) j=true↔_;rw[ih];simp
   |true=>show bit (mg (l.foldr _ 0) e.on) j=true↔_;rw[Cw,Bool.or_eq_true,ih];simp[or_comm]
 have:=key o.after.toList
 unfold kg
 rw[this];simp
theorem Ad (o:Oper) (d:Nat):bit (mP ops o) d=true↔d∈o.looksAt ops:=by
 have key:∀l:List Tmp,bit (l.foldr (λd m=>mg m d) 0) d=true↔d∈l:=by
  intro l
  induction l with
  |nil=>simp[xZ]
  |
   cons e l ih =>
   simp only[List.foldr_cons,List.mem_cons];rw[Cw,Bool.or_eq_true,ih];simp;constructor
   .
    rintro (h|h)
    .
     exact .inr h
    exact .inl h.symm
   rintro (h|h)
   .
    exact .inr h.symm
   exact .inl h
 exact key _
structure VB (P:Program) (ops:Array Oper) (p:PO):Prop where
 o:ops[p.i]? = some p.o
 pre:p.pre=kg p.o
 looks:p.looks=mP ops p.o
 q:p.q=quiet P p.o.op
 ld:p.ld=eA p.o.op
 LN:p.LN=makes P p.o
 QB:∀j,bit p.QB j=true->Reach ops p.i j
theorem nH (pre j:Nat):∀l:List PO,bit (lK pre l) j=true->bit pre j=true\/∃p∈l,bit pre p.i=true/\bit p.QB j=true
 |[],h=>.inl h
 |
  p::l,h=>by
  unfold lK at h;rw[pick2_eq] at h;split at h
  .
   rename_i hb;have h':(p.QB ||| lK pre l).testBit j=true:=by rw[<-nG];exact h
   rw[Nat.testBit_or,Bool.or_eq_true] at h';rcases h' with h'|h'
   .
    exact .inr ⟨p,by simp,hb,by rw[nG];exact h'⟩
   rcases nH pre j l (by rw[nG];exact h') with h1|⟨q,hq,h2⟩
   .
    exact .inl h1
   exact .inr ⟨q,by simp[hq],h2⟩
  rcases nH pre j l h with h1|⟨q,hq,h2⟩
  .
   exact .inl h1
  exact .inr ⟨q,by simp[hq],h2⟩
theorem vT:∀(l:List Oper) (i:Nat) (acc:List PO),(∀j,l[j]? = ops[i+j]?)->(∀p∈acc,VB P ops p)->(∀k,k<i->∃p∈acc,p.i=k) ->
 (∀p∈mh P ops l i acc,VB P ops p)/\(∀k,k<i+l.length->∃p∈mh P ops l i acc,p.i=k)
 |[],i,acc,_,h1,h2=>⟨h1,by simpa[mh] using h2⟩
 |
  o::l,i,acc,hl,h1,h2=>by
  unfold mh;have h0:ops[i]? = some o:=by simpa using (hl 0).symm
  have hp:VB P ops ⟨o,i,kg o,lK (kg o) acc,mP ops o,quiet P o.op,eA o.op,makes P o⟩:=by
   refine ⟨h0,rfl,rfl,rfl,rfl,rfl,λj hj=>?_⟩
   rcases nH _ _ _ hj with h|⟨p,hp,h3,h4⟩
   .
    obtain ⟨e,he,hb,rfl⟩:=(iy o j).1 h;exact .one h0 he hb
   obtain ⟨e,he,hb,heq⟩:=(iy o p.i).1 h3;exact .more h0 he hb (by rw[heq];exact (h1 p hp).QB j h4)
  have:=vT l (i+1) (⟨o,i,kg o,lK (kg o) acc,mP ops o,quiet P o.op,eA o.op,makes P o⟩::acc)
   (λj=>by have:=hl (j+1);simpa[Nat.add_assoc,Nat.add_comm 1 j] using this)
   (λp hm=>by
    rcases List.mem_cons.1 hm with rfl|hm
    .
     exact hp
    exact h1 p hm)
   (λk hk=>by
    by_cases hki:k=i
    .
     exact ⟨_,List.mem_cons_self,hki.symm⟩
    obtain ⟨p,hm,hpk⟩:=h2 k (by omega);exact ⟨p,by simp[hm],hpk⟩)
  refine ⟨this.1,λk hk=>this.2 k ?_⟩
  simp only[List.length_cons] at hk;omega
structure x5 (P:Program) (ops:Array Oper) (pos:List PO):Prop where
 each:∀p∈pos,VB P ops p
 all:∀k,k<ops.size->∃p∈pos,p.i=k
theorem Ui:x5 P ops (mh P ops ops.toList 0 []).reverse:=by
 have:=vT (P:=P) (ops:=ops) ops.toList 0 [] (by simp) (by simp) (by simp)
 exact ⟨λp hp=>this.1 p (by simpa using hp),λk hk=>by
  obtain ⟨p,hm,h⟩:=this.2 k (by simpa using hk);exact ⟨p,by simpa using hm,h⟩⟩
structure II (ops:Array Oper) (L:Nat) (listed:Array Bool):Prop where
 size:listed.size=ops.size
 get:∀j,listed.getD j false=bit L j
theorem II.x6 {L:Nat} {listed:Array Bool} (h:II ops L listed) {j:Nat} (hj:j<ops.size):listed.getD j true=bit L j:=by
 rw[<-h.get]
 have:j<listed.size:=by rw[h.size];exact hj
 simp[Array.getD,this]
theorem II.add {L:Nat} {listed:Array Bool} (h:II ops L listed) {i:Nat} (hi:i<ops.size):II ops (mg L i) (listed.setIfInBounds i true):=by
 refine ⟨by simpa using h.size,λj=>?_⟩
 rw[Cw]
 by_cases hij:i=j
 .
  subst hij;have:i<listed.size:=by rw[h.size];exact hi
  simp[this]
 rw[getD_set_ne false hij,h.get];simp[hij]
theorem II.zero:II ops 0 (Array.replicate ops.size false):=⟨by simp,λj=>by
 rw[xZ]
 by_cases hlt:j<ops.size
 .
  simp[Array.getD,hlt]
 simp[Array.getD,hlt]⟩
theorem gX {pos:List PO} (hp:x5 P ops pos) {L:Nat} {listed:Array Bool} (hl:II ops L listed) {p:PO} (hm:p∈pos):mj L p=true↔p.i∈Region.ready .any ops listed:=by
 have ho:=(hp.each p hm).o
 have hlt:p.i<ops.size:=(Array.getElem?_eq_some_iff.1 ho).1
 rw[mem_ready,hl.x6 hlt]
 unfold mj
 rw[pick2_eq]
 constructor
 .
  intro h;split at h
  .
   cases h
  rename_i hb;refine ⟨by simpa using hb,p.o,ho,λe he aeh=>?_⟩
  rw[hl.get];rw[(hp.each p hm).pre] at h;exact (IG _ _).1 h e.on ((iy p.o e.on).2 ⟨e,he,aeh,rfl⟩)
 rintro ⟨h1,o,ho',hall⟩
 rw[ho] at ho';cases ho'
 rw[if_neg (by rw[h1];simp)]
 rw[(hp.each p hm).pre]
 refine (IG _ _).2 λj hj=>?_
 obtain ⟨e,he,hb,rfl⟩:=(iy p.o j).1 hj
 rw[<-hl.get];exact hall e he hb
theorem x7 {pos:List PO} (hp:x5 P ops pos) {L:Nat} {listed:Array Bool} (hl:II ops L listed) {i:Nat} (hi:i∈Region.ready .any ops listed):∃p∈pos,p.i=i/\mj L p=true:=by
 obtain ⟨_,o,ho,_⟩:=mem_ready.1 hi
 obtain ⟨p,hm,rfl⟩:=hp.all i (Array.getElem?_eq_some_iff.1 ho).1
 exact ⟨p,hm,rfl,(gX hp hl hm).2 hi⟩
theorem lO {x y:PO} (hx:VB P ops x) (hy:VB P ops y) (h:xJ x y=true):x.o.apart ops y.o=true:=by
 unfold xJ at h
 have nl:∀{z:PO} (hz:VB P ops z) {d:Nat},bit z.looks d=false->(z.o.looksAt ops).contains d=false:=by
  intro z hz d hd;rw[hz.looks] at hd;rw[<-Bool.not_eq_true,List.contains_iff_mem,<-Ad,hd];simp
 unfold Oper.apart
 split at h
 .
  rename_i d e hd he;simp only[Bool.and_eq_true,Bool.not_eq_true'] at h;simp only[hd,he,nl hy h.1.1,nl hx h.2,Bool.not_false,Bool.true_and,Bool.and_true]
  have hne:¬(e=d):=by
   intro hh;subst hh;have:=h.1.2;rw[<-Bool.not_eq_true,Nat.beq_eq] at this;exact this rfl
  simp[hne]
 .
  rename_i d hd he;simp only[Bool.not_eq_true'] at h;rw[hd,he];simp only[nl hy h];simp
 .
  rename_i e hd he;simp only[Bool.not_eq_true'] at h;rw[hd,he];simp only[nl hx h];simp
 rename_i hd he
 rw[hd,he];rfl
theorem x8 {pos:List PO} (hp:x5 P ops pos) {L:Nat} {listed:Array Bool} (hl:II ops L listed) {p:PO} (hm:p∈pos) (h:T8 pos L p=true) :
 ∀(j:Nat) (oj:Oper),ops[j]? = some oj->j≠p.i->listed.getD j true=false->(∀e∈oj.after,Region.binds .any e=true->e.on≠p.i)->p.o.apart ops oj=true:=by
 intro j oj hj hji hun hno
 have hlt:j<ops.size:=(Array.getElem?_eq_some_iff.1 hj).1
 obtain ⟨r,hr,Rm⟩:=hp.all j hlt
 have hro:=(hp.each r hr).o
 rw[Rm,hj] at hro
 have Kb:oj=r.o:=by cases hro;rfl
 have:=List.all_eq_true.1 h r hr
 simp only[Bool.or_eq_true] at this
 rcases this with ((h1|h1)|h1)|h1
 .
  rw[Nat.beq_eq] at h1;exact absurd (Rm ▸ h1) hji
 .
  rw[Rm,<-hl.x6 hlt,hun] at h1;cases h1
 .
  rw[(hp.each r hr).pre] at h1;obtain ⟨e,he,hb,heq⟩:=(iy r.o p.i).1 h1;exact absurd heq (hno e (by rw[Kb];exact he) hb)
 rw[Kb];exact lO (hp.each p hm) (hp.each r hr) h1
theorem Ef {pos:List PO} (hp:x5 P ops pos) {L:Nat} {listed:Array Bool} (hl:II ops L listed) {p:PO} (hm:p∈pos) (h:Gi pos L p=true):Gr ops listed p.i:=by
 intro j oj hj Y3 ZO
 have hlt:j<ops.size:=(Array.getElem?_eq_some_iff.1 hj).1
 obtain ⟨r,hr,Rm⟩:=hp.all j hlt
 have hro:=(hp.each r hr).o
 rw[Rm,hj] at hro
 have Kb:oj=r.o:=by cases hro;rfl
 have:=List.all_eq_true.1 h r hr
 simp only[Bool.or_eq_true,Bool.not_eq_true'] at this
 rw[(hp.each r hr).ld,<-Kb,Y3,Rm,<-hl.x6 hlt,ZO] at this
 rcases this with (h1|h1)|h1
 .
  cases h1
 .
  cases h1
 exact (hp.each p hm).QB j h1
noncomputable def mU (P:Program) (call:aM) (ops:Array Oper):List (Oper×Bool)->Option (List Nat)->Act->Mem->Option (Act×Mem)
 |[],_,a,H=>some (a,H)
 |
  (o,lk)::l,R,a,H=>match gD P call ops R lk o a H with
  |some (a',H')=>mU P call ops l (jd a.eval o R) a' H'
  |none=>none
theorem Eg {ev:Operand->Value} {st xt:TypeId} {s x v:Value} {H H':Mem} (h:ke P H st xt s x=some (v,H')) {j:Nat} (hj:∀b off m l c,s = .slice (some ⟨b,off,m⟩) l c->j≠b) (k:Blk) (hk:H.get j=some k):H'.get j=some k:=by
 unfold ke at h
 split at h
 .
  split at h
  .
   split at h
   .
    split at h
    .
     cases h
    have push:∀{H1 H2:Mem} {e:TypeId} {cs:List Value} {n m:Nat} {u:Value},H1.get j=some k->eu H1 e cs n m=some (u,H2)->H2.get j=some k:=by
     intro H1 H2 e cs n m u h1 h2;obtain ⟨hp,_⟩:=gL h2;obtain ⟨_,_,e3⟩:=Mem.aY hp;rw[e3,if_neg (Nat.ne_of_lt (Mem.bC h1))];exact h1
    split at h
    .
     split at h
     .
      rename_i b off _ _ _;simp only[Option.map_eq_some_iff,Prod.mk.injEq] at h;obtain ⟨H1,hw,_,rfl⟩:=h;unfold cu at hw;split at hw
      .
       cases hw;exact hk
      split at hw
      .
       split at hw
       .
        obtain ⟨_,_,_,_,e5⟩:=Mem.eC hw;rw[e5,if_neg (hj _ _ _ _ _ rfl)];exact hk
       cases hw
      cases hw
     split at h
     .
      cases h;exact hk
     cases h
    split at h
    .
     split at h
     .
      split at h
      .
       rename_i H1 bF;refine push ?_ h;obtain ⟨_,_,_,e4,_⟩:=ij bF;rw[e4 j (hj _ _ _ _ _ rfl)];exact hk
      cases h
     cases h
    .
     exact push hk h
    cases h
   cases h
  cases h
 cases h
theorem Mf {o:Oper} {s:Operand} (hb:ef o.op=some s) {a:Act} {H:Mem} {r:Act×Mem} (h:dc P call ops o a H=some r) {j:Nat} (hj:∀b off m l c,a.eval s = .slice (some ⟨b,off,m⟩) l c->j≠b) (k:Blk) (hk:H.get j=some k):r.2.get j=some k:=by
 unfold dc at h
 split at h
 .
  simp only[Option.map_eq_some_iff] at h;obtain ⟨⟨v,H1⟩,h1,rfl⟩:=h;unfold ef at hb;split at hb
  .
   rename_i args ats hop;unfold opA at h1;rw[hop] at h1;simp only at h1;unfold bp at h1;simp only at h1;unfold kE at h1;simp only at h1;unfold kM at h1;split at h1
   .
    rename_i s0 x st xt h2 h3 h4 h5;rw[h2] at hb;cases hb;exact Eg (ev:=a.eval) h1 hj k hk
   cases h1
  cases hb
 cases h;exact hk
theorem Gz {o:Oper} {s:Operand} (hb:fC o.op=some s) {a:Act} {H:Mem} {r:Act×Mem} (h:dc P call ops o a H=some r) {j:Nat} (hj:∀b off m,a.eval s = .pointer (some ⟨b,off,m⟩)->j≠b) (k:Blk) (hk:H.get j=some k):r.2.get j=some k:=by
 unfold dc at h
 split at h
 .
  simp only[Option.map_eq_some_iff] at h;obtain ⟨⟨v,H1⟩,h1,rfl⟩:=h;unfold fC at hb;split at hb
  .
   rename_i t s' x hop;cases hb;unfold opA at h1;rw[hop] at h1;simp only at h1;unfold jv at h1;split at h1
   .
    rename_i H2 hst;cases h1;unfold kJ at hst;split at hst
    .
     rename_i i off n hp hn;split at hst
     .
      unfold cu at hst;split at hst
      .
       cases hst;exact hk
      split at hst
      .
       split at hst
       .
        obtain ⟨_,_,_,_,e5⟩:=Mem.eC hst;rw[e5,if_neg (hj _ _ _ hp)];exact hk
       cases hst
      cases hst
     cases hst
    cases hst
   cases h1
  cases hb
 cases h;exact hk
theorem nI {l:List PO} {p:PO} {ms:List PO} (h:Cg l=some (p,ms)):p∈l/\(∀r∈l,r=p\/r∈ms)/\∀m∈ms,m∈l/\m.LN=true:=by
 unfold Cg at h
 split at h
 .
  rename_i q hf;cases h;have hm:p∈l.filter λp => !p.LN:=by rw[hf];simp
  refine ⟨(List.mem_filter.1 hm).1,λr hr=>?_,λm hm=>List.mem_filter.1 hm⟩
  by_cases hk:r.LN=true
  .
   exact .inr (List.mem_filter.2 ⟨hr,hk⟩)
  have:r∈l.filter λp => !p.LN:=List.mem_filter.2 ⟨hr,by simpa using hk⟩
  rw[hf] at this;exact .inl (by simpa using this)
 .
  rename_i hf;split at h
  .
   cases h;refine ⟨by simp,λr hr=>by simpa using hr,λm hm=>⟨by simp[hm],?_⟩⟩
   have:=List.filter_eq_nil_iff.1 hf m (by simp[hm])
   simpa using this
  cases h
 cases h
structure uJ (ops:Array Oper) (base:Array Bool) (bz:List Nat) (listed:Array Bool):Prop where
 size:listed.size=ops.size
 get:∀j,listed.getD j false=true↔base.getD j false=true\/j∈bz
theorem uJ.x6 {base listed:Array Bool} {bz:List Nat} (h:uJ ops base bz listed) (hb:base.size=ops.size) {j:Nat} (hj:j<ops.size):listed.getD j true=false↔base.getD j true=false/\j ∉ bz:=by
 have e1:listed.getD j true=listed.getD j false:=by have:=h.size;simp[Array.getD,this,hj]
 have e2:base.getD j true=base.getD j false:=by simp[Array.getD,hb,hj]
 have:=h.get j
 rw[e1,e2,<-Bool.not_eq_true,<-Bool.not_eq_true,this]
 simp only[not_or]
theorem uJ.set {base listed:Array Bool} {bz:List Nat} (h:uJ ops base bz listed) (hb:base.size=ops.size) {i:Nat} (hi:i<ops.size):uJ ops (base.setIfInBounds i true) bz (listed.setIfInBounds i true):=by
 refine ⟨by simpa using h.size,λj=>?_⟩
 by_cases hij:i=j
 .
  subst hij;have h1:i<listed.size:=by rw[h.size];exact hi
  have h2:i<base.size:=by rw[hb];exact hi
  simp[h1,h2]
 rw[getD_set_ne false hij,getD_set_ne false hij];exact h.get j
theorem uJ.Uf {base listed:Array Bool} {bz:List Nat} (h:uJ ops base bz listed) {i:Nat} (hi:i<ops.size):uJ ops base (i::bz) (listed.setIfInBounds i true):=by
 refine ⟨by simpa using h.size,λj=>?_⟩
 by_cases hij:i=j
 .
  subst hij;have h1:i<listed.size:=by rw[h.size];exact hi
  simp[h1]
 rw[getD_set_ne false hij,h.get]
 simp[Ne.symm hij]
theorem uJ.pay {base listed:Array Bool} {l1 l2:List Nat} {i:Nat} (h:uJ ops base (l1++i::l2) listed) (hb:base.size=ops.size) (hi:i<ops.size):uJ ops (base.setIfInBounds i true) (l1++l2) listed:=by
 refine ⟨h.size,λj=>?_⟩
 rw[h.get]
 have h2:i<base.size:=by rw[hb];exact hi
 by_cases hij:i=j
 .
  subst hij;simp[h2]
 rw[getD_set_ne false hij]
 simp[Ne.symm hij]
theorem Eh {listed:Array Bool} (hc:kS ops listed) {j k:Nat} {o:Oper} (rG:ops[j]? = some o) (hall:∀e∈o.after,Region.binds .any e=true->listed.getD e.on false=true) (h:Reach ops j k):listed.getD k false=true:=by
 cases h with
 |one ho' he' hb'=>rw[rG] at ho';cases ho';exact hall _ he' hb'
 |more ho' he' hb' h2'=>rw[rG] at ho';cases ho';exact s7 hc h2' (hall _ he' hb')
theorem Kc (_hk:bE call) (ag5:∀(j:Nat) (o:Oper) cs b,ops[j]? = some o->o.op ≠ .select cs b) {pos:List PO} (hp:x5 P ops pos) {af:Act} {Hf:Mem}:∀(n L:Nat) (base:Array Bool) (l:List (Oper×Bool)),og pos n L=some l->II ops L base ->
 ∀m∈pos,m.LN=true->mj L m=true->∀R a H,mU P call ops l R a H=some (af,Hf)->(j5 P a.eval m.o).isSome=true:=by
 intro n
 induction n with
 |
  zero =>
  intro L base l h hl m hmp hmk ZP R a H hd;unfold og at h;split at h
  .
   rename_i hf;exact absurd ZP (List.find?_eq_none.1 hf m hmp)
  cases h
 |
  succ n ih =>
  intro L base l h hl m hmp hmk ZP R a H hd;have hmm:makes P m.o=true:=by rw[<-(hp.each m hmp).LN];exact hmk
  have hmo:=(hp.each m hmp).o;have hmr:=(gX hp hl hmp).1 ZP
  have go:∀{p:PO},p∈pos->m.i≠p.i->mj (mg L p.i) m=true:=λ{p} GA hne=>by
   have hlt:p.i<ops.size:=(Array.getElem?_eq_some_iff.1 (hp.each p GA).o).1;exact (gX hp (hl.add hlt) hmp).2 (ready_mono hmr hne)
  unfold og at h;split at h
  .
   rename_i p hf;have hm:=List.mem_of_find?_eq_some hf;have VC:=List.find?_some hf;simp only[Bool.and_eq_true] at VC;have hq:quiet P p.o.op=true:=by rw[<-(hp.each p hm).q];exact VC.1
   have ho:=(hp.each p hm).o;have hlt:p.i<ops.size:=(Array.getElem?_eq_some_iff.1 ho).1;have LJ:=(gX hp hl hm).1 VC.2
   have hne:m.i≠p.i:=λe=>by
    rw[e,ho] at hmo;have e2:p.o=m.o:=Option.some.inj hmo;rw[<-e2] at hmm;rw[rF hmm] at hq;cases hq
   rw[pick2_eq] at h;split at h
   case isFalse=>cases h
   rename_i hfree;split at h
   case h_2=>cases h
   rename_i l' hl';cases h;simp only[mU] at hd;split at hd
   case h_2=>cases hd
   rename_i a1 H1 hst;obtain ⟨u,rfl⟩:=eW hst
   have hap:=x8 hp hl hm hfree m.i m.o hmo hne (mem_ready.1 hmr).1 (λe he hb heq=>by
    obtain ⟨_,o2,Cv,hall⟩:=mem_ready.1 hmr;rw[hmo] at Cv;cases Cv;have h1:=hall e he hb;rw[heq] at h1;have h0:=(mem_ready.1 LJ).1;have:base.getD p.i true=base.getD p.i false:=by have:=hl.size;simp[Array.getD,this,hlt]
    rw[this,h1] at h0;cases h0)
   rw[<-oV (ops:=ops) a u (Oper.apart_spec hap).1];exact ih _ _ _ hl' (hl.add hlt) m hmp hmk (go hm hne) _ _ _ hd
  split at h
  .
   rename_i hf;have:m∈pos.filter (mj L):=List.mem_filter.2 ⟨hmp,ZP⟩;rw[hf] at this;cases this
  rename_i q0 r0 hf;split at h
  case h_2=>cases h
  rename_i p ms hch;obtain ⟨c1,c2,c3⟩:=nI hch;rw[<-hf] at c1 c2 c3;obtain ⟨hm,hr⟩:=List.mem_filter.1 c1;have ho:=(hp.each p hm).o;have hlt:p.i<ops.size:=(Array.getElem?_eq_some_iff.1 ho).1;rw[pick2_eq] at h;split at h
  case isFalse=>cases h
  rename_i VD;split at h
  case h_2=>cases h
  rename_i l' hl';cases h;simp only[mU] at hd;split at hd
  case h_2=>cases hd
  rename_i a1 H1 hst;by_cases hne:m.i=p.i
  .
   rw[hne,ho] at hmo;have e2:p.o=m.o:=Option.some.inj hmo;rw[e2] at hst;obtain ⟨te,cs,sh,h1,_⟩:=uI hmm hst;rw[h1];rfl
  obtain ⟨u,rfl⟩:=eW hst;rcases c2 m (List.mem_filter.2 ⟨hmp,ZP⟩) with rfl|hms
  .
   exact absurd rfl hne
  have h1:=List.all_eq_true.1 VD m hms;simp only[Bool.and_eq_true] at h1;rw[<-oV (ops:=ops) a u (Oper.apart_spec (lO (hp.each m hmp) (hp.each p hm) h1.1.1)).2.2];exact ih _ _ _ hl' (hl.add hlt) m hmp hmk (go hm hne) _ _ _ hd
def nJ (R:Option (List Nat)) (RL:List (Nat×Option Nat)):Prop :=
 match R with
 |none=>True
 |some l=>∀q∈RL,∃b∈l,q.2=some b
theorem nJ.next {R:Option (List Nat)} {RL:List (Nat×Option Nat)} (h:nJ R RL) (ev:Operand->Value) (o:Oper):nJ (jd ev o R) RL:=by
 unfold jd
 split
 .
  split
  .
   rename_i l b _ _ _
   exact λq hq=>by
    obtain ⟨b',h1,h2⟩:=h q hq;exact ⟨b',by simp[h1],h2⟩
  trivial
 rw[pick2_eq]
 split
 .
  trivial
 exact h
theorem GB {R:Option (List Nat)} {RL:List (Nat×Option Nat)} (h:nJ R RL) (a:Act) (o:Oper) (i:Nat) (hl:eA o.op=true):∃pr,QM o a pr/\nJ (jd a.eval o R) ((i,pr)::RL):=by
 unfold jd
 split
 .
  rename_i t x hop;split
  .
   rename_i l b off m hx;refine ⟨some b,.inr ⟨b,t,x,off,m,rfl,hop,hx⟩,λq hq=>?_⟩
   rcases List.mem_cons.1 hq with rfl|hq
   .
    exact ⟨b,by simp,rfl⟩
   obtain ⟨b',h1,h2⟩:=h q hq;exact ⟨b',by simp[h1],h2⟩
  exact ⟨none,.inl rfl,trivial⟩
 rw[pick2_eq,if_pos hl]
 exact ⟨none,.inl rfl,trivial⟩
theorem GC (hk:bE call) {R:Option (List Nat)} {RL:List (Nat×Option Nat)} (h:nJ R RL) {o:Oper} {lk:Bool} {a:Act} {H:Mem} {r:Act×Mem} (hst:gD P call ops R lk o a H=some r) (hl:lk=true):∀q∈RL,Ea q.2 H r.2:=by
 intro q hq
 rcases kq hst with ⟨hs,hc⟩|⟨_,u,hu,rfl⟩
 .
  obtain ⟨s,hb,gF⟩:=hc hl
  have key:∀j,(∀b off m l c,a.eval s = .slice (some ⟨b,off,m⟩) l c->j≠b)->(∀b off m,a.eval s = .pointer (some ⟨b,off,m⟩)->j≠b)->∀k,H.get j=some k->r.2.get j=some k:=λj hj hj2 k hkk=>by
   rcases hb with hb|hb
   .
    exact Mf hb hs hj k hkk
   exact Gz hb hs hj2 k hkk
  unfold mo at gF;split at gF
  .
   rename_i hx;exact Ea.Gs λj k hkk=>key j (λb off m l c e=>by rw[hx] at e;cases e) (λb off m e=>by rw[hx] at e;cases e) k hkk
  .
   rename_i b off m l c lr hx;obtain ⟨b',h1,h2⟩:=h q hq;rw[h2];intro k hkk;refine key b' (λb2 off2 m2 l2 c2 e=>?_) (λb2 off2 m2 e=>by rw[hx] at e;cases e) k hkk
   rw[hx] at e;cases e;have:=List.all_eq_true.1 gF b' h1;intro e2;rw[e2] at this;simp at this
  .
   rename_i b off m lr hx;obtain ⟨b',h1,h2⟩:=h q hq;rw[h2];intro k hkk;refine key b' (λb2 off2 m2 l2 c2 e=>by rw[hx] at e;cases e) (λb2 off2 m2 e=>?_) k hkk
   rw[hx] at e;cases e;have:=List.all_eq_true.1 gF b' h1;intro e2;rw[e2] at this;simp at this
  cases gF
 obtain ⟨_,_,h3⟩:=D6 hk hu
 exact Ea.Gs λj k hkk=>by
  have hlt:=Mem.bC hkk;show u.2.get j=some k;rw[h3 j hlt hlt];exact hkk
theorem Ke (hk:bE call) (hsel:∀(j:Nat) (o:Oper) cs b,ops[j]? = some o->o.op ≠ .select cs b) {pos:List PO} (hp:x5 P ops pos) {af:Act} {Hf:Mem}:∀(n L:Nat) (base:Array Bool) (l:List (Oper×Bool)),og pos n L=some l->II ops L base->kS ops base ->
 ∀(bz:List Nat) (listed:Array Bool),uJ ops base bz listed->(∀m∈bz,m∈Region.ready .any ops base/\∃o,ops[m]? = some o/\makes P o=true)->bz.Nodup->(∀m∈bz,∀m'∈bz,m≠m'->∀o o',ops[m]? = some o->ops[m']? = some o'->o.dst≠o'.dst) ->
 ∀(RL:List (Nat×Option Nat)) (R:Option (List Nat)),(∀q∈RL,base.getD q.1 true=true/\∃o,ops[q.1]? = some o/\eA o.op=true)->nJ R RL->∀a H,mU P call ops l R a H=some (af,Hf)->gW P call ops (λx y=>x=af/\y=Hf) RL none listed bz a H:=by
 intro n
 induction n with
 |
  zero =>
  intro L base l h hl _ bz listed uu gy _ _ RL R Y4 Kf a H hd;unfold og at h;split at h
  .
   rename_i hf;cases h;simp only[mU,Option.some.injEq] at hd;cases hd
   have s6:∀i,i ∉ Region.ready .any ops base:=by
    intro i hi;obtain ⟨p,hm,_,hr⟩:=x7 hp hl hi;have:=List.find?_eq_none.1 hf p hm;exact this hr
   have hpn:bz=[]:=List.eq_nil_iff_forall_not_mem.2 λm hm=>s6 m (gy m hm).1
   subst hpn;refine gW.step (λ_=>⟨rfl,rfl,rfl⟩) λi hi=>absurd ?_ (s6 i)
   obtain ⟨h0,o,ho,hall⟩:=mem_ready.1 hi;have hlt:=(Array.getElem?_eq_some_iff.1 ho).1;exact mem_ready.2 ⟨((uu.x6 hl.size hlt).1 h0).1,o,ho,λe he hb=>by simpa using (uu.get _).1 (hall e he hb)⟩
  cases h
 |
  succ n ih =>
  intro L base l h hl gF bz listed uu gy hnd Ac RL R Y4 Kf a H hd
  have VE:kS ops listed:=by
   intro k o ho hk' e he hb;rcases (uu.get k).1 hk' with h1|h1
   .
    exact (uu.get _).2 (.inl (gF k o ho h1 e he hb))
   obtain ⟨_,o',ho',hall⟩:=mem_ready.1 (gy k h1).1;rw[ho] at ho';cases ho';exact (uu.get _).2 (.inl (hall e he hb))
  unfold og at h;split at h
  .
   rename_i p hf;have hm:=List.mem_of_find?_eq_some hf;have VC:=List.find?_some hf;simp only[Bool.and_eq_true] at VC;have LJ:=(gX hp hl hm).1 VC.2;have hq:quiet P p.o.op=true:=by rw[<-(hp.each p hm).q];exact VC.1
   have ho:=(hp.each p hm).o;have hlt:p.i<ops.size:=(Array.getElem?_eq_some_iff.1 ho).1
   have hnp:p.i ∉ bz:=λhpi=>by
    obtain ⟨_,o,ho',hmk⟩:=gy _ hpi;rw[ho] at ho';cases ho';rw[rF hmk] at hq;cases hq
   rw[pick2_eq] at h;split at h
   .
    rename_i hfree;split at h
    .
     rename_i l' hl';cases h;simp only[mU] at hd;split at hd
     .
      rename_i a1 H1 hst;have hst':dc P call ops p.o a H=some (a1,H1):=by simpa[gD] using hst
      obtain ⟨rfl,v,rfl,hy⟩:=QY.Rl hq hst';have hfr:=x8 hp hl hm hfree
      have Rn:p.i∈Region.ready .any ops listed:=by
       obtain ⟨h0,o,ho',hall⟩:=mem_ready.1 LJ;exact mem_ready.2 ⟨(uu.x6 hl.size hlt).2 ⟨h0,hnp⟩,o,ho',λe he hb=>(uu.get _).2 (.inl (hall e he hb))⟩
      have hno:∀m∈bz,∀o,ops[m]? = some o->∀e∈o.after,Region.binds .any e=true->e.on≠p.i:=by
       intro m hm' o ho' e he hb heq;obtain ⟨_,o2,Cv,hall⟩:=mem_ready.1 (gy m hm').1;rw[ho'] at Cv;cases Cv;have h1:=hall e he hb;rw[heq] at h1;have h0:=(mem_ready.1 LJ).1;have:base.getD p.i true=base.getD p.i false:=by have:=hl.size;simp[Array.getD,this,hlt]
       rw[this,h1] at h0;cases h0
      have up:∀q∈RL,(base.setIfInBounds p.i true).getD q.1 true=true/\∃o,ops[q.1]? = some o/\eA o.op=true:=λq hq=>⟨by
       by_cases e:p.i=q.1
       .
        rw[<-e];by_cases hlt':p.i<base.size<;>simp[Array.getD,hlt']
       rw[getD_set_ne true e];exact (Y4 q hq).1,(Y4 q hq).2⟩
      have self:(base.setIfInBounds p.i true).getD p.i true=true:=by by_cases hlt':p.i<base.size<;>simp[Array.getD,hlt']
      have hpend':∀m∈bz,m∈Region.ready .any ops (base.setIfInBounds p.i true)/\∃o,ops[m]? = some o/\makes P o=true:=λm hm'=>⟨ready_mono (gy m hm').1 (λe=>hnp (by rw[<-e];exact hm')),(gy m hm').2⟩
      obtain ⟨RL',hsub',hrd,aej⟩:∃RL',(∀q∈RL,q∈RL')/\(eA p.o.op=false\/∃pr,(p.i,pr)∈RL'/\QM p.o a pr)/\gW P call ops (λx y=>x=af/\y=Hf) RL' none (listed.setIfInBounds p.i true) bz (a.put p.o.dst v) H1:=by
       cases Y3:eA p.o.op with
       |false=>exact ⟨RL,λ_ h=>h,.inl rfl,ih _ _ _ hl' (hl.add hlt) (gF.add LJ) bz (listed.setIfInBounds p.i true) (uu.set hl.size hlt) hpend' hnd Ac RL _ up (Kf.next _ _) _ _ hd⟩
       |
        true =>
        obtain ⟨pr,e1,e2⟩:=GB Kf a p.o p.i Y3
        exact ⟨(p.i,pr)::RL,λq hq=>by simp[hq],.inr ⟨pr,by simp,e1⟩,ih _ _ _ hl' (hl.add hlt) (gF.add LJ) bz (listed.setIfInBounds p.i true) (uu.set hl.size hlt) hpend' hnd Ac _ _ (λq hq=>by
         rcases List.mem_cons.1 hq with rfl|hq
         .
          exact ⟨self,p.o,ho,Y3⟩
         exact up q hq) e2 _ _ hd⟩
      refine Gy hk hsel ho hq hsub' aej listed a rfl rfl hrd ?_ hno hnp VE Rn hy;rintro j oj rG hji (hj|hj) wK
      .
       exact hfr j oj rG hji ((uu.x6 hl.size (Array.getElem?_eq_some_iff.1 rG).1).1 hj).1 wK
      exact hfr j oj rG hji (mem_ready.1 (gy j hj).1).1 wK
     cases hd
    cases h
   cases h
  split at h
  .
   rename_i hf;cases h;simp only[mU,Option.some.injEq] at hd;cases hd
   have s6:∀i,i ∉ Region.ready .any ops base:=by
    intro i hi;obtain ⟨p,hm,_,hr⟩:=x7 hp hl hi;have:p∈pos.filter (mj L):=List.mem_filter.2 ⟨hm,hr⟩;rw[hf] at this;cases this
   have hpn:bz=[]:=List.eq_nil_iff_forall_not_mem.2 λm hm=>s6 m (gy m hm).1
   subst hpn;refine gW.step (λ_=>⟨rfl,rfl,rfl⟩) λi hi=>absurd ?_ (s6 i)
   obtain ⟨h0,o,ho,hall⟩:=mem_ready.1 hi;have hlt:=(Array.getElem?_eq_some_iff.1 ho).1;exact mem_ready.2 ⟨((uu.x6 hl.size hlt).1 h0).1,o,ho,λe he hb=>by simpa using (uu.get _).1 (hall e he hb)⟩
  rename_i q0 r0 hf;split at h
  case h_2=>cases h
  rename_i p ms hch;obtain ⟨c1,c2,c3⟩:=nI hch;rw[<-hf] at c1 c2 c3;obtain ⟨hm,hr⟩:=List.mem_filter.1 c1;have LJ:=(gX hp hl hm).1 hr;have ho:=(hp.each p hm).o;have hlt:p.i<ops.size:=(Array.getElem?_eq_some_iff.1 ho).1;rw[pick2_eq] at h;split at h
  case isFalse=>cases h
  rename_i VD;split at h
  case h_2=>cases h
  rename_i l' hl';cases h;simp only[mU] at hd;split at hd
  case h_2=>cases hd
  rename_i a1 H1 hst
  -- what may wait
  have wait:∀m∈ms,m.o.apart ops p.o=true/\(∀r∈pos,bit r.pre m.i=true->Reach ops r.i p.i)/\∀m'∈ms,m.i≠m'.i->m.o.apart ops m'.o=true:=by
   intro m hmm;have hmp:=(List.mem_filter.1 (c3 m hmm).1).1;have h1:=List.all_eq_true.1 VD m hmm;simp only[Bool.and_eq_true,List.all_eq_true,Bool.or_eq_true,Bool.not_eq_true'] at h1;refine ⟨lO (hp.each m hmp) (hp.each p hm) h1.1.1,λr QG hb=>?_,λm' hm' hne=>?_⟩
   .
    rcases h1.1.2 r QG with h2|h2
    .
     rw[hb] at h2;cases h2
    exact (hp.each r QG).QB _ h2
   rcases h1.2 m' hm' with h2|h2
   .
    rw[Nat.beq_eq] at h2;exact absurd h2 hne
   exact lO (hp.each m hmp) (hp.each m' (List.mem_filter.1 (c3 m' hm').1).1) h2
  -- those that are ready are p,and those that may wait
  have cls:∀j∈Region.ready .any ops base,j=p.i\/∃m∈ms,m.i=j/\ops[j]? = some m.o/\makes P m.o=true:=by
   intro j hj;obtain ⟨r,QG,rfl,Ub⟩:=x7 hp hl hj;rcases c2 r (List.mem_filter.2 ⟨QG,Ub⟩) with rfl|Iz
   .
    exact .inl rfl
   exact .inr ⟨r,Iz,rfl,(hp.each r QG).o,by rw[<-(hp.each r QG).LN];exact (c3 r Iz).2⟩
  have up:∀q∈RL,(base.setIfInBounds p.i true).getD q.1 true=true/\∃o,ops[q.1]? = some o/\eA o.op=true:=λq hq=>⟨by
   by_cases e:p.i=q.1
   .
    rw[<-e];by_cases hlt':p.i<base.size<;>simp[Array.getD,hlt']
   rw[getD_set_ne true e];exact (Y4 q hq).1,(Y4 q hq).2⟩
  by_cases GA:p.i∈bz
  .
   -- it is done already: the row is paid
   obtain ⟨l1,l2,rfl⟩:=List.append_of_mem GA;obtain ⟨_,o,ho',hmk⟩:=gy p.i GA;rw[ho] at ho';cases ho'
   have hnd':p.i ∉ l1++l2/\(l1++l2).Nodup:=by
    have:=(List.perm_middle (a:=p.i) (l₁:=l1) (l₂:=l2)).nodup_iff.1 hnd;exact List.nodup_cons.1 this
   have hsub:∀{x},x∈l1++l2->x∈l1++p.i::l2:=λhx=>by
    rcases List.mem_append.1 hx with h1|h1
    .
     exact List.mem_append_left _ h1
    exact List.mem_append_right _ (List.mem_cons_of_mem _ h1)
   have hpl:∀m∈l1++l2,∀om,ops[m]? = some om->∀x,p.o.dst=some x->x ∉ om.looksAt ops:=by
    intro m hm' om Gw;rcases cls m (gy m (hsub hm')).1 with h2|⟨q,Uj,h2,h3,_⟩
    .
     exact absurd (by rw[<-h2];exact hm') hnd'.1
    rw[Gw] at h3;cases h3;exact (Oper.apart_spec (wait q Uj).1).2.2
   exact gW.pay ho hmk hst hpl (ih _ _ _ hl' (hl.add hlt) (gF.add LJ) (l1++l2) listed (uu.pay hl.size hlt)
    (λm hm'=>⟨ready_mono (gy m (hsub hm')).1 (λe=>hnd'.1 (by rw[<-e];exact hm')),(gy m (hsub hm')).2⟩) hnd'.2 (λm Uk m' hm2=>Ac m (hsub Uk) m' (hsub hm2)) RL _ up (Kf.next _ _) _ _ hd)
  -- by how many may still be done ahead
  have key:∀(k:Nat) (bz:List Nat) (listed:Array Bool),cnt ops listed<=k->uJ ops base bz listed->(∀m∈bz,m∈Region.ready .any ops base/\∃o,ops[m]? = some o/\makes P o=true)->bz.Nodup->(∀m∈bz,∀m'∈bz,m≠m'->∀o o',ops[m]? = some o->ops[m']? = some o'->o.dst≠o'.dst)->p.i ∉ bz ->
   gW P call ops (λx y=>x=af/\y=Hf) RL none listed bz a H:=by
   intro k
   induction k with
   |
    zero =>
    intro bz listed hk' uu _ _ _ GA;exfalso;obtain ⟨h0,_⟩:=mem_ready.1 LJ;have:=ID (ops:=ops) hlt ((uu.x6 hl.size hlt).2 ⟨h0,GA⟩);omega
   |
    succ k ihk =>
    intro bz listed hk' uu gy hnd Ac GA
    have VE:kS ops listed:=by
     intro k o ho hk' e he hb;rcases (uu.get k).1 hk' with h1|h1
     .
      exact (uu.get _).2 (.inl (gF k o ho h1 e he hb))
     obtain ⟨_,o',ho',hall⟩:=mem_ready.1 (gy k h1).1;rw[ho] at ho';cases ho';exact (uu.get _).2 (.inl (hall e he hb))
    have aek:listed.getD p.i false=true->False:=λhh=>by
     rcases (uu.get _).1 hh with h1|h1
     .
      have h0:=(mem_ready.1 LJ).1;have:base.getD p.i true=base.getD p.i false:=by have:=hl.size;simp[Array.getD,this,hlt]
      rw[this,h1] at h0;cases h0
     exact GA h1
    have Rn:p.i∈Region.ready .any ops listed:=by
     obtain ⟨h0,o,ho',hall⟩:=mem_ready.1 LJ;exact mem_ready.2 ⟨(uu.x6 hl.size hlt).2 ⟨h0,GA⟩,o,ho',λe he hb=>(uu.get _).2 (.inl (hall e he hb))⟩
    have back:∀j∈Region.ready .any ops listed,j∈Region.ready .any ops base/\j ∉ bz:=by
     intro j hj;obtain ⟨h0,o,rG,hall⟩:=mem_ready.1 hj;have Ro:=(Array.getElem?_eq_some_iff.1 rG).1;obtain ⟨b0,b1⟩:=(uu.x6 hl.size Ro).1 h0;refine ⟨mem_ready.2 ⟨b0,o,rG,λe he hb=>?_⟩,b1⟩
     rcases (uu.get _).1 (hall e he hb) with h1|h1
     .
      exact h1
     exfalso;rcases cls _ (gy _ h1).1 with h2|⟨m,hmm,h2,_⟩
     .
      exact GA (by rw[<-h2];exact h1)
     obtain ⟨r,QG,Rm⟩:=hp.all j Ro;have hro:=(hp.each r QG).o;rw[Rm,rG] at hro;have Kb:o=r.o:=by cases hro;rfl
     have Mg:Reach ops r.i p.i:=(wait m hmm).2.1 r QG (by
      rw[(hp.each r QG).pre];exact (iy r.o m.i).2 ⟨e,by rw[<-Kb];exact he,hb,h2.symm⟩)
     rw[Rm] at Mg;exact aek (Eh VE rG hall Mg)
    refine gW.step (λh0=>(by rw[h0] at Rn;cases Rn)) λj hj=>?_
    obtain ⟨hjb,hjp⟩:=back j hj;by_cases hji:j=p.i
    .
     subst hji;refine gW.sync ho hst (λq hq=>?_) (λm hm' om Gw=>?_) (ih _ _ _ hl' (hl.add hlt) (gF.add LJ) bz _ (uu.set hl.size hlt) (λm hm'=>⟨ready_mono (gy m hm').1 (λe=>GA (by rw[<-e];exact hm')),(gy m hm').2⟩) hnd Ac RL _ up (Kf.next _ _) _ _ hd)
     .
      cases hlk:(!Gi pos L p) with
      |true=>rw[hlk] at hst;exact .inr (GC hk Kf hst rfl q hq)
      |
       false =>
       obtain ⟨e1,o2,e2,e3⟩:=Y4 q hq;exact .inl (Ef hp hl hm (by simpa using hlk) q.1 o2 e2 e3 e1)
     rcases cls m (gy m hm').1 with h2|⟨q,Uj,h2,h3,_⟩
     .
      exact absurd (by rw[<-h2];exact hm') GA
     rw[Gw] at h3;cases h3;obtain ⟨p1,p2,p3⟩:=Oper.apart_spec (wait q Uj).1;exact ⟨λx hx=>⟨p1 x hx,p2 x hx⟩,p3⟩
    rcases cls j hjb with h2|⟨q,Uj,h2,h3,h4⟩
    .
     exact absurd h2 hji
    have Ro:=(Array.getElem?_eq_some_iff.1 h3).1;have Uh:∀m∈bz,m≠j:=λm hm' e=>hjp (by rw[<-e];exact hm')
    have VF:∀m∈bz,∀om,ops[m]? = some om->om.dst≠q.o.dst/\∀x,om.dst=some x->x ∉ q.o.looksAt ops:=by
     intro m hm' om Gw;rcases cls m (gy m hm').1 with h5|⟨q',hqm',h5,h6,_⟩
     .
      exact absurd (by rw[<-h5];exact hm') GA
     rw[Gw] at h6;cases h6;obtain ⟨p1,p2,_⟩:=Oper.apart_spec ((wait q' hqm').2.2 q Uj (by rw[h5,h2];exact Uh m hm'))
     obtain ⟨_,⟨d,hdq⟩,_⟩:=kQ h4;exact ⟨λe=>p2 d (by rw[e,hdq]) hdq,p1⟩
    have oU:(j5 P a.eval q.o).isSome=true:=by
     obtain ⟨u,rfl⟩:=eW hst;have hqp:=(List.mem_filter.1 (c3 q Uj).1).1;rw[<-oV (ops:=ops) a u (Oper.apart_spec (wait q Uj).1).2.2];exact Kc hk hsel hp n _ _ _ hl' (hl.add hlt) q hqp (c3 q Uj).2 ((gX hp (hl.add hlt) hqp).2 (by rw[h2];exact ready_mono hjb hji)) _ _ _ hd
    refine gW.Uf h3 h4 oU VF (ihk (j::bz) _ (by have:=(uH hj).2.2;omega) (uu.Uf Ro) (λm hm'=>?_) (List.nodup_cons.2 ⟨hjp,hnd⟩) (λm Uk m' hm2 hne o o' e1 e2=>?_) (λhpm=>?_))
    .
     rcases List.mem_cons.1 hm' with rfl|hm'
     .
      exact ⟨hjb,q.o,h3,h4⟩
     exact gy m hm'
    .
     rcases List.mem_cons.1 Uk with g1|g1
     .
      rw[g1,h3] at e1;cases e1;rcases List.mem_cons.1 hm2 with g2|g2
      .
       exact absurd (g1.trans g2.symm) hne
      exact Ne.symm (VF m' g2 o' e2).1
     rcases List.mem_cons.1 hm2 with g2|g2
     .
      rw[g2,h3] at e2;cases e2;exact (VF m g1 o e1).1
     exact Ac m g1 m' g2 hne o o' e1 e2
    rcases List.mem_cons.1 hpm with e|hpm
    .
     exact hji e.symm
    exact GA hpm
  exact key _ bz listed (Nat.le_refl _) uu gy hnd Ac GA
theorem x9 (o:Oper) (lk:Bool) (l:List (Oper×Bool)) (R:Option (List Nat)) (f:Fr) (H:Mem):qO P call ops.toList ((o,lk)::l) R f H=match jH P call ops.toList R lk o f H with|some (f',H')=>qO P call ops.toList l (jd f.eval o R) f' H'|none=>none:=by
 show Option.rec (motive:=λ_=>Option (Fr×Mem)) none (λr=>qO P call ops.toList l (jd f.eval o R) r.1 r.2) (jH P call ops.toList R lk o f H)=_
 cases jH P call ops.toList R lk o f H with
 |none=>rfl
 |some r=>rfl
theorem AU:∀(l:List (Oper×Bool)) {R:Option (List Nat)} {f f':Fr} {a:Act} {H H':Mem},wU f a->qO P call ops.toList l R f H=some (f',H')->∃a',mU P call ops l R a H=some (a',H')/\wU f' a'
 |
  [],R,f,f',a,H,H',hr,h=>by
  have h':some (f,H)=some (f',H'):=h;cases h';exact ⟨a,rfl,hr⟩
 |
  (o,lk)::l,R,f,f',a,H,H',hr,h=>by
  rw[x9] at h;split at h
  .
   rename_i f1 H1 h1;obtain ⟨a1,h2,h3⟩:=J7 hr h1;rw[hr.eval] at h;obtain ⟨a',h4,h5⟩:=AU l h3 h;exact ⟨a',by simp only[mU,h2];exact h4,h5⟩
  cases h
theorem Mh {o:Oper} {s:Operand} (hb:fC o.op=some s) {l:List Oper} {f f':Fr} {H H':Mem} (h:cn P call l o f { H with lk:=H.size }=some (f',H')) :
 cn P call l o f H=some (f',H)/\H'={ H with lk:=H.size }:=by
 unfold cn at h ⊢
 rw[pick2_eq] at h ⊢
 split at h
 .
  rename_i hw;rw[if_pos hw];unfold fC at hb;split at hb
  .
   rename_i t s' x hop;have e:∀M,opA P call f.eval o M=jv P t (f.eval s') (f.eval x) M:=λM=>by unfold opA;rw[hop]
   rw[e] at h ⊢
   have key:∀{H2:Mem},kJ P { H with lk:=H.size } t (f.eval s') (f.eval x)=some H2->kJ P H t (f.eval s') (f.eval x)=some H/\H2={ H with lk:=H.size }:=by
    intro H2 hst;unfold kJ at hst ⊢;split at hst
    .
     split at hst
     .
      rename_i hsz;simp only[if_pos hsz];unfold cu at hst ⊢;split at hst
      .
       rename_i hem;cases hst;exact ⟨if_pos hem,rfl⟩
      split at hst
      .
       split at hst
       .
        obtain ⟨q1,q2,q3,q4,q5⟩:=Mem.eC hst;exfalso;simp only at q1 q2;omega
       cases hst
      cases hst
     cases hst
    cases hst
   unfold jv at h ⊢;cases hst:kJ P { H with lk:=H.size } t (f.eval s') (f.eval x) with
   |none=>rw[hst] at h;cases h
   |
    some H2 =>
    obtain ⟨k1,rfl⟩:=key hst;rw[hst] at h;rw[k1];unfold mN at h ⊢;simp only at h ⊢;split at h
    .
     rename_i f1 h1;cases h;exact ⟨by simp only[h1],rfl⟩
    cases h
  cases hb
 rename_i hw
 rw[if_neg hw]
 unfold mN at h ⊢
 simp only at h ⊢
 split at h
 .
  rename_i f1 h1;cases h;exact ⟨by simp only[h1],rfl⟩
 cases h
theorem AW (o:Oper) (l:List Oper) (f:Fr) (H:Mem):DK P call ops.toList (o::l) f H=match mO P call ops.toList o f H with|some (f',H')=>DK P call ops.toList l f' H'|none=>none:=by
 show Option.rec (motive:=λ_=>Option (Fr×Mem)) none (λr=>DK P call ops.toList l r.1 r.2) (mO P call ops.toList o f H)=_
 cases mO P call ops.toList o f H with
 |none=>rfl
 |some r=>rfl
end
end Go.Ev

namespace Go.Ev
open Go.RowKit
def holds (c:Cx) (ρ:Ren) (H:Mem) (r:Nat):Prop:=r<c.B\/c.K r≠none\/∃i b x,H.get i=some b/\(b.live=true\/cE b=true)/\ρ i=some (r,x)
structure GD (O:Nat->Prop) (W W':World):Prop where
 os:W'.os=W.os
 tape:W'.tape=W.tape
 output:W'.output=W.output
 size:W.heap.size<=W'.heap.size
 same:∀r,O r->W'.heap[r]? = W.heap[r]?
theorem bg.beside {c:Cx} {ρ:Ren} {H:Mem} {w w':World} (h:bg c ρ H w) (hb:GD (holds c ρ H) w w'):bg c ρ H w':=by
 refine ⟨⟨⟨hb.os.trans h.below.os,hb.tape.trans h.below.tape,hb.output.trans h.below.output,Nat.le_trans h.below.size hb.size,λk hk=>(hb.same k (.inl hk)).trans (h.below.block k hk)⟩,λr o hr=>?_⟩,
  Nat.le_trans h.base hb.size,h.dom,h.lk,h.sM,h.cZ,λi b hi hl=>?_,h.inj,λi b hi hm=>?_,h.oy⟩
 .
  rw[hb.same r (.inr (.inl (by rw[hr];simp)))];exact h.stay.kept r o hr
 .
  obtain ⟨r,x,C,fr,s,h1,h2,h3,h4⟩:=h.blk i b hi hl;exact ⟨r,x,C,fr,s,h1,h2,by rw[hb.same r (.inr (.inr ⟨i,b,x,hi,.inl hl,h1⟩))];exact h3,h4⟩
 obtain ⟨r,es,clock,h1,h2,h3,h4⟩:=h.maps i b hi hm
 exact ⟨r,es,clock,h1,h2,by rw[hb.same r (.inr (.inr ⟨i,b,0,hi,.inr hm,h1⟩))];exact h3,h4⟩
theorem bg.Ei {c:Cx} {ρ:Ren} {H:Mem} {w:World} (h:bg c ρ H w) {r:Nat} (hr:holds c ρ H r):r<w.heap.size:=by
 have lt:∀{k:Nat} {o:Obj},w.heap[k]? = some o->k<w.heap.size:=λh=>(Array.getElem?_eq_some_iff.1 h).1
 rcases hr with hr|hr|⟨i,b,x,hi,hl,hρ⟩
 .
  exact Nat.lt_of_lt_of_le hr h.base
 .
  cases hk:c.K r with
  |none=>exact absurd hk hr
  |some o=>exact lt (h.stay.kept r o hk)
 rcases hl with hl|hm
 .
  obtain ⟨r',x',C,fr,s,h1,_,h3,_⟩:=h.blk i b hi hl;rw[hρ] at h1;cases h1;exact lt h3
 obtain ⟨r',es,clock,h1,_,h3,_⟩:=h.maps i b hi hm
 rw[hρ] at h1;cases h1;exact lt h3
theorem bg.Cy {c:Cx} {ρ:Ren} {H:Mem} {w:World} (h:bg c ρ H w) {i:Nat} {b:Blk} {r x:Nat} (hi:H.get i=some b) (hl:b.live=true\/cE b=true) (hρ:ρ i=some (r,x)):c.K r=none:=by
 rcases hl with hl|hm
 .
  obtain ⟨r',x',C,fr,s,h1,h2,_⟩:=h.blk i b hi hl;rw[hρ] at h1;cases h1;rcases h2 with h2|h2<;>exact h2.2
 obtain ⟨r',es,clock,h1,h2,_⟩:=h.maps i b hi hm
 rw[hρ] at h1;cases h1;exact h2.2
open Classical in
noncomputable def s8 (c:Cx) (ρ:Ren) (H:Mem) (W:World) (r:Nat):Option Obj :=
 if c.K r≠none then c.K r else if holds c ρ H r then none else W.heap[r]?
theorem bg.hold {c:Cx} {ρ:Ren} {H:Mem} {w:World} (h:bg c ρ H w):bg (c.kp (s8 c ρ H w)) ρ H w:=by
 have no:∀{i:Nat} {b:Blk} {r x:Nat},H.get i=some b->(b.live=true\/cE b=true)->ρ i=some (r,x)->s8 c ρ H w r=none:=λ{i b r x} hi hl hρ=>by
  unfold s8;rw[if_neg (by rw[h.Cy hi hl hρ];simp),if_pos (.inr (.inr ⟨i,b,x,hi,hl,hρ⟩))]
 refine ⟨⟨h.below,λr o hr=>?_⟩,h.base,h.dom,h.lk,h.sM,h.cZ,λi b hi hl=>?_,h.inj,λi b hi hm=>?_,h.oy⟩
 .
  have hr:s8 c ρ H w r=some o:=hr;unfold s8 at hr;split at hr
  .
   exact h.stay.kept r o hr
  split at hr
  .
   cases hr
  exact hr
 .
  obtain ⟨r,x,C,fr,s,h1,h2,h3⟩:=h.blk i b hi hl;have hn:(c.kp (s8 c ρ H w)).K r=none:=no hi (.inl hl) h1;exact ⟨r,x,C,fr,s,h1,h2.imp (λg=>⟨g.1,hn⟩) (λg=>⟨g.1,hn⟩),h3⟩
 obtain ⟨r,es,clock,h1,h2,h3⟩:=h.maps i b hi hm
 exact ⟨r,es,clock,h1,⟨h2.1,no hi (.inr hm) h1⟩,h3⟩
def jM (K:Nat->Option Obj) (m:Nat) (o:Obj):Nat->Option Obj:=λr=>if r=m then some o else K r
def Ej (K:Nat->Option Obj) (m:Nat):Nat->Option Obj:=λr=>if r=m then none else K r
theorem bg.Cz {c:Cx} {ρ:Ren} {H:Mem} {w:World} {K:Nat->Option Obj} (h:bg (c.kp K) ρ H w) {m:Nat} {o:Obj} (hK:K m=some o) (hB:c.B<=m) (o':Obj):bg (c.kp (jM K m o')) ρ H (w.putObj m o'):=by
 have hm:w.heap[m]? = some o:=h.stay.kept m o hK
 have hlt:m<w.heap.size:=(Array.getElem?_eq_some_iff.1 hm).1
 have ne:∀{i:Nat} {b:Blk} {r x:Nat},H.get i=some b->(b.live=true\/cE b=true)->ρ i=some (r,x)->r≠m:=λ{i b r x} hi hl hρ e=>by
  subst e;have:=h.Cy hi hl hρ;have:K r=none:=this;rw[hK] at this;cases this
 have QH:∀r,r≠m->(w.putObj m o').heap[r]? = w.heap[r]? := λr hr=>World.putObj_heap_other hr
 have hK':∀{r:Nat},r≠m->jM K m o' r=K r:=λhr=>if_neg hr
 have hsz:(w.putObj m o').heap.size=w.heap.size:=by simp
 refine ⟨⟨⟨h.below.os,h.below.tape,h.below.output,by rw[hsz];exact h.below.size,λk hk=>(QH k (by have:k<c.B:=hk;omega)).trans (h.below.block k hk)⟩,λr o1 hr=>?_⟩,by rw[hsz];exact h.base,h.dom,h.lk,h.sM,h.cZ,λi b hi hl=>?_,h.inj,λi b hi hb=>?_,h.oy⟩
 .
  have hr:jM K m o' r=some o1:=hr;by_cases e:r=m
  .
   subst e;unfold jM at hr;rw[if_pos rfl] at hr;cases hr;exact World.putObj_heap_same hlt
  rw[hK' e] at hr;rw[QH r e];exact h.stay.kept r o1 hr
 .
  obtain ⟨r,x,C,fr,s,h1,h2,h3,h4⟩:=h.blk i b hi hl;have e:=ne hi (.inl hl) h1;have e2:(c.kp (jM K m o')).K r=(c.kp K).K r:=hK' e;exact ⟨r,x,C,fr,s,h1,h2.imp (λg=>⟨g.1,e2.trans g.2⟩) (λg=>⟨g.1,e2.trans g.2⟩),(QH r e).trans h3,h4⟩
 obtain ⟨r,es,clock,h1,h2,h3,h4⟩:=h.maps i b hi hb
 have e:=ne hi (.inr hb) h1
 have e2:(c.kp (jM K m o')).K r=(c.kp K).K r:=hK' e
 exact ⟨r,es,clock,h1,⟨h2.1,e2.trans h2.2⟩,(QH r e).trans h3,h4⟩
theorem bg.VG {c:Cx} {ρ:Ren} {H:Mem} {w:World} (h:bg c ρ H w):bg { c with w0:=w } ρ H w :=
 ⟨⟨Below.refl _ _,h.stay.kept⟩,h.base,h.dom,h.lk,h.sM,h.cZ,h.blk,h.inj,h.maps,h.oy⟩
theorem bg.VH {c:Cx} {ρ:Ren} {H:Mem} {w W:World} (h:bg { c with w0:=W } ρ H w) (hb:Below c.B c.w0 W):bg c ρ H w :=
 ⟨⟨hb.trans h.below,h.stay.kept⟩,h.base,h.dom,h.lk,h.sM,h.cZ,h.blk,h.inj,h.maps,h.oy⟩
def mark (m:Nat):Deferred:={ target:=.collected m,args := #[] }
def Marks (B:Nat) (K0:Nat->Option Obj):(Nat->Option Obj)->List Deferred->Prop
 |K,[]=>∀r o,K0 r=some o->K r=some o
 |K,d::D=>∃m,d=mark m/\B<=m/\K m=some (.deferred (some []))/\Marks B K0 (Ej K m) D
theorem Marks.mono {B:Nat} {K0:Nat->Option Obj}:∀{D:List Deferred} {K K':Nat->Option Obj},(∀r o,K r=some o->K' r=some o)->Marks B K0 K D->Marks B K0 K' D
 |[],K,K',h,hm=>λr o hr=>h r o (hm r o hr)
 |d::D,K,K',h,⟨m,h1,h2,h3,h4⟩=>⟨m,h1,h2,h _ _ h3,h4.mono λr o hr=>by
  unfold Ej at hr ⊢;split at hr
  .
   cases hr
  rename_i hne;rw[if_neg hne];exact h r o hr⟩
theorem Marks.push {B:Nat} {K0 K:Nat->Option Obj} {D:List Deferred} (h:Marks B K0 K D) {m:Nat} (hB:B<=m) (hm:K m=none):Marks B K0 (jM K m (.deferred (some []))) (mark m::D) :=
 ⟨m,rfl,hB,if_pos rfl,h.mono λr o hr=>by
  have hne:r≠m:=λe=>by subst e;rw[hm] at hr;cases hr
  unfold Ej jM;rw[if_neg hne,if_neg hne];exact hr⟩
def IJ (P:Program) (fid:FuncId) (s:ByteArray) (items:List Value):Prop :=
 (∀args w,(callFunc fid args).run P w = .ok (.enter fid args) w)/\∀(n l rs:Nat) (W:World) (O:Nat->Prop) (J:Nat->(Nat->Prop)->World->Prop) (Jx:(Nat->Prop)->World->Prop),9<=n ->
  W.cell? ⟨rs,0,none⟩=some (.string s)->W.frozen? ⟨rs,0,none⟩=false->¬O rs ->
  (∀i O W W',J i O W->GD O W W'->J i O W')->(∀O W W',Jx O W->GD O W W'->Jx O W')->(∀i O W,J i O W->∀r,O r->r<W.heap.size)->(∀O W,Jx O W->∀r,O r->r<W.heap.size) ->
  (∀i O W x,J i O W->items[i]? = some x->YieldAt Fence.wide n P l #[x] W λe W'=>∃O',W.heap.size<=W'.heap.size/\(∀r,O' r->O r\/W.heap.size<=r)/\(∀r,r<W.heap.size->¬O r->W'.heap[r]? = W.heap[r]?) /\
   ((e = .returned (.bool true)/\J (i+1) O' W')\/(e = .returned (.bool false)/\Jx O' W'))) ->
  J 0 O W->CallsIn Fence.wide n P fid #[.func (.yield l) #[] #[],.pointer (some ⟨rs,0,none⟩)] W λe W'=>(∃v,e = .returned v)/\∃O',J items.length O' W'\/Jx O' W'
section
variable {P:Program} {ops:Array Oper} {l n:Nat}
theorem ZQ {Q:Exit->Act->World->Prop} (hQ:∀a w,¬Q .outgrown a w) {o:Oper} (hd:kO o=true) {K K':Act->World->Prop} (hK:∀a w,K a w->K' a w) {a:Act} {w:World}
 (h:o.wp P a w K Q\/(o.asks P a w/\LetsOut Q)):o.wpIn (Fence.wide.inRound l) n P a w K' Q:=by
 rcases h with h|⟨_,a',w',h⟩
 case inr=>exact absurd h (hQ _ _)
 have hnd:∀c,o.op ≠ .defer c:=λc e=>by unfold kO at hd;rw[e] at hd;cases hd
 refine ⟨λ_ _=>trivial,?_⟩
 have:(Fence.wide.inRound l).round=some l:=rfl
 rw[this,Oper.semAt_some l a.eval o hnd]
 unfold Oper.wp at h
 generalize (execOp a.eval o).run P w=r at h ⊢
 have dn:(Fence.wide.inRound l).depth.isSome=true->1<=n:=λe=>by simp[Fence.wide] at e
 cases r with
 |
  ok x w' =>
  cases x<;>simp only[Oper.upon,Oper.uponIn] at h ⊢ <;>
   first
    |exact hK _ _ h
    |exact h.elim
    |exact ⟨dn,callsIn_wide (n:=n-1) |>.2 (Calls.mono h (λe w'' he=>by cases e<;>first|exact hK _ _ he|exact he))⟩
    |exact ⟨dn,λc cs _=>let ⟨v,w2,hv,hs⟩:=h c cs;⟨v,w2,hK _ _ hv,stepsIn_wide.2 hs⟩⟩
 |halt x w'=>cases x<;>simp only[Oper.upon,Oper.uponIn] at h ⊢ <;> exact h
theorem Mi {Q:Exit->Act->World->Prop} (hQ:∀a w,¬Q .outgrown a w):∀(L:List Oper),L.all kO=true->∀(a:Act) (w:World),wpList P ops Q L a w->wpListIn (Fence.wide.inRound l) n P ops Q L a w
 |[],_,a,w,h=>h
 |
  o::L,hd,a,w,h=>by
  rw[List.all_cons,Bool.and_eq_true] at hd;have ih:=Mi hQ L hd.2;simp only[wpList] at h;simp only[wpListIn];split
  .
   rename_i hw;rw[if_pos hw] at h;exact ZQ hQ hd.1 ih h
  rename_i hw;rw[if_neg hw] at h;exact ⟨λ_ _=>trivial,ih _ _ h⟩
theorem IK {Q:Exit->Act->World->Prop} (hQ:∀a w,¬Q .outgrown a w) (hd:ops.toList.all kO=true):∀(fuel:Nat) (listed:Array Bool) (a:Act) (w:World),wpAny P .any ops Q fuel listed a w->wpAnyIn (Fence.wide.inRound l) n P .any ops Q fuel listed a w
 |0,listed,a,w,h=>h
 |
  fuel+1,listed,a,w,h=>by
  refine ⟨h.1,λi hi=>?_⟩
  have hh:=h.2 i hi;unfold wpOp at hh;unfold wpOpIn;split
  .
   rename_i ho;simp only[ho] at hh;exact IK hQ hd fuel _ _ _ hh
  rename_i o ho;simp only[ho] at hh;have hod:kO o=true:=List.all_eq_true.1 hd o (by have:=Array.mem_of_getElem? ho;simpa using this)
  split
  .
   rename_i hw;rw[if_pos hw] at hh;exact ZQ hQ hod (IK hQ hd fuel _) hh
  rename_i hw;rw[if_neg hw] at hh;exact ⟨λ_ _=>trivial,IK hQ hd fuel _ _ _ hh⟩
end
end Go.Ev

namespace Go.Ev
open Go.RowKit
section
variable {P:Program} {call:aM} {ops:Array Oper} {GR:List Blk}
def ya (K0:Nat->Option Obj) (c:Cx) (ρ:Ren) (f:Fr) (ar:Act):Prop:=∃a,wU f a/\ur ρ a ar/\Marks c.B K0 c.K a.defers
theorem CA {f f1:Fr} {a a1:Act} {o:Oper} {H H1:Mem} (hr:wU f a) (h:cn P call ops.toList o f H=some (f1,H1)) (h2:dc P call ops o a H=some (a1,H1)):a1.defers=a.defers:=by
 obtain ⟨u,rfl⟩:=oW h2
 cases o.dst<;>rfl
theorem vU {o:Oper} {f f':Fr} {H H':Mem} {l:List Oper} (h:mO P call l o f H=some (f',H')) :
 cn P call l o f H=some (f',H')\/∃v,gi o l f=true/\z6 P f.eval o=some v/\f.put o.dst v=some f'/\H'=H:=by
 unfold mO at h
 split at h
 .
  rename_i r hr;cases h;exact .inl hr
 rw[pick2_eq] at h
 split at h
 .
  rename_i hw;unfold mN at h;split at h
  .
   rename_i v H1 hv;obtain ⟨hv2,e2⟩:=ax hv;split at h
   .
    rename_i f1 hf;cases h;exact .inr ⟨v,hw,hv2,hf,e2⟩
   cases h
  cases h
 cases h
theorem Mj (hno:cz P) {G:Nat} {o:Oper} {a ar:Act} {H:Mem} {v:Value} (hok:o.op.operands.toList.all (bq G)=true) (hw:Region.wanted o (yielded ops a.tmps)=true) (h:z6 P a.eval o=some v) {c:Cx} (cJ:c.P=P) (cr:c.At G GR) {w:World} {ρ:Ren} (hs:ur ρ a ar) (he:bg c ρ H w)
 {Q:Exit->Act->World->Prop} {K:Act->World->Prop} (hK:∀ ρ' ar' w',ρ.le ρ'->ur ρ' (a.put o.dst v) ar'->bg c ρ' H w'->K ar' w') :
 if Region.wanted o (yielded ops ar.tmps) then o.wp P ar w K Q\/(o.asks P ar w/\LetsOut Q) else K (ar.put o.dst undef) w:=by
 subst cJ
 have ZI:=cr.g
 subst ZI
 have aC:Ud ρ a.eval ar.eval o.op:=λx hx=>hs.eval he.cZ (List.all_eq_true.1 hok x (by simpa using hx))
 rw[xV hs,if_pos hw]
 refine .inl ?_
 unfold Oper.wp
 obtain ⟨ρ',w',v',h1,h2,h3,h4⟩:=Vw he aC h
 rcases h4 with h4|⟨h4,rfl⟩
 .
  rw[h4];exact hK ρ' _ _ h1 ((hs.mono h1).put o.dst h3) h2
 rw[h4];exact hK ρ' _ _ h1 ((hs.mono h1).put o.dst h3) h2
theorem CB (hno:cz P) {G:Nat} (hcall:jg P G GR call) {c:Cx} (cJ:c.P=P) (cr:c.At G GR) {Q:Exit->Act->World->Prop}:∀(l:List Oper) {f f':Fr} {a ar:Act} {H H':Mem} {ρ:Ren} {w:World},(∀o∈l,o.op.operands.toList.all (bq G)=true)->DK P call ops.toList l f H=some (f',H')->wU f a->ur ρ a ar->bg c ρ H w ->
 (∀ ρ' a' ar' w',ρ.le ρ'->wU f' a'->a'.defers=a.defers->ur ρ' a' ar'->bg c ρ' H' w'->Q .normal ar' w')->wpList P ops Q l ar w
 |
  [],f,f',a,ar,H,H',ρ,w,_,h,hr,hs,he,hK=>by
  have h':some (f,H)=some (f',H'):=h;cases h';exact hK ρ a ar w (Ren.le_refl _) hr rfl hs he
 |
  o::l,f,f',a,ar,H,H',ρ,w,hok,h,hr,hs,he,hK=>by
  rw[AW] at h;split at h
  .
   rename_i f1 H1 h1;rcases vU h1 with h1|⟨v,hw,hv,hf,rfl⟩
   .
    obtain ⟨a1,h2,h3⟩:=mS hr h1;have hd:=CA hr h1 h2;exact xW (Q:=Q) hno hcall (hok o (by simp)) h2 cJ cr hs he fun ρ' ar' w' k1 k2 k3=>CB hno hcall cJ cr l (λx hx=>hok x (by simp[hx])) h h3 k2 k3 fun ρ'' a'' ar'' w'' m1 m0 md m2 m3=>hK ρ'' a'' ar'' w'' (Ren.le_trans k1 m1) m0 (md.trans hd) m2 m3
   have hd:(a.put o.dst v).defers=a.defers:=by cases o.dst<;>rfl
   rw[hr.wanted] at hw;rw[hr.eval] at hv;exact Mj (Q:=Q) hno (hok o (by simp)) hw hv cJ cr hs he fun ρ' ar' w' k1 k2 k3=>CB hno hcall cJ cr l (λx hx=>hok x (by simp[hx])) h (hr.put hf) k2 k3 fun ρ'' a'' ar'' w'' m1 m0 md m2 m3=>hK ρ'' a'' ar'' w'' (Ren.le_trans k1 m1) m0 (md.trans hd) m2 m3
  cases h
theorem yb (hk:bE call):∀(l:List Oper) {f f':Fr} {H H':Mem},DK P call ops.toList l f H=some (f',H')->bX H H'
 |
  [],f,f',H,H',h=>by
  have h':some (f,H)=some (f',H'):=h;cases h';exact .refl _
 |
  o::l,f,f',H,H',h=>by
  rw[AW] at h;split at h
  .
   rename_i f1 H1 h1;refine bX.trans ?_ (yb hk l h);rcases vU h1 with h1|⟨_,_,_,_,rfl⟩
   case inr=>exact .refl _
   unfold cn at h1;rw[pick2_eq] at h1;split at h1
   .
    unfold mN at h1;split at h1
    .
     rename_i v H2 hop;split at h1
     .
      cases h1;exact uG hk hop
     cases h1
    cases h1
   unfold mN at h1;simp only at h1;split at h1
   .
    cases h1;exact .refl _
   cases h1
  cases h
theorem Ek (hk:bE call) {o:Oper} {R:Option (List Nat)} {lk:Bool} {f f':Fr} {H H':Mem} (h:jH P call ops.toList R lk o f H=some (f',H')):bX H H':=by
 have hst:∀{H H':Mem} {f':Fr},cn P call ops.toList o f H=some (f',H')->bX H H':=by
  intro H H' f' h1;unfold cn at h1;rw[pick2_eq] at h1;split at h1
  .
   unfold mN at h1;split at h1
   .
    rename_i v H2 hop;split at h1
    .
     cases h1;exact uG hk hop
    cases h1
   cases h1
  unfold mN at h1;simp only at h1;split at h1
  .
   cases h1;exact .refl _
  cases h1
 unfold jH at h
 rw[pick2_eq] at h
 split at h
 .
  split at h
  .
   rw[pick2_eq] at h;split at h
   .
    exact hst h
   cases h
  rw[pick2_eq] at h;split at h
  .
   exact hst h
  split at h
  .
   rename_i f1 H1 h1;cases h;obtain ⟨q1,_,q3⟩:=hst h1;exact ⟨q1,rfl,λi _ hs=>q3 i hs hs⟩
  cases h
 exact hst h
theorem vV (hk:bE call):∀(l:List (Oper×Bool)) {R:Option (List Nat)} {f f':Fr} {H H':Mem},qO P call ops.toList l R f H=some (f',H')->bX H H'
 |
  [],R,f,f',H,H',h=>by
  have h':some (f,H)=some (f',H'):=h;cases h';exact .refl _
 |
  (o,lk)::l,R,f,f',H,H',h=>by
  rw[x9] at h;split at h
  .
   rename_i f1 H1 h1;exact (Ek hk h1).trans (vV hk l h)
  cases h
def Leave.exit':Leave->Exit
 |.normal=>.normal
 |.exit id=>.exit id
 |.ret=>.ret
 |.goto l=>.goto l
def oX (P:Program) (G:Nat) (GR:List Blk) (g:Fr->Mem->Out) (cd:Code):Prop :=
 ∀f H lv f' H',g f H=some (lv,f',H')->bX H H'/\∀(c:Cx) (K0:Nat->Option Obj),c.P=P->c.At G GR->∀ ρ ar w,ya K0 c ρ f ar->bg c ρ H w->∀Q:Exit->Act->World->Prop,
  (∀K' ρ' ar' w',ρ.le ρ'->ya K0 (c.kp K') ρ' f' ar'->bg (c.kp K') ρ' H' w'->Q lv.exit' ar' w')->cd.wp P Q ar w
theorem Cx.At.kp {c:Cx} {G:Nat} (h:c.At G GR) (K:Nat->Option Obj):(c.kp K).At G GR:=⟨h.g,h.rows,h.len⟩
theorem oY (h:Ay ops.toList=true):∀(j:Nat) (o:Oper) cs b,ops[j]? = some o->o.op ≠ .select cs b:=by
 intro j o cs b hj he
 have hm:o∈ops.toList:=by
  have:=Array.mem_of_getElem? hj;simpa using this
 have:=List.all_eq_true.1 h o hm
 simp[he] at this
theorem yc {r:Option (Fr×Mem)} {lv:Leave} {f:Fr} {H:Mem} (h:atEnd r=some (lv,f,H)):lv = .normal/\r=some (f,H):=by
 cases r with
 |none=>cases h
 |
  some q =>
  have h':some (Leave.normal,q.1,q.2)=some (lv,f,H):=h;cases h';exact ⟨rfl,rfl⟩
theorem s9:∀(l:List (Oper×Bool)) {R:Option (List Nat)} {a a':Act} {H H':Mem},mU P call ops l R a H=some (a',H')->a'.defers=a.defers
 |
  [],R,a,a',H,H',h=>by
  have h':some (a,H)=some (a',H'):=h;cases h';rfl
 |
  (o,lk)::l,R,a,a',H,H',h=>by
  simp only[mU] at h;split at h
  .
   rename_i a1 H1 h1;obtain ⟨u,rfl⟩:=eW h1;refine (s9 l h).trans ?_;cases o.dst<;>rfl
  cases h
theorem vW (hno:cz P) {G:Nat} (hcall:jg P G GR call) (hk:bE call) {draw:Bool} {f f':Fr} {H H':Mem} {lv:Leave} (h:jw P G call ops draw f H=some (lv,f',H')) :
 lv = .normal/\bX H H'/\∀(c:Cx),c.P=P->c.At G GR->∀ ρ a ar w,wU f a->ur ρ a ar->bg c ρ H w->∀Q:Exit->Act->World->Prop,
  (∀ ρ' a' ar' w',ρ.le ρ'->wU f' a'->a'.defers=a.defers->ur ρ' a' ar'->bg c ρ' H' w'->Q .normal ar' w') ->
  (draw=true->wpAny P .any ops Q ops.size (Array.replicate ops.size false) ar w.drew)/\(draw=false->wpList P ops Q ops.toList ar w):=by
 unfold jw at h
 rw[pick2_eq] at h
 split at h
 case isFalse=>cases h
 rename_i hok
 rw[pick2_eq] at h
 split at h
 .
  rename_i hd;subst hd;cases hpl:plan P ops with
  |none=>rw[hpl] at h;cases h
  |
   some l =>
   rw[hpl] at h;obtain ⟨rfl,hdr⟩:=yc (r:=qO P call ops.toList l (some []) f H) h;unfold plan Gj at hpl;rw[pick2_eq] at hpl;split at hpl
   case isFalse=>cases hpl
   rename_i hns;refine ⟨rfl,vV hk l hdr,λc cJ cr ρ a ar w hr oD he Q hQ=>⟨λ_=>?_,(λh=>by cases h)⟩⟩
   obtain ⟨a',hds,hr'⟩:=AU l hr hdr;have hdf:=s9 l hds
   have gF:kS ops (Array.replicate ops.size false):=by
    intro k o _ hk';by_cases hlt:k<ops.size
    .
     simp[Array.getD,hlt] at hk'
    simp[Array.getD,hlt] at hk'
   have Vq:=Ke hk (oY hns) Ui _ _ _ _ hpl II.zero gF [] (Array.replicate ops.size false) ⟨by simp,λj=>by simp⟩ (λm hm=>(by cases hm)) List.nodup_nil (λm hm=>(by cases hm)) [] (some []) (λq hq=>(by cases hq)) (λq hq=>(by cases hq)) a H hds
   refine Rj hno hok hcall hk (oY hns) (c:=c) cJ cr Vq c.K [] ρ w.drew ar rfl ⟨λq hq=>(by cases hq),λr _=>rfl,List.nodup_nil,List.Pairwise.nil⟩ oD he.drew ?_ ops.size (IE _)
   rintro a'' H'' ρ' ar' w' ⟨rfl,rfl⟩ h1 h2 h3;exact hQ ρ' _ ar' w' h1 hr' hdf h2 h3
 rename_i hd
 have hd':draw=false:=by simpa using hd
 subst hd'
 obtain ⟨rfl,hop⟩:=yc h
 exact ⟨rfl,yb hk _ hop,λc cJ cr ρ a ar w hr hs he Q hQ=>⟨(λh=>by cases h),λ_=>CB hno hcall cJ cr ops.toList (λo ho=>List.all_eq_true.1 hok o ho) hop hr hs he hQ⟩⟩
theorem uK (hno:cz P) {G:Nat} (hcall:jg P G GR call) (hk:bE call) (hm:P.follows .mixedOrders=true) (id:Nat) (draw:Bool):oX P G GR (jw P G call ops draw) (.region id ops draw):=by
 intro f H lv f' H' h
 obtain ⟨rfl,k1,w1⟩:=vW hno hcall hk h
 refine ⟨k1,λc K0 cJ cr ρ ar w hs he Q hQ=>?_⟩
 obtain ⟨a,hr,oD,hmk⟩:=hs
 have g:=w1 c cJ cr ρ a ar w hr oD he Q fun ρ' a' ar' w' m1 m2 m3 m4 m5=>hQ c.K ρ' ar' w' m1 ⟨a',m2,m4,by rw[m3];exact hmk⟩ m5
 cases draw with
 |true=>exact wp_region_any hm (g.1 rfl)
 |false=>exact wp_region_list (g.2 rfl)
def Mk (ρ:Ren) (f:Fr) (ar:Act):Prop:=∃a,wU f a/\ur ρ a ar/\a.defers=[]
def oZ (P:Program) (G:Nat) (GR:List Blk) (l:Nat) (g:Fr->Mem->Out) (cd:Code):Prop :=
 ∀f H lv f' H',g f H=some (lv,f',H')->∀(c:Cx),c.P=P->c.At G GR->∀n ρ ar w,Mk ρ f ar->bg c ρ H w->∀Q:Exit->Act->World->Prop,
  (∀ ρ' ar' w',ρ.le ρ'->Mk ρ' f' ar'->bg c ρ' H' w'->Q lv.exit' ar' w')->cd.wpIn (Fence.wide.inRound l) n P Q ar w
theorem El (hno:cz P) {G l:Nat} (hcall:jg P G GR call) (hk:bE call) (hm:P.follows .mixedOrders=true) (id:Nat) (draw:Bool) (hp:ops.toList.all kO=true):oZ P G GR l (jw P G call ops draw) (.region id ops draw):=by
 intro f H lv f' H' h c cJ cr n ρ ar w hs he Q hQ
 obtain ⟨rfl,_,w1⟩:=vW hno hcall hk h
 obtain ⟨a,hr,oD,hmk⟩:=hs
 let Q':Exit->Act->World->Prop:=λe a w=>match e with
  |.normal=>Q .normal a w
  |_=>False
 have hQ':∀a w,¬Q' .outgrown a w:=λ_ _ h=>h
 have g:=w1 c cJ cr ρ a ar w hr oD he Q' fun ρ' a' ar' w' m1 m2 m3 m4 m5=>hQ ρ' ar' w' m1 ⟨a',m2,m4,by rw[m3];exact hmk⟩ m5
 refine Go.wpIn_mono (Q:=Q') ?_ (λe a w h=>by cases e<;>first|exact h|exact h.elim)
 cases draw with
 |true=>exact wpIn_region_any hm (IK hQ' hp _ _ _ _ (g.1 rfl))
 |false=>exact wpIn_region_list (Mi hQ' _ hp _ _ (g.2 rfl))
theorem CC {G l:Nat} {g k:Fr->Mem->Out} {x y:Code} (hx:oZ P G GR l g x) (hy:oZ P G GR l k y):oZ P G GR l (λf H=>andThen (g f H) k) (.seq x y):=by
 intro f H lv f' H' h0
 have h:andThen (g f H) k=some (lv,f',H'):=h0
 clear h0
 intro c cJ cr n ρ ar w hs he Q hQ
 unfold andThen at h
 split at h
 .
  rename_i f1 H1 h1;exact wpIn_seq (hx _ _ _ _ _ h1 c cJ cr n ρ ar w hs he _ fun ρ' ar' w' m1 m2 m3=>hy _ _ _ _ _ h c cJ cr n ρ' ar' w' m2 m3 Q fun ρ'' ar'' w'' n1 n2 n3=>hQ ρ'' ar'' w'' (Ren.le_trans m1 n1) n2 n3)
 .
  rename_i id f1 H1 h1;cases h;exact wpIn_seq (hx _ _ _ _ _ h1 c cJ cr n ρ ar w hs he _ fun ρ' ar' w' m1 m2 m3=>hQ ρ' ar' w' m1 m2 m3)
 .
  rename_i f1 H1 h1;cases h;exact wpIn_seq (hx _ _ _ _ _ h1 c cJ cr n ρ ar w hs he _ fun ρ' ar' w' m1 m2 m3=>hQ ρ' ar' w' m1 m2 m3)
 .
  rename_i l f1 H1 h1;cases h;exact wpIn_seq (hx _ _ _ _ _ h1 c cJ cr n ρ ar w hs he _ fun ρ' ar' w' m1 m2 m3=>hQ ρ' ar' w' m1 m2 m3)
 cases h
theorem AX {G l:Nat} {g:Fr->Mem->Out} {cd:Code} (hb:oZ P G GR l g cd):∀(m:Nat) f H lv f' H',vP g m f H=some (lv,f',H')->∀(c:Cx),c.P=P->c.At G GR->∀n ρ ar w,Mk ρ f ar->bg c ρ H w->∀Q:Exit->Act->World->Prop,
 (∀ ρ' ar' w',ρ.le ρ'->Mk ρ' f' ar'->bg c ρ' H' w'->Q lv.exit' ar' w')->Code.roundsIn (Fence.wide.inRound l) n P cd Q m ar w
 |0,f,H,lv,f',H',h=>by cases h
 |
  m+1,f,H,lv,f',H',h=>by
  intro c cJ cr n ρ ar w hs he Q hQ;have h0:andThen (g f H) (vP g m)=some (lv,f',H'):=h;show cd.wpIn _ n P (Exit.then (Code.roundsIn _ n P cd Q m) Q) ar w;unfold andThen at h0;split at h0
  .
   rename_i f1 H1 h1;exact hb _ _ _ _ _ h1 c cJ cr n ρ ar w hs he _ fun ρ' ar' w' m1 m2 m3=>AX hb m _ _ _ _ _ h0 c cJ cr n ρ' ar' w' m2 m3 Q fun ρ'' ar'' w'' n1 n2 n3=>hQ ρ'' ar'' w'' (Ren.le_trans m1 n1) n2 n3
  .
   rename_i id f1 H1 h1;cases h0;exact hb _ _ _ _ _ h1 c cJ cr n ρ ar w hs he _ fun ρ' ar' w' m1 m2 m3=>hQ ρ' ar' w' m1 m2 m3
  .
   rename_i f1 H1 h1;cases h0;exact hb _ _ _ _ _ h1 c cJ cr n ρ ar w hs he _ fun ρ' ar' w' m1 m2 m3=>hQ ρ' ar' w' m1 m2 m3
  .
   rename_i l f1 H1 h1;cases h0;exact hb _ _ _ _ _ h1 c cJ cr n ρ ar w hs he _ fun ρ' ar' w' m1 m2 m3=>hQ ρ' ar' w' m1 m2 m3
  cases h0
theorem AY (hno:cz P) {G l:Nat} (hcall:jg P G GR call) (hk:bE call) (hm:P.follows .mixedOrders=true) (J:oh) (rounds:Nat) (cd:Code):rA cd=true->oZ P G GR l (gK P G call J rounds cd) cd:=by
 induction cd with
 |
  skip =>
  intro _ f H lv f' H' h c _ _ n ρ ar w hs he Q hQ;have h':some (Leave.normal,f,H)=some (lv,f',H'):=h;cases h';exact wpIn_skip (hQ ρ ar w (Ren.le_refl _) hs he)
 |region id ops draw=>exact λhp=>El hno hcall hk hm id draw hp
 |
  seq x y Ml Mn =>
  intro hp;have hp:(rA x&&rA y)=true:=hp;rw[Bool.and_eq_true] at hp;exact CC (Ml hp.1) (Mn hp.2)
 |
  cond cc x y Ml Mn =>
  intro hp;have hp:(rA x&&rA y)=true:=hp;rw[Bool.and_eq_true] at hp;intro f H lv f' H' h c cJ cr n ρ ar w hs he Q hQ;have h0:pick2 (bq G cc) (Az (f.eval cc) (gK P G call J rounds x) (gK P G call J rounds y) f H) none=some (lv,f',H'):=h;rw[pick2_eq] at h0;split at h0
  case isFalse=>cases h0
  rename_i hok;unfold Az at h0;split at h0
  .
   rename_i b hb
   have val:ar.eval cc = .bool b:=by
    obtain ⟨a,hr,oD,_⟩:=hs;have hv:=oD.eval he.cZ (x:=cc) (by rw[cr.g];exact hok)
    rw[<-hr.eval,hb] at hv;generalize ar.eval cc=q at hv;cases hv;rfl
   cases b with
   |true=>exact wpIn_cond_true val (Ml hp.1 _ _ _ _ _ h0 c cJ cr n ρ ar w hs he Q hQ)
   |false=>exact wpIn_cond_false val (Mn hp.2 _ _ _ _ _ h0 c cJ cr n ρ ar w hs he Q hQ)
  cases h0
 |
  block id b ih =>
  intro hp f H lv f' H' h c cJ cr n ρ ar w hs he Q hQ;have h0:fN id (gK P G call J rounds b f H)=some (lv,f',H'):=h;unfold fN at h0;split at h0
  .
   rename_i id' f1 H1 h1;rw[pick2_eq] at h0;split at h0
   .
    rename_i hid;cases h0;refine wpIn_block (ih hp _ _ _ _ _ h1 c cJ cr n ρ ar w hs he _ fun ρ' ar' w' m1 m2 m3=>?_)
    show (if id'=id then Q .normal ar' w' else Q (.exit id') ar' w');rw[if_pos (by rw[Nat.beq_eq] at hid;exact hid)];exact hQ ρ' ar' w' m1 m2 m3
   rename_i hid;cases h0;refine wpIn_block (ih hp _ _ _ _ _ h1 c cJ cr n ρ ar w hs he _ fun ρ' ar' w' m1 m2 m3=>?_)
   show (if id'=id then Q .normal ar' w' else Q (.exit id') ar' w');rw[if_neg (by rw[Nat.beq_eq] at hid;exact hid)];exact hQ ρ' ar' w' m1 m2 m3
  .
   rename_i f1 H1 h1;cases h0;exact wpIn_block (ih hp _ _ _ _ _ h1 c cJ cr n ρ ar w hs he _ fun ρ' ar' w' m1 m2 m3=>hQ ρ' ar' w' m1 m2 m3)
  .
   rename_i f1 H1 h1;cases h0;exact wpIn_block (ih hp _ _ _ _ _ h1 c cJ cr n ρ ar w hs he _ fun ρ' ar' w' m1 m2 m3=>hQ ρ' ar' w' m1 m2 m3)
  .
   rename_i l f1 H1 h1;cases h0;exact wpIn_block (ih hp _ _ _ _ _ h1 c cJ cr n ρ ar w hs he _ fun ρ' ar' w' m1 m2 m3=>hQ ρ' ar' w' m1 m2 m3)
  cases h0
 |
  loop b ih =>
  intro hp f H lv f' H' h c cJ cr n ρ ar w hs he Q hQ;exact wpIn_loop_rounds rounds (AX (ih hp) rounds f H lv f' H' h c cJ cr n ρ ar w hs he Q hQ)
 |
  exit id =>
  intro _ f H lv f' H' h c _ _ n ρ ar w hs he Q hQ;have h':some (Leave.exit id,f,H)=some (lv,f',H'):=h;cases h';exact wpIn_exit (hQ ρ ar w (Ren.le_refl _) hs he)
 |
  ret =>
  intro _ f H lv f' H' h c _ _ n ρ ar w hs he Q hQ;have h':some (Leave.ret,f,H)=some (lv,f',H'):=h;cases h';exact wpIn_ret (hQ ρ ar w (Ren.le_refl _) hs he)
 |rangeFunc=>intro hp;cases hp
 |scope b ih=>intro hp;cases hp
 |
  label l =>
  intro _ f H lv f' H' h c _ _ n ρ ar w hs he Q hQ;have h':some (Leave.normal,f,H)=some (lv,f',H'):=h;cases h';exact wpIn_label (hQ ρ ar w (Ren.le_refl _) hs he)
 |
  goto l =>
  intro _ f H lv f' H' h c _ _ n ρ ar w hs he Q hQ;have h':some (Leave.goto l,f,H)=some (lv,f',H'):=h;cases h';exact wpIn_goto (hQ ρ ar w (Ren.le_refl _) hs he)
 |refuse=>intro _ f H lv f' H' h;cases h
def td (P:Program) (call:aM):Prop :=
 ∀fid i H v H1,P.funcs[ux fid]? = none->call (ux fid) [.pointer (some ⟨i,0,none⟩)] H=some (v,H1)->∃(s:ByteArray) (items:Array Value) (b:Blk),v = .tuple (fe::items.toList).toArray/\alive H i=some b/\b.cells=[.string s]/\kill H i=some H1/\addrFreeL items.toList=true/\IJ P fid s items.toList
theorem vX (p:Tmp) (x y:Fr->Mem->Out) (f:Fr) (H:Mem):qi p x y f [] H=some (.normal,f,H):=rfl
theorem th (p:Tmp) (x y:Fr->Mem->Out) (f:Fr) (v:Value) (l:List Value) (H:Mem):qi p x y f (v::l) H=match f.put (some p) v with
 |
  some f1=>match x f1 H with
  |
   some (.normal,f2,H2)=>match y f2 H2 with
   |some (.normal,_,H3)=>qi p x y f l H3
   |some (.ret,_,H3)=>some (.ret,f,H3)
   |_=>none
  |_=>none
 |none=>none:=rfl
theorem tj {p:Tmp} {x y:Fr->Mem->Out} {f:Fr} (hx:∀f H lv f' H',x f H=some (lv,f',H')->bX H H') (hy:∀f H lv f' H',y f H=some (lv,f',H')->bX H H'):∀(l:List Value) {H H':Mem} {lv:Leave} {f':Fr},qi p x y f l H=some (lv,f',H')->bX H H'/\f'=f/\(lv = .normal\/lv = .ret)
 |
  [],H,H',lv,f',h=>by
  rw[vX] at h;cases h;exact ⟨.refl _,rfl,.inl rfl⟩
 |
  v::l,H,H',lv,f',h=>by
  rw[th] at h;split at h
  case h_2=>cases h
  split at h
  case h_2=>cases h
  rename_i h2;split at h
  .
   rename_i h3;obtain ⟨k,e⟩:=tj hx hy l h;exact ⟨((hx _ _ _ _ _ h2).trans (hy _ _ _ _ _ h3)).trans k,e⟩
  .
   rename_i h3;cases h;exact ⟨(hx _ _ _ _ _ h2).trans (hy _ _ _ _ _ h3),rfl,.inr rfl⟩
  cases h
theorem Mo (hit:td P call) {G:Nat} {x y:Fr->Mem->Out} {g:Operand} {ps:Array Tmp} {assign body:Code} {pl:Bool}
 (kx:∀f H lv f' H',x f H=some (lv,f',H')->bX H H') (ky:∀f H lv f' H',y f H=some (lv,f',H')->bX H H')
 (hx:pl=true->∀l,oZ P G GR l x assign) (hy:pl=true->∀l,oZ P G GR l y body):oX P G GR (Gk P G call g ps.toList pl x y) (.rangeFunc g ps assign body):=by
 intro f H lv f' H' h
 unfold Gk at h
 rw[pick2_eq] at h
 split at h
 case isFalse=>cases h
 rename_i hok
 rw[Bool.and_eq_true] at hok
 obtain ⟨hok,hpl⟩:=hok
 split at h
 case h_2=>cases h
 rename_i p fid ta caps hps hfg
 split at h
 case h_2=>cases h
 rename_i i hta ZR hnone
 split at h
 case h_2=>cases h
 rename_i aeo H1 gF
 split at h
 case h_2=>cases h
 rename_i u0 itl VI
 obtain ⟨s,items,b,e1,Mp,hcells,bF,hfree,ZS⟩:=hit _ _ _ _ _ hnone gF
 cases e1
 have VI:fe::items.toList=u0::itl:=by simpa using VI
 cases VI
 obtain ⟨hks,hff,hlv⟩:=tj kx ky _ h
 have hff:=hff.symm
 subst hff
 obtain ⟨q1,q2,q3,q4,q5⟩:=ij bF
 have hkk:bX H H1:=by
  unfold kill at bF;split at bF
  .
   exact .set bF
  cases bF
 refine ⟨hkk.trans hks,λc K0 cJ cr ρ ar w hs he Q hQ=>?_⟩
 subst cJ
 obtain ⟨a,hr,oD,hmk⟩:=hs
 -- the function
 have hv:=oD.eval he.cZ (x:=g) (by rw[cr.g];exact hok)
 rw[<-hr.eval,hfg] at hv
 obtain ⟨hgi,zV⟩:=alive_some Mp
 obtain ⟨rs,rx,C,fr,sz,b1,b2,b3,b4,b5,b6,b7,b8⟩:=he.blk i b hgi zV
 have hiL:¬i<c.L:=by have:=he.lk;omega
 have hown:c.own rs:=b2.resolve_left λh=>hiL h.1
 have aeq:=b4.resolve_left hiL
 have hgv:ar.eval g = .func (.func fid) #[] #[.pointer (some ⟨rs,0,none⟩)]:=by
  generalize ar.eval g=q at hv;cases hv with
  |
   func _ _ a' _ b' sa ha sb hb =>
   have ea:a' = #[]:=by
    have:ta.size=0:=by rw[<-Array.length_toList,hta];rfl
    exact Array.size_eq_zero_iff.1 (by omega)
   have ec:caps = #[.pointer (some ⟨i,0,none⟩)]:=by rw[<-Array.toArray_toList (xs:=caps),ZR]
   subst ec;have hs1:b'.size=1:=by simpa using sb.symm
   obtain ⟨v',hb'⟩:∃v',b' = #[v']:=⟨b'[0],by
    apply Array.ext
    .
     simpa using hs1
    intro j h1 h2;have:j=0:=by simp at h2;omega
    subst this;rfl⟩
   subst hb';have:=hb 0 _ _ (by rfl) (by rfl)
   cases this with
   |
    ptr _ _ r' x' hr' =>
    rw[b1] at hr';cases hr';rw[ea]
 have hcell:C[0]? = some (.string s):=by
  obtain ⟨v',m1,m2⟩:=b7.2 0 (.string s) (by rw[hcells];rfl) rfl
  cases m2;exact m1
 have QC:rs<w.heap.size:=(Array.getElem?_eq_some_iff.1 b3).1
 -- the record
 have lt:∀{W:World} {k:Nat} {o:Obj},W.heap[k]? = some o->k<W.heap.size:=λh=>(Array.getElem?_eq_some_iff.1 h).1
 have ZE:bg c ρ H1 w:=he.kill bF
 refine wpIn_wide (n:=20) |>.1 (wpIn_rangeFunc ?_)
 intro fn hfn
 have hps':ps = #[p]:=by rw[<-Array.toArray_toList (xs:=ps),hps]
 subst hps'
 obtain ⟨rec,hrec⟩:∃rec:LoopState->Option Code->Loop,rec=λst pe=>{ state:=st,pending:=pe,fn,tmps:=ar.tmps,params := #[p],assign,body,defers:=w.heap.size }:=⟨_,rfl⟩
 obtain ⟨W1,QI⟩:∃W1,(w.alloc (.deferred (some []))).alloc (.loop (rec .ready none))=W1:=⟨_,rfl⟩
 obtain ⟨m,hm⟩:∃m,m=w.heap.size:=⟨_,rfl⟩
 have hBm:c.B<=m:=by rw[hm];exact he.base
 obtain ⟨KJ,hKJ⟩:∃KJ:Loop->Nat->Option Obj,KJ=λr=>jM (jM c.K m (.deferred (some []))) (m+1) (.loop r):=⟨_,rfl⟩
 have Em:∀r k,KJ r k=if k=m+1 then some (.loop r) else if k=m then some (.deferred (some [])) else c.K k:=λr k=>by rw[hKJ];rfl
 have aer:bg (c.kp (KJ (rec .ready none))) ρ H1 W1:=by
  have e0:=(show bg (c.kp c.K) ρ H1 w from ZE).Gv (.deferred (some []));have e1:=e0.Gv (.loop (rec .ready none));rw[QI] at e1;refine e1.qp λr o hr=>?_
  rw[Em] at hr;rw[World.size_alloc,<-hm];exact hr
 have adg:W1.heap.size=m+2:=by rw[<-QI,World.size_alloc,World.size_alloc,hm]
 -- between two rounds
 let J:Nat->(Nat->Prop)->World->Prop:=λj O W=>∃Hj ρ',qi p x y f (items.toList.drop j) Hj=some (lv,f,H')/\bX H Hj/\ρ.le ρ'/\bg (c.kp (KJ (rec .ready none))) ρ' Hj W/\O=holds (c.kp (KJ (rec .ready none))) ρ' Hj
 let Jx:(Nat->Prop)->World->Prop:=λO W=>lv = .ret/\∃ ρ',ρ.le ρ'/\bg (c.kp (KJ (rec .done (some .ret)))) ρ' H' W/\O=holds (c.kp (KJ (rec .done (some .ret)))) ρ' H'
 have aes:¬holds (c.kp (KJ (rec .ready none))) ρ H1 rs:=by
  rintro (h|h|⟨j,bj,xj,hj,mQ,hρj⟩)
  .
   have:=hown.1;have h:rs<c.B:=h;omega
  .
   apply h;show KJ (rec .ready none) rs=none;rw[Em,if_neg (by omega),if_neg (by omega)]
   exact hown.2
  obtain ⟨g1,g2⟩:=q3 j bj hj mQ;rcases mQ with mQ|mQ
  .
   exact g2 (he.inj j i bj b rs xj rx g1 mQ hgi zV hρj b1)
  obtain ⟨r',es,clock,m1,m2,m3,_⟩:=he.maps j bj g1 mQ;rw[hρj] at m1;cases m1;rw[b3] at m3;cases m3
 have aix:∀r:Loop,KJ r m=some (.deferred (some [])):=λr=>by rw[Em,if_neg (by omega),if_pos rfl]
 have tn:∀r:Loop,KJ r (m+1)=some (.loop r):=λr=>by rw[Em,if_pos rfl]
 have aiy:∀(r:Loop) (k:Nat),k≠m->k≠m+1->KJ r k=c.K k:=λr k h1 h2=>by rw[Em,if_neg h2,if_neg h1]
 have ZT:∀(r r':Loop) (k:Nat),k≠m+1->KJ r k=KJ r' k:=λr r' k h=>by rw[Em,Em,if_neg h,if_neg h]
 have aet:c.K m=none:=by
  cases hc:c.K m with
  |none=>rfl
  |some o=>have:=lt (he.stay.kept m o hc);omega
 have ZU:c.K (m+1)=none:=by
  cases hc:c.K (m+1) with
  |none=>rfl
  |some o=>have:=lt (he.stay.kept (m+1) o hc);omega
 -- one round
 have round:∀j O W v,J j O W->items.toList[j]? = some v->YieldAt Fence.wide 19 c.P (m+1) #[v] W λe W'=>∃O',W.heap.size<=W'.heap.size/\(∀r,O' r->O r\/W.heap.size<=r)/\(∀r,r<W.heap.size->¬O r->W'.heap[r]? = W.heap[r]?) /\
  ((e = .returned (.bool true)/\J (j+1) O' W')\/(e = .returned (.bool false)/\Jx O' W')):=by
  rintro j O W v ⟨Hj,ρ',hrun,Zy,hle,Rp,rfl⟩ hv;have hL:W.heap[m+1]? = some (.loop (rec .ready none)):=Rp.stay.kept (m+1) _ (tn _);have hyd:=run_yield (P:=c.P) (args := #[v]) hL (by rw[hrec];rfl)
  have ZV:items.toList.drop j=v::items.toList.drop (j+1):=by
   have hlt:=(List.getElem?_eq_some_iff.1 hv).1;rw[List.drop_eq_getElem_cons hlt]
   congr 1
   exact (List.getElem?_eq_some_iff.1 hv).2
  rw[ZV,th] at hrun;split at hrun
  case h_2=>cases hrun
  rename_i f1 hf1;split at hrun
  case h_2=>cases hrun
  rename_i f2 H2 hxr;have VJ:addrFree v=true:=jf hfree hv
  -- the frame of the round
  have ZW:Mk ρ' f1 { tmps:=((rec .ready none).params.zip #[v]).foldl (λt (t',a)=>t.setIfInBounds t' a) (rec .ready none).tmps,defers:=[] }:=by
   refine ⟨{ tmps:=(a.put (some p) v).tmps,defers:=[] },?_,?_,rfl⟩
   .
    have:=hr.put hf1;exact ⟨this.n,this.get⟩
   have h1:=(oD.mono hle).put (some p) (aO v VJ);refine ⟨?_,rfl⟩;have e:((rec .ready none).params.zip #[v]).foldl (λt (t',a)=>t.setIfInBounds t' a) (rec .ready none).tmps=(ar.put (some p) v).tmps:=by rw[hrec];simp[Act.put]
   rw[e];exact h1.tmps
  refine ⟨_,_,_,_,hyd,?_⟩;have hbody:(rec .ready none).body=body:=by rw[hrec]
  have hassign:(rec .ready none).assign=assign:=by rw[hrec]
  rw[hbody,hassign];refine roundIn_of_wpIn (F:=Fence.wide) trivial ?_
  -- all other rows stay
  obtain ⟨c1,hc1⟩:∃c1,c1=c.kp (KJ (rec .ready none)):=⟨_,rfl⟩;rw[<-hc1] at Rp;obtain ⟨K2,ZM⟩:∃K2,K2=s8 c1 ρ' Hj W:=⟨_,rfl⟩;obtain ⟨cW,VK⟩:∃cW:Cx,cW={ c with w0:=W }:=⟨_,rfl⟩
  have hbelow:Below c.B c.w0 W:=by have:=Rp.below;rw[hc1] at this;exact this
  have VL:cW.At G GR:=by rw[VK];exact ⟨cr.g,Rp.uF (by rw[hc1];exact cr.kp _),cr.len⟩
  have VM:cW.P=c.P:=by rw[VK]
  have aev:cW.B=c.B:=by rw[VK]
  have aiA:cW.L=c.L:=by rw[VK]
  have hh:bg (cW.kp K2) ρ' Hj W:=by
   have:=Rp.hold.VG;rw[<-ZM,hc1] at this;rw[VK];exact this
  have GF:∀r o,KJ (rec .ready none) r=some o->K2 r=some o:=λr o h=>by
   rw[ZM];unfold s8;have:c1.K r=some o:=by rw[hc1];exact h
   rw[if_pos (by rw[this];simp),this]
  have VN:∀r,r<W.heap.size->¬holds c1 ρ' Hj r->K2 r=W.heap[r]? := λr hr hn=>by
   rw[ZM];unfold s8;rw[if_neg (λh=>hn (.inr (.inl h))),if_neg hn]
  have Uk:holds c1 ρ' Hj (m+1):=.inr (.inl (by rw[hc1];show KJ _ _≠none;rw[tn];simp))
  refine hx hpl (m+1) _ _ _ _ _ hxr (cW.kp K2) VM (VL.kp K2) _ ρ' _ W ZW hh _ fun ρ2 ar2 W2 le2 Mq ZX=>?_
  have hL2:W2.heap[m+1]? = some (.loop (rec .ready none)):=ZX.stay.kept (m+1) _ (GF _ _ (tn _));refine ⟨_,run_beginRound hL2 (by rw[hrec]),?_⟩
  have hB1:cW.B<=m+1:=by rw[aev];omega
  have Rq:=bg.Cz (c:=cW) ZX (GF _ _ (tn _)) hB1 (.loop { rec .ready none with state:=.busy })
  obtain ⟨K3,Mr⟩:∃K3,K3=jM K2 (m+1) (.loop { rec .ready none with state:=.busy }):=⟨_,rfl⟩
  rw[<-Mr] at Rq;obtain ⟨W3,hW3⟩:∃W3,W3=W2.putObj (m+1) (.loop { rec .ready none with state:=.busy }):=⟨_,rfl⟩
  rw[<-hW3] at Rq ⊢;have ZY:K3 (m+1)=some (.loop { rec .ready none with state:=.busy }):=by rw[Mr];exact if_pos rfl
  have ZZ:∀r,r≠m+1->K3 r=K2 r:=λr h=>by rw[Mr];exact if_neg h
  have Z0:∀{lv3:Leave} {f3:Fr} {H3:Mem},y f2 H2=some (lv3,f3,H3)->bX Hj H3:=λh=>(kx _ _ _ _ _ hxr).trans (ky _ _ _ _ _ h)
  -- what comes of it
  have fin:∀(lv3:Leave) (f3:Fr) (H3:Mem) (jump:Option Code),y f2 H2=some (lv3,f3,H3)->∀(ρ4:Ren) (W4:World),ρ2.le ρ4->bg (cW.kp K3) ρ4 H3 W4 ->
   (Instr.endRound (m+1) jump).run c.P W4 = .ok (.bool jump.isNone) (W4.putObj (m+1) (.loop (rec (if jump.isNone then .ready else .done) jump))) /\
   bg (c.kp (KJ (rec (if jump.isNone then .ready else .done) jump))) ρ4 H3 (W4.putObj (m+1) (.loop (rec (if jump.isNone then .ready else .done) jump))) /\
   W.heap.size<=(W4.putObj (m+1) (.loop (rec (if jump.isNone then .ready else .done) jump))).heap.size /\
   (∀r,holds (c.kp (KJ (rec (if jump.isNone then .ready else .done) jump))) ρ4 H3 r->holds c1 ρ' Hj r\/W.heap.size<=r) /\
   (∀r,r<W.heap.size->¬holds c1 ρ' Hj r->(W4.putObj (m+1) (.loop (rec (if jump.isNone then .ready else .done) jump))).heap[r]? = W.heap[r]?):=by
   intro lv3 f3 H3 jump Ul ρ4 W4 Um CD;have hL4:W4.heap[m+1]? = some (.loop { rec .ready none with state:=.busy }):=CD.stay.kept (m+1) _ ZY
   have hend:=run_endRound (P:=c.P) jump hL4;have aew:({ ({ rec .ready none with state:=.busy }:Loop) with state:=if jump.isNone then .ready else .done,pending:=jump }:Loop)=rec (if jump.isNone then .ready else .done) jump:=by rw[hrec]
   rw[aew] at hend;have Z1:=bg.Cz (c:=cW) CD ZY hB1 (.loop (rec (if jump.isNone then .ready else .done) jump));obtain ⟨rj,hrj⟩:∃rj,rj=rec (if jump.isNone then .ready else .done) jump:=⟨_,rfl⟩;rw[<-hrj] at hend Z1 ⊢
   have Z2:bg (cW.kp (KJ rj)) ρ4 H3 (W4.putObj (m+1) (.loop rj)):=Z1.qp λr o hr=>by
    by_cases e:r=m+1
    .
     subst e;rw[tn] at hr;cases hr;exact if_pos rfl
    unfold jM;rw[if_neg e,ZZ r e];rw[ZT rj (rec .ready none) r e] at hr;exact GF r o hr
   have aex:bg (c.kp (KJ rj)) ρ4 H3 (W4.putObj (m+1) (.loop rj)):=by
    rw[VK] at Z2;exact bg.VH (c:=c.kp (KJ rj)) (W:=W) Z2 hbelow
   have hsz:W.heap.size<=W4.heap.size:=by have:=CD.below.size;rw[VK] at this;exact this
   have rest:∀r,r<W.heap.size->¬holds c1 ρ' Hj r->K3 r=W.heap[r]? := λr hr hn=>by
    rw[ZZ r (λe=>hn (by rw[e];exact Uk))];exact VN r hr hn
   refine ⟨hend,aex,by simp only[World.putObj,Array.size_set,Array.size_setIfInBounds];exact hsz,λr hr=>?_,λr hr hn=>?_⟩
   .
    rcases hr with hr|hr|⟨i1,bi,xi,g1,g2,g3⟩
    .
     exact .inl (.inl (by rw[hc1];exact hr))
    .
     refine .inl (.inr (.inl ?_));rw[hc1];show KJ (rec .ready none) r≠none;have hr:KJ rj r≠none:=hr;by_cases e:r=m+1
     .
      subst e;rw[tn];simp
     rw[ZT (rec .ready none) rj r e];exact hr
    have kk:=Z0 Ul;by_cases aiF:i1<c.L
    .
     have l1:c.L<=Hj.lk:=by have:=Rp.lk;rw[hc1] at this;exact this
     have l2:c.L<=Hj.size:=by have:=Rp.sM;rw[hc1] at this;exact this
     have g1':Hj.get i1=some bi:=by rw[<-kk.2.2 i1 (by omega) (by omega)];exact g1
     have aey:∃x',ρ' i1=some (r,x'):=by
      rcases g2 with g2|g2
      .
       obtain ⟨r',x',_,_,_,m1,_⟩:=Rp.blk i1 bi g1' g2;have:=Um _ _ (le2 _ _ m1);rw[g3] at this;cases this;exact ⟨_,m1⟩
      obtain ⟨r',_,_,m1,_⟩:=Rp.maps i1 bi g1' g2;have:=Um _ _ (le2 _ _ m1);rw[g3] at this;cases this;exact ⟨_,m1⟩
     obtain ⟨x',hx'⟩:=aey;exact .inl (.inr (.inr ⟨i1,bi,x',g1',g2,hx'⟩))
    by_cases hrW:r<W.heap.size
    .
     by_cases hh2:holds c1 ρ' Hj r
     .
      exact .inl hh2
     exfalso;have hK:=CD.Cy g1 g2 g3;have hK:K3 r=none:=hK;rw[rest r hrW hh2] at hK;rw[Array.getElem?_eq_getElem hrW] at hK;cases hK
    exact .inr (by omega)
   have e:r≠m+1:=λe=>hn (by rw[e];exact Uk)
   rw[World.putObj_heap_other e];have hK:=rest r hr hn;rw[Array.getElem?_eq_getElem hr] at hK;have:=CD.stay.kept r _ hK;rw[this,Array.getElem?_eq_getElem hr]
  split at hrun
  .
   rename_i f3 H3 Ul;refine hy hpl (m+1) _ _ _ _ _ Ul (cW.kp K3) VM (VL.kp K3) _ ρ2 ar2 W3 Mq Rq _ fun ρ4 ar4 W4 Um aez CD=>?_
   obtain ⟨d1,d2,d3,d4,d5⟩:=fin _ _ _ none Ul ρ4 W4 Um CD;rw[hc1] at d4 d5;exact ⟨_,_,d1,_,d3,d4,d5,.inl ⟨rfl,H3,ρ4,hrun,Zy.trans (Z0 Ul),Ren.le_trans hle (Ren.le_trans le2 Um),d2,rfl⟩⟩
  .
   rename_i f3 H3 Ul;cases hrun;refine hy hpl (m+1) _ _ _ _ _ Ul (cW.kp K3) VM (VL.kp K3) _ ρ2 ar2 W3 Mq Rq _ fun ρ4 ar4 W4 Um aez CD=>?_
   obtain ⟨d1,d2,d3,d4,d5⟩:=fin _ _ _ (some .ret) Ul ρ4 W4 Um CD;rw[hc1] at d4 d5;exact ⟨_,_,d1,_,d3,d4,d5,.inr ⟨rfl,rfl,ρ4,Ren.le_trans hle (Ren.le_trans le2 Um),d2,rfl⟩⟩
  cases hrun
 have Z3:Below w.heap.size w W1:=by rw[<-QI];exact ((Below.refl _ w).alloc (Nat.le_refl _) _).alloc (by simp) _
 have Rs:W1.cell? ⟨rs,0,none⟩=some (.string s):=by
  obtain ⟨v',m1,m2⟩:=he.cell Mp b1 (show b.cells[0]? = some (.string s) by rw[hcells];rfl) rfl
  cases m2;rw[<-m1];unfold World.cell?;simp only[Z3.block rs QC]
 have Z4:W1.frozen? ⟨rs,0,none⟩=false:=by
  have h0:0<C.size:=(Array.getElem?_eq_some_iff.1 hcell).1;have hno:=aeq.2 0 h0;unfold World.frozen?;simp only[Z3.block rs QC,b3]
  simpa using hno
 refine ⟨m+1,[mark m],W1,{ target:=.fn (.func fid) #[.pointer (some ⟨rs,0,none⟩)],args := #[.func (.yield (m+1)) #[] #[]] },W1,fid,#[.func (.yield (m+1)) #[] #[]] ++ #[.pointer (some ⟨rs,0,none⟩)],W1,?_,?_,?_,?_,λ_=>by omega,?_⟩
 .
  rw[<-QI,hrec,hm];exact run_enterLoop_outer _ _ _ _ _
 .
  simp only[resolve,hgv];simp[go_sem]
 .
  intro f' _;trivial
 .
  simp only[invoke];exact ZS.1 _ _
 refine (ZS.2 19 (m+1) rs W1 _ J Jx (by omega) Rs Z4 aes ?_ ?_ ?_ ?_ round ⟨H1,ρ,h,hkk,Ren.le_refl _,aer,rfl⟩).mono ?_
 .
  rintro j O W W' ⟨Hj,ρ',k1,k2,k3,k4,rfl⟩ hb;exact ⟨Hj,ρ',k1,k2,k3,k4.beside hb,rfl⟩
 .
  rintro O W W' ⟨k0,ρ',k3,k4,rfl⟩ hb;exact ⟨k0,ρ',k3,k4.beside hb,rfl⟩
 .
  rintro j O W ⟨Hj,ρ',k1,k2,k3,k4,rfl⟩ r hr;exact k4.Ei hr
 .
  rintro O W ⟨k0,ρ',k3,k4,rfl⟩ r hr;exact k4.Ei hr
 have Z5:∀(rj:Loop) (ρ':Ren) (W:World),bg (c.kp (KJ rj)) ρ' H' W->∀rj':Loop,bg (c.kp (jM c.K m (.deferred (some [])))) ρ' H' (W.putObj (m+1) (.loop rj')):=λrj ρ' W emb rj'=>by
  refine (bg.Cz (c:=c) emb (tn rj) (by omega) (.loop rj')).qp λr o hr=>?_
  by_cases e:r=m+1
  .
   subst e;unfold jM at hr;rw[if_neg (by omega),ZU] at hr;cases hr
  have:jM (KJ rj) (m+1) (.loop rj') r=KJ rj r:=if_neg e;rw[this,Em,if_neg e];exact hr
 have Mq:∀ ρ',ρ.le ρ'->ya K0 (c.kp (jM c.K m (.deferred (some [])))) ρ' f { ar with defers:=[mark m]++ar.defers }:=fun ρ' hle =>
  ⟨{ a with defers:=mark m::a.defers },⟨hr.n,hr.get⟩,⟨(oD.mono hle).tmps,by show mark m::ar.defers=_;rw[oD.dr]⟩,Marks.push hmk hBm aet⟩
 rintro e W2 ⟨⟨v,rfl⟩,O',⟨Hj,ρ',k1,k2,k3,k4,_⟩|⟨rfl,ρ',k3,k4,_⟩⟩
 .
  rw[List.drop_length] at k1;rw[vX] at k1;cases k1;have hLr:W2.heap[m+1]? = some (.loop (rec .ready none)):=k4.stay.kept (m+1) _ (tn _);have hel:=run_endLoop (P:=c.P) hLr (by rw[hrec];simp)
  have hp:(rec .ready none).pending=none:=by rw[hrec]
  rw[hp] at hel;refine ⟨none,_,hel,?_⟩;exact hQ _ ρ' _ _ k3 (Mq ρ' k3) (Z5 _ _ _ k4 _)
 have hLr:W2.heap[m+1]? = some (.loop (rec .done (some .ret))):=k4.stay.kept (m+1) _ (tn _)
 have hel:=run_endLoop (P:=c.P) hLr (by rw[hrec];simp)
 have hp:(rec .done (some .ret)).pending=some .ret:=by rw[hrec]
 rw[hp] at hel
 refine ⟨some .ret,_,hel,?_⟩
 exact wpIn_ret (hQ _ ρ' _ _ k3 (Mq ρ' k3) (Z5 _ _ _ k4 _))
theorem andThen_ok {G:Nat} {g k:Fr->Mem->Out} {x y:Code} (hx:oX P G GR g x) (hy:oX P G GR k y):oX P G GR (λf H=>andThen (g f H) k) (.seq x y):=by
 intro f H lv f' H' h0
 have h:andThen (g f H) k=some (lv,f',H'):=h0
 clear h0
 unfold andThen at h
 split at h
 .
  rename_i f1 H1 h1;obtain ⟨k1,w1⟩:=hx _ _ _ _ _ h1;obtain ⟨k2,w2⟩:=hy _ _ _ _ _ h;refine ⟨k1.trans k2,λc K0 cJ cr ρ ar w hs he Q hQ=>wp_seq (w1 c K0 cJ cr ρ ar w hs he _ λK1 ρ' ar' w' m1 m2 m3=>?_)⟩
  exact w2 (c.kp K1) K0 cJ (cr.kp K1) ρ' ar' w' m2 m3 Q λK2 ρ'' ar'' w'' n1 n2 n3=>hQ K2 ρ'' ar'' w'' (Ren.le_trans m1 n1) n2 n3
 .
  rename_i id f1 H1 h1;cases h;obtain ⟨k1,w1⟩:=hx _ _ _ _ _ h1;exact ⟨k1,λc K0 cJ cr ρ ar w hs he Q hQ=>wp_seq (w1 c K0 cJ cr ρ ar w hs he _ λK1 ρ' ar' w' m1 m2 m3=>hQ K1 ρ' ar' w' m1 m2 m3)⟩
 .
  rename_i f1 H1 h1;cases h;obtain ⟨k1,w1⟩:=hx _ _ _ _ _ h1;exact ⟨k1,λc K0 cJ cr ρ ar w hs he Q hQ=>wp_seq (w1 c K0 cJ cr ρ ar w hs he _ λK1 ρ' ar' w' m1 m2 m3=>hQ K1 ρ' ar' w' m1 m2 m3)⟩
 .
  rename_i l f1 H1 h1;cases h;obtain ⟨k1,w1⟩:=hx _ _ _ _ _ h1;exact ⟨k1,λc K0 cJ cr ρ ar w hs he Q hQ=>wp_seq (w1 c K0 cJ cr ρ ar w hs he _ λK1 ρ' ar' w' m1 m2 m3=>hQ K1 ρ' ar' w' m1 m2 m3)⟩
 cases h
theorem tq {G:Nat} {g:Fr->Mem->Out} {cd:Code} (hb:oX P G GR g cd):∀(n:Nat) f H lv f' H',vP g n f H=some (lv,f',H')->bX H H'/\∀(c:Cx) (K0:Nat->Option Obj),c.P=P->c.At G GR->∀ ρ ar w,ya K0 c ρ f ar->bg c ρ H w->∀Q:Exit->Act->World->Prop,
 (∀K' ρ' ar' w',ρ.le ρ'->ya K0 (c.kp K') ρ' f' ar'->bg (c.kp K') ρ' H' w'->Q lv.exit' ar' w')->Code.rounds P cd Q n ar w
 |0,f,H,lv,f',H',h=>by cases h
 |
  n+1,f,H,lv,f',H',h=>by
  have h0:andThen (g f H) (vP g n)=some (lv,f',H'):=h;unfold andThen at h0;split at h0
  .
   rename_i f1 H1 h1;obtain ⟨k1,w1⟩:=hb _ _ _ _ _ h1;obtain ⟨k2,w2⟩:=tq hb n _ _ _ _ _ h0;refine ⟨k1.trans k2,λc K0 cJ cr ρ ar w hs he Q hQ=>?_⟩
   rw[rounds_succ];refine w1 c K0 cJ cr ρ ar w hs he _ λK1 ρ' ar' w' m1 m2 m3=>?_
   exact w2 (c.kp K1) K0 cJ (cr.kp K1) ρ' ar' w' m2 m3 Q λK2 ρ'' ar'' w'' n1 n2 n3=>hQ K2 ρ'' ar'' w'' (Ren.le_trans m1 n1) n2 n3
  .
   rename_i id f1 H1 h1;cases h0;obtain ⟨k1,w1⟩:=hb _ _ _ _ _ h1;refine ⟨k1,λc K0 cJ cr ρ ar w hs he Q hQ=>?_⟩
   rw[rounds_succ];exact w1 c K0 cJ cr ρ ar w hs he _ λK1 ρ' ar' w' m1 m2 m3=>hQ K1 ρ' ar' w' m1 m2 m3
  .
   rename_i f1 H1 h1;cases h0;obtain ⟨k1,w1⟩:=hb _ _ _ _ _ h1;refine ⟨k1,λc K0 cJ cr ρ ar w hs he Q hQ=>?_⟩
   rw[rounds_succ];exact w1 c K0 cJ cr ρ ar w hs he _ λK1 ρ' ar' w' m1 m2 m3=>hQ K1 ρ' ar' w' m1 m2 m3
  .
   rename_i l f1 H1 h1;cases h0;obtain ⟨k1,w1⟩:=hb _ _ _ _ _ h1;refine ⟨k1,λc K0 cJ cr ρ ar w hs he Q hQ=>?_⟩
   rw[rounds_succ];exact w1 c K0 cJ cr ρ ar w hs he _ λK1 ρ' ar' w' m1 m2 m3=>hQ K1 ρ' ar' w' m1 m2 m3
  cases h0
def within (c:Code) (J:Code->Act->World->Prop) (Q:Exit->Act->World->Prop):Exit->Act->World->Prop
 |
  .goto l,a,w=>match findLabel c l with
  |some rest=>J rest a w
  |none=>Q (.goto l) a w
 |e,a,w=>Q e a w
def jumps (P:Program) (c:Code) (Q:Exit->Act->World->Prop):Nat->Code->Act->World->Prop
 |0,_,_,_=>False
 |n+1,d,a,w=>d.wp P (within c (jumps P c Q n) Q) a w
theorem wp_scope_within {c:Code} {Q:Exit->Act->World->Prop} {a:Act} {w:World} (n:Nat) (h:jumps P c Q n c a w):(Code.scope c).wp P Q a w:=by
 intro b k cs
 have key:∀n d a w,jumps P c Q n d a w->∃e a' w',Q e a' w'/\Arrives P (lone (b.at a (.code d :: .inScope c::k)) cs w) b k cs e a' w':=by
  intro n
  induction n with
  |zero=>intro d a w h;exact h.elim
  |
   succ n ih =>
   intro d a w h;obtain ⟨e,a₁,w₁,hq,harr⟩:=h b (.inScope c::k) cs;cases e with
   |normal=>exact ⟨.normal,a₁,w₁,hq,Steps.trans harr (.one step_inScope)⟩
   |exit id=>exact ⟨.exit id,a₁,w₁,hq,λk' hk=>harr k' (by simp[exitTo,hk])⟩
   |
    goto l =>
    cases hf:findLabel c l with
    |
     some rest =>
     simp only[within,hf] at hq;obtain ⟨e₂,a₂,w₂,hq₂,harr₂⟩:=ih rest a₁ w₁ hq;exact ⟨e₂,a₂,w₂,hq₂,.of_steps (harr _ (by simp[gotoIn,hf])) harr₂⟩
    |
     none =>
     simp only[within,hf] at hq;exact ⟨.goto l,a₁,w₁,hq,λk' hk=>harr k' (by simp[gotoIn,hf,hk])⟩
   |ret=>exact ⟨_,a₁,w₁,hq,harr⟩
   |panic ch=>exact ⟨_,a₁,w₁,hq,harr⟩
   |outgrown=>exact ⟨_,a₁,w₁,hq,harr⟩
 obtain ⟨e,a',w',hq,harr⟩:=key n c a w h
 exact ⟨e,a',w',hq,.of_steps (.one step_scope) harr⟩
def GG (P:Program) (G:Nat) (GR:List Blk) (n:Nat) (J:oh):Prop :=
 ∀s rest f H lv f' H',J s rest f H=some (lv,f',H')->bX H H'/\∀(c:Cx) (K0:Nat->Option Obj),c.P=P->c.At G GR->∀ ρ ar w,ya K0 c ρ f ar->bg c ρ H w->∀Q:Exit->Act->World->Prop,
  (∀K' ρ' ar' w',ρ.le ρ'->ya K0 (c.kp K') ρ' f' ar'->bg (c.kp K') ρ' H' w'->Q lv.exit' ar' w')->jumps P s Q n rest ar w
theorem qT {G n:Nat} {J:oh} (hJ:GG P G GR n J) {g:Fr->Mem->Out} {d:Code} (hd:oX P G GR g d) (s:Code) (f:Fr) (H:Mem) (lv:Leave) (f':Fr) (H':Mem) (h:eS s J (g f H)=some (lv,f',H')) :
 bX H H'/\∀(c:Cx) (K0:Nat->Option Obj),c.P=P->c.At G GR->∀ ρ ar w,ya K0 c ρ f ar->bg c ρ H w->∀Q:Exit->Act->World->Prop,
 (∀K' ρ' ar' w',ρ.le ρ'->ya K0 (c.kp K') ρ' f' ar'->bg (c.kp K') ρ' H' w'->Q lv.exit' ar' w')->jumps P s Q (n+1) d ar w:=by
 unfold eS at h
 split at h
 .
  rename_i l f1 H1 h1;obtain ⟨k1,w1⟩:=hd _ _ _ _ _ h1;split at h
  .
   rename_i rest hf;obtain ⟨k2,w2⟩:=hJ _ _ _ _ _ _ _ h;refine ⟨k1.trans k2,λc K0 cJ cr ρ ar w hs he Q hQ=>w1 c K0 cJ cr ρ ar w hs he _ λK1 ρ' ar' w' m1 m2 m3=>?_⟩
   show within s (jumps P s Q n) Q (.goto l) ar' w';simp only[within,hf];exact w2 (c.kp K1) K0 cJ (cr.kp K1) ρ' ar' w' m2 m3 Q λK2 ρ'' ar'' w'' n1 n2 n3=>hQ K2 ρ'' ar'' w'' (Ren.le_trans m1 n1) n2 n3
  rename_i hf;cases h;refine ⟨k1,λc K0 cJ cr ρ ar w hs he Q hQ=>w1 c K0 cJ cr ρ ar w hs he _ λK1 ρ' ar' w' m1 m2 m3=>?_⟩
  show within s (jumps P s Q n) Q (.goto l) ar' w';simp only[within,hf];exact hQ K1 ρ' ar' w' m1 m2 m3
 .
  rename_i f1 H1 h1;cases h;obtain ⟨k1,w1⟩:=hd _ _ _ _ _ h1;exact ⟨k1,λc K0 cJ cr ρ ar w hs he Q hQ=>w1 c K0 cJ cr ρ ar w hs he _ λK1 ρ' ar' w' m1 m2 m3=>hQ K1 ρ' ar' w' m1 m2 m3⟩
 .
  rename_i id f1 H1 h1;cases h;obtain ⟨k1,w1⟩:=hd _ _ _ _ _ h1;exact ⟨k1,λc K0 cJ cr ρ ar w hs he Q hQ=>w1 c K0 cJ cr ρ ar w hs he _ λK1 ρ' ar' w' m1 m2 m3=>hQ K1 ρ' ar' w' m1 m2 m3⟩
 .
  rename_i f1 H1 h1;cases h;obtain ⟨k1,w1⟩:=hd _ _ _ _ _ h1;exact ⟨k1,λc K0 cJ cr ρ ar w hs he Q hQ=>w1 c K0 cJ cr ρ ar w hs he _ λK1 ρ' ar' w' m1 m2 m3=>hQ K1 ρ' ar' w' m1 m2 m3⟩
 cases h
theorem En (hno:cz P) {G:Nat} (hcall:jg P G GR call) (hit:td P call) (hk:bE call) (hm:P.follows .mixedOrders=true) {n:Nat} {J:oh} (hJ:GG P G GR n J) (rounds:Nat) (cd:Code):oX P G GR (gK P G call J rounds cd) cd:=by
 induction cd with
 |
  skip =>
  intro f H lv f' H' h;have h':some (Leave.normal,f,H)=some (lv,f',H'):=h;cases h';exact ⟨.refl _,λc K0 _ _ ρ ar w hs he Q hQ=>wp_skip (hQ c.K ρ ar w (Ren.le_refl _) hs he)⟩
 |region id ops draw=>exact uK hno hcall hk hm id draw
 |seq x y Ml Mn=>exact andThen_ok Ml Mn
 |
  cond cc x y Ml Mn =>
  intro f H lv f' H' h;have h0:pick2 (bq G cc) (Az (f.eval cc) (gK P G call J rounds x) (gK P G call J rounds y) f H) none=some (lv,f',H'):=h;rw[pick2_eq] at h0;split at h0
  case isFalse=>cases h0
  rename_i hok;unfold Az at h0;split at h0
  .
   rename_i b hb
   have val:∀{c:Cx} {K0:Nat->Option Obj} {ρ:Ren} {ar:Act} {w:World},c.At G GR->ya K0 c ρ f ar->bg c ρ H w->ar.eval cc = .bool b:=by
    intro c K0 ρ ar w cr hs he;obtain ⟨a,hr,oD,_⟩:=hs;have hv:=oD.eval he.cZ (x:=cc) (by rw[cr.g];exact hok)
    rw[<-hr.eval,hb] at hv;generalize ar.eval cc=q at hv;cases hv;rfl
   cases b with
   |
    true =>
    obtain ⟨k1,w1⟩:=Ml _ _ _ _ _ h0;exact ⟨k1,λc K0 cJ cr ρ ar w hs he Q hQ=>wp_cond_true (val cr hs he) (w1 c K0 cJ cr ρ ar w hs he Q hQ)⟩
   |
    false =>
    obtain ⟨k1,w1⟩:=Mn _ _ _ _ _ h0;exact ⟨k1,λc K0 cJ cr ρ ar w hs he Q hQ=>wp_cond_false (val cr hs he) (w1 c K0 cJ cr ρ ar w hs he Q hQ)⟩
  cases h0
 |
  block id b ih =>
  intro f H lv f' H' h;have h0:fN id (gK P G call J rounds b f H)=some (lv,f',H'):=h;unfold fN at h0;split at h0
  .
   rename_i id' f1 H1 h1;obtain ⟨k1,w1⟩:=ih _ _ _ _ _ h1;rw[pick2_eq] at h0;split at h0
   .
    rename_i hid;cases h0;refine ⟨k1,λc K0 cJ cr ρ ar w hs he Q hQ=>wp_block (w1 c K0 cJ cr ρ ar w hs he _ λK1 ρ' ar' w' m1 m2 m3=>?_)⟩
    show (if id'=id then Q .normal ar' w' else Q (.exit id') ar' w');rw[if_pos (by rw[Nat.beq_eq] at hid;exact hid)];exact hQ K1 ρ' ar' w' m1 m2 m3
   rename_i hid;cases h0;refine ⟨k1,λc K0 cJ cr ρ ar w hs he Q hQ=>wp_block (w1 c K0 cJ cr ρ ar w hs he _ λK1 ρ' ar' w' m1 m2 m3=>?_)⟩
   show (if id'=id then Q .normal ar' w' else Q (.exit id') ar' w');rw[if_neg (by rw[Nat.beq_eq] at hid;exact hid)];exact hQ K1 ρ' ar' w' m1 m2 m3
  .
   rename_i f1 H1 h1;cases h0;obtain ⟨k1,w1⟩:=ih _ _ _ _ _ h1;exact ⟨k1,λc K0 cJ cr ρ ar w hs he Q hQ=>wp_block (w1 c K0 cJ cr ρ ar w hs he _ λK1 ρ' ar' w' m1 m2 m3=>hQ K1 ρ' ar' w' m1 m2 m3)⟩
  .
   rename_i f1 H1 h1;cases h0;obtain ⟨k1,w1⟩:=ih _ _ _ _ _ h1;exact ⟨k1,λc K0 cJ cr ρ ar w hs he Q hQ=>wp_block (w1 c K0 cJ cr ρ ar w hs he _ λK1 ρ' ar' w' m1 m2 m3=>hQ K1 ρ' ar' w' m1 m2 m3)⟩
  .
   rename_i l f1 H1 h1;cases h0;obtain ⟨k1,w1⟩:=ih _ _ _ _ _ h1;exact ⟨k1,λc K0 cJ cr ρ ar w hs he Q hQ=>wp_block (w1 c K0 cJ cr ρ ar w hs he _ λK1 ρ' ar' w' m1 m2 m3=>hQ K1 ρ' ar' w' m1 m2 m3)⟩
  cases h0
 |
  loop b ih =>
  intro f H lv f' H' h;obtain ⟨k1,w1⟩:=tq ih rounds f H lv f' H' h;exact ⟨k1,λc K0 cJ cr ρ ar w hs he Q hQ=>wp_loop_rounds rounds (w1 c K0 cJ cr ρ ar w hs he Q hQ)⟩
 |
  exit id =>
  intro f H lv f' H' h;have h':some (Leave.exit id,f,H)=some (lv,f',H'):=h;cases h';exact ⟨.refl _,λc K0 _ _ ρ ar w hs he Q hQ=>wp_exit (hQ c.K ρ ar w (Ren.le_refl _) hs he)⟩
 |
  ret =>
  intro f H lv f' H' h;have h':some (Leave.ret,f,H)=some (lv,f',H'):=h;cases h';exact ⟨.refl _,λc K0 _ _ ρ ar w hs he Q hQ=>wp_ret (hQ c.K ρ ar w (Ren.le_refl _) hs he)⟩
 |
  rangeFunc g ps a b QZ Q0 =>
  refine Mo hit (λf H lv f' H' h=>(QZ f H lv f' H' h).1) (λf H lv f' H' h=>(Q0 f H lv f' H' h).1) (λhp l=>?_) (λhp l=>?_)
  .
   rw[Bool.and_eq_true] at hp;exact AY hno hcall hk hm J rounds a hp.1
  rw[Bool.and_eq_true] at hp;exact AY hno hcall hk hm J rounds b hp.2
 |
  scope b ih =>
  intro f H lv f' H' h;have h0:eS b J (gK P G call J rounds b f H)=some (lv,f',H'):=h;obtain ⟨k1,w1⟩:=qT hJ ih b f H lv f' H' h0;exact ⟨k1,λc K0 cJ cr ρ ar w hs he Q hQ=>wp_scope_within (n+1) (w1 c K0 cJ cr ρ ar w hs he Q hQ)⟩
 |
  label l =>
  intro f H lv f' H' h;have h':some (Leave.normal,f,H)=some (lv,f',H'):=h;cases h';exact ⟨.refl _,λc K0 _ _ ρ ar w hs he Q hQ=>wp_label (hQ c.K ρ ar w (Ren.le_refl _) hs he)⟩
 |
  goto l =>
  intro f H lv f' H' h;have h':some (Leave.goto l,f,H)=some (lv,f',H'):=h;cases h';exact ⟨.refl _,λc K0 _ _ ρ ar w hs he Q hQ=>wp_goto (hQ c.K ρ ar w (Ren.le_refl _) hs he)⟩
 |refuse=>intro f H lv f' H' h;cases h
theorem uL (hno:cz P) {G:Nat} (hcall:jg P G GR call) (hit:td P call) (hk:bE call) (hm:P.follows .mixedOrders=true) (rounds:Nat):∀n,GG P G GR n (rB P G call rounds n)
 |0=>λ_ _ _ _ _ _ _ h=>by cases h
 |
  n+1=>λs rest f H lv f' H' h=>by
  have h0:eS s (rB P G call rounds n) (gK P G call (rB P G call rounds n) rounds rest f H)=some (lv,f',H'):=h;exact qT (uL hno hcall hit hk hm rounds n) (En hno hcall hit hk hm (uL hno hcall hit hk hm rounds n) rounds rest) s f H lv f' H' h0
def fj (tmps:Array Value):ResultVar->Sem Value
 |.tmp t=>pure (tmps.getD t undef)
 |.cell x t=>do loadVar t (<- asAddr (tmps.getD x undef))
theorem uM {c:Cx} {w:World} {ρ:Ren} {H:Mem} (he:bg c ρ H w) {f:Fr} {a ar:Act} (hr:wU f a) (hs:ur ρ a ar) {r:ResultVar} {v:Value} (h:sK c.P H f r=some v) :
 ∃v',VRel ρ v v'/\(fj ar.tmps r).run c.P w = .ok v' w:=by
 cases r with
 |
  tmp t =>
  simp only[sK,Option.some.injEq] at h;subst h;rw[hr.get];exact ⟨_,hs.tmps.getD t .undef,rfl⟩
 |
  cell x t =>
  simp only[sK] at h;rw[hr.get] at h;have hx:=hs.tmps.getD x .undef;obtain ⟨v',h1,h2⟩:=Iu he hx h;refine ⟨v',h2,?_⟩;unfold j4 at h;split at h
  .
   rename_i i off heq;rw[heq] at hx;simp only[fj];generalize ar.tmps.getD x undef=q at hx h1 ⊢;cases hx with
   |
    ptr _ _ r y hr =>
    simp only[Instr.loadAt,Instr.sureAddr,Sem.run_bind,Sem.run_pure,Result.andThen_ok] at h1;simp only[asAddr,Sem.run_bind,Sem.run_pure,Result.andThen_ok];exact h1
  cases h
theorem tu {c:Cx} {w:World} {ρ:Ren} {H:Mem} (he:bg c ρ H w) {f:Fr} {a ar:Act} (hr:wU f a) (hs:ur ρ a ar):∀(rs:List ResultVar) {l:List Value},eB c.P H f rs=some l ->
 ∃l',LR (VRel ρ) l l'/\(rs.mapM (fj ar.tmps)).run c.P w = .ok l' w
 |
  [],l,h=>by
  simp only[eB,Option.some.injEq] at h;subst h;exact ⟨[],.nil,by simp⟩
 |
  r::rs,l,h=>by
  simp only[eB] at h;split at h
  .
   rename_i v vs hv hvs;cases h;obtain ⟨v',h1,h2⟩:=uM he hr hs hv;obtain ⟨l',h3,h4⟩:=tu he hr hs rs hvs;refine ⟨v'::l',LR.cons h1 h3,?_⟩;rw[List.mapM_cons];simp only[Sem.run_bind,Sem.run_pure];rw[h2];simp only[Result.andThen_ok];rw[h4];rfl
  cases h
theorem nK {c:Cx} {w:World} {ρ:Ren} {H:Mem} (he:bg c ρ H w) {f:Fr} {a ar:Act} (hr:wU f a) (oD:ur ρ a ar) {fn:Func} {l:List Value} (h:eB c.P H f fn.results.toList=some l) :
 ∃v',VRel ρ (qG l) v'/\(results fn ar.tmps).run c.P w = .ok v' w:=by
 obtain ⟨l',h1,h2⟩:=tu he hr oD _ h
 have hrun:(results fn ar.tmps).run c.P w = .ok (if hh:l'.toArray.size=1 then l'.toArray[0] else .tuple l'.toArray) w:=by
  have e:results fn ar.tmps=(do let vs <- fn.results.mapM (fj ar.tmps);pure (if h:vs.size=1 then vs[0] else .tuple vs)):=rfl;rw[e,Array.mapM_eq_mapM_toList];simp only[Sem.run_bind,Sem.run_map];rw[h2];rfl
 refine ⟨_,?_,hrun⟩
 match l,h1 with
 |[],h1=>rw[h1.AA];exact .tuple _ _ rfl (λi x y hx=>by simp at hx)
 |
  [v],h1 =>
  obtain ⟨v',t',rfl,hv,ht⟩:=h1.oO;rw[ht.AA];exact hv
 |
  v::u::t,h1 =>
  obtain ⟨v',t',rfl,hv,ht⟩:=h1.oO;obtain ⟨u',t'',rfl,hu,ht'⟩:=ht.oO;have:¬((v'::u'::t'').toArray.size=1):=by simp
  rw[dif_neg this];have hA:=h1.array;exact .tuple _ _ hA.1 hA.2
theorem AZ:∀(l:List Value) {f f':Fr} {i:Nat},f.fill i l=some f'->f'.n=f.n/\∀j,f'.get j=if i<=j/\j<i+l.length/\j<f.n then (l[j-i]?).getD undef else f.get j
 |
  [],f,f',i,h=>by
  simp only[Fr.fill,Option.some.injEq] at h;subst h;exact ⟨rfl,λj=>by rw[if_neg];simp;omega⟩
 |
  v::l,f,f',i,h=>by
  simp only[Fr.fill] at h;split at h
  .
   rename_i f1 h1;obtain ⟨e1,e2⟩:=Fr.dg h1;obtain ⟨e3,e4⟩:=AZ l h;refine ⟨by rw[e3,e1],λj=>?_⟩
   rw[e4,e2,e1];simp only[Option.some.injEq,List.length_cons];by_cases hj:i+1<=j/\j<i+1+l.length/\j<f.n
   .
    rw[if_pos hj,if_pos (by omega)]
    have:j-i=(j-(i+1))+1:=by omega
    rw[this];simp
   rw[if_neg hj];by_cases hij:i=j/\j<f.n
   .
    obtain ⟨rfl,hlt⟩:=hij;rw[if_pos ⟨rfl,hlt⟩,if_pos (by omega)];simp
   rw[if_neg hij,if_neg (by omega)]
  cases h
theorem yd {α:Type}:∀(d j:Nat),(Tr.full d:Tr α).get j=none
 |0,_=>rfl
 |
  d+1,j=>by
  show (Tr.n (Tr.full d) none (Tr.full d)).get j=none;rw[Tr.oP,yd d,yd d];simp
structure Ms (r:Nat) (w w':World):Prop where
 below:∀B,B<=r->Below B w w'
 rows:∀k,k≠r->k<w.heap.size->w'.heap[k]? = w.heap[k]?
 size:w.heap.size<=w'.heap.size
def VO (P:Program) (f:FuncId) (u:Value):Prop:=∀(w:World) (r n:Nat) (t:TypeId) (fr:Nat×Nat) (C:Array Value),w.heap[r]? = some (.cells C t fr)->jI C fr->n<=C.size->C.size<9223372036854775808->P.underlying t=some (.int .u8) ->
 (∀(j:Nat) v,C[j]? = some v->∃k:Int,v = .int .u8 k)->Calls P f #[.slice (some ⟨r,0,none⟩) n C.size] w λe w'=>e = .returned u/\Ms r w w'
theorem bg.turned {c:Cx} {ρ:Ren} {H:Mem} {w w':World} (h:bg c ρ H w) {r:Nat} (hr:c.own r) (ht:Ms r w w') (hc:∃C t fr,w.heap[r]? = some (.cells C t fr)) (hne:∀i b x y,H.get i=some b->b.live=true->ρ i=some (x,y)->x≠r):bg c ρ H w':=by
 have lt:∀{k:Nat} {o:Obj},w.heap[k]? = some o->k<w.heap.size:=λh=>(Array.getElem?_eq_some_iff.1 h).1
 obtain ⟨C0,t0,fr0,hC0⟩:=hc
 refine ⟨⟨h.stay.below.trans (ht.below _ hr.1),λk o hk=>?_⟩,Nat.le_trans h.base ht.size,h.dom,h.lk,h.sM,h.cZ,λi b hi hl=>?_,h.inj,λi b hi hm=>?_,h.oy⟩
 .
  have h1:=h.stay.kept k o hk;rw[ht.rows k (λe=>by subst e;rw[hr.2] at hk;cases hk) (lt h1)];exact h1
 .
  obtain ⟨q,x,C,fr,s,h1,h2,h3,h4⟩:=h.blk i b hi hl;exact ⟨q,x,C,fr,s,h1,h2,by rw[ht.rows q (hne i b q x hi hl h1) (lt h3)];exact h3,h4⟩
 refine (h.maps i b hi hm).heap λq es clock hh=>?_
 rw[ht.rows q (λe=>by subst e;rw[hC0] at hh;cases hh) (lt hh)];exact hh
theorem Eo {t:TypeId} (h:Ci P t=true):P.underlying t=some (.int .u8)/\fc P t=some (.int .u8 0)/\aK P t=some 1:=by
 unfold Ci at h
 split at h
 .
  rename_i h1 h2 h3;exact ⟨h1,h2,h3⟩
 cases h
theorem Mt {v:Value} (h:DL v=true):∃k:Int,v = .int .u8 k:=by
 unfold DL at h
 split at h
 .
  exact ⟨_,rfl⟩
 cases h
structure dL (P:Program) (GR:List Blk) (K:bO):Prop where
 calls:∀f args v,K f args=some v->addrFreeL args=true->∀w,dm GR w->Calls P f args.toArray w λe w'=>e = .returned v/\Below w.heap.size w w'
 Un:∀f u,K f iK=some u->VO P f u
 Uo:∀f s items,K (ux f) [fe,.string s]=some (.tuple items)->addrFreeL items.toList=true->IJ P f s items.toList
abbrev qq (P:Program) (K:bO):Prop:=dL P [] K
theorem qq.of {K:bO} (h0:∀f,K f iK=none) (h1:∀f s,K (ux f) [fe,.string s]=none) (h:∀f args v,K f args=some v->∀w,Calls P f args.toArray w λe w'=>e = .returned v/\Below w.heap.size w w'):qq P K :=
 ⟨λf args v hk _ w _=>h f args v hk w,(λf u hk=>by rw[h0] at hk;cases hk),(λf s items hk=>by rw[h1] at hk;cases hk)⟩
theorem rH:qq P jx:=.of (λ_=>rfl) (λ_ _=>rfl) λ_ _ _ h=>by simp[jx] at h
theorem LR.eT {ρ:Ren} {l l':List Value} (h:LR (VRel ρ) l l') (hf:addrFreeL l=true):l'=l:=by
 apply List.ext_getElem?
 intro i
 by_cases hi:i<l.length
 .
  have hi':i<l'.length:=h.1 ▸ hi;have hr:=h.2 i _ _ (List.getElem?_eq_getElem hi) (List.getElem?_eq_getElem hi');rw[List.getElem?_eq_getElem hi,List.getElem?_eq_getElem hi',Ev.eT hr (jf hf (List.getElem?_eq_getElem hi))]
 rw[List.getElem?_eq_none (Nat.le_of_not_lt hi),List.getElem?_eq_none (Nat.le_of_not_lt (h.1 ▸ hi))]
theorem Ep {fn:Func} {r:Out} {v:Value} {H':Mem} (h:Ch P fn r=some (v,H')):∃lv f l,r=some (lv,f,H')/\(lv = .normal\/lv = .ret)/\eB P H' f fn.results.toList=some l/\v=qG l:=by
 unfold Ch at h
 split at h
 .
  rename_i f H1;obtain ⟨h1,rfl⟩:=ax h;simp only[Option.map_eq_some_iff] at h1;obtain ⟨l,hl,rfl⟩:=h1;exact ⟨_,_,_,rfl,.inl rfl,hl,rfl⟩
 .
  rename_i f H1;obtain ⟨h1,rfl⟩:=ax h;simp only[Option.map_eq_some_iff] at h1;obtain ⟨l,hl,rfl⟩:=h1;exact ⟨_,_,_,rfl,.inr rfl,hl,rfl⟩
 cases h
theorem A0 {fn:Func} {c:Cx} {K0:Nat->Option Obj} {f1:Fr} {a ar:Act} {ρ:Ren} {H:Mem} {R:Ending->World->Prop} (hr:wU f1 a) (hs:ur ρ a ar) {l:List Value} (hl:eB c.P H f1 fn.results.toList=some l)
 (hR:∀v' w,VRel ρ (qG l) v'->bg (c.kp K0) ρ H w->R (.returned v') w):∀(D:List Deferred) (K:Nat->Option Obj) (w:World),Marks c.B K0 K D->bg (c.kp K) ρ H w->LeavesInM Fence.wide 20 c.P fn ar.tmps R D .returning w
 |
  [],K,w,hm,he=>by
  obtain ⟨v',p1,p2⟩:=nK he hr hs hl;exact ⟨v',p2,hR v' w p1 (he.qp hm)⟩
 |
  d::D,K,w,⟨m,hd,hB,hK,hm⟩,he=>by
  subst hd;have hw:w.heap[m]? = some (.deferred (some [])):=he.stay.kept m _ hK;refine ⟨by simp,.inl ⟨m,_,rfl,run_takeDeferred hw,?_⟩⟩
  refine A0 hr hs hl hR D (Ej K m) _ hm ((bg.Cz (c:=c) he hK hB (.deferred none)).qp λr o hr=>?_)
  unfold Ej at hr;split at hr
  .
   cases hr
  rename_i e;unfold jM;rw[if_neg e];exact hr
theorem fT (hno:cz P) {G:Nat} (hcall:jg P G GR call) (hit:td P call) (hk:bE call) (hm:P.follows .mixedOrders=true) (rounds:Nat) {id:FuncId} {args:List Value} {H H':Mem} {v:Value} (h:je P G call rounds id args H=some (v,H')) :
 bX H H'/\∀(c:Cx),c.P=P->c.At G GR->∀ ρ w args',bg c ρ H w->LR (VRel ρ) args args' ->
  Calls P id args'.toArray w λe w'=>∃ ρ' v',e = .returned v'/\ρ.le ρ'/\VRel ρ' v v'/\bg c ρ' H' w':=by
 unfold je at h
 split at h
 case h_2=>cases h
 rename_i fn hfn
 split at h
 case h_2=>cases h
 rename_i cd hcd
 split at h
 case h_2=>cases h
 rename_i f0 hf0
 rw[pick2_eq] at h
 split at h
 case isFalse=>cases h
 rename_i hlen
 have hlen':args.length<=fn.ntmps:=by simpa[Nat.ble_eq] using hlen
 obtain ⟨lv,f1,l,hr,hlv,hl,rfl⟩:=Ep h
 obtain ⟨k1,w1⟩:=En hno hcall hit hk hm (uL hno hcall hit hk hm rounds rounds) rounds cd _ _ _ _ _ hr
 refine ⟨k1,λc cJ cr ρ w args' he hargs=>callsIn_wide (n:=20) |>.1 (callsIn_of_wp_marks hfn hcd trivial (wpIn_wide.2 ?_))⟩
 subst cJ
 have oD:ya c.K c ρ f0 { tmps:=args'.toArray++Array.replicate (fn.ntmps-args'.toArray.size) undef,defers:=[] }:=by
  refine ⟨{ tmps:=args.toArray++Array.replicate (fn.ntmps-args.toArray.size) undef,defers:=[] },?_,?_,λ_ _ h=>h⟩
  .
   obtain ⟨e1,e2⟩:=AZ args hf0;refine ⟨by rw[e1];simp;omega,λi=>?_⟩
   rw[e2];by_cases hi:i<args.length
   .
    rw[if_pos (by simp;omega)]
    have:i<(args.toArray++Array.replicate (fn.ntmps-args.toArray.size) undef).size:=by simp;omega
    simp only[Array.getD_eq_getD_getElem?];rw[Array.getElem?_append,if_pos (by simpa using hi)]
    simp
   have e3:(args.toArray++Array.replicate (fn.ntmps-args.toArray.size) undef).getD i undef=undef:=by
    simp only[Array.getD_eq_getD_getElem?];rw[Array.getElem?_append,if_neg (by simpa using hi),Array.getElem?_replicate]
    split<;>rfl
   rw[if_neg (by omega),Fr.get_eq,yd,e3]
   split<;>rfl
  refine ⟨LR.of_array ?_,rfl⟩;have:args'.toArray.size=args.toArray.size:=by simp[hargs.1]
  rw[this];simp only[Array.toList_append]
  exact hargs.append ⟨rfl,λi x y hx hy=>by
   rw[hx] at hy;cases hy
   have:x=undef:=by
    have:=List.mem_of_getElem? hx;simp at this;exact this.2
   subst this;exact .undef⟩
 refine w1 c c.K rfl cr ρ _ w oD he _ λK1 ρ' ar' w' m1 m2 m3=>?_
 obtain ⟨a,hr',hs',hmk⟩:=m2
 have hdr:=hs'.dr
 have fin:=A0 (fn:=fn) (c:=c) (K0:=c.K) hr' hs' hl (R:=λe w'=>∃ ρ' v',e = .returned v'/\ρ.le ρ'/\VRel ρ' (qG l) v'/\bg c ρ' H' w') (λv' w2 p1 p2=>⟨ρ',v',rfl,m1,p1,p2⟩) a.defers K1 w' hmk m3
 rw[<-hdr] at fin
 rcases hlv with rfl|rfl
 .
  exact fin
 exact fin
theorem rJ (K:bO) (G rounds:Nat) (id:FuncId) (args:List Value) (H:Mem):ig P G K rounds 0 id args H=none:=rfl
theorem fU (K:bO) (G rounds n:Nat) (id:FuncId) (args:List Value) (H:Mem):ig P G K rounds (n+1) id args H=match K id args with|some v=>if addrFreeL args&&addrFree v then some (v,H) else none|none=>gR (iL P K id args H) (gR (je P G (ig P G K rounds n) rounds id args H) (xK P K id args H)):=by
 show Option.rec (motive:=λ_=>Option (Value×Mem)) (gR (iL P K id args H) (gR (je P G (ig P G K rounds n) rounds id args H) (xK P K id args H))) (λv=>pick2 (addrFreeL args&&addrFree v) (some (v,H)) none) (K id args)=_
 cases K id args with
 |none=>rfl
 |some v=>exact pick2_eq _ _ _
theorem GH {K:bO} {id:FuncId} (h:K id iK=none) (args:List Value) (H:Mem):iL P K id args H=none:=by
 unfold iL
 split
 .
  rw[h]
 rfl
theorem Mu {K:bO} (hK:dL P GR K) {id:FuncId} {args:List Value} {H H':Mem} {v:Value} (h:iL P K id args H=some (v,H')) {c:Cx} (cJ:c.P=P) {ρ:Ren} {w:World} {args':List Value} (he:bg c ρ H w) (hargs:LR (VRel ρ) args args') :
 Calls P id args'.toArray w λe w'=>∃ ρ' v',e = .returned v'/\ρ.le ρ'/\VRel ρ' v v'/\bg c ρ' H' w':=by
 subst cJ
 unfold iL at h
 split at h
 case h_2=>cases h
 rename_i i n c0
 split at h
 case h_2=>cases h
 rename_i u b hu hb
 rw[pick2_eq] at h
 split at h
 case isFalse=>cases h
 rename_i hcond
 simp only[Bool.and_eq_true,Nat.beq_eq] at hcond
 obtain ⟨⟨⟨⟨⟨f1,f2⟩,f3⟩,f4⟩,f5⟩,f6⟩:=hcond
 have f2:=Nat.le_of_ble_eq_true f2
 have f4:=Nat.le_of_ble_eq_true f4
 obtain ⟨t1,t2,t3⟩:=Eo f6
 split at h
 case h_2=>cases h
 rename_i H1 bF
 cases h
 obtain ⟨v',t',rfl,hv,ht⟩:=hargs.oO
 have ht':t'=[]:=ht.AA
 subst ht'
 obtain ⟨k1,k2,k3,k4,k5⟩:=ij bF
 obtain ⟨hg,hl⟩:=alive_some hb
 cases hv with
 |
  slice _ _ _ _ r x hr =>
  obtain ⟨r',x',C,fr,s,e1,e2,e3,e4,e5,e6,e7,e8⟩:=he.blk i b hg hl;rw[hr] at e1;cases e1;have hL:¬i<c.L:=by have:=he.lk;omega
  have own:=e2.resolve_left λh=>hL h.1
  have unf:=e4.resolve_left hL
  have hs:s=1:=by
   have:=e5.1.resolve_left hL;rw[t3] at this;cases this;rfl
  subst hs;have spare:=e8.resolve_left hL;have hC:C.size=c0+x:=by rw[e6,f3,Nat.mul_one]
  have h63:C.size<9223372036854775808:=by
   rcases spare.room with h1|h1|h1
   .
    omega
   .
    have:=h1 1 t3;omega
   omega
  have hbytes:∀(j:Nat) v,C[j]? = some v->∃k:Int,v = .int .u8 k:=by
   intro j v hv;by_cases hj:j<b.cells.length
   .
    have hc:=List.getElem?_eq_getElem hj;obtain ⟨k,hk⟩:=Mt (List.all_eq_true.1 f5 _ (List.getElem_mem hj));obtain ⟨v2,m1,m2⟩:=e7.2 j _ hc (by rw[hk];rfl)
    rw[hv] at m1;cases m1;rw[hk] at m2;cases m2;exact ⟨k,rfl⟩
   rcases spare.zero j v (by omega) hv with ⟨z,hz,hm⟩|⟨_,rfl⟩
   .
    rw[t2] at hz;cases hz;simp[Value.cells] at hm;exact ⟨0,hm⟩
   exact ⟨0,rfl⟩
  have hcall:=hK.Un id v hu w r n b.elem fr C e3 unf (by omega) h63 t1 hbytes
  rw[hC] at hcall;refine hcall.mono ?_;rintro e w' ⟨rfl,htn⟩;refine ⟨ρ,v,rfl,Ren.le_refl _,aO _ f1,(he.kill bF).turned own htn ⟨C,_,fr,e3⟩ λj bj q y hj mQ hq e=>?_⟩
  subst e;obtain ⟨g1,g2⟩:=k3 j bj hj (.inl mQ);exact g2 (he.inj j i bj b q y x g1 mQ hg hl hq hr)
theorem Er {K:bO} {id:FuncId} {args:List Value} {H H':Mem} {v:Value} (h:iL P K id args H=some (v,H')):bX H H':=by
 unfold iL at h
 split at h
 case h_2=>cases h
 split at h
 case h_2=>cases h
 rw[pick2_eq] at h
 split at h
 case isFalse=>cases h
 split at h
 case h_2=>cases h
 rename_i H1 bF
 cases h
 unfold kill at bF
 split at bF
 .
  exact .set bF
 cases bF
theorem rK {K:bO} {id:FuncId} {args:List Value} {H H1:Mem} {v:Value} (h:xK P K id args H=some (v,H1)):∃(i:Nat) (s:ByteArray) (items:Array Value) (b:Blk),args=[.pointer (some ⟨i,0,none⟩)]/\P.funcs[id]? = none/\v = .tuple (fe::items.toList).toArray/\alive H i=some b/\b.cells=[.string s]/\kill H i=some H1/\addrFreeL items.toList=true/\K id [fe,.string s]=some (.tuple items):=by
 unfold xK at h
 split at h
 case h_2=>cases h
 rename_i i
 split at h
 case h_2=>cases h
 rename_i hnone
 split at h
 case h_2=>cases h
 rename_i b hb
 split at h
 case h_2=>cases h
 rename_i s hs
 split at h
 case h_2=>cases h
 rename_i items hki
 rw[pick2_eq] at h
 split at h
 case isFalse=>cases h
 rename_i hfree
 split at h
 case h_2=>cases h
 rename_i H1 bF
 cases h
 exact ⟨i,s,items,b,rfl,hnone,rfl,hb,hs,bF,hfree,hki⟩
theorem Es {G rounds:Nat} {id:FuncId} {args:List Value} {H H':Mem} {v:Value} (h:je P G call rounds id args H=some (v,H')):P.funcs[id]? ≠ none:=by
 unfold je at h
 split at h
 .
  rename_i fn hfn;rw[hfn];simp
 cases h
theorem uN (hno:cz P) (hm:P.follows .mixedOrders=true) {K:bO} (hK:dL P GR K) (G rounds:Nat):∀n,jg P G GR (ig P G K rounds n)/\bE (ig P G K rounds n)/\td P (ig P G K rounds n)
 |0=>⟨λf args H v H' h=>(by rw[rJ] at h;cases h),λf args H v H' h=>(by rw[rJ] at h;cases h),λf i H v H' _ h=>(by rw[rJ] at h;cases h)⟩
 |
  n+1=>by
  obtain ⟨ih1,ih2,ih3⟩:=uN hno hm hK G rounds n;refine ⟨λf args H v H' h QE c cJ cr ρ w args' he hargs=>?_,λf args H v H' h=>?_,λf i H v H' hnone h=>?_⟩
  .
   rw[fU] at h;split at h
   .
    rename_i u hu;split at h
    .
     rename_i hf;cases h;simp only[Bool.and_eq_true] at hf;rw[hargs.eT hf.1];refine (hK.calls f args _ hu hf.1 w (he.uF cr)).mono ?_;rintro e w' ⟨rfl,hb⟩;exact ⟨ρ,_,rfl,Ren.le_refl _,aO _ hf.2,he.grow hb⟩
    cases h
   unfold gR at h;split at h
   .
    rename_i q hq;cases h;exact Mu hK hq cJ he hargs
   split at h
   .
    rename_i q hq;cases h;exact (fT hno ih1 ih3 ih2 hm rounds hq).2 c cJ cr ρ w args' he hargs
   obtain ⟨_,_,items,_,_,hnone,rfl,_⟩:=rK h;rcases QE with QE|QE
   .
    exact absurd hnone QE
   have:addrFree (.tuple (fe::items.toList).toArray)=false:=rfl;rw[this] at QE;cases QE
  .
   rw[fU] at h;split at h
   .
    split at h
    .
     cases h;exact .refl _
    cases h
   unfold gR at h;split at h
   .
    rename_i q hq;cases h;exact Er hq
   split at h
   .
    rename_i q hq;cases h;exact (fT hno ih1 ih3 ih2 hm rounds hq).1
   obtain ⟨i,_,_,_,_,_,_,_,_,bF,_⟩:=rK h;unfold kill at bF;split at bF
   .
    exact .set bF
   cases bF
  rw[fU] at h;split at h
  .
   rename_i u hu;have:addrFreeL [.pointer (some ⟨i,0,none⟩)]=false:=rfl;rw[this] at h;simp at h
  unfold gR at h;split at h
  .
   rename_i q hq;simp[iL] at hq
  split at h
  .
   rename_i q hq;exact absurd hnone (Es hq)
  obtain ⟨i',s,items,b,e,_,rfl,k1,k2,k3,k4,k5⟩:=rK h;cases e;exact ⟨s,items,b,rfl,k1,k2,k3,k4,hK.Uo _ _ _ k5 k4⟩
theorem GI (hno:cz P) (hm:P.follows .mixedOrders=true) {K:bO} (hK:dL P GR K) (G rounds n:Nat):jg P G GR (ig P G K rounds n)/\bE (ig P G K rounds n) :=
 ⟨(uN hno hm hK G rounds n).1,(uN hno hm hK G rounds n).2.1⟩
theorem IL (hno:cz P) (hm:P.follows .mixedOrders=true) {K:bO} (hK:dL P GR K) {G rounds n:Nat} {f:FuncId} {args:List Value} {H H':Mem} {v:Value} (h:ig P G K rounds n f args H=some (v,H'))
 (QE:P.funcs[f]? ≠ none\/addrFree v=true) {c:Cx} (cJ:c.P=P) (cr:c.At G GR) {ρ:Ren} {w:World} {args':List Value} (he:bg c ρ H w) (hargs:LR (VRel ρ) args args') :
 Calls P f args'.toArray w λe w'=>∃ ρ' v',e = .returned v'/\ρ.le ρ'/\VRel ρ' v v'/\bg c ρ' H' w' :=
 (GI hno hm hK G rounds n).1 f args H v H' h QE c cJ cr ρ w args' he hargs
theorem o4:∀(l:List Blk) {H H':Mem},H.nE l=some H'->H'.size=H.size+l.length/\H'.lk=H'.size/\∀i,H'.get i=if i<H.size then H.get i else l[i-H.size]?
 |
  [],H,H',h=>by
  simp only[Mem.nE,Option.some.injEq] at h;subst h;refine ⟨rfl,rfl,λi=>?_⟩
  show H.get i=_;split
  .
   rfl
  rename_i hi;cases hg:H.get i with
  |none=>simp
  |some b=>exact absurd (Mem.bC hg) hi
 |
  b::l,H,H',h=>by
  simp only[Mem.nE] at h;split at h
  .
   rename_i H1 hp;obtain ⟨q1,q2,q3⟩:=Mem.aY hp;obtain ⟨r1,r2,r3⟩:=o4 l h;refine ⟨by rw[r1,q1];simp;omega,r2,λi=>?_⟩
   rw[r3,q1,q3];by_cases h1:i<H.size
   .
    rw[if_pos (by omega),if_pos h1,if_neg (by omega)]
   by_cases h2:i=H.size
   .
    subst h2;rw[if_pos (by omega),if_neg h1,if_pos rfl];simp
   rw[if_neg (by omega),if_neg h1]
   have:i-H.size=(i-(H.size+1))+1:=by omega
   rw[this];simp
  cases h
theorem bg.rows {rows:List Blk} {H:Mem} (hH:Mem.nE Mem.empty rows=some H) {w:World} (hw:dm rows w) (hfree:∀b∈rows,addrFreeL b.cells=true/\cE b=false) :
 bg ⟨P,w.heap.size,rows.length,rows.length,w,λ_=>none⟩ (λi=>if i<rows.length then some (i,0) else none) H w:=by
 obtain ⟨e1,e2,e3⟩:=o4 rows hH
 have es:H.size=rows.length:=by rw[e1];simp[Mem.empty]
 have eg:∀i,H.get i=rows[i]? := λi=>by rw[e3,if_neg (by simp[Mem.empty])];simp[Mem.empty]
 refine ⟨⟨Below.refl _ _,λr o h=>by cases h⟩,Nat.le_refl _,λi x h=>?_,?_,?_,λg hg=>if_pos hg,λi b hi hl=>?_,λi j bi bj r x y hi _ hj _ hr hr'=>?_,λi b hi hm=>?_,λi j bi bj r x y hi hm=>?_⟩
 .
  rw[es];split at h
  .
   assumption
  cases h
 .
  rw[e2,es];exact Nat.le_refl _
 .
  rw[es];exact Nat.le_refl _
 .
  rw[eg] at hi;have hlt:i<rows.length:=(List.getElem?_eq_some_iff.1 hi).1;obtain ⟨fr,h1,h2⟩:=hw.2 i b hi hl;refine ⟨i,0,b.cells.toArray,fr,0,if_pos hlt,.inl ⟨hlt,rfl⟩,h1,.inr h2,⟨.inl hlt,λ_=>rfl⟩,by simp,⟨by simp,λj v hv _=>⟨v,by simpa using hv,?_⟩⟩,.inl hlt⟩
  exact aO _ (jf (hfree b (List.mem_of_getElem? hi)).1 hv)
 .
  split at hr
  .
   split at hr'
   .
    cases hr;cases hr';rfl
   cases hr'
  cases hr
 .
  rw[eg] at hi;rw[(hfree b (List.mem_of_getElem? hi)).2] at hm;cases hm
 rw[eg] at hi
 rw[(hfree bi (List.mem_of_getElem? hi)).2] at hm;cases hm
theorem lQ (hno:cz P) (hm:P.follows .mixedOrders=true) {K:bO} {rows:List Blk} (hK:dL P rows K) {rounds depth:Nat} {f:FuncId} {args:List Value} {v:Value} (h:qj P K rows rounds depth f args=some v) (w:World) (hw:dm rows w) :
 Calls P f args.toArray w λe w'=>e = .returned v/\Below w.heap.size w w':=by
 unfold qj at h
 split at h
 .
  rename_i H hH;split at h
  .
   rename_i u H' hc;rw[pick2_eq] at h;split at h
   .
    rename_i hf;cases h;simp only[Bool.and_eq_true,List.all_eq_true,Bool.not_eq_true'] at hf;refine (IL hno hm hK hc (.inr hf.1.1) (c:=⟨P,w.heap.size,rows.length,rows.length,w,λ_=>none⟩) rfl ⟨rfl,hw,hw.1⟩ (bg.rows hH hw hf.2) (args':=args) ⟨rfl,mq args hf.1.2⟩).mono ?_
    rintro e w' ⟨ρ',v',rfl,h1,h2,h3⟩;exact ⟨by rw[Ev.eT h2 hf.1.1],h3.below⟩
   cases h
  cases h
 cases h
theorem Et (h:(P.funcs.toList.all λfn => !(fn.name == "runtime.NumGoroutine"))=true):cz P:=by
 intro id fn hfn hname
 have hm:fn∈P.funcs.toList:=by have:=Array.mem_of_getElem? hfn;simpa using this
 have:=List.all_eq_true.1 h fn hm
 simp[hname] at this
end
end Go.Ev

namespace Go.Ev
open Go.WideShapes
theorem Kg {P:Program} {w:World} {r:Go.Reach} {base:Nat} {t:TypeId} {v:Value} {fs:Array Field} {ts:List TypeId} (hu:P.underlying t=some (.struct fs)) (hc:P.cellTypes P.depth t=some ts) (hn:P.cellsOf t=ts.length)
 (h:Value.okWide P w r base t v):∃cs:List Value,v = .agg cs.toArray/\cs.length=ts.length/\∀(i:Nat) u x,ts[i]? = some u->cs[i]? = some x->Cell.okWide P w r base u x:=by
 unfold Value.okWide at h
 rw[hu] at h
 obtain ⟨cs,rfl,hs,ts',hts,_,hall⟩:=h
 rw[hc] at hts
 cases hts
 refine ⟨cs.toList,by simp,by rw[hn] at hs;simpa using hs,λi u x hu' hx=>?_⟩
 obtain ⟨u',h1,h2⟩:=hall i x (by simpa using hx)
 have hlt:i<ts.length:=(List.getElem?_eq_some_iff.1 hu').1
 rw[Nat.mod_eq_of_lt hlt,hu'] at h1
 cases h1
 exact h2
theorem kU {P:Program} {w:World} {r:Go.Reach} {base:Nat} {t:TypeId} {v:Value} {k:IntKind} (hu:P.underlying t=some (.int k)) (h:Cell.okWide P w r base t v):∃n,v = .int k n/\k.has n:=by
 obtain ⟨n,rfl⟩:=okWide_int (v:=v) hu (by unfold Value.okWide;rw[hu];exact h)
 unfold Cell.okWide at h
 rw[hu] at h
 unfold Cell.ok at h
 rw[hu] at h
 exact ⟨n,rfl,h.2⟩
theorem nL {l:List Value} {n:Nat} (h:l.length=n+1):∃a t,l=a::t:=by
 cases l with
 |nil=>simp at h
 |cons a t=>exact ⟨a,t,rfl⟩
theorem aeB {l:List Value} (h:l.length=7):∃c0 c1 c2 c3 c4 c5 c6,l=[c0,c1,c2,c3,c4,c5,c6]:=by
 obtain ⟨c0,l0,rfl⟩:=nL h
 have h0:l0.length=6:=by simpa using h
 obtain ⟨c1,l1,rfl⟩:=nL h0
 have h1:l1.length=5:=by simpa using h0
 obtain ⟨c2,l2,rfl⟩:=nL h1
 have h2:l2.length=4:=by simpa using h1
 obtain ⟨c3,l3,rfl⟩:=nL h2
 have h3:l3.length=3:=by simpa using h2
 obtain ⟨c4,l4,rfl⟩:=nL h3
 have h4:l4.length=2:=by simpa using h3
 obtain ⟨c5,l5,rfl⟩:=nL h4
 have h5:l5.length=1:=by simpa using h4
 obtain ⟨c6,l6,rfl⟩:=nL h5
 have h6:l6.length=0:=by simpa using h5
 have e:l6=[]:=List.length_eq_zero_iff.1 h6
 subst e
 exact ⟨c0,c1,c2,c3,c4,c5,c6,rfl⟩
end Go.Ev

namespace Go.Ev
def IM {H:Type}:DataW H->Value
 |.lit (.int k n)=>.int k n
 |.lit (.string s)=>.string ⟨s.toArray⟩
 |.lit (.bool b)=>.bool b
 |_=>undef
section
variable {P:Program} {w:World}
theorem GJ {H:Type} {enc:TypeId×Value->H} {sp:Nat->Bool} {held:Bool} {base fuel n:Nat} {t e:TypeId} {cs:List Value} {ds:List (DataW H)} {p:List MemPlace} (ht:P.underlying t=some (.array n e)) (he:(∃k,P.underlying e=some (.int k))\/P.underlying e=some .string)
 (hc:P.cellsOf e=1) (hct:P.cellsOf t=n) (h:DataW.trod enc P w base sp held fuel t cs=some (.agg ds,p)):cs=ds.map IM:=by
 obtain ⟨xs,m,_,ex,hlen,hxl,hel⟩:=DataW.trod_array ht h
 have hds:ds=xs.map (·.1):=DataW.agg.inj (Prod.mk.inj ex).1
 subst hds
 apply List.ext_getElem?
 intro i
 by_cases hi:i<n
 .
  have h1:=hel i hi;rw[hc,Nat.mul_one,List.getElem?_eq_getElem (by omega:i<xs.length)] at h1
  have h2:∃v,(cs.drop i).take 1=[v]/\v=IM (xs[i]'(by omega)).1:=by
   rcases he with ⟨k,he⟩|he
   .
    obtain ⟨z,e1,e2,_⟩:=DataW.trod_int he h1;exact ⟨_,e1,by rw[e2];rfl⟩
   obtain ⟨s,e1,e2,_⟩:=DataW.trod_string he h1;exact ⟨_,e1,by rw[e2];simp[IM]⟩
  obtain ⟨v,e1,e2⟩:=h2
  have e3:cs[i]? = some v:=by
   have h0:((cs.drop i).take 1)[0]? = some v:=by rw[e1];rfl
   simpa using h0
  rw[e3,e2,List.getElem?_map,List.getElem?_map,List.getElem?_eq_getElem (by omega:i<xs.length)]
  rfl
 rw[List.getElem?_eq_none (by omega),List.getElem?_eq_none (by simp;omega)]
theorem laid_mem:∀{laid:List (String×DataW Unit)} {ps:List MemPlace},DataW.LaidVars P w laid ps->∀{nm:String} {d:DataW Unit},(nm,d)∈laid ->
 ∃g t cs fuel p,P.globalNamed nm=some g/\(P.globals[g]?).map (·.type)=some t/\w.var? P nm=some cs/\DataW.trod (λ_=>()) P w 0 (λ_=>true) false fuel t cs.toList=some (d,p)/\∀x∈MemPlace.row ⟨g,0,none⟩ cs.size,x∈ps
 |[],_,_,_,_,hm=>by cases hm
 |
  (n,d)::r,ps,h,nm,d',hm=>by
  obtain ⟨g,t,cs,fuel,p,q,h1,h2,h3,h4,h5,rfl⟩:=h;rcases List.mem_cons.1 hm with heq|hm
  .
   cases heq;exact ⟨g,t,cs,fuel,p,h1,h2,h3,h4,λx hx=>by simp[hx]⟩
  obtain ⟨g',t',cs',fuel',p',k1,k2,k3,k4,k5⟩:=laid_mem h5 hm;exact ⟨g',t',cs',fuel',p',k1,k2,k3,k4,λx hx=>by simp[k5 x hx]⟩
def Z6 {H:Type}:DataW H->Option (List Value)
 |.agg ds=>some (ds.map IM)
 |_=>none
theorem laid_at {laid:List (String×DataW Unit)} (h:laidMet P laid w) {nm:String} {d:DataW Unit} {k:Nat} (hm:laid[k]? = some (nm,d)) {cv:List Value} (hd:Z6 d=some cv) {g n:Nat} {t e:TypeId} (hg:P.globalNamed nm=some g) (ht:(P.globals[g]?).map (·.type)=some t)
 (hu:P.underlying t=some (.array n e)) (he:(∃k,P.underlying e=some (.int k))\/P.underlying e=some .string) (hc:P.cellsOf e=1) (hct:P.cellsOf t=n) (hn:cv.isEmpty=false) :
 ∃t',w.heap[g]? = some (.cells cv.toArray t' (0,0)):=by
 obtain ⟨ps,h1,_,h2⟩:=h
 obtain ⟨g',t',cs,fuel,p,k1,k2,k3,k4,k5⟩:=laid_mem h1 (List.mem_of_getElem? hm)
 rw[hg] at k1;cases k1
 rw[ht] at k2;cases k2
 cases d with
 |
  agg ds =>
  simp only[Z6,Option.some.injEq] at hd;have e1:cs.toList=cv:=by rw[<-hd];exact GJ hu he hc hct k4
  have hpos:0<cs.size:=by
   have h4:cs.size=cv.length:=by rw[<-e1];simp
   have h3:cv.length≠0:=by intro h0;rw[List.length_eq_zero_iff.1 h0] at hn;cases hn
   omega
  have hrow:MemPlace.cell g 0∈MemPlace.row ⟨g,0,none⟩ cs.size:=by
   unfold MemPlace.row;simp only[List.mem_map,List.mem_range];exact ⟨0,hpos,by simp⟩
  obtain ⟨⟨c,u,hh⟩,_⟩:=h2 g 0 (k5 _ hrow);simp only[World.var?,hg,Option.bind_some,hh,Option.some.injEq] at k3;subst k3;exact ⟨u,by rw[hh,<-e1]⟩
 |_=>cases hd
def lR:Blk:=⟨[],0,false,false⟩
theorem mA {cv:List Value} {t':TypeId} {g:Nat} (h:w.heap[g]? = some (.cells cv.toArray t' (0,0))):∃fr,w.heap[g]? = some (.cells (Blk.mk cv t' true false).cells.toArray (Blk.mk cv t' true false).elem fr)/\jI (Blk.mk cv t' true false).cells.toArray fr :=
 ⟨(0,0),h,jz _⟩
theorem Mv {o:Obj} {g:Nat} (h:w.heap[g]? = some o):g<w.heap.size:=(Array.getElem?_eq_some_iff.1 h).1
end
end Go.Ev

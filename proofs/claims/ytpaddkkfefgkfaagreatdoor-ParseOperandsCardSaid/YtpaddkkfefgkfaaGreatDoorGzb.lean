/- name.Parse: the contract. What is known of name.Name and name.Parse, for the evaluator. Registers: the names of a class. -/
import Derived.Test.YtpaddkkfefgkfaaGreatDoorGza
import Derived.Test.YtpaddkkfefgkfaaGreatDoorLyg
import Derived.Test.YtpaddkkfefgkfaaGreatDoorRows
set_option linter.unusedVariables false
set_option linter.unusedSimpArgs false

namespace Go.Proofs.YtpaddkkfefgkfaaGreatDoor.nm
open Go.RowKit Go.Shelf Go.Lib
attribute [local go_sem] Oper.semAt_some
structure PI (w:World) (s:ByteArray) (pre:List ByteArray) (W:World):Prop where
 below:Below w.heap.size w W
 v0:Var W w.heap.size (.string s)
 v1:Var W (w.heap.size+1) (.int .i64 0)
 v2:Var W (w.heap.size+1+1) (.bool false)
 v3:Var W (w.heap.size+1+1+1) (.int .i64 (pre.length:Int))
 no:s ∉ pre
structure PX (w:World) (s:ByteArray) (pre:List ByteArray) (W:World):Prop where
 below:Below w.heap.size w W
 v1:Var W (w.heap.size+1) (.int .i64 (pre.length:Int))
 v2:Var W (w.heap.size+1+1) (.bool true)
 is:∃l,pre=l++[s]/\s ∉ l
structure TF (w:World) (s:ByteArray) (A:Nat) (W:World):Prop where
 below:Below w.heap.size w W
 v0:Var W w.heap.size (.string s)
 v1:Var W (w.heap.size+1) (.int .i64 0)
 v2:Var W (w.heap.size+1+1) (.bool false)
 df:W.heap[w.heap.size+7]? = some (.deferred (some []))
 hA:w.heap.size+7<A
 a0:W.cell? ⟨A,0,none⟩=some (.int .i64 68)
 a1:W.cell? ⟨A,1,none⟩=some (.int .i64 84)
 a2:W.cell? ⟨A,2,none⟩=some (.int .i64 100)
theorem TF.grow {w:World} {s:ByteArray} {A:Nat} {W W':World} (h:TF w s A W) (hb:Below W.heap.size W W'):TF w s A W':=by
 have hlt:∀{b:Nat} {v:Value} {o:Nat},W.cell? ⟨b,o,none⟩=some v->b<W.heap.size:=λhc=>World.block_lt_of_cell? _ _ hc
 have hd:w.heap.size+7<W.heap.size:=(Array.getElem?_eq_some_iff.1 h.df).1
 exact ⟨h.below.trans (hb.mono h.below.size),h.v0.heap (hb.block _ (hlt h.v0.1)),h.v1.heap (hb.block _ (hlt h.v1.1)),h.v2.heap (hb.block _ (hlt h.v2.1)),(hb.block _ hd).trans h.df,h.hA,
  (fD (hb.block _ (hlt h.a0))).trans h.a0,(fD (hb.block _ (hlt h.a1))).trans h.a1,(fD (hb.block _ (hlt h.a2))).trans h.a2⟩
theorem WA {w:World} {s p:ByteArray} {A:Nat} {W:World} (h:TF w s A W) {r:List UInt8} {b:Bool} (e:pI s.data.toList p.data.toList=(r,b)) :
 CallsIn Fence.wide 9 Tryz.prog 88 #[.string s,.string p] W λe W'=>e = .returned (.tuple #[.string (xk r),.bool b])/\TF w s A W':=by
 refine (callsIn_wide (n:=9) |>.2 (RW s p W)).mono ?_
 rw[e]
 rintro e W' ⟨rfl,hb⟩
 exact ⟨rfl,h.grow hb⟩
theorem KR {w:World} {s:ByteArray} {A:Nat} {r:List UInt8} {c:Int} {b:Bool} (e:m9 r=(c,b)) {W:World} (h:TF w s A W) :
 CallsIn Fence.wide 9 Tryz.prog 89 #[.string (xk r)] W λe W'=>e = .returned (.tuple #[.int .i64 c,.bool b])/\TF w s A W':=by
 refine (callsIn_wide (n:=9) |>.2 (RV (xk r) W)).mono ?_
 have e':m9 (xk r).data.toList=(c,b):=e
 rw[e']
 rintro e W' ⟨rfl,hb⟩
 exact ⟨rfl,h.grow hb⟩
theorem RX (w:World):(Instr.index 152 (.agg #[.string ⟨#[106]⟩,.string ⟨#[115,101,116]⟩,.string ⟨#[99,109,111,118]⟩]) (.int .i64 0)).run Tryz.prog w = .ok (.string ⟨#[106]⟩) w:=by kernel_rfl
theorem RY (w:World):(Instr.index 152 (.agg #[.string ⟨#[106]⟩,.string ⟨#[115,101,116]⟩,.string ⟨#[99,109,111,118]⟩]) (.int .i64 1)).run Tryz.prog w = .ok (.string ⟨#[115,101,116]⟩) w:=by kernel_rfl
theorem RZ (w:World):(Instr.index 152 (.agg #[.string ⟨#[106]⟩,.string ⟨#[115,101,116]⟩,.string ⟨#[99,109,111,118]⟩]) (.int .i64 2)).run Tryz.prog w = .ok (.string ⟨#[99,109,111,118]⟩) w:=by kernel_rfl
noncomputable def pJ (s:List UInt8):List (List UInt8×Int)->Int×Bool
 |[]=>(0,false)
 |q::l=>if (pI s q.1).2=true/\(m9 (pI s q.1).1).2=true then (q.2+(m9 (pI s q.1).1).1,true) else pJ s l
def heads:List (List UInt8×Int):=[([106],68),([115,101,116],84),([99,109,111,118],100)]
def yL (s:List UInt8):List (List UInt8)->Int->Option Int
 |[],_=>none
 |p::l,k=>if p=s then some k else yL s l (k+1)
noncomputable def dz (s:List UInt8):Int×Bool :=
 match yL s QO 1 with
 |some k=>(k,true)
 |none=>pJ s heads
theorem E5 {s:List UInt8}:∀{l:List (List UInt8)} {k:Int},s ∉ l->yL s l k=none
 |[],_,_=>rfl
 |
  p::l,k,h=>by
  rw[yL,if_neg (λe=>h (by rw[e];exact List.mem_cons_self ..)),E5 (λhm=>h (List.mem_cons_of_mem _ hm))]
theorem E6 {s:List UInt8}:∀{l t:List (List UInt8)} {k:Int},s ∉ l->yL s (l++s::t) k=some (k+l.length)
 |[],t,k,_=>by rw[List.nil_append,yL,if_pos rfl];simp
 |
  p::l,t,k,h=>by
  rw[List.cons_append,yL,if_neg (λe=>h (by rw[e];exact List.mem_cons_self ..)),E6 (λhm=>h (List.mem_cons_of_mem _ hm))]
  simp only[List.length_cons];congr 1;omega
theorem Bw (s:List UInt8):∀l:List (List UInt8×Int),(∀q∈l,0<=q.2/\q.2<=15)->0<=(tL s l).1/\(tL s l).1<=15
 |[],_=>by simp[tL]
 |
  q::l,h=>by
  rw[tL];split
  .
   exact h q (List.mem_cons_self ..)
  exact Bw s l λx hx=>h x (List.mem_cons_of_mem _ hx)
theorem vo (s:List UInt8):0<=(m9 s).1/\(m9 s).1<=15:=Bw s _ (by decide)
theorem mk_data (s:ByteArray):xk s.data.toList=s:=by obtain ⟨d⟩:=s;simp
theorem mem_mk {s:ByteArray} {l:List (List UInt8)}:s∈l.map xk↔s.data.toList∈l:=by
 constructor
 .
  intro h;obtain ⟨x,hx,rfl⟩:=List.mem_map.1 h;exact hx
 intro h
 exact List.mem_map.2 ⟨_,h,mk_data s⟩
set_option maxRecDepth 100000 in
set_option maxHeartbeats 2000000 in
theorem NM (s:ByteArray) (w:World)   : Calls Tryz.prog 51 #[.string s] w λe w'=>e = .returned (.tuple #[.int .i64 (dz s.data.toList).1,.bool (dz s.data.toList).2])/\Below w.heap.size w w':=by
 refine callsIn_wide (n:=10) |>.1 ?_
 refine callsIn_of_wp_marks Tryz.func51 rfl trivial ?_ rfl
 simp only[Tryz.ntmps51,List.size_toArray,List.length_cons,List.length_nil,Nat.reduceAdd,Nat.reduceSub,Array.replicate_succ,Array.replicate_zero,List.push_toArray,List.append_toArray,List.nil_append,List.cons_append]
 gi_wp2_with (refine ⟨trivial,?_⟩;gi_at_call 45;refine (callsIn_wide.2 (Jg _ (by kernel_rfl) _)).mono ?_;rintro e w' ⟨rfl,rfl⟩)
 have u0:=Var.new w (.string s) 9
 have u1:=Var.new (w.alloc (.cells #[.string s] 9)) (.int .i64 0) 3
 have u2:=Var.new ((w.alloc (.cells #[.string s] 9)).alloc (.cells #[.int .i64 0] 3)) (.bool false) 4
 have u3:=Var.new (((w.alloc (.cells #[.string s] 9)).alloc (.cells #[.int .i64 0] 3)).alloc (.cells #[.bool false] 4)) (.int .i64 0) 3
 have u4:=Var.new ((((w.alloc (.cells #[.string s] 9)).alloc (.cells #[.int .i64 0] 3)).alloc (.cells #[.bool false] 4)).alloc (.cells #[.int .i64 0] 3)) (.string cS) 9
 have u5:=Var.new (((((w.alloc (.cells #[.string s] 9)).alloc (.cells #[.int .i64 0] 3)).alloc (.cells #[.bool false] 4)).alloc (.cells #[.int .i64 0] 3)).alloc (.cells #[.string cS] 9)) (.string ⟨#[32]⟩) 9
 have u6:=Var.new ((((((w.alloc (.cells #[.string s] 9)).alloc (.cells #[.int .i64 0] 3)).alloc (.cells #[.bool false] 4)).alloc (.cells #[.int .i64 0] 3)).alloc (.cells #[.string cS] 9)).alloc (.cells #[.string ⟨#[32]⟩] 9)) (.int .i64 0) 3
 have hb:Below w.heap.size w (((((((w.alloc (.cells #[.string s] 9)).alloc (.cells #[.int .i64 0] 3)).alloc (.cells #[.bool false] 4)).alloc (.cells #[.int .i64 0] 3)).alloc (.cells #[.string cS] 9)).alloc (.cells #[.string ⟨#[32]⟩] 9)).alloc (.cells #[.int .i64 0] 3)) :=
  (((((((Below.refl _ w).alloc (Nat.le_refl _) _).alloc (by simp) _).alloc (by simp;omega) _).alloc (by simp;omega) _).alloc (by simp;omega) _).alloc (by simp;omega) _).alloc (by simp;omega) _
 simp only[World.size_alloc] at u1 u2 u3 u4 u5 u6
 have k0:=(((((u0.alloc (.cells #[.int .i64 0] 3)).alloc (.cells #[.bool false] 4)).alloc (.cells #[.int .i64 0] 3)).alloc (.cells #[.string cS] 9)).alloc (.cells #[.string ⟨#[32]⟩] 9)).alloc (.cells #[.int .i64 0] 3)
 have k1:=((((u1.alloc (.cells #[.bool false] 4)).alloc (.cells #[.int .i64 0] 3)).alloc (.cells #[.string cS] 9)).alloc (.cells #[.string ⟨#[32]⟩] 9)).alloc (.cells #[.int .i64 0] 3)
 have k2:=(((u2.alloc (.cells #[.int .i64 0] 3)).alloc (.cells #[.string cS] 9)).alloc (.cells #[.string ⟨#[32]⟩] 9)).alloc (.cells #[.int .i64 0] 3)
 have k3:=((u3.alloc (.cells #[.string cS] 9)).alloc (.cells #[.string ⟨#[32]⟩] 9)).alloc (.cells #[.int .i64 0] 3)
 have k4:=(u4.alloc (.cells #[.string ⟨#[32]⟩] 9)).alloc (.cells #[.int .i64 0] 3)
 have k5:=u5.alloc (.cells #[.int .i64 0] 3)
 have hsz:(((((((w.alloc (.cells #[.string s] 9)).alloc (.cells #[.int .i64 0] 3)).alloc (.cells #[.bool false] 4)).alloc (.cells #[.int .i64 0] 3)).alloc (.cells #[.string cS] 9)).alloc (.cells #[.string ⟨#[32]⟩] 9)).alloc (.cells #[.int .i64 0] 3)).heap.size=w.heap.size+7:=by simp
 refine Br (m:=w.heap.size+7) (Bs:=w.heap.size+1+1+1+1) (Bp:=w.heap.size+1+1+1+1+1) (Bv:=w.heap.size+1+1+1+1+2) (by omega) hsz rfl (by omega) (by omega) (by omega) (by omega) (by omega) EZ Jf k4.1 k4.2 k5.1 u6.1
  (PI w s) (PX w s)
  (λpre W W' hl hi=>⟨hl.below hi.below (by omega) (by omega),hl.var hi.v0 (by omega) (by omega),hl.var hi.v1 (by omega) (by omega),hl.var hi.v2 (by omega) (by omega),hl.var hi.v3 (by omega) (by omega),hi.no⟩)
  (λpre W W' hl hi=>⟨hl.below hi.below (by omega) (by omega),hl.var hi.v1 (by omega) (by omega),hl.var hi.v2 (by omega) (by omega),hi.is⟩)
  ⟨hb,k0,k1,k2,k3,by simp⟩
  (λx=>{ tmps := #[.string s,.pointer (some ⟨w.heap.size,0,none⟩),.pointer (some ⟨w.heap.size+1,0,none⟩),.pointer (some ⟨w.heap.size+1+1,0,none⟩),.pointer (some ⟨w.heap.size+1+1+1,0,none⟩),.string x,undef,undef,undef,undef,undef,undef,undef,
   .func (.func 126) #[] #[.pointer (some ⟨w.heap.size+1+1+1+1+1,0,none⟩),.pointer (some ⟨w.heap.size+1+1+1+1,0,none⟩),.pointer (some ⟨w.heap.size+1+1+1+1+2,0,none⟩)],.string x,
   undef,undef,undef,undef,undef,undef,undef,undef,undef,undef,undef,undef,undef,undef,undef,undef,undef,undef,undef,undef,undef,undef,undef,undef,undef,undef,undef,undef,undef,undef,undef,undef],defers:=[] }) ?assign ?body ?done ?stop
 case assign =>
  intro l x W K hK
  gi_wp2
  exact hK
 case body =>
  rintro l pre x W ⟨hB,v0,v1,v2,v3,hno⟩ hpx
  have hlen:pre.length<322:=by
   have:=hpx.length_le;rw[List.length_map,C8,List.length_append] at this;simp at this;omega
  have c0:=v0.1;have c1:=v1.1;have f1:=v1.2;have c2:=v2.1;have f2:=v2.2;have c3:=v3.1;have f3:=v3.2
  gi_wp2
  .
   rename_i hx
   have hxs:x=s:=by
    have:=eq_of_beq hx;rw[ByteArray.toList_eq,ByteArray.toList_eq] at this;rw[<-mk_data x,this,mk_data]
   refine ⟨λr hr=>((aP _ _ _ _ (by omega)).trans (aP _ _ _ _ (by omega))).trans (aP _ _ _ _ (by omega)),?_,?_,?_,pre,by rw[hxs],hno⟩
   .
    exact ((hB.setCell (p:=⟨w.heap.size+1+1+1,0,none⟩) (by simp;omega) _).setCell (p:=⟨w.heap.size+1,0,none⟩) (by simp) _).setCell (p:=⟨w.heap.size+1+1,0,none⟩) (by simp;omega) _
   .
    have:=(((v1.other (c:=w.heap.size+1+1+1) (by omega) (.int .i64 ((pre.length:Int)+1))).set (.int .i64 ((pre.length:Int)+1))).other (c:=w.heap.size+1+1) (by omega) (.bool true))
    simpa using this
   exact (((v2.other (c:=w.heap.size+1+1+1) (by omega) (.int .i64 ((pre.length:Int)+1))).other (c:=w.heap.size+1) (by omega) (.int .i64 ((pre.length:Int)+1))).set (.bool true))
  rename_i hx;have hxs:s≠x:=λe=>by subst e;simp at hx
  refine ⟨λr hr=>aP _ _ _ _ (by omega),?_,?_,?_,?_,?_,?_⟩
  .
   exact hB.setCell (p:=⟨w.heap.size+1+1+1,0,none⟩) (by simp;omega) _
  .
   exact v0.other (by omega) _
  .
   exact v1.other (by omega) _
  .
   exact v2.other (by omega) _
  .
   have:=v3.set (.int .i64 ((pre.length:Int)+1))
   simpa using this
  simp only[List.mem_append,List.mem_singleton,not_or];exact ⟨hno,hxs⟩
 case done =>
  rintro W ⟨hB,v0,v1,v2,v3,hno⟩ hK;have hno':s.data.toList ∉ QO:=λhm=>hno (mem_mk.2 hm)
  have hps:dz s.data.toList=pJ s.data.toList heads:=by unfold dz;rw[E5 hno']
  have c0:=v0.1;have c1:=v1.1;have f1:=v1.2;have c2:=v2.1;have f2:=v2.2;have hd:w.heap.size+7<W.heap.size:=(Array.getElem?_eq_some_iff.1 hK).1;have hrow:=World.alloc_heap_new W (.cells #[.int .i64 68,.int .i64 84,.int .i64 100] 128)
  have hT:TF w s W.heap.size (W.alloc (.cells #[.int .i64 68,.int .i64 84,.int .i64 100] 128)):=by
   refine ⟨hB.alloc hB.size _,v0.alloc _,v1.alloc _,v2.alloc _,(Below.heap_alloc _ _ _ hd).trans hK,hd,?_,?_,?_⟩
   all_goals (unfold World.cell?;simp only[hrow];rfl)
  obtain ⟨A,hAe⟩:∃A,W.heap.size=A:=⟨_,rfl⟩;rw[hAe] at hT
  gi_wp2
  gi_loopw [23] (λv wr=>∃k:Nat,((k=0/\v = .int .i64 0)\/(k=1/\v = .int .i64 1)\/(k=2/\v = .int .i64 2)\/(k=3/\v = .int .i64 3))/\TF w s A wr/\pJ s.data.toList heads=pJ s.data.toList (heads.drop k)) (λv _=>3-(RowKit.intOf v).toNat)
  case atStart=>exact ⟨0,.inl ⟨rfl,rfl⟩,hT,rfl⟩
  case round =>
   obtain ⟨k,hk,hT,htr⟩:=hrel;rcases hk with ⟨rfl,rfl⟩|⟨rfl,rfl⟩|⟨rfl,rfl⟩|⟨rfl,rfl⟩
   .
    obtain ⟨r,b,hc⟩:∃r b,pI s.data.toList (⟨#[106]⟩:ByteArray).data.toList=(r,b):=⟨_,_,rfl⟩;have hc':pI s.data.toList [106]=(r,b):=hc;obtain ⟨c,t,hd⟩:∃c t,m9 r=(c,t):=⟨_,_,rfl⟩;have NN:=vo r;rw[hd] at NN;have q0:=hT.v0.1;have NT:=WA (p:=⟨#[106]⟩) hT hc;have i92:=RX
    have hstep:pJ s.data.toList (heads.drop 0)=if b=true/\t=true then (68+c,true) else pJ s.data.toList (heads.drop 1):=by
     show pJ s.data.toList (([106],68)::heads.drop 1)=_;rw[pJ,hc',hd]
    cases b with
    |
     false =>
     gi_wp2_with (refine ⟨trivial,?_⟩;gi_at_call 88;refine NT.mono ?_;rintro e W2 ⟨rfl,E7⟩)
     go_roundw
     case rel=>exact ⟨1,.inr (.inl ⟨rfl,rfl⟩),E7,by rw[htr,hstep];simp⟩
     case measure=>simp[RowKit.intOf]
    |
     true =>
     cases t with
     |
      false =>
      gi_wp2_with first|(refine ⟨trivial,?_⟩;gi_at_call 88;refine NT.mono ?_;rintro e W2 ⟨rfl,E7⟩)|(refine ⟨trivial,?_⟩;gi_at_call 89;refine (KR hd E7).mono ?_;rintro e W3 ⟨rfl,lZ⟩)
      go_roundw
      case rel=>exact ⟨1,.inr (.inl ⟨rfl,rfl⟩),lZ,by rw[htr,hstep];simp⟩
      case measure=>simp[RowKit.intOf]
     |
      true =>
      gi_wp2_with first|(refine ⟨trivial,?_⟩;gi_at_call 88;refine NT.mono ?_;rintro e W2 ⟨rfl,E7⟩)|(refine ⟨trivial,?_⟩;gi_at_call 89;refine (KR hd E7).mono ?_;rintro e W3 ⟨rfl,lZ⟩;have b0:=lZ.a0;have b1:=lZ.a1;have b2:=lZ.a2;have b3:=lZ.v1.1;have b4:=lZ.v1.2;have b5:=lZ.v2.1;have b6:=lZ.v2.2)
      have hh:=lZ.hA
      have Mr:((W3.setCell ⟨w.heap.size+1,0,none⟩ (.int .i64 (68+c))).setCell ⟨w.heap.size+1+1,0,none⟩ (.bool true)).heap[w.heap.size+7]? = some (.deferred (some [])) :=
       ((aP _ _ _ _ (by omega)).trans (aP _ _ _ _ (by omega))).trans lZ.df
      have g1:=(lZ.v1.set (.int .i64 (68+c))).other (c:=w.heap.size+1+1) (by omega) (.bool true)
      have g2:=(lZ.v2.other (c:=w.heap.size+1) (by omega) (.int .i64 (68+c))).set (.bool true)
      refine ⟨by simp,.inl ⟨_,_,rfl,run_takeDeferred Mr,?_⟩⟩
      refine ⟨_,jV (by rfl) (run_isAgg_plain Tryz.underlying3 rfl) (run_isAgg_plain Tryz.underlying4 rfl) (a:=⟨w.heap.size+1,0,none⟩) (b:=⟨w.heap.size+1+1,0,none⟩) (by rfl) (by rfl) (g1.heap (World.putObj_heap_other (by omega))).1 (g2.heap (World.putObj_heap_other (by omega))).1,?_,?_⟩
      .
       rw[hps,htr,hstep];rfl
      exact (Lo.putObj (m:=w.heap.size+7) (Bs:=w.heap.size) _ (.deferred none) (Nat.le_refl _)).below ((lZ.below.setCell (p:=⟨w.heap.size+1,0,none⟩) (by simp) _).setCell (p:=⟨w.heap.size+1+1,0,none⟩) (by simp;omega) _) (by omega) (Nat.le_refl _)
   .
    obtain ⟨r,b,hc⟩:∃r b,pI s.data.toList (⟨#[115,101,116]⟩:ByteArray).data.toList=(r,b):=⟨_,_,rfl⟩;have hc':pI s.data.toList [115,101,116]=(r,b):=hc;obtain ⟨c,t,hd⟩:∃c t,m9 r=(c,t):=⟨_,_,rfl⟩;have NN:=vo r;rw[hd] at NN;have q0:=hT.v0.1;have NT:=WA (p:=⟨#[115,101,116]⟩) hT hc;have i92:=RY
    have hstep:pJ s.data.toList (heads.drop 1)=if b=true/\t=true then (84+c,true) else pJ s.data.toList (heads.drop 2):=by
     show pJ s.data.toList (([115,101,116],84)::heads.drop 2)=_;rw[pJ,hc',hd]
    cases b with
    |
     false =>
     gi_wp2_with (refine ⟨trivial,?_⟩;gi_at_call 88;refine NT.mono ?_;rintro e W2 ⟨rfl,E7⟩)
     go_roundw
     case rel=>exact ⟨2,.inr (.inr (.inl ⟨rfl,rfl⟩)),E7,by rw[htr,hstep];simp⟩
     case measure=>simp[RowKit.intOf]
    |
     true =>
     cases t with
     |
      false =>
      gi_wp2_with first|(refine ⟨trivial,?_⟩;gi_at_call 88;refine NT.mono ?_;rintro e W2 ⟨rfl,E7⟩)|(refine ⟨trivial,?_⟩;gi_at_call 89;refine (KR hd E7).mono ?_;rintro e W3 ⟨rfl,lZ⟩)
      go_roundw
      case rel=>exact ⟨2,.inr (.inr (.inl ⟨rfl,rfl⟩)),lZ,by rw[htr,hstep];simp⟩
      case measure=>simp[RowKit.intOf]
     |
      true =>
      gi_wp2_with first|(refine ⟨trivial,?_⟩;gi_at_call 88;refine NT.mono ?_;rintro e W2 ⟨rfl,E7⟩)|(refine ⟨trivial,?_⟩;gi_at_call 89;refine (KR hd E7).mono ?_;rintro e W3 ⟨rfl,lZ⟩;have b0:=lZ.a0;have b1:=lZ.a1;have b2:=lZ.a2;have b3:=lZ.v1.1;have b4:=lZ.v1.2;have b5:=lZ.v2.1;have b6:=lZ.v2.2)
      have hh:=lZ.hA
      have Mr:((W3.setCell ⟨w.heap.size+1,0,none⟩ (.int .i64 (84+c))).setCell ⟨w.heap.size+1+1,0,none⟩ (.bool true)).heap[w.heap.size+7]? = some (.deferred (some [])) :=
       ((aP _ _ _ _ (by omega)).trans (aP _ _ _ _ (by omega))).trans lZ.df
      have g1:=(lZ.v1.set (.int .i64 (84+c))).other (c:=w.heap.size+1+1) (by omega) (.bool true)
      have g2:=(lZ.v2.other (c:=w.heap.size+1) (by omega) (.int .i64 (84+c))).set (.bool true)
      refine ⟨by simp,.inl ⟨_,_,rfl,run_takeDeferred Mr,?_⟩⟩
      refine ⟨_,jV (by rfl) (run_isAgg_plain Tryz.underlying3 rfl) (run_isAgg_plain Tryz.underlying4 rfl) (a:=⟨w.heap.size+1,0,none⟩) (b:=⟨w.heap.size+1+1,0,none⟩) (by rfl) (by rfl) (g1.heap (World.putObj_heap_other (by omega))).1 (g2.heap (World.putObj_heap_other (by omega))).1,?_,?_⟩
      .
       rw[hps,htr,hstep];rfl
      exact (Lo.putObj (m:=w.heap.size+7) (Bs:=w.heap.size) _ (.deferred none) (Nat.le_refl _)).below ((lZ.below.setCell (p:=⟨w.heap.size+1,0,none⟩) (by simp) _).setCell (p:=⟨w.heap.size+1+1,0,none⟩) (by simp;omega) _) (by omega) (Nat.le_refl _)
   .
    obtain ⟨r,b,hc⟩:∃r b,pI s.data.toList (⟨#[99,109,111,118]⟩:ByteArray).data.toList=(r,b):=⟨_,_,rfl⟩;have hc':pI s.data.toList [99,109,111,118]=(r,b):=hc;obtain ⟨c,t,hd⟩:∃c t,m9 r=(c,t):=⟨_,_,rfl⟩;have NN:=vo r;rw[hd] at NN;have q0:=hT.v0.1;have NT:=WA (p:=⟨#[99,109,111,118]⟩) hT hc;have i92:=RZ
    have hstep:pJ s.data.toList (heads.drop 2)=if b=true/\t=true then (100+c,true) else pJ s.data.toList (heads.drop 3):=by
     show pJ s.data.toList (([99,109,111,118],100)::heads.drop 3)=_;rw[pJ,hc',hd]
    cases b with
    |
     false =>
     gi_wp2_with (refine ⟨trivial,?_⟩;gi_at_call 88;refine NT.mono ?_;rintro e W2 ⟨rfl,E7⟩)
     go_roundw
     case rel=>exact ⟨3,.inr (.inr (.inr ⟨rfl,rfl⟩)),E7,by rw[htr,hstep];simp⟩
     case measure=>simp[RowKit.intOf]
    |
     true =>
     cases t with
     |
      false =>
      gi_wp2_with first|(refine ⟨trivial,?_⟩;gi_at_call 88;refine NT.mono ?_;rintro e W2 ⟨rfl,E7⟩)|(refine ⟨trivial,?_⟩;gi_at_call 89;refine (KR hd E7).mono ?_;rintro e W3 ⟨rfl,lZ⟩)
      go_roundw
      case rel=>exact ⟨3,.inr (.inr (.inr ⟨rfl,rfl⟩)),lZ,by rw[htr,hstep];simp⟩
      case measure=>simp[RowKit.intOf]
     |
      true =>
      gi_wp2_with first|(refine ⟨trivial,?_⟩;gi_at_call 88;refine NT.mono ?_;rintro e W2 ⟨rfl,E7⟩)|(refine ⟨trivial,?_⟩;gi_at_call 89;refine (KR hd E7).mono ?_;rintro e W3 ⟨rfl,lZ⟩;have b0:=lZ.a0;have b1:=lZ.a1;have b2:=lZ.a2;have b3:=lZ.v1.1;have b4:=lZ.v1.2;have b5:=lZ.v2.1;have b6:=lZ.v2.2)
      have hh:=lZ.hA
      have Mr:((W3.setCell ⟨w.heap.size+1,0,none⟩ (.int .i64 (100+c))).setCell ⟨w.heap.size+1+1,0,none⟩ (.bool true)).heap[w.heap.size+7]? = some (.deferred (some [])) :=
       ((aP _ _ _ _ (by omega)).trans (aP _ _ _ _ (by omega))).trans lZ.df
      have g1:=(lZ.v1.set (.int .i64 (100+c))).other (c:=w.heap.size+1+1) (by omega) (.bool true)
      have g2:=(lZ.v2.other (c:=w.heap.size+1) (by omega) (.int .i64 (100+c))).set (.bool true)
      refine ⟨by simp,.inl ⟨_,_,rfl,run_takeDeferred Mr,?_⟩⟩
      refine ⟨_,jV (by rfl) (run_isAgg_plain Tryz.underlying3 rfl) (run_isAgg_plain Tryz.underlying4 rfl) (a:=⟨w.heap.size+1,0,none⟩) (b:=⟨w.heap.size+1+1,0,none⟩) (by rfl) (by rfl) (g1.heap (World.putObj_heap_other (by omega))).1 (g2.heap (World.putObj_heap_other (by omega))).1,?_,?_⟩
      .
       rw[hps,htr,hstep];rfl
      exact (Lo.putObj (m:=w.heap.size+7) (Bs:=w.heap.size) _ (.deferred none) (Nat.le_refl _)).below ((lZ.below.setCell (p:=⟨w.heap.size+1,0,none⟩) (by simp) _).setCell (p:=⟨w.heap.size+1+1,0,none⟩) (by simp;omega) _) (by omega) (Nat.le_refl _)
   have b3:=hT.v1.1;have b4:=hT.v1.2;have b5:=hT.v2.1;have b6:=hT.v2.2
   gi_wp2
   have hh:=hT.hA
   have Mr:((wr.setCell ⟨w.heap.size+1,0,none⟩ (.int .i64 0)).setCell ⟨w.heap.size+1+1,0,none⟩ (.bool false)).heap[w.heap.size+7]? = some (.deferred (some [])) :=
    ((aP _ _ _ _ (by omega)).trans (aP _ _ _ _ (by omega))).trans hT.df
   have g1:=(hT.v1.set (.int .i64 0)).other (c:=w.heap.size+1+1) (by omega) (.bool false)
   have g2:=(hT.v2.other (c:=w.heap.size+1) (by omega) (.int .i64 0)).set (.bool false)
   refine ⟨by simp,.inl ⟨_,_,rfl,run_takeDeferred Mr,?_⟩⟩
   refine ⟨_,jV (by rfl) (run_isAgg_plain Tryz.underlying3 rfl) (run_isAgg_plain Tryz.underlying4 rfl) (a:=⟨w.heap.size+1,0,none⟩) (b:=⟨w.heap.size+1+1,0,none⟩) (by rfl) (by rfl) (g1.heap (World.putObj_heap_other (by omega))).1 (g2.heap (World.putObj_heap_other (by omega))).1,?_,?_⟩
   .
    rw[hps,htr];rfl
   exact (Lo.putObj (m:=w.heap.size+7) (Bs:=w.heap.size) _ (.deferred none) (Nat.le_refl _)).below ((hT.below.setCell (p:=⟨w.heap.size+1,0,none⟩) (by simp) _).setCell (p:=⟨w.heap.size+1+1,0,none⟩) (by simp;omega) _) (by omega) (Nat.le_refl _)
 case stop =>
  rintro pre W hpre ⟨hB,v1,v2,l,he,hno⟩ hK
  gi_wp2
  refine ⟨by simp,.inl ⟨_,_,rfl,run_takeDeferred hK,?_⟩⟩
  refine ⟨_,jV (by rfl) (run_isAgg_plain Tryz.underlying3 rfl) (run_isAgg_plain Tryz.underlying4 rfl) (a:=⟨w.heap.size+1,0,none⟩) (b:=⟨w.heap.size+1+1,0,none⟩) (by rfl) (by rfl) (v1.heap (World.putObj_heap_other (by omega))).1 (v2.heap (World.putObj_heap_other (by omega))).1,?_,?_⟩
  .
   obtain ⟨t,ht⟩:=hpre
   have hn:QO=l.map (λx=>x.data.toList)++s.data.toList::t.map (λx=>x.data.toList):=by
    have h1:=congrArg (List.map (λx:ByteArray=>x.data.toList)) ht
    rw[List.map_map,he] at h1;have h2:((λx:ByteArray=>x.data.toList)∘xk)=id:=funext λ_=>rfl
    rw[h2,List.map_id] at h1;rw[<-h1];simp
   have hl:s.data.toList ∉ l.map (λx=>x.data.toList):=λhm=>by
    obtain ⟨x,hx,hxe⟩:=List.mem_map.1 hm;exact hno (by rw[<-mk_data s,<-hxe,mk_data];exact hx)
   have hps:dz s.data.toList=((pre.length:Int),true):=by
    unfold dz;rw[hn,E6 hl,he];simp;omega
   rw[hps]
  exact (Lo.putObj (m:=w.heap.size+7) (Bs:=w.heap.size) W (.deferred none) (Nat.le_refl _)).below hB (by omega) (Nat.le_refl _)
end Go.Proofs.YtpaddkkfefgkfaaGreatDoor.nm

namespace Go.Proofs.YtpaddkkfefgkfaaGreatDoor.nm
open Go.RowKit
noncomputable section
def bL (op:Int):List UInt8:=Ev.pick2 (!Ev.ltI op 1 && !Ev.ltI 322 op) (QO.getD (op.toNat-1) []) []
theorem NU (op:Int):bL op=if 1<=op/\op<=322 then QO.getD (op.toNat-1) [] else []:=by
 unfold bL
 rw[Ev.pick2_eq,Ev.ltI_spec,Ev.ltI_spec]
 by_cases h:1<=op/\op<=322
 .
  rw[if_pos h,if_pos (by simp;omega)]
 rw[if_neg h,if_neg (by simp;omega)]
theorem R2 (op:Int) (w:World):Calls Tryz.prog 13 #[.int .i64 op] w λe w'=>e = .returned (.string (xk (bL op)))/\Below w.heap.size w w':=by
 rw[NU]
 by_cases h:1<=op/\op<=322
 .
  rw[if_pos h];exact NH op h w
 rw[if_neg h];exact RR op h w
def R3 (f:FuncId) (args:List Value):Option Value :=
 Ev.pick2 (Nat.beq f 13) (match args with | [.int .i64 op]=>some (.string (xk (bL op)))|_=>none)
  (Ev.pick2 (Nat.beq f 51) (match args with | [.string s]=>some (.tuple #[.int .i64 (dz s.data.toList).1,.bool (dz s.data.toList).2])|_=>none) none)
theorem E8 (f:FuncId):R3 f Ev.iK=none:=by
 unfold R3
 rw[Ev.pick2_eq,Ev.pick2_eq]
 split
 .
  rfl
 split<;>rfl
theorem E9 (f:FuncId) (s:ByteArray):R3 f [Ev.fe,.string s]=none:=by
 unfold R3
 rw[Ev.pick2_eq,Ev.pick2_eq]
 split
 .
  rfl
 split<;>rfl
theorem WB:Ev.qq Tryz.prog R3:=by
 refine Ev.qq.of E8 (λf s=>E9 _ s) ?_
 intro f args v h w
 unfold R3 at h
 rw[Ev.pick2_eq] at h
 split at h
 .
  rename_i hf;obtain rfl:=Nat.eq_of_beq_eq_true hf;split at h
  .
   cases h;exact R2 _ w
  cases h
 rw[Ev.pick2_eq] at h
 split at h
 .
  rename_i hf;obtain rfl:=Nat.eq_of_beq_eq_true hf;split at h
  .
   cases h;exact NM _ w
  cases h
 cases h
end
end Go.Proofs.YtpaddkkfefgkfaaGreatDoor.nm

namespace Go.Proofs.YtpaddkkfefgkfaaGreatDoor.rg
open Go.Tv Go.Ev
noncomputable section
def space:List Value:=(List.range 256).map λi=>.int .u8 (pick2 (Nat.beq i 32||(Nat.ble 9 i&&Nat.ble i 13)) 1 0)
def gv (g:Nat):List AV:=pick2 (Nat.beq g 1) (space.map DF) []
def X0:cY:={ P:=Tryz.prog,G:=1+1,gv:=gv }
def bK:bG:=⟨.none,.none,[]⟩
def inl:FuncId->Bool:=λ_=>true
def K0:RM:=λ_=>none
def c0 (β:Type):aU β:=jU X0 K0 inl 200 β 20
theorem tM (β:Type):aV X0 (bu X0 jx) (c0 β):=fy (by intro id s g h;cases h) (λ_ _ _=>rfl) 200 20 β
theorem nk (f:FuncId) (args:List Value):jx f args=none:=rfl
def run (f:FuncId) (args:List AV):Option (AV×aa):=ag X0 (c0 (AV×aa)) bK 200 f args aa.empty (λv H=>some (v,H))
def b (s:List Nat):List UInt8:=s.map UInt8.ofNat
def n1:List (List UInt8):=[[97,108],[99,108],[100,108],[98,108],[115,112,108],[98,112,108],[115,105,108],[100,105,108],[114,56,98],[114,57,98],[114,49,48,98],[114,49,49,98],[114,49,50,98],[114,49,51,98],[114,49,52,98],[114,49,53,98]]
def n2:List (List UInt8):=[[97,104],[99,104],[100,104],[98,104]]
def n3:List (List UInt8):=[[97,120],[99,120],[100,120],[98,120],[115,112],[98,112],[115,105],[100,105],[114,56,119],[114,57,119],[114,49,48,119],[114,49,49,119],[114,49,50,119],[114,49,51,119],[114,49,52,119],[114,49,53,119]]
def n4:List (List UInt8):=[[101,97,120],[101,99,120],[101,100,120],[101,98,120],[101,115,112],[101,98,112],[101,115,105],[101,100,105],[114,56,100],[114,57,100],[114,49,48,100],[114,49,49,100],[114,49,50,100],[114,49,51,100],[114,49,52,100],[114,49,53,100]]
def n5:List (List UInt8):=[[114,97,120],[114,99,120],[114,100,120],[114,98,120],[114,115,112],[114,98,112],[114,115,105],[114,100,105],[114,56],[114,57],[114,49,48],[114,49,49],[114,49,50],[114,49,51],[114,49,52],[114,49,53]]
def n6:List (List UInt8):=[[120,109,109,48],[120,109,109,49],[120,109,109,50],[120,109,109,51],[120,109,109,52],[120,109,109,53],[120,109,109,54],[120,109,109,55],[120,109,109,56],[120,109,109,57],[120,109,109,49,48],[120,109,109,49,49],[120,109,109,49,50],[120,109,109,49,51],[120,109,109,49,52],[120,109,109,49,53]]
def n7:List (List UInt8):=[[121,109,109,48],[121,109,109,49],[121,109,109,50],[121,109,109,51],[121,109,109,52],[121,109,109,53],[121,109,109,54],[121,109,109,55],[121,109,109,56],[121,109,109,57],[121,109,109,49,48],[121,109,109,49,49],[121,109,109,49,50],[121,109,109,49,51],[121,109,109,49,52],[121,109,109,49,53]]
def n8:List (List UInt8):=[[114,105,112]]
def yM (c:Int):List (List UInt8):=pick2 (eqI c 1) n1 (pick2 (eqI c 2) n2 (pick2 (eqI c 3) n3 (pick2 (eqI c 4) n4 (pick2 (eqI c 5) n5 (pick2 (eqI c 6) n6 (pick2 (eqI c 7) n7 (pick2 (eqI c 8) n8 [])))))))
def pK (c:Int):List aZ:=[.room 9 .str (yM c) (yM c).length]
def cB (c:Int):Bool:=leaves (pK c) (run 47 [.int .i64 c])
theorem G7:cB 1=true:=by kernel_rfl
theorem G8:cB 2=true:=by kernel_rfl
theorem G9:cB 3=true:=by kernel_rfl
theorem He:cB 4=true:=by kernel_rfl
theorem Hg:cB 5=true:=by kernel_rfl
theorem Hh:cB 6=true:=by kernel_rfl
theorem Hi:cB 7=true:=by kernel_rfl
theorem Hl:cB 8=true:=by kernel_rfl
def se (args:List AV):Option (Bool×List aZ) :=
 match args with
 |[.int .i64 c]=>some (!ltI c 1 && !ltI 8 c,pK c)
 |_=>none
theorem in8 {c:Int} (h:(!ltI c 1 && !ltI 8 c)=true):c=1\/c=2\/c=3\/c=4\/c=5\/c=6\/c=7\/c=8:=by
 simp only[ltI_spec,Bool.and_eq_true,Bool.not_eq_true',decide_eq_false_iff_not] at h
 omega
theorem aaz:aI X0 (bu X0 jx) 47 se :=
 yI (nk 47) tM bK 200 λargs rs hg=>by
  unfold se at hg;split at hg
  .
   rename_i c;simp only[Option.some.injEq,Prod.mk.injEq] at hg;obtain ⟨h1,rfl⟩:=hg
   have h:cB c=true:=by
    rcases in8 h1 with rfl|rfl|rfl|rfl|rfl|rfl|rfl|rfl
    .
     exact G7
    .
     exact G8
    .
     exact G9
    .
     exact He
    .
     exact Hg
    .
     exact Hh
    .
     exact Hi
    exact Hl
   unfold cB run at h;exact h
  cases hg
def aaA (a:UInt8):Int:=pick2 (!ltI (aD a) 65) (pick2 (!ltI 90 (aD a)) (IntKind.wrap .u8 (aD a+32)) (aD a)) (aD a)
def qZ:List UInt8->List UInt8->Bool
 |[],[]=>true
 |a::s,x::t=>pick2 (eqI (aaA a) (aD x)) (qZ s t) false
 |_,_=>false
def KS {β:Type} (k:AV->Option β):List (UInt8×UInt8)->Option β
 |[]=>k (.bool true)
 |(a,x)::l=>pick2 (!ltI (aD a) 65) (pick2 (!ltI 90 (aD a)) (pick2 (!eqI (IntKind.wrap .u8 (aD a+32)) (aD x)) (k (.bool false)) (KS k l)) (pick2 (!eqI (aD a) (aD x)) (k (.bool false)) (KS k l)))
  (pick2 (!eqI (aD a) (aD x)) (k (.bool false)) (KS k l))
def Ai (s t:List UInt8) (rounds:Nat) (k:AV->Option AV):Option AV:=ag X0 (c0 AV) bK rounds 87 [.str s,.str t] aa.empty (λv _=>k v)
theorem NV (s t:List UInt8) (k:AV->Option AV):Ai s t 0 k=pick2 (!eqI ↑s.length ↑t.length) (k (.bool false)) none:=by kernel_rfl
theorem aaB (k:AV->Option AV):Ai [] [] 9 k=KS k []:=by kernel_rfl
theorem aaC (a0 x0:UInt8) (k:AV->Option AV):Ai [a0] [x0] 9 k=KS k [(a0,x0)]:=by kernel_rfl
theorem aaD (a0 a1 x0 x1:UInt8) (k:AV->Option AV):Ai [a0,a1] [x0,x1] 9 k=KS k [(a0,x0),(a1,x1)]:=by kernel_rfl
theorem aaE (a0 a1 a2 x0 x1 x2:UInt8) (k:AV->Option AV):Ai [a0,a1,a2] [x0,x1,x2] 9 k=KS k [(a0,x0),(a1,x1),(a2,x2)]:=by kernel_rfl
theorem aaF (a0 a1 a2 a3 x0 x1 x2 x3:UInt8) (k:AV->Option AV):Ai [a0,a1,a2,a3] [x0,x1,x2,x3] 9 k=KS k [(a0,x0),(a1,x1),(a2,x2),(a3,x3)]:=by kernel_rfl
theorem aaG (a0 a1 a2 a3 a4 x0 x1 x2 x3 x4:UInt8) (k:AV->Option AV):Ai [a0,a1,a2,a3,a4] [x0,x1,x2,x3,x4] 9 k=KS k [(a0,x0),(a1,x1),(a2,x2),(a3,x3),(a4,x4)]:=by kernel_rfl
theorem si {β:Type} (k:AV->Option β):∀l:List (UInt8×UInt8),KS k l=k (.bool (qZ (l.map (·.1)) (l.map (·.2))))
 |[]=>rfl
 |
  (a,x)::l=>by
  simp only[KS,List.map_cons,qZ,aaA,si k l];cases ltI (aD a) 65<;>cases ltI 90 (aD a)<;>simp only[Bool.not_true,Bool.not_false,aat,aau]
  .
   cases eqI (IntKind.wrap .u8 (aD a+32)) (aD x)<;>rfl
  all_goals (cases eqI (aD a) (aD x)<;>rfl)
theorem Bx:∀{s t:List UInt8},s.length≠t.length->qZ s t=false
 |[],[],h=>absurd rfl h
 |[],_::_,_=>rfl
 |_::_,[],_=>rfl
 |
  a::s,x::t,h=>by
  simp only[qZ,pick2_eq];split
  .
   exact Bx (by simpa using h)
  rfl
theorem xT (s t:List UInt8) (h:t.length<=5) (k:AV->Option AV):∃rounds,Ai s t rounds k=k (.bool (qZ s t)):=by
 by_cases hl:s.length=t.length
 .
  refine ⟨9,?_⟩
  match s,t,hl,h with
  |[],[],_,_=>exact (aaB k).trans (si k _)
  |[a0],[x0],_,_=>exact (aaC a0 x0 k).trans (si k _)
  |[a0,a1],[x0,x1],_,_=>exact (aaD a0 a1 x0 x1 k).trans (si k _)
  |[a0,a1,a2],[x0,x1,x2],_,_=>exact (aaE a0 a1 a2 x0 x1 x2 k).trans (si k _)
  |[a0,a1,a2,a3],[x0,x1,x2,x3],_,_=>exact (aaF a0 a1 a2 a3 x0 x1 x2 x3 k).trans (si k _)
  |[a0,a1,a2,a3,a4],[x0,x1,x2,x3,x4],_,_=>exact (aaG a0 a1 a2 a3 a4 x0 x1 x2 x3 x4 k).trans (si k _)
  |_::_::_::_::_::_::_,_,hl,h=>simp at hl;omega
 refine ⟨0,?_⟩
 rw[NV,Bx hl]
 have:eqI (↑s.length:Int) (↑t.length)=false:=by rw[eqI_spec];simpa using λh=>hl (by omega)
 rw[this]
 rfl
def NW (args:List AV):Option (Bool×List aZ) :=
 match args with
 |[.str s,.str t]=>some (Nat.ble t.length 5,[.val (.bool (qZ s t))])
 |_=>none
theorem aaH:aI X0 (bu X0 jx) 87 NW :=
 aG (nk 87) tM λargs rs hg=>by
  unfold NW at hg;split at hg
  .
   rename_i s t;simp only[Option.some.injEq,Prod.mk.injEq] at hg;obtain ⟨h1,rfl⟩:=hg;obtain ⟨r,hr⟩:=xT s t (Nat.le_of_ble_eq_true h1) some;exact ⟨[.bool (qZ s t)],bK,r,hr,rfl,rfl⟩
  cases hg
def K1:RM:=λf=>pick2 (Nat.beq f 47) (some ([none],se)) (pick2 (Nat.beq f 87) (some ([none,none],NW)) none)
def c1 (β:Type):aU β:=jU X0 K1 inl 200 β 20
theorem aaI (id:FuncId) (sig:List (Option Ty)) (g:List AV->Option (Bool×List aZ)) (h:K1 id=some (sig,g)):aI X0 (bu X0 jx) id g:=by
 simp only[K1,pick2_eq,Nat.beq_eq] at h
 split at h
 .
  rename_i hf;cases h;subst hf;exact aaz
 split at h
 .
  rename_i hf;cases h;subst hf;exact aaH
 cases h
theorem Jh (β:Type):aV X0 (bu X0 jx) (c1 β):=fy aaI (λ_ _ _=>rfl) 200 20 β
def num (c:Int):List (List UInt8)->Int->List (List UInt8×Int×Int)
 |[],_=>[]
 |s::l,i=>(s,c,i)::num c l (i+1)
def tbl:List (List UInt8×Int×Int):=num 1 n1 0++(num 2 n2 4++(num 3 n3 0++(num 4 n4 0++(num 5 n5 0++(num 6 n6 0++(num 7 n7 0++num 8 n8 0))))))
def trP {β:Type} (s:List UInt8) (k:Int->Int->Bool->Option β):List (List UInt8×Int×Int)->Option β
 |[]=>k 0 0 false
 |e::l=>pick2 (qZ s e.1) (k e.2.1 e.2.2 true) (trP s k l)
theorem Ho (s:List UInt8) (k:AV->Option AV):ag X0 (c1 AV) bK 20 50 [.str s] aa.empty (λv _=>k v)=trP s (λc n ok=>k (.bZ [.agg [.int .i64 c,.int .i64 n],.bool ok])) tbl:=by kernel_rfl
def Za (s:List UInt8):List (List UInt8×Int×Int)->Int×Int×Bool
 |[]=>(0,0,false)
 |e::l=>pick2 (qZ s e.1) (e.2.1,e.2.2,true) (Za s l)
def pR (s:List UInt8):Int×Int×Bool:=Za s tbl
theorem NY {β:Type} (s:List UInt8) (k:Int->Int->Bool->Option β):∀l,trP s k l=k (Za s l).1 (Za s l).2.1 (Za s l).2.2
 |[]=>rfl
 |
  e::l=>by
  simp only[trP,Za,NY s k l,pick2_eq];split<;>rfl
def aeW (args:List AV):Option (Bool×List aZ) :=
 match args with
 |[.str s]=>some (true,[.val (.agg [.int .i64 (pR s).1,.int .i64 (pR s).2.1]),.val (.bool (pR s).2.2)])
 |_=>none
theorem cz:Ev.cz Tryz.prog:=Ev.Et (by kernel_rfl)
theorem mixed:Tryz.prog.follows .mixedOrders=true:=by kernel_rfl
theorem cZ {w:World} {rows:List Blk} {b1:Blk} (hb:rows[1]? = some b1) (hl:b1.live=true) (hc:b1.cells=space) (hr:dm rows w):bP X0 (kz w):=by
 refine Bo hr λg hg he=>?_
 by_cases e:g=1
 .
  subst e;exact ⟨b1,hb,hl,by rw[hc];rfl,by rw[hc];kernel_rfl⟩
 exact absurd (by show pick2 (Nat.beq g 1) (space.map DF) []=[];rw[pick2_eq,if_neg (by rw[Nat.beq_eq];exact e)]) he
theorem R4 {S:Wo} {c n:Int} {b:Bool} {v:Value} (h:VR S (.bZ [.agg [.int .i64 c,.int .i64 n],.bool b]) v):v = .tuple #[.agg #[.int .i64 c,.int .i64 n],.bool b]:=by
 cases h with
 |
  bZ l m hl hv =>
  match m,hl with
  |
   [x,y],_ =>
   have h2:=(hv 1 _ y rfl rfl).fq;have h1:=hv 0 _ x rfl rfl;subst h2;cases h1 with
   |
    agg l2 m2 sR hv2 =>
    match m2,sR with
    |
     [p,q],_ =>
     have e1:=(hv2 0 _ p rfl rfl).bH;have e2:=(hv2 1 _ q rfl rfl).bH;subst e1;subst e2;rfl
theorem KU (s:ByteArray) {w:World} (hG:1+1<=w.heap.size) (hg:bP X0 (kz w)):Calls Tryz.prog 50 #[.string s] w λe w'=>e = .returned (.tuple #[.agg #[.int .i64 (pR s.data.toList).1,.int .i64 (pR s.data.toList).2.1],.bool (pR s.data.toList).2.2])/\RowKit.Below w.heap.size w w' :=
 GZ (X:=X0) cz mixed rH (v:=.bZ [.agg [.int .i64 (pR s.data.toList).1,.int .i64 (pR s.data.toList).2.1],.bool (pR s.data.toList).2.2]) (λS x hx=>R4 hx) rfl
  (λS E aB hr hg hl=>tI (nk 50) Jh ((Ho s.data.toList some).trans (NY s.data.toList _ tbl)) S E aB hr hg hl) hG hg (args':=[.string s]) (LV.cons (nm.C9 w s) LV.nil) rfl
def kR (f:FuncId) (args:List Value):Option Value :=
 pick2 (Nat.beq f 50) (match args with | [.string s]=>some (.tuple #[.agg #[.int .i64 (pR s.data.toList).1,.int .i64 (pR s.data.toList).2.1],.bool (pR s.data.toList).2.2])|_=>none) (nm.R3 f args)
theorem Uv {GR:List Blk} {b1:Blk} (hb:GR[1]? = some b1) (hl:b1.live=true) (hc:b1.cells=space):dL Tryz.prog GR kR:=by
 refine ⟨λf args v h hfree w hw=>?_,λf u h=>?_,λf s items h _=>?_⟩
 .
  unfold kR at h;rw[pick2_eq] at h;split at h
  .
   rename_i hf;obtain rfl:=Nat.eq_of_beq_eq_true hf;split at h
   .
    cases h;have:1<GR.length:=(List.getElem?_eq_some_iff.1 hb).1;exact KU _ (by have:=hw.1;omega) (cZ hb hl hc hw)
   cases h
  exact nm.WB.calls f args v h hfree w (dm.nil w)
 .
  unfold kR at h;rw[pick2_eq] at h;split at h
  .
   cases h
  rw[nm.E8] at h;cases h
 unfold kR at h
 rw[pick2_eq] at h
 split at h
 .
  cases h
 rw[nm.E9] at h;cases h
def eqV:Value->Value->Bool
 |.int k a,.int k' b=>decide (k=k')&&eqI a b
 |.string a,.string b=>gQ a.data.toList b.data.toList
 |_,_=>false
theorem eV:∀{a b:List UInt8},gQ a b=true->a=b
 |[],[],_=>rfl
 |[],_::_,h=>by cases h
 |_::_,[],h=>by cases h
 |
  x::a,y::b,h=>by
  unfold gQ at h;rw[pick2_eq] at h;split at h
  .
   rename_i hx;have hx:x=y:=UInt8.toNat_inj.1 (Nat.eq_of_beq_eq_true hx);rw[hx,eV h]
  cases h
theorem NZ {a b:Value} (h:eqV a b=true):a=b:=by
 unfold eqV at h
 split at h
 .
  simp only[Bool.and_eq_true,decide_eq_true_eq,eqI_spec,beq_iff_eq] at h;rw[h.1,h.2]
 .
  rename_i a b;have:=eV h
  congr 1
  exact ByteArray.ext (Array.ext' this)
 cases h
def KV:List Value->List Value->Bool
 |[],[]=>true
 |a::l,b::m=>pick2 (eqV a b) (KV l m) false
 |_,_=>false
theorem Bz:∀{a b:List Value},KV a b=true->a=b
 |[],[],_=>rfl
 |[],_::_,h=>by cases h
 |_::_,[],h=>by cases h
 |
  x::a,y::b,h=>by
  unfold KV at h;rw[pick2_eq] at h;split at h
  .
   rename_i hx;rw[NZ hx,Bz h]
  cases h
def vp (f:FuncId) (args:List Value):List (FuncId×List Value)->Bool
 |[]=>false
 |q::T=>pick2 (Nat.beq f q.1) (pick2 (KV args q.2) true (vp f args T)) (vp f args T)
theorem vq {f:FuncId} {args:List Value}:∀{T:List (FuncId×List Value)},vp f args T=true->(f,args)∈T
 |[],h=>by cases h
 |
  q::T,h=>by
  unfold vp at h;rw[pick2_eq,pick2_eq] at h;split at h
  .
   rename_i hf;split at h
   .
    rename_i ha;have e1:=Nat.eq_of_beq_eq_true hf;have e2:=Bz ha;obtain ⟨a,b⟩:=q;subst e1;subst e2;exact List.mem_cons_self ..
   exact List.mem_cons_of_mem _ (vq h)
  exact List.mem_cons_of_mem _ (vq h)
theorem BA (f:FuncId) (s:ByteArray):∀T:List (FuncId×List Value),vp f [fe,.string s] T=false
 |[]=>rfl
 |
  q::T=>by
  have:KV [fe,.string s] q.2=false:=by
   obtain ⟨g,l⟩:=q;cases l with
   |nil=>rfl
   |cons x l=>cases x<;>rfl
  unfold vp;rw[this,BA f s T];rw[pick2_eq,pick2_eq];split<;>rfl
theorem BB (f:FuncId):∀T:List (FuncId×List Value),vp f iK T=false
 |[]=>rfl
 |
  q::T=>by
  have:KV iK q.2=false:=by
   obtain ⟨g,l⟩:=q;cases l with
   |nil=>rfl
   |cons x l=>cases x<;>rfl
  unfold vp;rw[this,BB f T];rw[pick2_eq,pick2_eq];split<;>rfl
def kT (T:List (FuncId×List Value)) (K:bO):bO:=λf args=>pick2 (vp f args T) (some (.bool true)) (K f args)
theorem Uw {P:Program} {GR:List Blk} {K:bO} {T:List (FuncId×List Value)} (hK:dL P GR K) (h:∀q∈T,∀w,dm GR w->Calls P q.1 q.2.toArray w λe w'=>e = .returned (.bool true)/\RowKit.Below w.heap.size w w'):dL P GR (kT T K):=by
 refine ⟨λf args v hk hfree w hw=>?_,λf u hk=>?_,λf s items hk hfr=>?_⟩
 .
  unfold kT at hk;rw[pick2_eq] at hk;split at hk
  .
   rename_i he;cases hk;exact h (f,args) (vq he) w hw
  exact hK.calls f args v hk hfree w hw
 .
  unfold kT at hk;rw[BB] at hk;exact hK.Un f u hk
 unfold kT at hk
 rw[BA] at hk
 exact hK.Uo f s items hk hfr
end
end Go.Proofs.YtpaddkkfefgkfaaGreatDoor.rg

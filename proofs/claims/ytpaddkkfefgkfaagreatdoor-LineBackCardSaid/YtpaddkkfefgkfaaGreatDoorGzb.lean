/- name.Parse: the contract. What is known of name.Name and name.Parse, for the evaluator. Registers: the names of a class. -/
import Derived.Test.YtpaddkkfefgkfaaGreatDoorGza
import Derived.Test.YtpaddkkfefgkfaaGreatDoorLyg
import Derived.Test.YtpaddkkfefgkfaaGreatDoorRows
set_option linter.unusedVariables false
set_option linter.unusedSimpArgs false

namespace Go.Proofs.YtpaddkkfefgkfaaGreatDoor.nm
open Go.RowKit Go.Shelf Go.Lib
attribute [local go_sem] Oper.semAt_some
structure PI (w:World) (s:ByteArray) (pre:List ByteArray) (W:World):Prop where
 below:Below w.heap.size w W
 v0:Var W w.heap.size (.string s)
 v1:Var W (w.heap.size+1) (.int .i64 0)
 v2:Var W (w.heap.size+1+1) (.bool false)
 v3:Var W (w.heap.size+1+1+1) (.int .i64 (pre.length:Int))
 no:s ∉ pre
structure PX (w:World) (s:ByteArray) (pre:List ByteArray) (W:World):Prop where
 below:Below w.heap.size w W
 v1:Var W (w.heap.size+1) (.int .i64 (pre.length:Int))
 v2:Var W (w.heap.size+1+1) (.bool true)
 is:∃l,pre=l++[s]/\s ∉ l
structure TF (w:World) (s:ByteArray) (A:Nat) (W:World):Prop where
 below:Below w.heap.size w W
 v0:Var W w.heap.size (.string s)
 v1:Var W (w.heap.size+1) (.int .i64 0)
 v2:Var W (w.heap.size+1+1) (.bool false)
 df:W.heap[w.heap.size+7]? = some (.deferred (some []))
 hA:w.heap.size+7<A
 a0:W.cell? ⟨A,0,none⟩=some (.int .i64 68)
 a1:W.cell? ⟨A,1,none⟩=some (.int .i64 84)
 a2:W.cell? ⟨A,2,none⟩=some (.int .i64 100)
theorem TF.grow {w:World} {s:ByteArray} {A:Nat} {W W':World} (h:TF w s A W) (hb:Below W.heap.size W W'):TF w s A W':=by
 have hlt:∀{b:Nat} {v:Value} {o:Nat},W.cell? ⟨b,o,none⟩=some v->b<W.heap.size:=λhc=>World.block_lt_of_cell? _ _ hc
 have hd:w.heap.size+7<W.heap.size:=(Array.getElem?_eq_some_iff.1 h.df).1
 exact ⟨h.below.trans (hb.mono h.below.size),h.v0.heap (hb.block _ (hlt h.v0.1)),h.v1.heap (hb.block _ (hlt h.v1.1)),h.v2.heap (hb.block _ (hlt h.v2.1)),(hb.block _ hd).trans h.df,h.hA,
  (fI (hb.block _ (hlt h.a0))).trans h.a0,(fI (hb.block _ (hlt h.a1))).trans h.a1,(fI (hb.block _ (hlt h.a2))).trans h.a2⟩
theorem Yf {w:World} {s p:ByteArray} {A:Nat} {W:World} (h:TF w s A W) {r:List UInt8} {b:Bool} (e:qj s.data.toList p.data.toList=(r,b)) :
 CallsIn Fence.wide 9 Tryz.prog 88 #[.string s,.string p] W λe W'=>e = .returned (.tuple #[.string (x6 r),.bool b])/\TF w s A W':=by
 refine (callsIn_wide (n:=9) |>.2 (TL s p W)).mono ?_
 rw[e]
 rintro e W' ⟨rfl,hb⟩
 exact ⟨rfl,h.grow hb⟩
theorem Mf {w:World} {s:ByteArray} {A:Nat} {r:List UInt8} {c:Int} {b:Bool} (e:nZ r=(c,b)) {W:World} (h:TF w s A W) :
 CallsIn Fence.wide 9 Tryz.prog 89 #[.string (x6 r)] W λe W'=>e = .returned (.tuple #[.int .i64 c,.bool b])/\TF w s A W':=by
 refine (callsIn_wide (n:=9) |>.2 (TK (x6 r) W)).mono ?_
 have e':nZ (x6 r).data.toList=(c,b):=e
 rw[e']
 rintro e W' ⟨rfl,hb⟩
 exact ⟨rfl,h.grow hb⟩
theorem TM (w:World):(Instr.index 152 (.agg #[.string ⟨#[106]⟩,.string ⟨#[115,101,116]⟩,.string ⟨#[99,109,111,118]⟩]) (.int .i64 0)).run Tryz.prog w = .ok (.string ⟨#[106]⟩) w:=by kernel_rfl
theorem TN (w:World):(Instr.index 152 (.agg #[.string ⟨#[106]⟩,.string ⟨#[115,101,116]⟩,.string ⟨#[99,109,111,118]⟩]) (.int .i64 1)).run Tryz.prog w = .ok (.string ⟨#[115,101,116]⟩) w:=by kernel_rfl
theorem TP (w:World):(Instr.index 152 (.agg #[.string ⟨#[106]⟩,.string ⟨#[115,101,116]⟩,.string ⟨#[99,109,111,118]⟩]) (.int .i64 2)).run Tryz.prog w = .ok (.string ⟨#[99,109,111,118]⟩) w:=by kernel_rfl
noncomputable def qk (s:List UInt8):List (List UInt8×Int)->Int×Bool
 |[]=>(0,false)
 |q::l=>if (qj s q.1).2=true/\(nZ (qj s q.1).1).2=true then (q.2+(nZ (qj s q.1).1).1,true) else qk s l
def heads:List (List UInt8×Int):=[([106],68),([115,101,116],84),([99,109,111,118],100)]
def zA (s:List UInt8):List (List UInt8)->Int->Option Int
 |[],_=>none
 |p::l,k=>if p=s then some k else zA s l (k+1)
noncomputable def eH (s:List UInt8):Int×Bool :=
 match zA s Nr 1 with
 |some k=>(k,true)
 |none=>qk s heads
theorem F2 {s:List UInt8}:∀{l:List (List UInt8)} {k:Int},s ∉ l->zA s l k=none
 |[],_,_=>rfl
 |
  p::l,k,h=>by
  rw[zA,if_neg (λe=>h (by rw[e];exact List.mem_cons_self ..)),F2 (λhm=>h (List.mem_cons_of_mem _ hm))]
theorem F3 {s:List UInt8}:∀{l t:List (List UInt8)} {k:Int},s ∉ l->zA s (l++s::t) k=some (k+l.length)
 |[],t,k,_=>by rw[List.nil_append,zA,if_pos rfl];simp
 |
  p::l,t,k,h=>by
  rw[List.cons_append,zA,if_neg (λe=>h (by rw[e];exact List.mem_cons_self ..)),F3 (λhm=>h (List.mem_cons_of_mem _ hm))]
  simp only[List.length_cons];congr 1;omega
theorem Cc (s:List UInt8):∀l:List (List UInt8×Int),(∀q∈l,0<=q.2/\q.2<=15)->0<=(uh s l).1/\(uh s l).1<=15
 |[],_=>by simp[uh]
 |
  q::l,h=>by
  rw[uh];split
  .
   exact h q (List.mem_cons_self ..)
  exact Cc s l λx hx=>h x (List.mem_cons_of_mem _ hx)
theorem vM (s:List UInt8):0<=(nZ s).1/\(nZ s).1<=15:=Cc s _ (by decide)
theorem mk_data (s:ByteArray):x6 s.data.toList=s:=by obtain ⟨d⟩:=s;simp
theorem mem_mk {s:ByteArray} {l:List (List UInt8)}:s∈l.map x6↔s.data.toList∈l:=by
 constructor
 .
  intro h;obtain ⟨x,hx,rfl⟩:=List.mem_map.1 h;exact hx
 intro h
 exact List.mem_map.2 ⟨_,h,mk_data s⟩
set_option maxRecDepth 100000 in
set_option maxHeartbeats 2000000 in
theorem Pv (s:ByteArray) (w:World)   : Calls Tryz.prog 51 #[.string s] w λe w'=>e = .returned (.tuple #[.int .i64 (eH s.data.toList).1,.bool (eH s.data.toList).2])/\Below w.heap.size w w':=by
 refine callsIn_wide (n:=10) |>.1 ?_
 refine callsIn_of_wp_marks Tryz.func51 rfl trivial ?_ rfl
 simp only[Tryz.ntmps51,List.size_toArray,List.length_cons,List.length_nil,Nat.reduceAdd,Nat.reduceSub,Array.replicate_succ,Array.replicate_zero,List.push_toArray,List.append_toArray,List.nil_append,List.cons_append]
 gi_wp2_with (refine ⟨trivial,?_⟩;gi_at_call 45;refine (callsIn_wide.2 (Kt _ (by kernel_rfl) _)).mono ?_;rintro e w' ⟨rfl,rfl⟩)
 have u0:=Var.new w (.string s) 9
 have u1:=Var.new (w.alloc (.cells #[.string s] 9)) (.int .i64 0) 3
 have u2:=Var.new ((w.alloc (.cells #[.string s] 9)).alloc (.cells #[.int .i64 0] 3)) (.bool false) 4
 have u3:=Var.new (((w.alloc (.cells #[.string s] 9)).alloc (.cells #[.int .i64 0] 3)).alloc (.cells #[.bool false] 4)) (.int .i64 0) 3
 have u4:=Var.new ((((w.alloc (.cells #[.string s] 9)).alloc (.cells #[.int .i64 0] 3)).alloc (.cells #[.bool false] 4)).alloc (.cells #[.int .i64 0] 3)) (.string cY) 9
 have u5:=Var.new (((((w.alloc (.cells #[.string s] 9)).alloc (.cells #[.int .i64 0] 3)).alloc (.cells #[.bool false] 4)).alloc (.cells #[.int .i64 0] 3)).alloc (.cells #[.string cY] 9)) (.string ⟨#[32]⟩) 9
 have u6:=Var.new ((((((w.alloc (.cells #[.string s] 9)).alloc (.cells #[.int .i64 0] 3)).alloc (.cells #[.bool false] 4)).alloc (.cells #[.int .i64 0] 3)).alloc (.cells #[.string cY] 9)).alloc (.cells #[.string ⟨#[32]⟩] 9)) (.int .i64 0) 3
 have hb:Below w.heap.size w (((((((w.alloc (.cells #[.string s] 9)).alloc (.cells #[.int .i64 0] 3)).alloc (.cells #[.bool false] 4)).alloc (.cells #[.int .i64 0] 3)).alloc (.cells #[.string cY] 9)).alloc (.cells #[.string ⟨#[32]⟩] 9)).alloc (.cells #[.int .i64 0] 3)) :=
  (((((((Below.refl _ w).alloc (Nat.le_refl _) _).alloc (by simp) _).alloc (by simp;omega) _).alloc (by simp;omega) _).alloc (by simp;omega) _).alloc (by simp;omega) _).alloc (by simp;omega) _
 simp only[World.size_alloc] at u1 u2 u3 u4 u5 u6
 have k0:=(((((u0.alloc (.cells #[.int .i64 0] 3)).alloc (.cells #[.bool false] 4)).alloc (.cells #[.int .i64 0] 3)).alloc (.cells #[.string cY] 9)).alloc (.cells #[.string ⟨#[32]⟩] 9)).alloc (.cells #[.int .i64 0] 3)
 have k1:=((((u1.alloc (.cells #[.bool false] 4)).alloc (.cells #[.int .i64 0] 3)).alloc (.cells #[.string cY] 9)).alloc (.cells #[.string ⟨#[32]⟩] 9)).alloc (.cells #[.int .i64 0] 3)
 have k2:=(((u2.alloc (.cells #[.int .i64 0] 3)).alloc (.cells #[.string cY] 9)).alloc (.cells #[.string ⟨#[32]⟩] 9)).alloc (.cells #[.int .i64 0] 3)
 have k3:=((u3.alloc (.cells #[.string cY] 9)).alloc (.cells #[.string ⟨#[32]⟩] 9)).alloc (.cells #[.int .i64 0] 3)
 have k4:=(u4.alloc (.cells #[.string ⟨#[32]⟩] 9)).alloc (.cells #[.int .i64 0] 3)
 have k5:=u5.alloc (.cells #[.int .i64 0] 3)
 have hsz:(((((((w.alloc (.cells #[.string s] 9)).alloc (.cells #[.int .i64 0] 3)).alloc (.cells #[.bool false] 4)).alloc (.cells #[.int .i64 0] 3)).alloc (.cells #[.string cY] 9)).alloc (.cells #[.string ⟨#[32]⟩] 9)).alloc (.cells #[.int .i64 0] 3)).heap.size=w.heap.size+7:=by simp
 refine B8 (m:=w.heap.size+7) (Bs:=w.heap.size+1+1+1+1) (Bp:=w.heap.size+1+1+1+1+1) (Bv:=w.heap.size+1+1+1+1+2) (by omega) hsz rfl (by omega) (by omega) (by omega) (by omega) (by omega) FY Ks k4.1 k4.2 k5.1 u6.1
  (PI w s) (PX w s)
  (λpre W W' hl hi=>⟨hl.below hi.below (by omega) (by omega),hl.var hi.v0 (by omega) (by omega),hl.var hi.v1 (by omega) (by omega),hl.var hi.v2 (by omega) (by omega),hl.var hi.v3 (by omega) (by omega),hi.no⟩)
  (λpre W W' hl hi=>⟨hl.below hi.below (by omega) (by omega),hl.var hi.v1 (by omega) (by omega),hl.var hi.v2 (by omega) (by omega),hi.is⟩)
  ⟨hb,k0,k1,k2,k3,by simp⟩
  (λx=>{ tmps := #[.string s,.pointer (some ⟨w.heap.size,0,none⟩),.pointer (some ⟨w.heap.size+1,0,none⟩),.pointer (some ⟨w.heap.size+1+1,0,none⟩),.pointer (some ⟨w.heap.size+1+1+1,0,none⟩),.string x,undef,undef,undef,undef,undef,undef,undef,
   .func (.func 126) #[] #[.pointer (some ⟨w.heap.size+1+1+1+1+1,0,none⟩),.pointer (some ⟨w.heap.size+1+1+1+1,0,none⟩),.pointer (some ⟨w.heap.size+1+1+1+1+2,0,none⟩)],.string x,
   undef,undef,undef,undef,undef,undef,undef,undef,undef,undef,undef,undef,undef,undef,undef,undef,undef,undef,undef,undef,undef,undef,undef,undef,undef,undef,undef,undef,undef,undef,undef,undef],defers:=[] }) ?assign ?body ?done ?stop
 case assign =>
  intro l x W K hK
  gi_wp2
  exact hK
 case body =>
  rintro l pre x W ⟨hB,v0,v1,v2,v3,hno⟩ hpx
  have hlen:pre.length<322:=by
   have:=hpx.length_le;rw[List.length_map,DN,List.length_append] at this;simp at this;omega
  have c0:=v0.1;have c1:=v1.1;have f1:=v1.2;have c2:=v2.1;have f2:=v2.2;have c3:=v3.1;have f3:=v3.2
  gi_wp2
  .
   rename_i hx
   have hxs:x=s:=by
    have:=eq_of_beq hx;rw[ByteArray.toList_eq,ByteArray.toList_eq] at this;rw[<-mk_data x,this,mk_data]
   refine ⟨λr hr=>((aR _ _ _ _ (by omega)).trans (aR _ _ _ _ (by omega))).trans (aR _ _ _ _ (by omega)),?_,?_,?_,pre,by rw[hxs],hno⟩
   .
    exact ((hB.setCell (p:=⟨w.heap.size+1+1+1,0,none⟩) (by simp;omega) _).setCell (p:=⟨w.heap.size+1,0,none⟩) (by simp) _).setCell (p:=⟨w.heap.size+1+1,0,none⟩) (by simp;omega) _
   .
    have:=(((v1.other (c:=w.heap.size+1+1+1) (by omega) (.int .i64 ((pre.length:Int)+1))).set (.int .i64 ((pre.length:Int)+1))).other (c:=w.heap.size+1+1) (by omega) (.bool true))
    simpa using this
   exact (((v2.other (c:=w.heap.size+1+1+1) (by omega) (.int .i64 ((pre.length:Int)+1))).other (c:=w.heap.size+1) (by omega) (.int .i64 ((pre.length:Int)+1))).set (.bool true))
  rename_i hx;have hxs:s≠x:=λe=>by subst e;simp at hx
  refine ⟨λr hr=>aR _ _ _ _ (by omega),?_,?_,?_,?_,?_,?_⟩
  .
   exact hB.setCell (p:=⟨w.heap.size+1+1+1,0,none⟩) (by simp;omega) _
  .
   exact v0.other (by omega) _
  .
   exact v1.other (by omega) _
  .
   exact v2.other (by omega) _
  .
   have:=v3.set (.int .i64 ((pre.length:Int)+1))
   simpa using this
  simp only[List.mem_append,List.mem_singleton,not_or];exact ⟨hno,hxs⟩
 case done =>
  rintro W ⟨hB,v0,v1,v2,v3,hno⟩ hK;have hno':s.data.toList ∉ Nr:=λhm=>hno (mem_mk.2 hm)
  have hps:eH s.data.toList=qk s.data.toList heads:=by unfold eH;rw[F2 hno']
  have c0:=v0.1;have c1:=v1.1;have f1:=v1.2;have c2:=v2.1;have f2:=v2.2;have hd:w.heap.size+7<W.heap.size:=(Array.getElem?_eq_some_iff.1 hK).1;have hrow:=World.alloc_heap_new W (.cells #[.int .i64 68,.int .i64 84,.int .i64 100] 128)
  have hT:TF w s W.heap.size (W.alloc (.cells #[.int .i64 68,.int .i64 84,.int .i64 100] 128)):=by
   refine ⟨hB.alloc hB.size _,v0.alloc _,v1.alloc _,v2.alloc _,(Below.heap_alloc _ _ _ hd).trans hK,hd,?_,?_,?_⟩
   all_goals (unfold World.cell?;simp only[hrow];rfl)
  obtain ⟨A,hAe⟩:∃A,W.heap.size=A:=⟨_,rfl⟩;rw[hAe] at hT
  gi_wp2
  gi_loopw [23] (λv wr=>∃k:Nat,((k=0/\v = .int .i64 0)\/(k=1/\v = .int .i64 1)\/(k=2/\v = .int .i64 2)\/(k=3/\v = .int .i64 3))/\TF w s A wr/\qk s.data.toList heads=qk s.data.toList (heads.drop k)) (λv _=>3-(RowKit.intOf v).toNat)
  case atStart=>exact ⟨0,.inl ⟨rfl,rfl⟩,hT,rfl⟩
  case round =>
   obtain ⟨k,hk,hT,htr⟩:=hrel;rcases hk with ⟨rfl,rfl⟩|⟨rfl,rfl⟩|⟨rfl,rfl⟩|⟨rfl,rfl⟩
   .
    obtain ⟨r,b,hc⟩:∃r b,qj s.data.toList (⟨#[106]⟩:ByteArray).data.toList=(r,b):=⟨_,_,rfl⟩;have hc':qj s.data.toList [106]=(r,b):=hc;obtain ⟨c,t,hd⟩:∃c t,nZ r=(c,t):=⟨_,_,rfl⟩;have Pw:=vM r;rw[hd] at Pw;have q0:=hT.v0.1;have Py:=Yf (p:=⟨#[106]⟩) hT hc;have i92:=TM
    have hstep:qk s.data.toList (heads.drop 0)=if b=true/\t=true then (68+c,true) else qk s.data.toList (heads.drop 1):=by
     show qk s.data.toList (([106],68)::heads.drop 1)=_;rw[qk,hc',hd]
    cases b with
    |
     false =>
     gi_wp2_with (refine ⟨trivial,?_⟩;gi_at_call 88;refine Py.mono ?_;rintro e W2 ⟨rfl,F5⟩)
     go_roundw
     case rel=>exact ⟨1,.inr (.inl ⟨rfl,rfl⟩),F5,by rw[htr,hstep];simp⟩
     case measure=>simp[RowKit.intOf]
    |
     true =>
     cases t with
     |
      false =>
      gi_wp2_with first|(refine ⟨trivial,?_⟩;gi_at_call 88;refine Py.mono ?_;rintro e W2 ⟨rfl,F5⟩)|(refine ⟨trivial,?_⟩;gi_at_call 89;refine (Mf hd F5).mono ?_;rintro e W3 ⟨rfl,mX⟩)
      go_roundw
      case rel=>exact ⟨1,.inr (.inl ⟨rfl,rfl⟩),mX,by rw[htr,hstep];simp⟩
      case measure=>simp[RowKit.intOf]
     |
      true =>
      gi_wp2_with first|(refine ⟨trivial,?_⟩;gi_at_call 88;refine Py.mono ?_;rintro e W2 ⟨rfl,F5⟩)|(refine ⟨trivial,?_⟩;gi_at_call 89;refine (Mf hd F5).mono ?_;rintro e W3 ⟨rfl,mX⟩;have b0:=mX.a0;have b1:=mX.a1;have b2:=mX.a2;have b3:=mX.v1.1;have b4:=mX.v1.2;have b5:=mX.v2.1;have b6:=mX.v2.2)
      have hh:=mX.hA
      have Om:((W3.setCell ⟨w.heap.size+1,0,none⟩ (.int .i64 (68+c))).setCell ⟨w.heap.size+1+1,0,none⟩ (.bool true)).heap[w.heap.size+7]? = some (.deferred (some [])) :=
       ((aR _ _ _ _ (by omega)).trans (aR _ _ _ _ (by omega))).trans mX.df
      have g1:=(mX.v1.set (.int .i64 (68+c))).other (c:=w.heap.size+1+1) (by omega) (.bool true)
      have g2:=(mX.v2.other (c:=w.heap.size+1) (by omega) (.int .i64 (68+c))).set (.bool true)
      refine ⟨by simp,.inl ⟨_,_,rfl,run_takeDeferred Om,?_⟩⟩
      refine ⟨_,kD (by rfl) (run_isAgg_plain Tryz.underlying3 rfl) (run_isAgg_plain Tryz.underlying4 rfl) (a:=⟨w.heap.size+1,0,none⟩) (b:=⟨w.heap.size+1+1,0,none⟩) (by rfl) (by rfl) (g1.heap (World.putObj_heap_other (by omega))).1 (g2.heap (World.putObj_heap_other (by omega))).1,?_,?_⟩
      .
       rw[hps,htr,hstep];rfl
      exact (Lo.putObj (m:=w.heap.size+7) (Bs:=w.heap.size) _ (.deferred none) (Nat.le_refl _)).below ((mX.below.setCell (p:=⟨w.heap.size+1,0,none⟩) (by simp) _).setCell (p:=⟨w.heap.size+1+1,0,none⟩) (by simp;omega) _) (by omega) (Nat.le_refl _)
   .
    obtain ⟨r,b,hc⟩:∃r b,qj s.data.toList (⟨#[115,101,116]⟩:ByteArray).data.toList=(r,b):=⟨_,_,rfl⟩;have hc':qj s.data.toList [115,101,116]=(r,b):=hc;obtain ⟨c,t,hd⟩:∃c t,nZ r=(c,t):=⟨_,_,rfl⟩;have Pw:=vM r;rw[hd] at Pw;have q0:=hT.v0.1;have Py:=Yf (p:=⟨#[115,101,116]⟩) hT hc;have i92:=TN
    have hstep:qk s.data.toList (heads.drop 1)=if b=true/\t=true then (84+c,true) else qk s.data.toList (heads.drop 2):=by
     show qk s.data.toList (([115,101,116],84)::heads.drop 2)=_;rw[qk,hc',hd]
    cases b with
    |
     false =>
     gi_wp2_with (refine ⟨trivial,?_⟩;gi_at_call 88;refine Py.mono ?_;rintro e W2 ⟨rfl,F5⟩)
     go_roundw
     case rel=>exact ⟨2,.inr (.inr (.inl ⟨rfl,rfl⟩)),F5,by rw[htr,hstep];simp⟩
     case measure=>simp[RowKit.intOf]
    |
     true =>
     cases t with
     |
      false =>
      gi_wp2_with first|(refine ⟨trivial,?_⟩;gi_at_call 88;refine Py.mono ?_;rintro e W2 ⟨rfl,F5⟩)|(refine ⟨trivial,?_⟩;gi_at_call 89;refine (Mf hd F5).mono ?_;rintro e W3 ⟨rfl,mX⟩)
      go_roundw
      case rel=>exact ⟨2,.inr (.inr (.inl ⟨rfl,rfl⟩)),mX,by rw[htr,hstep];simp⟩
      case measure=>simp[RowKit.intOf]
     |
      true =>
      gi_wp2_with first|(refine ⟨trivial,?_⟩;gi_at_call 88;refine Py.mono ?_;rintro e W2 ⟨rfl,F5⟩)|(refine ⟨trivial,?_⟩;gi_at_call 89;refine (Mf hd F5).mono ?_;rintro e W3 ⟨rfl,mX⟩;have b0:=mX.a0;have b1:=mX.a1;have b2:=mX.a2;have b3:=mX.v1.1;have b4:=mX.v1.2;have b5:=mX.v2.1;have b6:=mX.v2.2)
      have hh:=mX.hA
      have Om:((W3.setCell ⟨w.heap.size+1,0,none⟩ (.int .i64 (84+c))).setCell ⟨w.heap.size+1+1,0,none⟩ (.bool true)).heap[w.heap.size+7]? = some (.deferred (some [])) :=
       ((aR _ _ _ _ (by omega)).trans (aR _ _ _ _ (by omega))).trans mX.df
      have g1:=(mX.v1.set (.int .i64 (84+c))).other (c:=w.heap.size+1+1) (by omega) (.bool true)
      have g2:=(mX.v2.other (c:=w.heap.size+1) (by omega) (.int .i64 (84+c))).set (.bool true)
      refine ⟨by simp,.inl ⟨_,_,rfl,run_takeDeferred Om,?_⟩⟩
      refine ⟨_,kD (by rfl) (run_isAgg_plain Tryz.underlying3 rfl) (run_isAgg_plain Tryz.underlying4 rfl) (a:=⟨w.heap.size+1,0,none⟩) (b:=⟨w.heap.size+1+1,0,none⟩) (by rfl) (by rfl) (g1.heap (World.putObj_heap_other (by omega))).1 (g2.heap (World.putObj_heap_other (by omega))).1,?_,?_⟩
      .
       rw[hps,htr,hstep];rfl
      exact (Lo.putObj (m:=w.heap.size+7) (Bs:=w.heap.size) _ (.deferred none) (Nat.le_refl _)).below ((mX.below.setCell (p:=⟨w.heap.size+1,0,none⟩) (by simp) _).setCell (p:=⟨w.heap.size+1+1,0,none⟩) (by simp;omega) _) (by omega) (Nat.le_refl _)
   .
    obtain ⟨r,b,hc⟩:∃r b,qj s.data.toList (⟨#[99,109,111,118]⟩:ByteArray).data.toList=(r,b):=⟨_,_,rfl⟩;have hc':qj s.data.toList [99,109,111,118]=(r,b):=hc;obtain ⟨c,t,hd⟩:∃c t,nZ r=(c,t):=⟨_,_,rfl⟩;have Pw:=vM r;rw[hd] at Pw;have q0:=hT.v0.1;have Py:=Yf (p:=⟨#[99,109,111,118]⟩) hT hc;have i92:=TP
    have hstep:qk s.data.toList (heads.drop 2)=if b=true/\t=true then (100+c,true) else qk s.data.toList (heads.drop 3):=by
     show qk s.data.toList (([99,109,111,118],100)::heads.drop 3)=_;rw[qk,hc',hd]
    cases b with
    |
     false =>
     gi_wp2_with (refine ⟨trivial,?_⟩;gi_at_call 88;refine Py.mono ?_;rintro e W2 ⟨rfl,F5⟩)
     go_roundw
     case rel=>exact ⟨3,.inr (.inr (.inr ⟨rfl,rfl⟩)),F5,by rw[htr,hstep];simp⟩
     case measure=>simp[RowKit.intOf]
    |
     true =>
     cases t with
     |
      false =>
      gi_wp2_with first|(refine ⟨trivial,?_⟩;gi_at_call 88;refine Py.mono ?_;rintro e W2 ⟨rfl,F5⟩)|(refine ⟨trivial,?_⟩;gi_at_call 89;refine (Mf hd F5).mono ?_;rintro e W3 ⟨rfl,mX⟩)
      go_roundw
      case rel=>exact ⟨3,.inr (.inr (.inr ⟨rfl,rfl⟩)),mX,by rw[htr,hstep];simp⟩
      case measure=>simp[RowKit.intOf]
     |
      true =>
      gi_wp2_with first|(refine ⟨trivial,?_⟩;gi_at_call 88;refine Py.mono ?_;rintro e W2 ⟨rfl,F5⟩)|(refine ⟨trivial,?_⟩;gi_at_call 89;refine (Mf hd F5).mono ?_;rintro e W3 ⟨rfl,mX⟩;have b0:=mX.a0;have b1:=mX.a1;have b2:=mX.a2;have b3:=mX.v1.1;have b4:=mX.v1.2;have b5:=mX.v2.1;have b6:=mX.v2.2)
      have hh:=mX.hA
      have Om:((W3.setCell ⟨w.heap.size+1,0,none⟩ (.int .i64 (100+c))).setCell ⟨w.heap.size+1+1,0,none⟩ (.bool true)).heap[w.heap.size+7]? = some (.deferred (some [])) :=
       ((aR _ _ _ _ (by omega)).trans (aR _ _ _ _ (by omega))).trans mX.df
      have g1:=(mX.v1.set (.int .i64 (100+c))).other (c:=w.heap.size+1+1) (by omega) (.bool true)
      have g2:=(mX.v2.other (c:=w.heap.size+1) (by omega) (.int .i64 (100+c))).set (.bool true)
      refine ⟨by simp,.inl ⟨_,_,rfl,run_takeDeferred Om,?_⟩⟩
      refine ⟨_,kD (by rfl) (run_isAgg_plain Tryz.underlying3 rfl) (run_isAgg_plain Tryz.underlying4 rfl) (a:=⟨w.heap.size+1,0,none⟩) (b:=⟨w.heap.size+1+1,0,none⟩) (by rfl) (by rfl) (g1.heap (World.putObj_heap_other (by omega))).1 (g2.heap (World.putObj_heap_other (by omega))).1,?_,?_⟩
      .
       rw[hps,htr,hstep];rfl
      exact (Lo.putObj (m:=w.heap.size+7) (Bs:=w.heap.size) _ (.deferred none) (Nat.le_refl _)).below ((mX.below.setCell (p:=⟨w.heap.size+1,0,none⟩) (by simp) _).setCell (p:=⟨w.heap.size+1+1,0,none⟩) (by simp;omega) _) (by omega) (Nat.le_refl _)
   have b3:=hT.v1.1;have b4:=hT.v1.2;have b5:=hT.v2.1;have b6:=hT.v2.2
   gi_wp2
   have hh:=hT.hA
   have Om:((wr.setCell ⟨w.heap.size+1,0,none⟩ (.int .i64 0)).setCell ⟨w.heap.size+1+1,0,none⟩ (.bool false)).heap[w.heap.size+7]? = some (.deferred (some [])) :=
    ((aR _ _ _ _ (by omega)).trans (aR _ _ _ _ (by omega))).trans hT.df
   have g1:=(hT.v1.set (.int .i64 0)).other (c:=w.heap.size+1+1) (by omega) (.bool false)
   have g2:=(hT.v2.other (c:=w.heap.size+1) (by omega) (.int .i64 0)).set (.bool false)
   refine ⟨by simp,.inl ⟨_,_,rfl,run_takeDeferred Om,?_⟩⟩
   refine ⟨_,kD (by rfl) (run_isAgg_plain Tryz.underlying3 rfl) (run_isAgg_plain Tryz.underlying4 rfl) (a:=⟨w.heap.size+1,0,none⟩) (b:=⟨w.heap.size+1+1,0,none⟩) (by rfl) (by rfl) (g1.heap (World.putObj_heap_other (by omega))).1 (g2.heap (World.putObj_heap_other (by omega))).1,?_,?_⟩
   .
    rw[hps,htr];rfl
   exact (Lo.putObj (m:=w.heap.size+7) (Bs:=w.heap.size) _ (.deferred none) (Nat.le_refl _)).below ((hT.below.setCell (p:=⟨w.heap.size+1,0,none⟩) (by simp) _).setCell (p:=⟨w.heap.size+1+1,0,none⟩) (by simp;omega) _) (by omega) (Nat.le_refl _)
 case stop =>
  rintro pre W hpre ⟨hB,v1,v2,l,he,hno⟩ hK
  gi_wp2
  refine ⟨by simp,.inl ⟨_,_,rfl,run_takeDeferred hK,?_⟩⟩
  refine ⟨_,kD (by rfl) (run_isAgg_plain Tryz.underlying3 rfl) (run_isAgg_plain Tryz.underlying4 rfl) (a:=⟨w.heap.size+1,0,none⟩) (b:=⟨w.heap.size+1+1,0,none⟩) (by rfl) (by rfl) (v1.heap (World.putObj_heap_other (by omega))).1 (v2.heap (World.putObj_heap_other (by omega))).1,?_,?_⟩
  .
   obtain ⟨t,ht⟩:=hpre
   have hn:Nr=l.map (λx=>x.data.toList)++s.data.toList::t.map (λx=>x.data.toList):=by
    have h1:=congrArg (List.map (λx:ByteArray=>x.data.toList)) ht
    rw[List.map_map,he] at h1;have h2:((λx:ByteArray=>x.data.toList)∘x6)=id:=funext λ_=>rfl
    rw[h2,List.map_id] at h1;rw[<-h1];simp
   have hl:s.data.toList ∉ l.map (λx=>x.data.toList):=λhm=>by
    obtain ⟨x,hx,hxe⟩:=List.mem_map.1 hm;exact hno (by rw[<-mk_data s,<-hxe,mk_data];exact hx)
   have hps:eH s.data.toList=((pre.length:Int),true):=by
    unfold eH;rw[hn,F3 hl,he];simp;omega
   rw[hps]
  exact (Lo.putObj (m:=w.heap.size+7) (Bs:=w.heap.size) W (.deferred none) (Nat.le_refl _)).below hB (by omega) (Nat.le_refl _)
end Go.Proofs.YtpaddkkfefgkfaaGreatDoor.nm

namespace Go.Proofs.YtpaddkkfefgkfaaGreatDoor.nm
open Go.RowKit
noncomputable section
def ql (op:Int):List UInt8:=Ev.pick2 (!Ev.ltI op 1 && !Ev.ltI 322 op) (Nr.getD (op.toNat-1) []) []
theorem F6 (op:Int):ql op=if 1<=op/\op<=322 then Nr.getD (op.toNat-1) [] else []:=by
 unfold ql
 rw[Ev.pick2_eq,Ev.ltI_spec,Ev.ltI_spec]
 by_cases h:1<=op/\op<=322
 .
  rw[if_pos h,if_pos (by simp;omega)]
 rw[if_neg h,if_neg (by simp;omega)]
theorem TQ (op:Int) (w:World):Calls Tryz.prog 13 #[.int .i64 op] w λe w'=>e = .returned (.string (x6 (ql op)))/\Below w.heap.size w w':=by
 rw[F6]
 by_cases h:1<=op/\op<=322
 .
  rw[if_pos h];exact Pr op h w
 rw[if_neg h];exact TI op h w
def TR (f:FuncId) (args:List Value):Option Value :=
 Ev.pick2 (Nat.beq f 13) (match args with | [.int .i64 op]=>some (.string (x6 (ql op)))|_=>none)
  (Ev.pick2 (Nat.beq f 51) (match args with | [.string s]=>some (.tuple #[.int .i64 (eH s.data.toList).1,.bool (eH s.data.toList).2])|_=>none) none)
theorem F7 (f:FuncId):TR f Ev.jk=none:=by
 unfold TR
 rw[Ev.pick2_eq,Ev.pick2_eq]
 split
 .
  rfl
 split<;>rfl
theorem F8 (f:FuncId) (s:ByteArray):TR f [Ev.fk,.string s]=none:=by
 unfold TR
 rw[Ev.pick2_eq,Ev.pick2_eq]
 split
 .
  rfl
 split<;>rfl
theorem Yg:Ev.qN Tryz.prog TR:=by
 refine Ev.qN.of F7 (λf s=>F8 _ s) ?_
 intro f args v h w
 unfold TR at h
 rw[Ev.pick2_eq] at h
 split at h
 .
  rename_i hf;obtain rfl:=Nat.eq_of_beq_eq_true hf;split at h
  .
   cases h;exact TQ _ w
  cases h
 rw[Ev.pick2_eq] at h
 split at h
 .
  rename_i hf;obtain rfl:=Nat.eq_of_beq_eq_true hf;split at h
  .
   cases h;exact Pv _ w
  cases h
 cases h
end
end Go.Proofs.YtpaddkkfefgkfaaGreatDoor.nm

namespace Go.Proofs.YtpaddkkfefgkfaaGreatDoor.rg
open Go.Tv Go.Ev
noncomputable section
def space:List Value:=(List.range 256).map λi=>.int .u8 (pick2 (Nat.beq i 32||(Nat.ble 9 i&&Nat.ble i 13)) 1 0)
def gv (g:Nat):List AV:=pick2 (Nat.beq g 1) (space.map Es) []
def X0:cI:={ P:=Tryz.prog,G:=1+1,gv:=gv }
def bV:bG:=⟨.none,.none,[]⟩
def inl:FuncId->Bool:=λ_=>true
def K0:TD:=λ_=>none
def c0 (β:Type):aT β:=kB X0 K0 inl 200 β 20
theorem rS (β:Type):aV X0 (aY X0 j3) (c0 β):=dF (by intro id s g h;cases h) (λ_ _ _=>rfl) 200 20 β
theorem nk (f:FuncId) (args:List Value):j3 f args=none:=rfl
def run (f:FuncId) (args:List AV):Option (AV×aa):=ag X0 (c0 (AV×aa)) bV 200 f args aa.empty (λv H=>some (v,H))
def b (s:List Nat):List UInt8:=s.map UInt8.ofNat
def n1:List (List UInt8):=[[97,108],[99,108],[100,108],[98,108],[115,112,108],[98,112,108],[115,105,108],[100,105,108],[114,56,98],[114,57,98],[114,49,48,98],[114,49,49,98],[114,49,50,98],[114,49,51,98],[114,49,52,98],[114,49,53,98]]
def n2:List (List UInt8):=[[97,104],[99,104],[100,104],[98,104]]
def n3:List (List UInt8):=[[97,120],[99,120],[100,120],[98,120],[115,112],[98,112],[115,105],[100,105],[114,56,119],[114,57,119],[114,49,48,119],[114,49,49,119],[114,49,50,119],[114,49,51,119],[114,49,52,119],[114,49,53,119]]
def n4:List (List UInt8):=[[101,97,120],[101,99,120],[101,100,120],[101,98,120],[101,115,112],[101,98,112],[101,115,105],[101,100,105],[114,56,100],[114,57,100],[114,49,48,100],[114,49,49,100],[114,49,50,100],[114,49,51,100],[114,49,52,100],[114,49,53,100]]
def n5:List (List UInt8):=[[114,97,120],[114,99,120],[114,100,120],[114,98,120],[114,115,112],[114,98,112],[114,115,105],[114,100,105],[114,56],[114,57],[114,49,48],[114,49,49],[114,49,50],[114,49,51],[114,49,52],[114,49,53]]
def n6:List (List UInt8):=[[120,109,109,48],[120,109,109,49],[120,109,109,50],[120,109,109,51],[120,109,109,52],[120,109,109,53],[120,109,109,54],[120,109,109,55],[120,109,109,56],[120,109,109,57],[120,109,109,49,48],[120,109,109,49,49],[120,109,109,49,50],[120,109,109,49,51],[120,109,109,49,52],[120,109,109,49,53]]
def n7:List (List UInt8):=[[121,109,109,48],[121,109,109,49],[121,109,109,50],[121,109,109,51],[121,109,109,52],[121,109,109,53],[121,109,109,54],[121,109,109,55],[121,109,109,56],[121,109,109,57],[121,109,109,49,48],[121,109,109,49,49],[121,109,109,49,50],[121,109,109,49,51],[121,109,109,49,52],[121,109,109,49,53]]
def n8:List (List UInt8):=[[114,105,112]]
def oP (c:Int):List (List UInt8):=pick2 (eqI c 1) n1 (pick2 (eqI c 2) n2 (pick2 (eqI c 3) n3 (pick2 (eqI c 4) n4 (pick2 (eqI c 5) n5 (pick2 (eqI c 6) n6 (pick2 (eqI c 7) n7 (pick2 (eqI c 8) n8 [])))))))
def qm (c:Int):List bA:=[.room 9 .str (oP c) (oP c).length]
def cJ (c:Int):Bool:=leaves (qm c) (run 47 [.int .i64 c])
theorem Io:cJ 1=true:=by kernel_rfl
theorem Ip:cJ 2=true:=by kernel_rfl
theorem Iq:cJ 3=true:=by kernel_rfl
theorem Ir:cJ 4=true:=by kernel_rfl
theorem Iu:cJ 5=true:=by kernel_rfl
theorem Iv:cJ 6=true:=by kernel_rfl
theorem Iw:cJ 7=true:=by kernel_rfl
theorem Iy:cJ 8=true:=by kernel_rfl
def sP (args:List AV):Option (Bool×List bA) :=
 match args with
 |[.int .i64 c]=>some (!ltI c 1 && !ltI 8 c,qm c)
 |_=>none
theorem in8 {c:Int} (h:(!ltI c 1 && !ltI 8 c)=true):c=1\/c=2\/c=3\/c=4\/c=5\/c=6\/c=7\/c=8:=by
 simp only[ltI_spec,Bool.and_eq_true,Bool.not_eq_true',decide_eq_false_iff_not] at h
 omega
theorem acR:aO X0 (aY X0 j3) 47 sP :=
 zq (nk 47) rS bV 200 λargs rs hg=>by
  unfold sP at hg;split at hg
  .
   rename_i c;simp only[Option.some.injEq,Prod.mk.injEq] at hg;obtain ⟨h1,rfl⟩:=hg
   have h:cJ c=true:=by
    rcases in8 h1 with rfl|rfl|rfl|rfl|rfl|rfl|rfl|rfl
    .
     exact Io
    .
     exact Ip
    .
     exact Iq
    .
     exact Ir
    .
     exact Iu
    .
     exact Iv
    .
     exact Iw
    exact Iy
   unfold cJ run at h;exact h
  cases hg
def acS (a:UInt8):Int:=pick2 (!ltI (aF a) 65) (pick2 (!ltI 90 (aF a)) (IntKind.wrap .u8 (aF a+32)) (aF a)) (aF a)
def rT:List UInt8->List UInt8->Bool
 |[],[]=>true
 |a::s,x::t=>pick2 (eqI (acS a) (aF x)) (rT s t) false
 |_,_=>false
def Mg {β:Type} (k:AV->Option β):List (UInt8×UInt8)->Option β
 |[]=>k (.bool true)
 |(a,x)::l=>pick2 (!ltI (aF a) 65) (pick2 (!ltI 90 (aF a)) (pick2 (!eqI (IntKind.wrap .u8 (aF a+32)) (aF x)) (k (.bool false)) (Mg k l)) (pick2 (!eqI (aF a) (aF x)) (k (.bool false)) (Mg k l)))
  (pick2 (!eqI (aF a) (aF x)) (k (.bool false)) (Mg k l))
def A6 (s t:List UInt8) (rounds:Nat) (k:AV->Option AV):Option AV:=ag X0 (c0 AV) bV rounds 87 [.str s,.str t] aa.empty (λv _=>k v)
theorem Pz (s t:List UInt8) (k:AV->Option AV):A6 s t 0 k=pick2 (!eqI ↑s.length ↑t.length) (k (.bool false)) none:=by kernel_rfl
theorem acT (k:AV->Option AV):A6 [] [] 9 k=Mg k []:=by kernel_rfl
theorem acU (a0 x0:UInt8) (k:AV->Option AV):A6 [a0] [x0] 9 k=Mg k [(a0,x0)]:=by kernel_rfl
theorem acV (a0 a1 x0 x1:UInt8) (k:AV->Option AV):A6 [a0,a1] [x0,x1] 9 k=Mg k [(a0,x0),(a1,x1)]:=by kernel_rfl
theorem acW (a0 a1 a2 x0 x1 x2:UInt8) (k:AV->Option AV):A6 [a0,a1,a2] [x0,x1,x2] 9 k=Mg k [(a0,x0),(a1,x1),(a2,x2)]:=by kernel_rfl
theorem acX (a0 a1 a2 a3 x0 x1 x2 x3:UInt8) (k:AV->Option AV):A6 [a0,a1,a2,a3] [x0,x1,x2,x3] 9 k=Mg k [(a0,x0),(a1,x1),(a2,x2),(a3,x3)]:=by kernel_rfl
theorem acY (a0 a1 a2 a3 a4 x0 x1 x2 x3 x4:UInt8) (k:AV->Option AV):A6 [a0,a1,a2,a3,a4] [x0,x1,x2,x3,x4] 9 k=Mg k [(a0,x0),(a1,x1),(a2,x2),(a3,x3),(a4,x4)]:=by kernel_rfl
theorem sQ {β:Type} (k:AV->Option β):∀l:List (UInt8×UInt8),Mg k l=k (.bool (rT (l.map (·.1)) (l.map (·.2))))
 |[]=>rfl
 |
  (a,x)::l=>by
  simp only[Mg,List.map_cons,rT,acS,sQ k l];cases ltI (aF a) 65<;>cases ltI 90 (aF a)<;>simp only[Bool.not_true,Bool.not_false,acL,acM]
  .
   cases eqI (IntKind.wrap .u8 (aF a+32)) (aF x)<;>rfl
  all_goals (cases eqI (aF a) (aF x)<;>rfl)
theorem Cd:∀{s t:List UInt8},s.length≠t.length->rT s t=false
 |[],[],h=>absurd rfl h
 |[],_::_,_=>rfl
 |_::_,[],_=>rfl
 |
  a::s,x::t,h=>by
  simp only[rT,pick2_eq];split
  .
   exact Cd (by simpa using h)
  rfl
theorem yE (s t:List UInt8) (h:t.length<=5) (k:AV->Option AV):∃rounds,A6 s t rounds k=k (.bool (rT s t)):=by
 by_cases hl:s.length=t.length
 .
  refine ⟨9,?_⟩
  match s,t,hl,h with
  |[],[],_,_=>exact (acT k).trans (sQ k _)
  |[a0],[x0],_,_=>exact (acU a0 x0 k).trans (sQ k _)
  |[a0,a1],[x0,x1],_,_=>exact (acV a0 a1 x0 x1 k).trans (sQ k _)
  |[a0,a1,a2],[x0,x1,x2],_,_=>exact (acW a0 a1 a2 x0 x1 x2 k).trans (sQ k _)
  |[a0,a1,a2,a3],[x0,x1,x2,x3],_,_=>exact (acX a0 a1 a2 a3 x0 x1 x2 x3 k).trans (sQ k _)
  |[a0,a1,a2,a3,a4],[x0,x1,x2,x3,x4],_,_=>exact (acY a0 a1 a2 a3 a4 x0 x1 x2 x3 x4 k).trans (sQ k _)
  |_::_::_::_::_::_::_,_,hl,h=>simp at hl;omega
 refine ⟨0,?_⟩
 rw[Pz,Cd hl]
 have:eqI (↑s.length:Int) (↑t.length)=false:=by rw[eqI_spec];simpa using λh=>hl (by omega)
 rw[this]
 rfl
def PA (args:List AV):Option (Bool×List bA) :=
 match args with
 |[.str s,.str t]=>some (Nat.ble t.length 5,[.val (.bool (rT s t))])
 |_=>none
theorem acZ:aO X0 (aY X0 j3) 87 PA :=
 aJ (nk 87) rS λargs rs hg=>by
  unfold PA at hg;split at hg
  .
   rename_i s t;simp only[Option.some.injEq,Prod.mk.injEq] at hg;obtain ⟨h1,rfl⟩:=hg;obtain ⟨r,hr⟩:=yE s t (Nat.le_of_ble_eq_true h1) some;exact ⟨[.bool (rT s t)],bV,r,hr,rfl,rfl⟩
  cases hg
def K1:TD:=λf=>pick2 (Nat.beq f 47) (some ([none],sP)) (pick2 (Nat.beq f 87) (some ([none,none],PA)) none)
def c1 (β:Type):aT β:=kB X0 K1 inl 200 β 20
theorem rU (id:FuncId) (sig:List (Option Ty)) (g:List AV->Option (Bool×List bA)) (h:K1 id=some (sig,g)):aO X0 (aY X0 j3) id g:=by
 simp only[K1,pick2_eq,Nat.beq_eq] at h
 split at h
 .
  rename_i hf;cases h;subst hf;exact acR
 split at h
 .
  rename_i hf;cases h;subst hf;exact acZ
 cases h
theorem Ku (β:Type):aV X0 (aY X0 j3) (c1 β):=dF rU (λ_ _ _=>rfl) 200 20 β
def num (c:Int):List (List UInt8)->Int->List (List UInt8×Int×Int)
 |[],_=>[]
 |s::l,i=>(s,c,i)::num c l (i+1)
def tbl:List (List UInt8×Int×Int):=num 1 n1 0++(num 2 n2 4++(num 3 n3 0++(num 4 n4 0++(num 5 n5 0++(num 6 n6 0++(num 7 n7 0++num 8 n8 0))))))
def trP {β:Type} (s:List UInt8) (k:Int->Int->Bool->Option β):List (List UInt8×Int×Int)->Option β
 |[]=>k 0 0 false
 |e::l=>pick2 (rT s e.1) (k e.2.1 e.2.2 true) (trP s k l)
theorem Iz (s:List UInt8) (k:AV->Option AV):ag X0 (c1 AV) bV 20 50 [.str s] aa.empty (λv _=>k v)=trP s (λc n ok=>k (.cB [.agg [.int .i64 c,.int .i64 n],.bool ok])) tbl:=by kernel_rfl
def fnd (s:List UInt8):List (List UInt8×Int×Int)->Int×Int×Bool
 |[]=>(0,0,false)
 |e::l=>pick2 (rT s e.1) (e.2.1,e.2.2,true) (fnd s l)
def pR (s:List UInt8):Int×Int×Bool:=fnd s tbl
theorem PB {β:Type} (s:List UInt8) (k:Int->Int->Bool->Option β):∀l,trP s k l=k (fnd s l).1 (fnd s l).2.1 (fnd s l).2.2
 |[]=>rfl
 |
  e::l=>by
  simp only[trP,fnd,PB s k l,pick2_eq];split<;>rfl
def ag1 (args:List AV):Option (Bool×List bA) :=
 match args with
 |[.str s]=>some (true,[.val (.agg [.int .i64 (pR s).1,.int .i64 (pR s).2.1]),.val (.bool (pR s).2.2)])
 |_=>none
theorem cP:Ev.cP Tryz.prog:=Ev.Fm (by kernel_rfl)
theorem mixed:Tryz.prog.follows .mixedOrders=true:=by kernel_rfl
theorem dz {w:World} {rows:List Blk} {b1:Blk} (hb:rows[1]? = some b1) (hl:b1.live=true) (hc:b1.cells=space) (hr:dV rows w):bN X0 (iL w):=by
 refine B7 hr λg hg he=>?_
 by_cases e:g=1
 .
  subst e;exact ⟨b1,hb,hl,by rw[hc];rfl,by rw[hc];kernel_rfl⟩
 exact absurd (by show pick2 (Nat.beq g 1) (space.map Es) []=[];rw[pick2_eq,if_neg (by rw[Nat.beq_eq];exact e)]) he
theorem TT {S:Wo} {c n:Int} {b:Bool} {v:Value} (h:VR S (.cB [.agg [.int .i64 c,.int .i64 n],.bool b]) v):v = .tuple #[.agg #[.int .i64 c,.int .i64 n],.bool b]:=by
 cases h with
 |
  cB l m hl hv =>
  match m,hl with
  |
   [x,y],_ =>
   have h2:=(hv 1 _ y rfl rfl).gi;have h1:=hv 0 _ x rfl rfl;subst h2;cases h1 with
   |
    agg l2 m2 AF hv2 =>
    match m2,AF with
    |
     [p,q],_ =>
     have e1:=(hv2 0 _ p rfl rfl).bQ;have e2:=(hv2 1 _ q rfl rfl).bQ;subst e1;subst e2;rfl
theorem Mh (s:ByteArray) {w:World} (hG:1+1<=w.heap.size) (hg:bN X0 (iL w)):Calls Tryz.prog 50 #[.string s] w λe w'=>e = .returned (.tuple #[.agg #[.int .i64 (pR s.data.toList).1,.int .i64 (pR s.data.toList).2.1],.bool (pR s.data.toList).2.2])/\RowKit.Below w.heap.size w w' :=
 Ih (X:=X0) cP mixed sk (v:=.cB [.agg [.int .i64 (pR s.data.toList).1,.int .i64 (pR s.data.toList).2.1],.bool (pR s.data.toList).2.2]) (λS x hx=>TT hx) rfl
  (λS E ax hr hg hl=>x5 (nk 50) Ku ((Iz s.data.toList some).trans (PB s.data.toList _ tbl)) S E ax hr hg hl) hG hg (args':=[.string s]) (LV.cons (nm.zy w s) LV.nil) rfl
def kR (f:FuncId) (args:List Value):Option Value :=
 pick2 (Nat.beq f 50) (match args with | [.string s]=>some (.tuple #[.agg #[.int .i64 (pR s.data.toList).1,.int .i64 (pR s.data.toList).2.1],.bool (pR s.data.toList).2.2])|_=>none) (nm.TR f args)
theorem ac0 {GR:List Blk} {b1:Blk} (hb:GR[1]? = some b1) (hl:b1.live=true) (hc:b1.cells=space):dP Tryz.prog GR kR:=by
 refine ⟨λf args v h hfree w hw=>?_,λf u h=>?_,λf s items h _=>?_⟩
 .
  unfold kR at h;rw[pick2_eq] at h;split at h
  .
   rename_i hf;obtain rfl:=Nat.eq_of_beq_eq_true hf;split at h
   .
    cases h;have:1<GR.length:=(List.getElem?_eq_some_iff.1 hb).1;exact Mh _ (by have:=hw.1;omega) (dz hb hl hc hw)
   cases h
  exact nm.Yg.calls f args v h hfree w (dV.nil w)
 .
  unfold kR at h;rw[pick2_eq] at h;split at h
  .
   cases h
  rw[nm.F7] at h;cases h
 unfold kR at h
 rw[pick2_eq] at h
 split at h
 .
  cases h
 rw[nm.F8] at h;cases h
def eqV:Value->Value->Bool
 |.int k a,.int k' b=>decide (k=k')&&eqI a b
 |.string a,.string b=>iA a.data.toList b.data.toList
 |_,_=>false
theorem eV:∀{a b:List UInt8},iA a b=true->a=b
 |[],[],_=>rfl
 |[],_::_,h=>by cases h
 |_::_,[],h=>by cases h
 |
  x::a,y::b,h=>by
  unfold iA at h;rw[pick2_eq] at h;split at h
  .
   rename_i hx;have hx:x=y:=UInt8.toNat_inj.1 (Nat.eq_of_beq_eq_true hx);rw[hx,eV h]
  cases h
theorem PC {a b:Value} (h:eqV a b=true):a=b:=by
 unfold eqV at h
 split at h
 .
  simp only[Bool.and_eq_true,decide_eq_true_eq,eqI_spec,beq_iff_eq] at h;rw[h.1,h.2]
 .
  rename_i a b;have:=eV h
  congr 1
  exact ByteArray.ext (Array.ext' this)
 cases h
def Mi:List Value->List Value->Bool
 |[],[]=>true
 |a::l,b::m=>pick2 (eqV a b) (Mi l m) false
 |_,_=>false
theorem Ce:∀{a b:List Value},Mi a b=true->a=b
 |[],[],_=>rfl
 |[],_::_,h=>by cases h
 |_::_,[],h=>by cases h
 |
  x::a,y::b,h=>by
  unfold Mi at h;rw[pick2_eq] at h;split at h
  .
   rename_i hx;rw[PC hx,Ce h]
  cases h
def vN (f:FuncId) (args:List Value):List (FuncId×List Value)->Bool
 |[]=>false
 |q::T=>pick2 (Nat.beq f q.1) (pick2 (Mi args q.2) true (vN f args T)) (vN f args T)
theorem vO {f:FuncId} {args:List Value}:∀{T:List (FuncId×List Value)},vN f args T=true->(f,args)∈T
 |[],h=>by cases h
 |
  q::T,h=>by
  unfold vN at h;rw[pick2_eq,pick2_eq] at h;split at h
  .
   rename_i hf;split at h
   .
    rename_i ha;have e1:=Nat.eq_of_beq_eq_true hf;have e2:=Ce ha;obtain ⟨a,b⟩:=q;subst e1;subst e2;exact List.mem_cons_self ..
   exact List.mem_cons_of_mem _ (vO h)
  exact List.mem_cons_of_mem _ (vO h)
theorem Cf (f:FuncId) (s:ByteArray):∀T:List (FuncId×List Value),vN f [fk,.string s] T=false
 |[]=>rfl
 |
  q::T=>by
  have:Mi [fk,.string s] q.2=false:=by
   obtain ⟨g,l⟩:=q;cases l with
   |nil=>rfl
   |cons x l=>cases x<;>rfl
  unfold vN;rw[this,Cf f s T];rw[pick2_eq,pick2_eq];split<;>rfl
theorem Cg (f:FuncId):∀T:List (FuncId×List Value),vN f jk T=false
 |[]=>rfl
 |
  q::T=>by
  have:Mi jk q.2=false:=by
   obtain ⟨g,l⟩:=q;cases l with
   |nil=>rfl
   |cons x l=>cases x<;>rfl
  unfold vN;rw[this,Cg f T];rw[pick2_eq,pick2_eq];split<;>rfl
def kT (T:List (FuncId×List Value)) (K:bP):bP:=λf args=>pick2 (vN f args T) (some (.bool true)) (K f args)
theorem ac1 {P:Program} {GR:List Blk} {K:bP} {T:List (FuncId×List Value)} (hK:dP P GR K) (h:∀q∈T,∀w,dV GR w->Calls P q.1 q.2.toArray w λe w'=>e = .returned (.bool true)/\RowKit.Below w.heap.size w w'):dP P GR (kT T K):=by
 refine ⟨λf args v hk hfree w hw=>?_,λf u hk=>?_,λf s items hk hfr=>?_⟩
 .
  unfold kT at hk;rw[pick2_eq] at hk;split at hk
  .
   rename_i he;cases hk;exact h (f,args) (vO he) w hw
  exact hK.calls f args v hk hfree w hw
 .
  unfold kT at hk;rw[Cg] at hk;exact hK.VY f u hk
 unfold kT at hk
 rw[Cf] at hk
 exact hK.VZ f s items hk hfr
end
end Go.Proofs.YtpaddkkfefgkfaaGreatDoor.rg

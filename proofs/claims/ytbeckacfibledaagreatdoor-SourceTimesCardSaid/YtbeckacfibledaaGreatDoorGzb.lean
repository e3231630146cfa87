/- name.Parse: the contract. -/
import Derived.Test.YtbeckacfibledaaGreatDoorGza
import Derived.Test.YtbeckacfibledaaGreatDoorLyg
import Derived.Test.YtbeckacfibledaaGreatDoorRows
set_option linter.unusedVariables false
set_option linter.unusedSimpArgs false

namespace Go.Proofs.YtbeckacfibledaaGreatDoor.nm
open Go.RowKit Go.Shelf Go.Lib
attribute [local go_sem] Oper.semAt_some
structure PI (w:World)(s:ByteArray)(pre:List ByteArray)(W:World):Prop where
 below:Below w.heap.size w W
 v0:Var W w.heap.size (.string s)
 v1:Var W (w.heap.size+1) (.int .i64 0)
 v2:Var W (w.heap.size+1+1) (.bool false)
 v3:Var W (w.heap.size+1+1+1) (.int .i64 (pre.length:Int))
 no:s ∉ pre
structure PX (w:World)(s:ByteArray)(pre:List ByteArray)(W:World):Prop where
 below:Below w.heap.size w W
 v1:Var W (w.heap.size+1) (.int .i64 (pre.length:Int))
 v2:Var W (w.heap.size+1+1) (.bool true)
 is:∃l,pre=l++[s]/\s ∉ l
structure TF (w:World)(s:ByteArray)(A:Nat)(W:World):Prop where
 below:Below w.heap.size w W
 v0:Var W w.heap.size (.string s)
 v1:Var W (w.heap.size+1) (.int .i64 0)
 v2:Var W (w.heap.size+1+1) (.bool false)
 df:W.heap[w.heap.size+7]? = some (.deferred (some []))
 hA:w.heap.size+7<A
 a0:W.cell? ⟨A,0,none⟩=some (.int .i64 68)
 a1:W.cell? ⟨A,1,none⟩=some (.int .i64 84)
 a2:W.cell? ⟨A,2,none⟩=some (.int .i64 100)
theorem TF.grow {w:World}{s:ByteArray}{A:Nat}{W d:World}(h:TF w s A W)(c:Below W.heap.size W d):TF w s A d:=by
 have a:∀{b:Nat} {v:Value} {o:Nat},W.cell? ⟨b,o,none⟩=some v->b<W.heap.size:=λe=>World.block_lt_of_cell? _ _ e
 have f:w.heap.size+7<W.heap.size:=(aF.1 h.df).1;exact⟨h.below.trans (c.mono h.below.size),h.v0.heap (c.block _ (a h.v0.1)),h.v1.heap (c.block _ (a h.v1.1)),h.v2.heap (c.block _ (a h.v2.1)),(c.block _ f).trans h.df,h.hA,
  (fF (c.block _ (a h.a0))).trans h.a0,(fF (c.block _ (a h.a1))).trans h.a1,(fF (c.block _ (a h.a2))).trans h.a2⟩
theorem aix {w:World}{s p:ByteArray}{A:Nat}{W:World}(h:TF w s A W){r:au}{b:Bool}(e:ye s.data.toList p.data.toList=(r,b)) :
 CallsIn Fence.wide 9 Tryz.prog 75 #[.string s,.string p] W λe a=>e = .returned (.tuple #[.string (xy r),.bool b])/\TF w s A a:=by
 refine(callsIn_wide (n:=9) |>.2 (ac5 s p W)).mono ?_;rw[e];rintro e a ⟨rfl,c⟩;exact⟨rfl,h.grow c⟩
theorem Vb {w:World}{s:ByteArray}{A:Nat}{r:au}{c:Int}{b:Bool}(e:vK r=(c,b)){W:World}(h:TF w s A W) :
 CallsIn Fence.wide 9 Tryz.prog 76 #[.string (xy r)] W λe a=>e = .returned (.tuple #[.int .i64 c,.bool b])/\TF w s A a:=by
 refine(callsIn_wide (n:=9) |>.2 (ac4 (xy r) W)).mono ?_;have d:vK (xy r).data.toList=(c,b):=e;rw[d];rintro e a ⟨rfl,f⟩;exact⟨rfl,h.grow f⟩
theorem ac6 (w:World):(Instr.index 127 (.agg #[.string ⟨#[106]⟩,.string ⟨#[115,101,116]⟩,.string ⟨#[99,109,111,118]⟩]) (.int .i64 0)).run Tryz.prog w = .ok (.string ⟨#[106]⟩) w:=by kernel_rfl
theorem ac7 (w:World):(Instr.index 127 (.agg #[.string ⟨#[106]⟩,.string ⟨#[115,101,116]⟩,.string ⟨#[99,109,111,118]⟩]) (.int .i64 1)).run Tryz.prog w = .ok (.string ⟨#[115,101,116]⟩) w:=by kernel_rfl
theorem ac8 (w:World):(Instr.index 127 (.agg #[.string ⟨#[106]⟩,.string ⟨#[115,101,116]⟩,.string ⟨#[99,109,111,118]⟩]) (.int .i64 2)).run Tryz.prog w = .ok (.string ⟨#[99,109,111,118]⟩) w:=by kernel_rfl
noncomputable def yf (s:au):List (au×Int)->Int×Bool
 |[]=>(0,false)
 |q::l=>if (ye s q.1).2=true/\(vK (ye s q.1).1).2=true then (q.2+(vK (ye s q.1).1).1,true) else yf s l
def heads:List (au×Int):=[([106],68),([115,101,116],84),([99,109,111,118],100)]
def F3 (s:au):cA->Int->Option Int
 |[],_=>none
 |p::l,k=>if p=s then some k else F3 s l (k+1)
noncomputable def lW (s:au):Int×Bool :=
 match F3 s fJ 1 with
 |some k=>(k,true)
 |none=>yf s heads
theorem NV {s:au}:∀{l:cA} {k:Int},s ∉ l->F3 s l k=none
 |[],_,_=>rfl
 |p::l,k,h=>by
  rw[F3,aa (λe=>h (by rw[e];exact cq ..)),NV (λa=>h (bI _ a))]
theorem NW {s:au}:∀{l t:cA} {k:Int},s ∉ l->F3 s (l++s::t) k=some (k+l.length)
 |[],t,k,_=>by rw[cE,F3,ag rfl];simp
 |p::l,t,k,h=>by
  rw[cB,F3,aa (λe=>h (by rw[e];exact cq ..)),NW (λa=>h (bI _ a))];simp only[aJ];congr 1;omega
theorem I2 (s:au):∀l:List (au×Int),(∀q∈l,0<=q.2/\q.2<=15)->0<=(BO s l).1/\(BO s l).1<=15
 |[],_=>by simp[BO]
 |q::l,h=>by
  rw[BO];split
  .exact h q (cq ..)
  exact I2 s l λx a=>h x (bI _ a)
theorem CZ (s:au):0<=(vK s).1/\(vK s).1<=15:=I2 s _ (by decide)
theorem mk_data (s:ByteArray):xy s.data.toList=s:=by obtain⟨d⟩:=s;simp
theorem mem_mk {s:ByteArray}{l:cA}:s∈l.map xy↔s.data.toList∈l:=by
 constructor
 .intro h;obtain⟨x,a,rfl⟩:=cG.1 h;exact a
 intro h;exact cG.2 ⟨_,h,mk_data s⟩
set_option maxRecDepth 100000 in
set_option maxHeartbeats 2000000 in
theorem Ym (s:ByteArray)(w:World)   : Calls Tryz.prog 38 #[.string s] w λe w'=>e = .returned (.tuple #[.int .i64 (lW s.data.toList).1,.bool (lW s.data.toList).2])/\Below w.heap.size w w':=by
 refine callsIn_wide (n:=10) |>.1 ?_;refine callsIn_of_wp_marks Tryz.func38 rfl trivial ?_ rfl;simp only[Tryz.ntmps38,jI,aJ,bK,Nat.reduceAdd,Nat.reduceSub,mh,mj,oD,mV,cE,cB]
 gi_wp2_with (refine⟨trivial,?_⟩;gi_at_call 41;refine(callsIn_wide.2 (ac3 _ (by kernel_rfl) _)).mono ?_;rintro e w' ⟨rfl,rfl⟩)
 have u0:=Var.new w (.string s) 9;have u1:=Var.new (w.alloc (.cells #[.string s] 9)) (.int .i64 0) 3;have u2:=Var.new ((w.alloc (.cells #[.string s] 9)).alloc (.cells #[.int .i64 0] 3)) (.bool false) 4;have u3:=Var.new (((w.alloc (.cells #[.string s] 9)).alloc (.cells #[.int .i64 0] 3)).alloc (.cells #[.bool false] 4)) (.int .i64 0) 3;have u4:=Var.new ((((w.alloc (.cells #[.string s] 9)).alloc (.cells #[.int .i64 0] 3)).alloc (.cells #[.bool false] 4)).alloc (.cells #[.int .i64 0] 3)) (.string oM) 9;have u5:=Var.new (((((w.alloc (.cells #[.string s] 9)).alloc (.cells #[.int .i64 0] 3)).alloc (.cells #[.bool false] 4)).alloc (.cells #[.int .i64 0] 3)).alloc (.cells #[.string oM] 9)) (.string ⟨#[32]⟩) 9
 have u6:=Var.new ((((((w.alloc (.cells #[.string s] 9)).alloc (.cells #[.int .i64 0] 3)).alloc (.cells #[.bool false] 4)).alloc (.cells #[.int .i64 0] 3)).alloc (.cells #[.string oM] 9)).alloc (.cells #[.string ⟨#[32]⟩] 9)) (.int .i64 0) 3;have hb:Below w.heap.size w (((((((w.alloc (.cells #[.string s] 9)).alloc (.cells #[.int .i64 0] 3)).alloc (.cells #[.bool false] 4)).alloc (.cells #[.int .i64 0] 3)).alloc (.cells #[.string oM] 9)).alloc (.cells #[.string ⟨#[32]⟩] 9)).alloc (.cells #[.int .i64 0] 3)) :=
  (((((((Below.refl _ w).alloc (aG _) _).alloc (by simp) _).alloc (by simp;omega) _).alloc (by simp;omega) _).alloc (by simp;omega) _).alloc (by simp;omega) _).alloc (by simp;omega) _
 simp only[World.size_alloc]at u1 u2 u3 u4 u5 u6;have k0:=(((((u0.alloc (.cells #[.int .i64 0] 3)).alloc (.cells #[.bool false] 4)).alloc (.cells #[.int .i64 0] 3)).alloc (.cells #[.string oM] 9)).alloc (.cells #[.string ⟨#[32]⟩] 9)).alloc (.cells #[.int .i64 0] 3);have k1:=((((u1.alloc (.cells #[.bool false] 4)).alloc (.cells #[.int .i64 0] 3)).alloc (.cells #[.string oM] 9)).alloc (.cells #[.string ⟨#[32]⟩] 9)).alloc (.cells #[.int .i64 0] 3);have k2:=(((u2.alloc (.cells #[.int .i64 0] 3)).alloc (.cells #[.string oM] 9)).alloc (.cells #[.string ⟨#[32]⟩] 9)).alloc (.cells #[.int .i64 0] 3)
 have k3:=((u3.alloc (.cells #[.string oM] 9)).alloc (.cells #[.string ⟨#[32]⟩] 9)).alloc (.cells #[.int .i64 0] 3);have k4:=(u4.alloc (.cells #[.string ⟨#[32]⟩] 9)).alloc (.cells #[.int .i64 0] 3);have k5:=u5.alloc (.cells #[.int .i64 0] 3);have hsz:(((((((w.alloc (.cells #[.string s] 9)).alloc (.cells #[.int .i64 0] 3)).alloc (.cells #[.bool false] 4)).alloc (.cells #[.int .i64 0] 3)).alloc (.cells #[.string oM] 9)).alloc (.cells #[.string ⟨#[32]⟩] 9)).alloc (.cells #[.int .i64 0] 3)).heap.size=w.heap.size+7:=by simp
 refine CY (m:=w.heap.size+7) (Bs:=w.heap.size+1+1+1+1) (Bp:=w.heap.size+1+1+1+1+1) (Bv:=w.heap.size+1+1+1+1+2) (by omega) hsz rfl (by omega) (by omega) (by omega) (by omega) (by omega) Yh ac2 k4.1 k4.2 k5.1 u6.1
  (PI w s) (PX w s)
  (λpre W W' hl hi=>⟨hl.below hi.below (by omega) (by omega),hl.var hi.v0 (by omega) (by omega),hl.var hi.v1 (by omega) (by omega),hl.var hi.v2 (by omega) (by omega),hl.var hi.v3 (by omega) (by omega),hi.no⟩)
  (λpre W W' hl hi=>⟨hl.below hi.below (by omega) (by omega),hl.var hi.v1 (by omega) (by omega),hl.var hi.v2 (by omega) (by omega),hi.is⟩)
  ⟨hb,k0,k1,k2,k3,by simp⟩
  (λx=>{ tmps := #[.string s,.pointer (some ⟨w.heap.size,0,none⟩),.pointer (some ⟨w.heap.size+1,0,none⟩),.pointer (some ⟨w.heap.size+1+1,0,none⟩),.pointer (some ⟨w.heap.size+1+1+1,0,none⟩),.string x,undef,undef,undef,undef,undef,undef,undef,
   .func (.func 118) #[] #[.pointer (some ⟨w.heap.size+1+1+1+1+1,0,none⟩),.pointer (some ⟨w.heap.size+1+1+1+1,0,none⟩),.pointer (some ⟨w.heap.size+1+1+1+1+2,0,none⟩)],.string x,
   undef,undef,undef,undef,undef,undef,undef,undef,undef,undef,undef,undef,undef,undef,undef,undef,undef,undef,undef,undef,undef,undef,undef,undef,undef,undef,undef,undef,undef,undef,undef,undef],defers:=[] }) ?assign ?body ?done ?stop
 case assign =>
  intro l x W K hK
  gi_wp2
  exact hK
 case body =>
  rintro l pre x W ⟨hB,v0,v1,v2,v3,hno⟩ hpx;have hlen:pre.length<322:=by
   have:=hpx.length_le;rw[cO,ac1,aA]at this;simp at this;omega
  have c0:=v0.1;have c1:=v1.1;have f1:=v1.2;have c2:=v2.1;have f2:=v2.2;have c3:=v3.1;have f3:=v3.2
  gi_wp2
  .rename_i hx;have hxs:x=s:=by
    have:=eq_of_beq hx;rw[ByteArray.toList_eq,ByteArray.toList_eq]at this;rw[<-mk_data x,this,mk_data]
   refine⟨λr hr=>((dM _ _ _ _ (by omega)).trans (dM _ _ _ _ (by omega))).trans (dM _ _ _ _ (by omega)),?_,?_,?_,pre,by rw[hxs],hno⟩
   .exact ((hB.setCell (p:=⟨w.heap.size+1+1+1,0,none⟩) (by simp;omega) _).setCell (p:=⟨w.heap.size+1,0,none⟩) (by simp) _).setCell (p:=⟨w.heap.size+1+1,0,none⟩) (by simp;omega) _
   .have:=(((v1.other (c:=w.heap.size+1+1+1) (by omega) (.int .i64 ((pre.length:Int)+1))).set (.int .i64 ((pre.length:Int)+1))).other (c:=w.heap.size+1+1) (by omega) (.bool true));simpa using this
   exact(((v2.other (c:=w.heap.size+1+1+1) (by omega) (.int .i64 ((pre.length:Int)+1))).other (c:=w.heap.size+1) (by omega) (.int .i64 ((pre.length:Int)+1))).set (.bool true))
  rename_i hx;have hxs:s≠x:=λe=>by subst e;simp at hx
  refine⟨λr hr=>dM _ _ _ _ (by omega),?_,?_,?_,?_,?_,?_⟩
  .exact hB.setCell (p:=⟨w.heap.size+1+1+1,0,none⟩) (by simp;omega) _
  .exact v0.other (by omega) _
  .exact v1.other (by omega) _
  .exact v2.other (by omega) _
  .have:=v3.set (.int .i64 ((pre.length:Int)+1));simpa using this
  simp only[cg,dP,mq];exact⟨hno,hxs⟩
 case done =>
  rintro W ⟨hB,v0,v1,v2,v3,hno⟩ hK;have hno':s.data.toList ∉ fJ:=λhm=>hno (mem_mk.2 hm)
  have hps:lW s.data.toList=yf s.data.toList heads:=by unfold lW;rw[NV hno']
  have c0:=v0.1;have c1:=v1.1;have f1:=v1.2;have c2:=v2.1;have f2:=v2.2;have hd:w.heap.size+7<W.heap.size:=(aF.1 hK).1;have hrow:=World.alloc_heap_new W (.cells #[.int .i64 68,.int .i64 84,.int .i64 100] 126);have hT:TF w s W.heap.size (W.alloc (.cells #[.int .i64 68,.int .i64 84,.int .i64 100] 126)):=by
   refine⟨hB.alloc hB.size _,v0.alloc _,v1.alloc _,v2.alloc _,(Below.heap_alloc _ _ _ hd).trans hK,hd,?_,?_,?_⟩;all_goals (unfold World.cell?;simp only[hrow];rfl)
  obtain⟨A,hAe⟩:∃A,W.heap.size=A:=⟨_,rfl⟩;rw[hAe]at hT
  gi_wp2
  gi_loopw [23] (λv wr=>∃k:Nat,((k=0/\v = .int .i64 0)\/(k=1/\v = .int .i64 1)\/(k=2/\v = .int .i64 2)\/(k=3/\v = .int .i64 3))/\TF w s A wr/\yf s.data.toList heads=yf s.data.toList (heads.drop k)) (λv _=>3-(RowKit.intOf v).toNat)
  case atStart=>exact⟨0,.inl ⟨rfl,rfl⟩,hT,rfl⟩
  case round =>
   obtain⟨k,hk,hT,htr⟩:=hrel;rcases hk with⟨rfl,rfl⟩|⟨rfl,rfl⟩|⟨rfl,rfl⟩|⟨rfl,rfl⟩
   .obtain ⟨r,b,hc⟩:∃r b,ye s.data.toList (⟨#[106]⟩:ByteArray).data.toList=(r,b):=⟨_,_,rfl⟩;have hc':ye s.data.toList [106]=(r,b):=hc;obtain⟨c,t,hd⟩:∃c t,vK r=(c,t):=⟨_,_,rfl⟩;have Yn:=CZ r;rw[hd]at Yn;have q0:=hT.v0.1;have Yo:=aix (p:=⟨#[106]⟩) hT hc;have i92:=ac6;have hstep:yf s.data.toList (heads.drop 0)=if b=true/\t=true then (68+c,true) else yf s.data.toList (heads.drop 1):=by
     show yf s.data.toList (([106],68)::heads.drop 1)=_;rw[yf,hc',hd]
    cases b with
    |false =>
     gi_wp2_with (refine⟨trivial,?_⟩;gi_at_call 75;refine Yo.mono ?_;rintro e W2 ⟨rfl,NX⟩)
     go_roundw
     case rel=>exact⟨1,.inr (.inl ⟨rfl,rfl⟩),NX,by rw[htr,hstep];simp⟩
     case measure=>simp[RowKit.intOf]
    |true =>
     cases t with
     |false =>
      gi_wp2_with first|(refine⟨trivial,?_⟩;gi_at_call 75;refine Yo.mono ?_;rintro e W2 ⟨rfl,NX⟩)|(refine⟨trivial,?_⟩;gi_at_call 76;refine(Vb hd NX).mono ?_;rintro e W3 ⟨rfl,uS⟩)
      go_roundw
      case rel=>exact⟨1,.inr (.inl ⟨rfl,rfl⟩),uS,by rw[htr,hstep];simp⟩
      case measure=>simp[RowKit.intOf]
     |true =>
      gi_wp2_with first|(refine⟨trivial,?_⟩;gi_at_call 75;refine Yo.mono ?_;rintro e W2 ⟨rfl,NX⟩)|(refine⟨trivial,?_⟩;gi_at_call 76;refine(Vb hd NX).mono ?_;rintro e W3 ⟨rfl,uS⟩;have b0:=uS.a0;have b1:=uS.a1;have b2:=uS.a2;have b3:=uS.v1.1;have b4:=uS.v1.2;have b5:=uS.v2.1;have b6:=uS.v2.2)
      have hh:=uS.hA;have Xe:((W3.setCell ⟨w.heap.size+1,0,none⟩ (.int .i64 (68+c))).setCell ⟨w.heap.size+1+1,0,none⟩ (.bool true)).heap[w.heap.size+7]? = some (.deferred (some [])) :=
       ((dM _ _ _ _ (by omega)).trans (dM _ _ _ _ (by omega))).trans uS.df
      have g1:=(uS.v1.set (.int .i64 (68+c))).other (c:=w.heap.size+1+1) (by omega) (.bool true);have g2:=(uS.v2.other (c:=w.heap.size+1) (by omega) (.int .i64 (68+c))).set (.bool true);refine⟨by simp,.inl ⟨_,_,rfl,run_takeDeferred Xe,?_⟩⟩;refine⟨_,sF (by rfl) (run_isAgg_plain Tryz.underlying3 rfl) (run_isAgg_plain Tryz.underlying4 rfl) (a:=⟨w.heap.size+1,0,none⟩) (b:=⟨w.heap.size+1+1,0,none⟩) (by rfl) (by rfl) (g1.heap (World.putObj_heap_other (by omega))).1 (g2.heap (World.putObj_heap_other (by omega))).1,?_,?_⟩
      .rw[hps,htr,hstep];rfl
      exact(Lo.putObj (m:=w.heap.size+7) (Bs:=w.heap.size) _ (.deferred none) (aG _)).below ((uS.below.setCell (p:=⟨w.heap.size+1,0,none⟩) (by simp) _).setCell (p:=⟨w.heap.size+1+1,0,none⟩) (by simp;omega) _) (by omega) (aG _)
   .obtain ⟨r,b,hc⟩:∃r b,ye s.data.toList (⟨#[115,101,116]⟩:ByteArray).data.toList=(r,b):=⟨_,_,rfl⟩;have hc':ye s.data.toList [115,101,116]=(r,b):=hc;obtain⟨c,t,hd⟩:∃c t,vK r=(c,t):=⟨_,_,rfl⟩;have Yn:=CZ r;rw[hd]at Yn;have q0:=hT.v0.1;have Yo:=aix (p:=⟨#[115,101,116]⟩) hT hc;have i92:=ac7;have hstep:yf s.data.toList (heads.drop 1)=if b=true/\t=true then (84+c,true) else yf s.data.toList (heads.drop 2):=by
     show yf s.data.toList (([115,101,116],84)::heads.drop 2)=_;rw[yf,hc',hd]
    cases b with
    |false =>
     gi_wp2_with (refine⟨trivial,?_⟩;gi_at_call 75;refine Yo.mono ?_;rintro e W2 ⟨rfl,NX⟩)
     go_roundw
     case rel=>exact⟨2,.inr (.inr (.inl ⟨rfl,rfl⟩)),NX,by rw[htr,hstep];simp⟩
     case measure=>simp[RowKit.intOf]
    |true =>
     cases t with
     |false =>
      gi_wp2_with first|(refine⟨trivial,?_⟩;gi_at_call 75;refine Yo.mono ?_;rintro e W2 ⟨rfl,NX⟩)|(refine⟨trivial,?_⟩;gi_at_call 76;refine(Vb hd NX).mono ?_;rintro e W3 ⟨rfl,uS⟩)
      go_roundw
      case rel=>exact⟨2,.inr (.inr (.inl ⟨rfl,rfl⟩)),uS,by rw[htr,hstep];simp⟩
      case measure=>simp[RowKit.intOf]
     |true =>
      gi_wp2_with first|(refine⟨trivial,?_⟩;gi_at_call 75;refine Yo.mono ?_;rintro e W2 ⟨rfl,NX⟩)|(refine⟨trivial,?_⟩;gi_at_call 76;refine(Vb hd NX).mono ?_;rintro e W3 ⟨rfl,uS⟩;have b0:=uS.a0;have b1:=uS.a1;have b2:=uS.a2;have b3:=uS.v1.1;have b4:=uS.v1.2;have b5:=uS.v2.1;have b6:=uS.v2.2)
      have hh:=uS.hA;have Xe:((W3.setCell ⟨w.heap.size+1,0,none⟩ (.int .i64 (84+c))).setCell ⟨w.heap.size+1+1,0,none⟩ (.bool true)).heap[w.heap.size+7]? = some (.deferred (some [])) :=
       ((dM _ _ _ _ (by omega)).trans (dM _ _ _ _ (by omega))).trans uS.df
      have g1:=(uS.v1.set (.int .i64 (84+c))).other (c:=w.heap.size+1+1) (by omega) (.bool true);have g2:=(uS.v2.other (c:=w.heap.size+1) (by omega) (.int .i64 (84+c))).set (.bool true);refine⟨by simp,.inl ⟨_,_,rfl,run_takeDeferred Xe,?_⟩⟩;refine⟨_,sF (by rfl) (run_isAgg_plain Tryz.underlying3 rfl) (run_isAgg_plain Tryz.underlying4 rfl) (a:=⟨w.heap.size+1,0,none⟩) (b:=⟨w.heap.size+1+1,0,none⟩) (by rfl) (by rfl) (g1.heap (World.putObj_heap_other (by omega))).1 (g2.heap (World.putObj_heap_other (by omega))).1,?_,?_⟩
      .rw[hps,htr,hstep];rfl
      exact(Lo.putObj (m:=w.heap.size+7) (Bs:=w.heap.size) _ (.deferred none) (aG _)).below ((uS.below.setCell (p:=⟨w.heap.size+1,0,none⟩) (by simp) _).setCell (p:=⟨w.heap.size+1+1,0,none⟩) (by simp;omega) _) (by omega) (aG _)
   .obtain ⟨r,b,hc⟩:∃r b,ye s.data.toList (⟨#[99,109,111,118]⟩:ByteArray).data.toList=(r,b):=⟨_,_,rfl⟩;have hc':ye s.data.toList [99,109,111,118]=(r,b):=hc;obtain⟨c,t,hd⟩:∃c t,vK r=(c,t):=⟨_,_,rfl⟩;have Yn:=CZ r;rw[hd]at Yn;have q0:=hT.v0.1;have Yo:=aix (p:=⟨#[99,109,111,118]⟩) hT hc;have i92:=ac8;have hstep:yf s.data.toList (heads.drop 2)=if b=true/\t=true then (100+c,true) else yf s.data.toList (heads.drop 3):=by
     show yf s.data.toList (([99,109,111,118],100)::heads.drop 3)=_;rw[yf,hc',hd]
    cases b with
    |false =>
     gi_wp2_with (refine⟨trivial,?_⟩;gi_at_call 75;refine Yo.mono ?_;rintro e W2 ⟨rfl,NX⟩)
     go_roundw
     case rel=>exact⟨3,.inr (.inr (.inr ⟨rfl,rfl⟩)),NX,by rw[htr,hstep];simp⟩
     case measure=>simp[RowKit.intOf]
    |true =>
     cases t with
     |false =>
      gi_wp2_with first|(refine⟨trivial,?_⟩;gi_at_call 75;refine Yo.mono ?_;rintro e W2 ⟨rfl,NX⟩)|(refine⟨trivial,?_⟩;gi_at_call 76;refine(Vb hd NX).mono ?_;rintro e W3 ⟨rfl,uS⟩)
      go_roundw
      case rel=>exact⟨3,.inr (.inr (.inr ⟨rfl,rfl⟩)),uS,by rw[htr,hstep];simp⟩
      case measure=>simp[RowKit.intOf]
     |true =>
      gi_wp2_with first|(refine⟨trivial,?_⟩;gi_at_call 75;refine Yo.mono ?_;rintro e W2 ⟨rfl,NX⟩)|(refine⟨trivial,?_⟩;gi_at_call 76;refine(Vb hd NX).mono ?_;rintro e W3 ⟨rfl,uS⟩;have b0:=uS.a0;have b1:=uS.a1;have b2:=uS.a2;have b3:=uS.v1.1;have b4:=uS.v1.2;have b5:=uS.v2.1;have b6:=uS.v2.2)
      have hh:=uS.hA;have Xe:((W3.setCell ⟨w.heap.size+1,0,none⟩ (.int .i64 (100+c))).setCell ⟨w.heap.size+1+1,0,none⟩ (.bool true)).heap[w.heap.size+7]? = some (.deferred (some [])) :=
       ((dM _ _ _ _ (by omega)).trans (dM _ _ _ _ (by omega))).trans uS.df
      have g1:=(uS.v1.set (.int .i64 (100+c))).other (c:=w.heap.size+1+1) (by omega) (.bool true);have g2:=(uS.v2.other (c:=w.heap.size+1) (by omega) (.int .i64 (100+c))).set (.bool true);refine⟨by simp,.inl ⟨_,_,rfl,run_takeDeferred Xe,?_⟩⟩;refine⟨_,sF (by rfl) (run_isAgg_plain Tryz.underlying3 rfl) (run_isAgg_plain Tryz.underlying4 rfl) (a:=⟨w.heap.size+1,0,none⟩) (b:=⟨w.heap.size+1+1,0,none⟩) (by rfl) (by rfl) (g1.heap (World.putObj_heap_other (by omega))).1 (g2.heap (World.putObj_heap_other (by omega))).1,?_,?_⟩
      .rw[hps,htr,hstep];rfl
      exact(Lo.putObj (m:=w.heap.size+7) (Bs:=w.heap.size) _ (.deferred none) (aG _)).below ((uS.below.setCell (p:=⟨w.heap.size+1,0,none⟩) (by simp) _).setCell (p:=⟨w.heap.size+1+1,0,none⟩) (by simp;omega) _) (by omega) (aG _)
   have b3:=hT.v1.1;have b4:=hT.v1.2;have b5:=hT.v2.1;have b6:=hT.v2.2
   gi_wp2
   have hh:=hT.hA;have Xe:((wr.setCell ⟨w.heap.size+1,0,none⟩ (.int .i64 0)).setCell ⟨w.heap.size+1+1,0,none⟩ (.bool false)).heap[w.heap.size+7]? = some (.deferred (some [])) :=
    ((dM _ _ _ _ (by omega)).trans (dM _ _ _ _ (by omega))).trans hT.df
   have g1:=(hT.v1.set (.int .i64 0)).other (c:=w.heap.size+1+1) (by omega) (.bool false);have g2:=(hT.v2.other (c:=w.heap.size+1) (by omega) (.int .i64 0)).set (.bool false);refine⟨by simp,.inl ⟨_,_,rfl,run_takeDeferred Xe,?_⟩⟩;refine⟨_,sF (by rfl) (run_isAgg_plain Tryz.underlying3 rfl) (run_isAgg_plain Tryz.underlying4 rfl) (a:=⟨w.heap.size+1,0,none⟩) (b:=⟨w.heap.size+1+1,0,none⟩) (by rfl) (by rfl) (g1.heap (World.putObj_heap_other (by omega))).1 (g2.heap (World.putObj_heap_other (by omega))).1,?_,?_⟩
   .rw[hps,htr];rfl
   exact(Lo.putObj (m:=w.heap.size+7) (Bs:=w.heap.size) _ (.deferred none) (aG _)).below ((hT.below.setCell (p:=⟨w.heap.size+1,0,none⟩) (by simp) _).setCell (p:=⟨w.heap.size+1+1,0,none⟩) (by simp;omega) _) (by omega) (aG _)
 case stop =>
  rintro pre W hpre ⟨hB,v1,v2,l,he,hno⟩ hK
  gi_wp2
  refine⟨by simp,.inl ⟨_,_,rfl,run_takeDeferred hK,?_⟩⟩;refine⟨_,sF (by rfl) (run_isAgg_plain Tryz.underlying3 rfl) (run_isAgg_plain Tryz.underlying4 rfl) (a:=⟨w.heap.size+1,0,none⟩) (b:=⟨w.heap.size+1+1,0,none⟩) (by rfl) (by rfl) (v1.heap (World.putObj_heap_other (by omega))).1 (v2.heap (World.putObj_heap_other (by omega))).1,?_,?_⟩
  .obtain ⟨t,ht⟩:=hpre;have hn:fJ=l.map (λx=>x.data.toList)++s.data.toList::t.map (λx=>x.data.toList):=by
    have h1:=bO (List.map (λx:ByteArray=>x.data.toList)) ht;rw[nC,he]at h1;have h2:((λx:ByteArray=>x.data.toList)∘xy)=id:=funext λ_=>rfl
    rw[h2,List.map_id]at h1;rw[<-h1];simp
   have hl:s.data.toList ∉ l.map (λx=>x.data.toList):=λhm=>by
    obtain⟨x,hx,hxe⟩:=cG.1 hm;exact hno (by rw[<-mk_data s,<-hxe,mk_data];exact hx)
   have hps:lW s.data.toList=((pre.length:Int),true):=by
    unfold lW;rw[hn,NW hl,he];simp;omega
   rw[hps]
  exact(Lo.putObj (m:=w.heap.size+7) (Bs:=w.heap.size) W (.deferred none) (aG _)).below hB (by omega) (aG _)
end Go.Proofs.YtbeckacfibledaaGreatDoor.nm
namespace Go.Proofs.YtbeckacfibledaaGreatDoor.nm
open Go.RowKit
noncomputable section
def knN (f:FuncId)(args:aW):fS :=
 Ev.ah (Nat.beq f 38) (match args with | [.string s]=>some (.tuple #[.int .i64 (lW s.data.toList).1,.bool (lW s.data.toList).2])|_=>none) none
theorem NY (f:FuncId):knN f Ev.qX=none:=by
 unfold knN;rw[Ev.ay];split<;>rfl
theorem NZ (f:FuncId)(s:ByteArray):knN f [Ev.jk,.string s]=none:=by
 unfold knN;rw[Ev.ay];split<;>rfl
theorem aiy:Ev.y4 Tryz.prog knN:=by
 refine Ev.y4.of NY (λf s=>NZ _ s) ?_;intro f args v h w;unfold knN at h;rw[Ev.ay]at h;split at h
 .rename_i a;obtain rfl:=bt a;split at h
  .cases h;exact Ym _ w
  cases h
 cases h
end
end Go.Proofs.YtbeckacfibledaaGreatDoor.nm
namespace Go.Proofs.YtbeckacfibledaaGreatDoor.rg
open Go.Tv Go.Ev
noncomputable section
def space:aW:=(List.range 256).map λi=>.int .u8 (ah (Nat.beq i 32||(Nat.ble 9 i&&Nat.ble i 13)) 1 0)
def gv (g:Nat):aI:=ah (Nat.beq g 8) (space.map Qs) []
def X0:ji:={ P:=Tryz.prog,G:=8+1,gv:=gv }
def gC:fe:=⟨.none,.none,[]⟩
def inl:FuncId->Bool:=λ_=>true
def K0:Wu:=λ_=>none
def c0 (β:Type):dz β:=uc X0 K0 inl 200 β 20
theorem BP (β:Type):dO X0 (eM X0 rX) (c0 β):=mM (by intro id s g h;cases h) (λ_ _ _=>rfl) 200 20 β
theorem nk (f:FuncId)(args:aW):rX f args=none:=rfl
def run (f:FuncId)(args:aI):Option (AV×aH):=aT X0 (c0 (AV×aH)) gC 200 f args aH.empty (λv H=>some (v,H))
def n1:cA:=[[97,108],[99,108],[100,108],[98,108],[115,112,108],[98,112,108],[115,105,108],[100,105,108],[114,56,98],[114,57,98],[114,49,48,98],[114,49,49,98],[114,49,50,98],[114,49,51,98],[114,49,52,98],[114,49,53,98]]
def n2:cA:=[[97,104],[99,104],[100,104],[98,104]]
def n3:cA:=[[97,120],[99,120],[100,120],[98,120],[115,112],[98,112],[115,105],[100,105],[114,56,119],[114,57,119],[114,49,48,119],[114,49,49,119],[114,49,50,119],[114,49,51,119],[114,49,52,119],[114,49,53,119]]
def n4:cA:=[[101,97,120],[101,99,120],[101,100,120],[101,98,120],[101,115,112],[101,98,112],[101,115,105],[101,100,105],[114,56,100],[114,57,100],[114,49,48,100],[114,49,49,100],[114,49,50,100],[114,49,51,100],[114,49,52,100],[114,49,53,100]]
def n5:cA:=[[114,97,120],[114,99,120],[114,100,120],[114,98,120],[114,115,112],[114,98,112],[114,115,105],[114,100,105],[114,56],[114,57],[114,49,48],[114,49,49],[114,49,50],[114,49,51],[114,49,52],[114,49,53]]
def n6:cA:=[[120,109,109,48],[120,109,109,49],[120,109,109,50],[120,109,109,51],[120,109,109,52],[120,109,109,53],[120,109,109,54],[120,109,109,55],[120,109,109,56],[120,109,109,57],[120,109,109,49,48],[120,109,109,49,49],[120,109,109,49,50],[120,109,109,49,51],[120,109,109,49,52],[120,109,109,49,53]]
def n7:cA:=[[121,109,109,48],[121,109,109,49],[121,109,109,50],[121,109,109,51],[121,109,109,52],[121,109,109,53],[121,109,109,54],[121,109,109,55],[121,109,109,56],[121,109,109,57],[121,109,109,49,48],[121,109,109,49,49],[121,109,109,49,50],[121,109,109,49,51],[121,109,109,49,52],[121,109,109,49,53]]
def n8:cA:=[[114,105,112]]
def Yp (c:Int):cA:=ah (bS c 1) n1 (ah (bS c 2) n2 (ah (bS c 3) n3 (ah (bS c 4) n4 (ah (bS c 5) n5 (ah (bS c 6) n6 (ah (bS c 7) n7 (ah (bS c 8) n8 [])))))))
def N5 (c:Int):List gj:=[.room 9 .str (Yp c) (Yp c).length]
def se (c:Int):Bool:=leaves (N5 c) (run 134 [.int .i64 c])
theorem aiz:se 1=true:=by kernel_rfl
theorem aiA:se 2=true:=by kernel_rfl
theorem aiB:se 3=true:=by kernel_rfl
theorem aiC:se 4=true:=by kernel_rfl
theorem aiD:se 5=true:=by kernel_rfl
theorem aiE:se 6=true:=by kernel_rfl
theorem aiF:se 7=true:=by kernel_rfl
theorem aiG:se 8=true:=by kernel_rfl
def QK (args:aI):Option (Bool×List gj) :=
 match args with
 |[.int .i64 c]=>some (!bN c 1 && !bN 8 c,N5 c)
 |_=>none
theorem in8 {c:Int}(h:(!bN c 1 && !bN 8 c)=true):c=1\/c=2\/c=3\/c=4\/c=5\/c=6\/c=7\/c=8:=by
 simp only[dc,ak,aU,bJ]at h;omega
theorem anX:dQ X0 (eM X0 rX) 134 QK :=
 Ya (nk 134) BP gC 200 λargs rs a=>by
  unfold QK at a;split at a
  .rename_i c;simp only[aq,az]at a;obtain⟨b,rfl⟩:=a;have h:se c=true:=by
    rcases in8 b with rfl|rfl|rfl|rfl|rfl|rfl|rfl|rfl
    .exact aiz
    .exact aiA
    .exact aiB
    .exact aiC
    .exact aiD
    .exact aiE
    .exact aiF
    exact aiG
   unfold se run at h;exact h
  cases a
def anY (a:UInt8):Int:=ah (!bN (cS a) 65) (ah (!bN 90 (cS a)) (IntKind.wrap .u8 (cS a+32)) (cS a)) (cS a)
def zU:au->au->Bool
 |[],[]=>true
 |a::s,x::t=>ah (bS (anY a) (cS x)) (zU s t) false
 |_,_=>false
def Vc {β:Type}(k:AV->Option β):List (UInt8×UInt8)->Option β
 |[]=>k (.bool true)
 |(a,x)::l=>ah (!bN (cS a) 65) (ah (!bN 90 (cS a)) (ah (!bS (IntKind.wrap .u8 (cS a+32)) (cS x)) (k (.bool false)) (Vc k l)) (ah (!bS (cS a) (cS x)) (k (.bool false)) (Vc k l)))
  (ah (!bS (cS a) (cS x)) (k (.bool false)) (Vc k l))
def HY (s t:au)(rounds:Nat)(k:AV->bx):bx:=aT X0 (c0 AV) gC rounds 135 [.str s,.str t] aH.empty (λv _=>k v)
theorem Yq (s t:au)(k:AV->bx):HY s t 0 k=ah (!bS ↑s.length ↑t.length) (k (.bool false)) none:=by kernel_rfl
theorem anZ (k:AV->bx):HY [] [] 9 k=Vc k []:=by kernel_rfl
theorem an1 (a0 a:UInt8)(k:AV->bx):HY [a0] [a] 9 k=Vc k [(a0,a)]:=by kernel_rfl
theorem an2 (a0 a1 a x1:UInt8)(k:AV->bx):HY [a0,a1] [a,x1] 9 k=Vc k [(a0,a),(a1,x1)]:=by kernel_rfl
theorem an3 (a0 a1 a2 a x1 b:UInt8)(k:AV->bx):HY [a0,a1,a2] [a,x1,b] 9 k=Vc k [(a0,a),(a1,x1),(a2,b)]:=by kernel_rfl
theorem an4 (a0 a1 a2 a b x1 c d:UInt8)(k:AV->bx):HY [a0,a1,a2,a] [b,x1,c,d] 9 k=Vc k [(a0,b),(a1,x1),(a2,c),(a,d)]:=by kernel_rfl
theorem an5 (a0 a1 a2 a b c x1 d e f:UInt8)(k:AV->bx):HY [a0,a1,a2,a,b] [c,x1,d,e,f] 9 k=Vc k [(a0,c),(a1,x1),(a2,d),(a,e),(b,f)]:=by kernel_rfl
theorem AG {β:Type}(k:AV->Option β):∀l:List (UInt8×UInt8),Vc k l=k (.bool (zU (l.map (·.1)) (l.map (·.2))))
 |[]=>rfl
 |(a,x)::l=>by
  simp only[Vc,dH,zU,anY,AG k l];cases bN (cS a) 65<;>cases bN 90 (cS a)<;>simp only[Bool.not_true,Bool.not_false,anO,Yb]
  .cases bS (IntKind.wrap .u8 (cS a+32)) (cS x)<;>rfl
  all_goals (cases bS (cS a) (cS x)<;>rfl)
theorem I3:∀{s t:au},s.length≠t.length->zU s t=false
 |[],[],h=>absurd rfl h
 |[],_::_,_=>rfl
 |_::_,[],_=>rfl
 |a::s,x::t,h=>by
  simp only[zU,ay];split
  .exact I3 (by simpa using h)
  rfl
theorem Fe (s t:au)(h:t.length<=5)(k:AV->bx):∃rounds,HY s t rounds k=k (.bool (zU s t)):=by
 by_cases b:s.length=t.length
 .refine ⟨9,?_⟩
  match s,t,b,h with
  |[],[],_,_=>exact(anZ k).trans (AG k _)
  |[a0],[a],_,_=>exact(an1 a0 a k).trans (AG k _)
  |[a0,a1],[a,x1],_,_=>exact(an2 a0 a1 a x1 k).trans (AG k _)
  |[a0,a1,a2],[a,x1,c],_,_=>exact(an3 a0 a1 a2 a x1 c k).trans (AG k _)
  |[a0,a1,a2,d],[a,x1,c,e],_,_=>exact(an4 a0 a1 a2 d a x1 c e k).trans (AG k _)
  |[a0,a1,a2,d,f],[a,x1,c,e,g],_,_=>exact(an5 a0 a1 a2 d f a x1 c e g k).trans (AG k _)
  |_::_::_::_::_::_::_,_,b,h=>simp at b;omega
 refine⟨0,?_⟩;rw[Yq,I3 b];have:bS (↑s.length:Int) (↑t.length)=false:=by rw[fD];simpa using λh=>b (by omega)
 rw[this];rfl
def Yr (args:aI):Option (Bool×List gj) :=
 match args with
 |[.str s,.str t]=>some (Nat.ble t.length 5,[.val (.bool (zU s t))])
 |_=>none
theorem an6:dQ X0 (eM X0 rX) 135 Yr :=
 dG (nk 135) BP λargs rs a=>by
  unfold Yr at a;split at a
  .rename_i s t;simp only[aq,az]at a;obtain⟨b,rfl⟩:=a;obtain⟨r,c⟩:=Fe s t (aB b) some;exact⟨[.bool (zU s t)],gC,r,c,rfl,rfl⟩
  cases a
def K1:Wu:=λf=>ah (Nat.beq f 134) (some ([none],QK)) (ah (Nat.beq f 135) (some ([none,none],Yr)) none)
def c1 (β:Type):dz β:=uc X0 K1 inl 200 β 20
theorem an7 (id:FuncId)(sig:List (Option Ty))(g:aI->Option (Bool×List gj))(h:K1 id=some (sig,g)):dQ X0 (eM X0 rX) id g:=by
 simp only[K1,ay,aQ]at h;split at h
 .rename_i a;cases h;subst a;exact anX
 split at h
 .rename_i a;cases h;subst a;exact an6
 cases h
theorem I4 (β:Type):dO X0 (eM X0 rX) (c1 β):=mM an7 (λ_ _ _=>rfl) 200 20 β
def num (c:Int):cA->Int->List (au×Int×Int)
 |[],_=>[]
 |s::l,i=>(s,c,i)::num c l (i+1)
def tbl:List (au×Int×Int):=num 1 n1 0++(num 2 n2 4++(num 3 n3 0++(num 4 n4 0++(num 5 n5 0++(num 6 n6 0++(num 7 n7 0++num 8 n8 0))))))
def trP {β:Type}(s:au)(k:Int->Int->Bool->Option β):List (au×Int×Int)->Option β
 |[]=>k 0 0 false
 |e::l=>ah (zU s e.1) (k e.2.1 e.2.2 true) (trP s k l)
theorem QL (s:au)(k:AV->bx):aT X0 (c1 AV) gC 20 106 [.str s] aH.empty (λv _=>k v)=trP s (λc n ok=>k (.gI [.agg [.int .i64 c,.int .i64 n],.bool ok])) tbl:=by kernel_rfl
def fnd (s:au):List (au×Int×Int)->Int×Int×Bool
 |[]=>(0,0,false)
 |e::l=>ah (zU s e.1) (e.2.1,e.2.2,true) (fnd s l)
def pR (s:au):Int×Int×Bool:=fnd s tbl
theorem Ys {β:Type}(s:au)(k:Int->Int->Bool->Option β):∀l,trP s k l=k (fnd s l).1 (fnd s l).2.1 (fnd s l).2.2
 |[]=>rfl
 |e::l=>by
  simp only[trP,fnd,Ys s k l,ay];split<;>rfl
theorem j6:Ev.j6 Tryz.prog:=Ev.Na (by kernel_rfl)
theorem mixed:Tryz.prog.follows .mixedOrders=true:=by kernel_rfl
theorem kE {w:World}{rows:List kV}{b1:kV}(b:rows[8]? = some b1)(c:b1.live=true)(a:b1.cells=space)(d:mG rows w):gi X0 (wO w):=by
 refine I1 d λg h f=>?_
 by_cases e:g=8
 .subst e;exact⟨b1,b,c,by rw[a];rfl,by rw[a];kernel_rfl⟩
 exact absurd (by show ah (Nat.beq g 8) (space.map Qs) []=[];rw[ay,aa (by rw[aQ];exact e)]) f
theorem ada {S:Wo}{c n:Int}{b:Bool}{v:Value}(h:VR S (.gI [.agg [.int .i64 c,.int .i64 n],.bool b]) v):v = .tuple #[.agg #[.int .i64 c,.int .i64 n],.bool b]:=by
 cases h with
 |gI l m e d =>
  match m,e with
  |[x,y],_ =>
   have f:=(d 1 _ y rfl rfl).nO;have g:=d 0 _ x rfl rfl;subst f;cases g with
   |agg o i j a =>
    match i,j with
    |[p,q],_ =>
     have k:=(a 0 _ p rfl rfl).gW;have e2:=(a 1 _ q rfl rfl).gW;subst k;subst e2;rfl
theorem Vd (s:ByteArray){w:World}(b:8+1<=w.heap.size)(a:gi X0 (wO w)):Calls Tryz.prog 106 #[.string s] w λe w'=>e = .returned (.tuple #[.agg #[.int .i64 (pR s.data.toList).1,.int .i64 (pR s.data.toList).2.1],.bool (pR s.data.toList).2.2])/\RowKit.Below w.heap.size w w' :=
 KX (X:=X0) j6 mixed wF (v:=.gI [.agg [.int .i64 (pR s.data.toList).1,.int .i64 (pR s.data.toList).2.1],.bool (pR s.data.toList).2.2]) (λS x c=>ada c) rfl
  (λS E d f a g=>BN (nk 106) I4 ((QL s.data.toList some).trans (Ys s.data.toList _ tbl)) S E d f a g) b a (args':=[.string s]) (LV.cons (nm.AF w s) LV.nil) rfl
def kR (f:FuncId)(args:aW):fS :=
 ah (Nat.beq f 106) (match args with | [.string s]=>some (.tuple #[.agg #[.int .i64 (pR s.data.toList).1,.int .i64 (pR s.data.toList).2.1],.bool (pR s.data.toList).2.2])|_=>none) (nm.knN f args)
theorem an8 {GR:List kV}{b1:kV}(b:GR[8]? = some b1)(d:b1.live=true)(e:b1.cells=space):lR Tryz.prog GR kR:=by
 refine⟨λf args v h a w c=>?_,λf u h=>?_,λf s items h _=>?_⟩
 .unfold kR at h;rw[ay]at h;split at h
  .rename_i g;obtain rfl:=bt g;split at h
   .cases h;have:8<GR.length:=(bH.1 b).1;exact Vd _ (by have:=c.1;omega) (kE b d e c)
   cases h
  exact nm.aiy.calls f args v h a w (mG.nil w)
 .unfold kR at h;rw[ay]at h;split at h
  .cases h
  rw[nm.NY]at h;cases h
 unfold kR at h;rw[ay]at h;split at h
 .cases h
 rw[nm.NZ]at h;cases h
def eqV:Value->Value->Bool
 |.int k a,.int c b=>decide (k=c)&&bS a b
 |.string a,.string b=>qj a.data.toList b.data.toList
 |_,_=>false
theorem ni:∀{a b:au},qj a b=true->a=b
 |[],[],_=>rfl
 |[],_::_,h=>by cases h
 |_::_,[],h=>by cases h
 |x::a,y::b,h=>by
  unfold qj at h;rw[ay]at h;split at h
  .rename_i c;have c:x=y:=lp.1 (bt c);rw[c,ni h]
  cases h
theorem Yt {a b:Value}(h:eqV a b=true):a=b:=by
 unfold eqV at h;split at h
 .simp only[ak,aZ,fD,fL]at h;rw[h.1,h.2]
 .rename_i a b;have:=ni h;congr 1
  exact ByteArray.ext (kN this)
 cases h
def Ve:aW->aW->Bool
 |[],[]=>true
 |a::l,b::m=>ah (eqV a b) (Ve l m) false
 |_,_=>false
theorem I5:∀{a b:aW},Ve a b=true->a=b
 |[],[],_=>rfl
 |[],_::_,h=>by cases h
 |_::_,[],h=>by cases h
 |x::a,y::b,h=>by
  unfold Ve at h;rw[ay]at h;split at h
  .rename_i c;rw[Yt c,I5 h]
  cases h
def F5 (f:FuncId)(args:aW):List (FuncId×aW)->Bool
 |[]=>false
 |q::T=>ah (Nat.beq f q.1) (ah (Ve args q.2) true (F5 f args T)) (F5 f args T)
theorem C3 {f:FuncId}{args:aW}:∀{T:List (FuncId×aW)},F5 f args T=true->(f,args)∈T
 |[],h=>by cases h
 |q::T,h=>by
  unfold F5 at h;rw[ay,ay]at h;split at h
  .rename_i c;split at h
   .rename_i d;have e:=bt c;have e2:=I5 d;obtain⟨a,b⟩:=q;subst e;subst e2;exact cq ..
   exact bI _ (C3 h)
  exact bI _ (C3 h)
theorem I6 (f:FuncId)(s:ByteArray):∀T:List (FuncId×aW),F5 f [jk,.string s] T=false
 |[]=>rfl
 |q::T=>by
  have:Ve [jk,.string s] q.2=false:=by
   obtain⟨g,l⟩:=q;cases l with
   |nil=>rfl
   |cons x l=>cases x<;>rfl
  unfold F5;rw[this,I6 f s T];rw[ay,ay];split<;>rfl
theorem I7 (f:FuncId):∀T:List (FuncId×aW),F5 f qX T=false
 |[]=>rfl
 |q::T=>by
  have:Ve qX q.2=false:=by
   obtain⟨g,l⟩:=q;cases l with
   |nil=>rfl
   |cons x l=>cases x<;>rfl
  unfold F5;rw[this,I7 f T];rw[ay,ay];split<;>rfl
def kT (T:List (FuncId×aW))(K:fZ):fZ:=λf args=>ah (F5 f args T) (some (.bool true)) (K f args)
theorem an9 {P:Program}{GR:List kV}{K:fZ}{T:List (FuncId×aW)}(c:lR P GR K)(h:∀q∈T,∀w,mG GR w->Calls P q.1 q.2.toArray w λe w'=>e = .returned (.bool true)/\RowKit.Below w.heap.size w w'):lR P GR (kT T K):=by
 refine⟨λf args v a b w g=>?_,λf u a=>?_,λf s items a d=>?_⟩
 .unfold kT at a;rw[ay]at a;split at a
  .rename_i i;cases a;exact h (f,args) (C3 i) w g
  exact c.calls f args v a b w g
 .unfold kT at a;rw[I7]at a;exact c.Xi f u a
 unfold kT at a;rw[I6]at a;exact c.Xj f s items a d
end
end Go.Proofs.YtbeckacfibledaaGreatDoor.rg

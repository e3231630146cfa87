/- Sources: items, so many times: what stands in each round is open. Sources: items, so many times: the contract of put. Sources: put, in the table. Sources: what lines do, as it runs: labels, instructions, equ, align, org, endstruc, res. Sources: the contract of Powers. -/
import Derived.Test.YtbeckacfibledaaGreatDoorGxb
import Derived.Test.YtbeckacfibledaaGreatDoorGrc
import Derived.Test.YtbeckacfibledaaGreatDoorLyh
set_option linter.unusedVariables false
set_option linter.unusedSimpArgs false

namespace Go.Proofs.YtbeckacfibledaaGreatDoor.ps.sr
open Go.Tv Go.Ev Go.Px Go.Pp Go.Proofs.YtbeckacfibledaaGreatDoor.ex
set_option maxRecDepth 100000
noncomputable section
def rdQ (cs:List Row)(s:SS)(nb:Nat):List Row:=.cells 70 (Y9 (cs.length+1) (cs.length+2) (cs.length+3) s.aH.length nb s)::(cs++[.mp 68 s.aI,.list 59 iz s.aH 0 false false,.list 52 rO s.av 0 false false])
def jc (cs:List Row)(s:SS)(e:Int):OG:=some (.int .i64 e,vA s cs)
def pP:List Bool:=[true,true,true,true,false,true,false]
def HQ:ez:=⟨gZ [0,4,49,50] pP,.none,[]⟩
def jP (G:List AJ)(F:AV)(cs:List Row)(s:SS)(nb r m:Nat)(ai i:Int):OG:=iH X0 (cV S1 N2 G _) HQ r 82 pP gy m (lq 55 [(0,.ptr 0 0),(4,F),(49,.int .i64 ai),(50,.int .i64 i)]) (eT (cs.length+2) (rdQ cs s nb))
theorem Ya {ai:Int}{s:SS}{cs:List Row}{l:List It}{J:List It->Nat->Nat->Int->OG}
 (step:∀it nb m i,it.length+l.length<=1000000->∃nb',J it nb (m+1) i=ah (bB i ai) (J (it++l) nb' m (IntKind.wrap .i64 (i+1))) (jc cs (gS s it) 0)) (hl:l.length<=100000) (ht:ai<=1000000) :
 ∀(q m nb:Nat) (it:List It) (i:Int),0<=i->i+q=ai->q<m->it.length+l.length*q<=100000->J it nb m i=jc cs (gS s (it++(List.replicate q l).flatten)) 0:=by
 intro q;induction q with
 |zero =>
  intro m nb it i h0 hi hm hn;obtain⟨m,rfl⟩:∃m',m=m'+1:=⟨m-1,by omega⟩;obtain⟨nb',e⟩:=step it nb m i (by omega);rw[e,fH (by omega)];show jc _ _ _=_;simp
 |succ q ih =>
  intro m nb it i h0 hi hm hn;obtain⟨m,rfl⟩:∃m',m=m'+1:=⟨m-1,by omega⟩;rw[Nat.mul_succ]at hn;obtain⟨nb',e⟩:=step it nb m i (by omega);rw[e,qG (by omega)];show J _ _ _ _=_;rw[i64_in (n:=i+1) (by omega) (by omega),ih m nb' (it++l) (i+1) (by omega) (by omega) (by omega) (by rw[aA];omega),jk,j6,bJ]
def MM (av aD ai:Int)(cs:List Row)(s:SS)(go:OG):OG :=
 (λsecond:OG=>ah (bB 0 av) (ah (bI av 0) none (ah (bB (IntKind.wrap .i64 (Int.tdiv (IntKind.wrap .i64 (20000-(s.av.length:Int))) av)) ai) (jc cs s 3) second)) second)
  (ah (bB 0 aD) (ah (bI aD 0) none (ah (bB (IntKind.wrap .i64 (Int.tdiv (IntKind.wrap .i64 (1048576-s.aD)) aD)) ai) (jc cs s 3) go)) go)
def eH (cs:List Row)(r:SR'):OG:=jc cs r.1 r.2
theorem tdiv_le {a b:Int}(h0:0<=a)(h1:1<=b):0<=Int.tdiv a b/\Int.tdiv a b<=a:=by
 rw[dg h0];exact⟨Int.ediv_nonneg h0 (by omega),Int.ediv_le_self b h0⟩
def okB (s:SS):Bool := !bB s.aD 0 && !bB 1048576 s.aD
theorem MN {s:SS}(h:okB s=true):0<=s.aD/\s.aD<=1048576:=by
 unfold okB at h;rw[cA,cA]at h;simp at h;omega
theorem HR {s:SS}(hs:zq s=true)(hb:okB s=true){cs:List Row}{av aD ai:Int}{l:List It}(hl:(l.length:Int)=av)(h1:1<=av)(h2:av<=100000)(b0:0<=aD)(b1:aD<=1000000000000)(t0:0<=ai){J:SS->List It->Nat->Nat->Int->OG}
 (step:∀(b:Int) (it:List It) nb m i,it.length+l.length<=1000000->∃nb',J { s with aD:=b } it nb (m+1) i=ah (bB i ai) (J { s with aD:=b } (it++l) nb' m (IntKind.wrap .i64 (i+1))) (jc cs (gS { s with aD:=b } it) 0)) {T:OG}
 (enter:T=MM av aD ai cs s (J { s with aD:=IntKind.wrap .i64 (s.aD+IntKind.wrap .i64 (aD*ai)) } s.av s.av.length 100000 0)):T=eH cs (ko s av aD ai l):=by
 obtain⟨_,_,_,hn⟩:=sR hs;obtain⟨c0,c1⟩:=MN hb;rw[enter];unfold MM ko;have e1:IntKind.wrap .i64 (20000-(s.av.length:Int))=20000-(s.av.length:Int):=i64_in (by omega) (by omega);obtain⟨d1,d2⟩:=tdiv_le (a:=20000-(s.av.length:Int)) (b:=av) (by omega) h1;rw[qG (show (0:Int)<av by omega),xT (show av≠0 by omega),e1,i64_in (n:=Int.tdiv (20000-(s.av.length:Int)) av) (by omega) (by omega)];show ah _ _ _=_;rw[cF];by_cases ht:Int.tdiv (20000-(s.av.length:Int)) av<ai
 .rw[ag ht,ag ⟨by omega,ht⟩];rfl
 rw[aa ht,aa (λq=>ht q.2)];have ht2:av*ai<=20000-(s.av.length:Int):=by
  have h3:=dz (show ai<=Int.tdiv (20000-(s.av.length:Int)) av by omega) (show (0:Int)<=av by omega);rw[dg (by omega)]at h3;have h4:=iT (x:=20000-(s.av.length:Int)) (k:=av) (by omega);omega
 have ht3:ai<=20000:=by
  have:=gC h1 t0;omega
 have go:∀(hbt:aD*ai<=1048576),J { s with aD:=IntKind.wrap .i64 (s.aD+IntKind.wrap .i64 (aD*ai)) } s.av s.av.length 100000 0=eH cs ({ s with aD:=s.aD+aD*ai,av:=s.av++(List.replicate ai.toNat l).flatten },0):=λhbt=>by
  have hb0:0<=aD*ai:=mI b0 t0;rw[i64_in (n:=aD*ai) (by omega) (by omega),i64_in (n:=s.aD+aD*ai) (by omega) (by omega)];refine(Ya (s:={ s with aD:=s.aD+aD*ai }) (J:=J { s with aD:=s.aD+aD*ai }) (ai:=ai) (cs:=cs) (l:=l) (λit nb m i h=>step _ it nb m i h) (by omega) (by omega) ai.toNat 100000 s.av.length s.av 0 (bE 0) (by omega) (by omega) ?_).trans rfl;have:((l.length*ai.toNat:Nat):Int)=av*ai:=by
   rw[jF,hl,Int.toNat_of_nonneg t0]
  omega
 rw[cF];by_cases x9:0<aD
 .have e2:IntKind.wrap .i64 (1048576-s.aD)=1048576-s.aD:=i64_in (by omega) (by omega);obtain⟨d3,d4⟩:=tdiv_le (a:=1048576-s.aD) (b:=aD) (by omega) (by omega);rw[ag x9,xT (show aD≠0 by omega),e2,i64_in (n:=Int.tdiv (1048576-s.aD) aD) (by omega) (by omega)];show ah _ _ _=_;rw[cF];by_cases ht4:Int.tdiv (1048576-s.aD) aD<ai
  .rw[ag ht4,ag ⟨x9,ht4⟩];rfl
  rw[aa ht4,aa (λq=>ht4 q.2)];refine go ?_;have h3:=dz (show ai<=Int.tdiv (1048576-s.aD) aD by omega) b0;rw[dg (by omega)]at h3;have h4:=iT (x:=1048576-s.aD) (k:=aD) (by omega);omega
 rw[aa x9,aa (λq=>x9 q.1)];have:aD=0:=by omega
 exact go (by rw[this,Int.zero_mul];omega)
theorem sV {β:Type}{n:Nat}(h:n<=1000000)(k:Option β):nN n k=k:=by unfold nN;rw[dS (by omega)]
theorem Yb {β:Type}{p:Int}(h0:0<=p)(h1:p<=2000000)(k:Option β):FC p k=k:=by
 unfold FC;rw[fH (a:=p) (b:=0) (by omega),fH (a:=p) (b:=p) (by omega),fH (a:=2000000) (by omega)];rfl
def Yc (a b:Nat):Bool:=Nat.beq a a&&Nat.beq b b
theorem qN (a b:Nat):Yc a b=true:=by unfold Yc;simp
def HS (s:SS)(a av b ai:Int):Bool:=zq s&&(okB s&&(bI av a&&(!bB b 0&&(!bB 1000000000000 b && !bB ai 0))))
theorem uD {s:SS}{a av b ai:Int}(h:HS s a av b ai=true):zq s=true/\okB s=true/\av=a/\0<=b/\b<=1000000000000/\0<=ai:=by
 unfold HS at h;simp only[ak]at h;obtain⟨h1,h2,h3,h4,h5,h6⟩:=h;rw[cA]at h4 h5 h6;rw[eF]at h3;simp at h3 h4 h5 h6;exact⟨h1,h2,h3,h4,h5,h6⟩
def ahf (n:Int):List Int:=List.take n.toNat (List.drop 0 (List.replicate n.toNat (0:Int)))
theorem abC (n:Int):ahf n=List.replicate n.toNat 0:=by
 unfold ahf;rw[j4,cU (by simp)]
def cs1 (w:List UInt8):List Row:=[PE 0,.cells 9 [.str w]]
def it1 (az:Int)(w:List UInt8):List It:=[(az,1,w,(0,0,[]),[],[],0)]
abbrev fn1:AV:=.fn 83 [] [.ptr 1 0,.ptr 2 0]
theorem ahh (w:List UInt8)(fJ:Int)(aH:List Sy)(av:List It)(aI:List (List UInt8×Int))(lab:List UInt8)(opn:Bool)(bp:List UInt8)(aN:Int)(aR:Bool)(aD az:Int)(nb r m:Nat)(ai i:Int):jP G3 fn1 (cs1 w) ⟨fJ,aH,av,aI,lab,opn,bp,aN,aR,aD,az⟩ nb r (m+1) ai i=ah (bB i ai) (nN av.length (jP G3 fn1 (cs1 w) ⟨fJ,aH,(av++it1 az w),aI,lab,opn,bp,aN,aR,aD,az⟩ (av.length+1) r m ai (IntKind.wrap .i64 (i+1)))) (jc (cs1 w) ⟨fJ,aH,av,aI,lab,opn,bp,aN,aR,aD,az⟩ 0):=by kernel_rfl
theorem abD (w:List UInt8)(fJ:Int)(aH:List Sy)(av:List It)(aI:List (List UInt8×Int))(lab:List UInt8)(opn:Bool)(bp:List UInt8)(aN:Int)(aR:Bool)(aD az:Int)(q b ai:Int)(r:Nat):aT X0 (cV S1 N2 G3 _) HQ r 82 [.ptr 0 0,.int .i64 q,.int .i64 b,.int .i64 ai,fn1] (eT 4 (vA ⟨fJ,aH,av,aI,lab,opn,bp,aN,aR,aD,az⟩ (cs1 w))) gy=MM q b ai (cs1 w) ⟨fJ,aH,av,aI,lab,opn,bp,aN,aR,aD,az⟩ (jP G3 fn1 (cs1 w) ⟨fJ,aH,av,aI,lab,opn,bp,aN,aR,IntKind.wrap .i64 (aD+IntKind.wrap .i64 (b*ai)),az⟩ av.length r r ai 0):=by kernel_rfl
theorem alN (w:List UInt8){s:SS}{q b ai:Int}(h:HS s 1 q b ai=true):aT X0 (cV S1 N2 G3 _) HQ 100000 82 [.ptr 0 0,.int .i64 q,.int .i64 b,.int .i64 ai,fn1] (eT 4 (vA s (cs1 w))) gy=eH (cs1 w) (ko s q b ai (it1 s.az w)):=by
 obtain⟨h1',h2,h3,h4,h5,h6⟩:=uD h;refine HR h1' h2 (l:=it1 s.az w) (by rw[h3];rfl) (by omega) (by omega) h4 h5 h6 (J:=λs' it nb m i=>jP G3 fn1 (cs1 w) (gS s' it) nb 100000 m ai i) (λb' it nb m i hn=>?_) ?_
 .refine ⟨it.length+1,?_⟩;have hn:it.length+1<=1000000:=hn;have e:jP G3 fn1 (cs1 w) (gS { s with aD:=b' } it) nb 100000 (m+1) ai i=ah (bB i ai) (nN it.length (jP G3 fn1 (cs1 w) (gS { s with aD:=b' } (it++it1 s.az w)) (it.length+1) 100000 m ai (IntKind.wrap .i64 (i+1)))) (jc (cs1 w) (gS { s with aD:=b' } it) 0):=by
   cases s;exact ahh ..
  refine e.trans ?_;rw[sV (by omega)]
  skip
 cases s;exact abD ..
def FP (c:List UInt8)(op aM:Int)(l:List Raw):List Row:=[scR c,.cells 36 [.int .i64 op,.int .i64 aM,.dH jV l],PE 0]
def it2 (az:Int)(c:List UInt8)(op aM:Int)(l:List Raw):List It:=[(az,2,[],(op,aM,(JN c l).1),[],[],0)]
abbrev fn2:AV:=.fn 89 [] [.ptr 1 0,.ptr 2 0,.ptr 3 0]
theorem ahi (c:List UInt8)(op aM:Int)(l:List Raw)(fJ:Int)(aH:List Sy)(av:List It)(aI:List (List UInt8×Int))(lab:List UInt8)(opn:Bool)(bp:List UInt8)(aN:Int)(aR:Bool)(aD az:Int)(nb r m:Nat)(ai i:Int):jP G3 fn2 (FP c op aM l) ⟨fJ,aH,av,aI,lab,opn,bp,aN,aR,aD,az⟩ nb r (m+1) ai i=ah (bB i ai) (ah (Nat.ble c.length 2000000&&nZ l) (nN av.length (jP G3 fn2 (FP c op aM l) ⟨fJ,aH,(av++it2 az c op aM l),aI,lab,opn,bp,aN,aR,aD,az⟩ (av.length+1) r m ai (IntKind.wrap .i64 (i+1)))) none) (jc (FP c op aM l) ⟨fJ,aH,av,aI,lab,opn,bp,aN,aR,aD,az⟩ 0):=by kernel_rfl
theorem abE (c:List UInt8)(op aM:Int)(l:List Raw)(fJ:Int)(aH:List Sy)(av:List It)(aI:List (List UInt8×Int))(lab:List UInt8)(opn:Bool)(bp:List UInt8)(aN:Int)(aR:Bool)(aD az:Int)(q b ai:Int)(r:Nat):aT X0 (cV S1 N2 G3 _) HQ r 82 [.ptr 0 0,.int .i64 q,.int .i64 b,.int .i64 ai,fn2] (eT 5 (vA ⟨fJ,aH,av,aI,lab,opn,bp,aN,aR,aD,az⟩ (FP c op aM l))) gy=MM q b ai (FP c op aM l) ⟨fJ,aH,av,aI,lab,opn,bp,aN,aR,aD,az⟩ (jP G3 fn2 (FP c op aM l) ⟨fJ,aH,av,aI,lab,opn,bp,aN,aR,IntKind.wrap .i64 (aD+IntKind.wrap .i64 (b*ai)),az⟩ av.length r r ai 0):=by kernel_rfl
theorem alO (c:List UInt8)(op aM:Int)(l:List Raw)(hc:c.length<=2000000)(hl:nZ l=true){s:SS}{q b ai:Int}(h:HS s 1 q b ai=true):aT X0 (cV S1 N2 G3 _) HQ 100000 82 [.ptr 0 0,.int .i64 q,.int .i64 b,.int .i64 ai,fn2] (eT 5 (vA s (FP c op aM l))) gy=eH (FP c op aM l) (ko s q b ai (it2 s.az c op aM l)):=by
 obtain⟨h1',h2,h3,h4,h5,h6⟩:=uD h;refine HR h1' h2 (l:=it2 s.az c op aM l) (by rw[h3];rfl) (by omega) (by omega) h4 h5 h6 (J:=λs' it nb m i=>jP G3 fn2 (FP c op aM l) (gS s' it) nb 100000 m ai i) (λb' it nb m i hn=>?_) ?_
 .refine ⟨it.length+1,?_⟩;have hn:it.length+1<=1000000:=hn;have e:jP G3 fn2 (FP c op aM l) (gS { s with aD:=b' } it) nb 100000 (m+1) ai i=ah (bB i ai) (ah (Nat.ble c.length 2000000&&nZ l) (nN it.length (jP G3 fn2 (FP c op aM l) (gS { s with aD:=b' } (it++it2 s.az c op aM l)) (it.length+1) 100000 m ai (IntKind.wrap .i64 (i+1)))) none) (jc (FP c op aM l) (gS { s with aD:=b' } it) 0):=by
   cases s;exact ahi ..
  refine e.trans ?_;rw[dS hc,hl];show ah _ (nN _ _) _=_;rw[sV (by omega)]
  skip
 cases s;exact abE ..
def TD (x:RS)(c:List UInt8):List Row:=[ML x,PE 0,scR c]
def it3 (az:Int)(x:RS)(c:List UInt8):List It:=(x.data.map (X8 az c x.sz))
abbrev fn3:AV:=.fn 91 [] [.ptr 1 0,.ptr 2 0,.ptr 3 0]
theorem ahk (a0:Int)(iF:List UInt8)(aF sz op aM:Int)(args:List Raw)(data:List Dt)(xx dO:List Nd)(e0 f0:Int)(c:List UInt8)(fJ:Int)(aH:List Sy)(av:List It)(aI:List (List UInt8×Int))(lab:List UInt8)(opn:Bool)(bp:List UInt8)(aN:Int)(aR:Bool)(aD az:Int)(nb r m:Nat)(ai i:Int):jP G3 fn3 (TD ⟨a0,iF,aF,sz,op,aM,args,data,xx,dO,e0,f0⟩ c) ⟨fJ,aH,av,aI,lab,opn,bp,aN,aR,aD,az⟩ nb r (m+1) ai i=ah (bB i ai) (ah (Yc aH.length av.length&&(Nat.ble c.length 2000000&&(CC sz&&(Kb data&&Nat.ble (av.length+data.length) 1000000)))) (jP G3 fn3 (TD ⟨a0,iF,aF,sz,op,aM,args,data,xx,dO,e0,f0⟩ c) ⟨fJ,aH,(av++data.map (X8 az c sz)),aI,lab,opn,bp,aN,aR,aD,az⟩ (av++data.map (X8 az c sz)).length r m ai (IntKind.wrap .i64 (i+1))) none) (jc (TD ⟨a0,iF,aF,sz,op,aM,args,data,xx,dO,e0,f0⟩ c) ⟨fJ,aH,av,aI,lab,opn,bp,aN,aR,aD,az⟩ 0):=by kernel_rfl
theorem abF (a0:Int)(iF:List UInt8)(aF sz op aM:Int)(args:List Raw)(data:List Dt)(xx dO:List Nd)(e0 f0:Int)(c:List UInt8)(fJ:Int)(aH:List Sy)(av:List It)(aI:List (List UInt8×Int))(lab:List UInt8)(opn:Bool)(bp:List UInt8)(aN:Int)(aR:Bool)(aD az:Int)(q b ai:Int)(r:Nat):aT X0 (cV S1 N2 G3 _) HQ r 82 [.ptr 0 0,.int .i64 q,.int .i64 b,.int .i64 ai,fn3] (eT 5 (vA ⟨fJ,aH,av,aI,lab,opn,bp,aN,aR,aD,az⟩ (TD ⟨a0,iF,aF,sz,op,aM,args,data,xx,dO,e0,f0⟩ c))) gy=MM q b ai (TD ⟨a0,iF,aF,sz,op,aM,args,data,xx,dO,e0,f0⟩ c) ⟨fJ,aH,av,aI,lab,opn,bp,aN,aR,aD,az⟩ (jP G3 fn3 (TD ⟨a0,iF,aF,sz,op,aM,args,data,xx,dO,e0,f0⟩ c) ⟨fJ,aH,av,aI,lab,opn,bp,aN,aR,IntKind.wrap .i64 (aD+IntKind.wrap .i64 (b*ai)),az⟩ av.length r r ai 0):=by kernel_rfl
theorem alP (x:RS)(c:List UInt8)(hc:c.length<=2000000)(hz:CC x.sz=true)(hd:Kb x.data=true)(h1:1<=x.data.length){s:SS}{q b ai:Int}(h:HS s x.data.length q b ai=true):aT X0 (cV S1 N2 G3 _) HQ 100000 82 [.ptr 0 0,.int .i64 q,.int .i64 b,.int .i64 ai,fn3] (eT 5 (vA s (TD x c))) gy=eH (TD x c) (ko s q b ai (it3 s.az x c)):=by
 obtain⟨h1',h2,h3,h4,h5,h6⟩:=uD h;refine HR h1' h2 (l:=it3 s.az x c) (by rw[h3];show ((x.data.map _).length:Int)=_;rw[cy]) (by omega) (by have:=(sU hd).1;omega) h4 h5 h6 (J:=λs' it nb m i=>jP G3 fn3 (TD x c) (gS s' it) nb 100000 m ai i) (λb' it nb m i hn=>?_) ?_
 .refine ⟨(it++it3 s.az x c).length,?_⟩;have hn:it.length+(x.data.map (X8 s.az c x.sz)).length<=1000000:=hn;rw[cy]at hn;have e:jP G3 fn3 (TD x c) (gS { s with aD:=b' } it) nb 100000 (m+1) ai i=ah (bB i ai) (ah (Yc s.aH.length it.length&&(Nat.ble c.length 2000000&&(CC x.sz&&(Kb x.data&&Nat.ble (it.length+x.data.length) 1000000)))) (jP G3 fn3 (TD x c) (gS { s with aD:=b' } (it++it3 s.az x c)) (it++it3 s.az x c).length 100000 m ai (IntKind.wrap .i64 (i+1))) none) (jc (TD x c) (gS { s with aD:=b' } it) 0):=by
   cases s;cases x;exact ahk ..
  refine e.trans ?_;rw[qN,dS hc,hz,hd,dS hn];rfl
 cases s;cases x;exact abF ..
def TE (n:Int):List Row:=[PE 0,.cells 3 [.int .i64 n]]
def it4 (az:Int)(n:Int):List It:=[(az,5,[],(0,0,[]),[],[],n)]
abbrev fn4:AV:=.fn 92 [] [.ptr 1 0,.ptr 2 0]
theorem ahl (n:Int)(fJ:Int)(aH:List Sy)(av:List It)(aI:List (List UInt8×Int))(lab:List UInt8)(opn:Bool)(bp:List UInt8)(aN:Int)(aR:Bool)(aD az:Int)(nb r m:Nat)(ai i:Int):jP G3 fn4 (TE n) ⟨fJ,aH,av,aI,lab,opn,bp,aN,aR,aD,az⟩ nb r (m+1) ai i=ah (bB i ai) (nN av.length (jP G3 fn4 (TE n) ⟨fJ,aH,(av++it4 az n),aI,lab,opn,bp,aN,aR,aD,az⟩ (av.length+1) r m ai (IntKind.wrap .i64 (i+1)))) (jc (TE n) ⟨fJ,aH,av,aI,lab,opn,bp,aN,aR,aD,az⟩ 0):=by kernel_rfl
theorem abG (n:Int)(fJ:Int)(aH:List Sy)(av:List It)(aI:List (List UInt8×Int))(lab:List UInt8)(opn:Bool)(bp:List UInt8)(aN:Int)(aR:Bool)(aD az:Int)(q b ai:Int)(r:Nat):aT X0 (cV S1 N2 G3 _) HQ r 82 [.ptr 0 0,.int .i64 q,.int .i64 b,.int .i64 ai,fn4] (eT 4 (vA ⟨fJ,aH,av,aI,lab,opn,bp,aN,aR,aD,az⟩ (TE n))) gy=MM q b ai (TE n) ⟨fJ,aH,av,aI,lab,opn,bp,aN,aR,aD,az⟩ (jP G3 fn4 (TE n) ⟨fJ,aH,av,aI,lab,opn,bp,aN,aR,IntKind.wrap .i64 (aD+IntKind.wrap .i64 (b*ai)),az⟩ av.length r r ai 0):=by kernel_rfl
theorem alQ (n:Int){s:SS}{q b ai:Int}(h:HS s 1 q b ai=true):aT X0 (cV S1 N2 G3 _) HQ 100000 82 [.ptr 0 0,.int .i64 q,.int .i64 b,.int .i64 ai,fn4] (eT 4 (vA s (TE n))) gy=eH (TE n) (ko s q b ai (it4 s.az n)):=by
 obtain⟨h1',h2,h3,h4,h5,h6⟩:=uD h;refine HR h1' h2 (l:=it4 s.az n) (by rw[h3];rfl) (by omega) (by omega) h4 h5 h6 (J:=λs' it nb m i=>jP G3 fn4 (TE n) (gS s' it) nb 100000 m ai i) (λb' it nb m i hn=>?_) ?_
 .refine ⟨it.length+1,?_⟩;have hn:it.length+1<=1000000:=hn;have e:jP G3 fn4 (TE n) (gS { s with aD:=b' } it) nb 100000 (m+1) ai i=ah (bB i ai) (nN it.length (jP G3 fn4 (TE n) (gS { s with aD:=b' } (it++it4 s.az n)) (it.length+1) 100000 m ai (IntKind.wrap .i64 (i+1)))) (jc (TE n) (gS { s with aD:=b' } it) 0):=by
   cases s;exact ahl ..
  refine e.trans ?_;rw[sV (by omega)]
  skip
 cases s;exact abG ..
def TG (n:Int):List Row:=[PE 0,.cells 3 [.int .i64 n]]
def it5 (az:Int)(n:Int):List It:=[(az,4,[],(0,0,[]),[],ahf n,0)]
abbrev fn5:AV:=.fn 93 [] [.ptr 1 0,.ptr 2 0]
theorem ahn (n:Int)(fJ:Int)(aH:List Sy)(av:List It)(aI:List (List UInt8×Int))(lab:List UInt8)(opn:Bool)(bp:List UInt8)(aN:Int)(aR:Bool)(aD az:Int)(nb r m:Nat)(ai i:Int):jP G3 fn5 (TG n) ⟨fJ,aH,av,aI,lab,opn,bp,aN,aR,aD,az⟩ nb r (m+1) ai i=ah (bB i ai) (FC n (nN av.length (jP G3 fn5 (TG n) ⟨fJ,aH,(av++it5 az n),aI,lab,opn,bp,aN,aR,aD,az⟩ (av.length+1) r m ai (IntKind.wrap .i64 (i+1))))) (jc (TG n) ⟨fJ,aH,av,aI,lab,opn,bp,aN,aR,aD,az⟩ 0):=by kernel_rfl
theorem abH (n:Int)(fJ:Int)(aH:List Sy)(av:List It)(aI:List (List UInt8×Int))(lab:List UInt8)(opn:Bool)(bp:List UInt8)(aN:Int)(aR:Bool)(aD az:Int)(q b ai:Int)(r:Nat):aT X0 (cV S1 N2 G3 _) HQ r 82 [.ptr 0 0,.int .i64 q,.int .i64 b,.int .i64 ai,fn5] (eT 4 (vA ⟨fJ,aH,av,aI,lab,opn,bp,aN,aR,aD,az⟩ (TG n))) gy=MM q b ai (TG n) ⟨fJ,aH,av,aI,lab,opn,bp,aN,aR,aD,az⟩ (jP G3 fn5 (TG n) ⟨fJ,aH,av,aI,lab,opn,bp,aN,aR,IntKind.wrap .i64 (aD+IntKind.wrap .i64 (b*ai)),az⟩ av.length r r ai 0):=by kernel_rfl
theorem alR (n:Int)(n0:0<=n)(n1:n<=2000000){s:SS}{q b ai:Int}(h:HS s 1 q b ai=true):aT X0 (cV S1 N2 G3 _) HQ 100000 82 [.ptr 0 0,.int .i64 q,.int .i64 b,.int .i64 ai,fn5] (eT 4 (vA s (TG n))) gy=eH (TG n) (ko s q b ai (it5 s.az n)):=by
 obtain⟨h1',h2,h3,h4,h5,h6⟩:=uD h;refine HR h1' h2 (l:=it5 s.az n) (by rw[h3];rfl) (by omega) (by omega) h4 h5 h6 (J:=λs' it nb m i=>jP G3 fn5 (TG n) (gS s' it) nb 100000 m ai i) (λb' it nb m i hn=>?_) ?_
 .refine ⟨it.length+1,?_⟩;have hn:it.length+1<=1000000:=hn;have e:jP G3 fn5 (TG n) (gS { s with aD:=b' } it) nb 100000 (m+1) ai i=ah (bB i ai) (FC n (nN it.length (jP G3 fn5 (TG n) (gS { s with aD:=b' } (it++it5 s.az n)) (it.length+1) 100000 m ai (IntKind.wrap .i64 (i+1))))) (jc (TG n) (gS { s with aD:=b' } it) 0):=by
   cases s;exact ahn ..
  refine e.trans ?_;rw[Yb n0 n1,sV (by omega)]
  skip
 cases s;exact abH ..
def TH (b6:List Int):List Row:=[PE 0,.cells 50 [.dH (.int .u8) b6]]
def it6 (az:Int)(b6:List Int):List It:=[(az,4,[],(0,0,[]),[],b6,0)]
abbrev fn6:AV:=.fn 95 [] [.ptr 1 0,.ptr 2 0]
theorem aho (b6:List Int)(fJ:Int)(aH:List Sy)(av:List It)(aI:List (List UInt8×Int))(lab:List UInt8)(opn:Bool)(bp:List UInt8)(aN:Int)(aR:Bool)(aD az:Int)(nb r m:Nat)(ai i:Int):jP G3 fn6 (TH b6) ⟨fJ,aH,av,aI,lab,opn,bp,aN,aR,aD,az⟩ nb r (m+1) ai i=ah (bB i ai) (ah (Nat.ble b6.length 2000000) (nN av.length (jP G3 fn6 (TH b6) ⟨fJ,aH,(av++it6 az b6),aI,lab,opn,bp,aN,aR,aD,az⟩ (av.length+1) r m ai (IntKind.wrap .i64 (i+1)))) none) (jc (TH b6) ⟨fJ,aH,av,aI,lab,opn,bp,aN,aR,aD,az⟩ 0):=by kernel_rfl
theorem abI (b6:List Int)(fJ:Int)(aH:List Sy)(av:List It)(aI:List (List UInt8×Int))(lab:List UInt8)(opn:Bool)(bp:List UInt8)(aN:Int)(aR:Bool)(aD az:Int)(q b ai:Int)(r:Nat):aT X0 (cV S1 N2 G3 _) HQ r 82 [.ptr 0 0,.int .i64 q,.int .i64 b,.int .i64 ai,fn6] (eT 4 (vA ⟨fJ,aH,av,aI,lab,opn,bp,aN,aR,aD,az⟩ (TH b6))) gy=MM q b ai (TH b6) ⟨fJ,aH,av,aI,lab,opn,bp,aN,aR,aD,az⟩ (jP G3 fn6 (TH b6) ⟨fJ,aH,av,aI,lab,opn,bp,aN,aR,IntKind.wrap .i64 (aD+IntKind.wrap .i64 (b*ai)),az⟩ av.length r r ai 0):=by kernel_rfl
theorem alS (b6:List Int)(hl:b6.length<=2000000){s:SS}{q b ai:Int}(h:HS s 1 q b ai=true):aT X0 (cV S1 N2 G3 _) HQ 100000 82 [.ptr 0 0,.int .i64 q,.int .i64 b,.int .i64 ai,fn6] (eT 4 (vA s (TH b6))) gy=eH (TH b6) (ko s q b ai (it6 s.az b6)):=by
 obtain⟨h1',h2,h3,h4,h5,h6⟩:=uD h;refine HR h1' h2 (l:=it6 s.az b6) (by rw[h3];rfl) (by omega) (by omega) h4 h5 h6 (J:=λs' it nb m i=>jP G3 fn6 (TH b6) (gS s' it) nb 100000 m ai i) (λb' it nb m i hn=>?_) ?_
 .refine ⟨it.length+1,?_⟩;have hn:it.length+1<=1000000:=hn;have e:jP G3 fn6 (TH b6) (gS { s with aD:=b' } it) nb 100000 (m+1) ai i=ah (bB i ai) (ah (Nat.ble b6.length 2000000) (nN it.length (jP G3 fn6 (TH b6) (gS { s with aD:=b' } (it++it6 s.az b6)) (it.length+1) 100000 m ai (IntKind.wrap .i64 (i+1)))) none) (jc (TH b6) (gS { s with aD:=b' } it) 0):=by
   cases s;exact aho ..
  refine e.trans ?_;rw[dS hl];show ah _ (nN _ _) _=_;rw[sV (by omega)]
  skip
 cases s;exact abI ..
abbrev OP:=Option (Bool×AV×List Row)
def oq (cs:List Row)(r:SR'):AV×List Row:=(.int .i64 r.2,vA r.1 cs)
def gP1 (q b ai:Int)(cp:List AV)(rows:List Row):OP :=
 match cp,rows with
 |[.ptr 1 0,.ptr 2 0],rd :: .cells t1 [.ptr 0 0] :: .cells t2 [.str w]::l=>match uC 2 rd l with
  |some (b1,s)=>some (b1&&((Nat.beq t1 67&&(Nat.beq t2 9))&&HS s 1 q b ai),oq (cs1 w) (ko s q b ai (it1 s.az w)))
  |_=>none
 |_,_=>none
theorem ahp {q b ai:Int}{cp:List AV}{rows outs:List Row}{v:AV}(h:gP1 q b ai cp rows=some (true,v,outs)):aT X0 (cV S1 N2 G3 _) HQ 100000 82 [.ptr 0 0,.int .i64 q,.int .i64 b,.int .i64 ai,.fn 83 [] cp] (eT (sQ rows) rows) gy=some (v,outs):=by
 unfold gP1 at h;split at h;case h_2=>cases h
 rename_i rd t1 t2 w l;split at h;case h_2=>cases h
 rename_i b1 s hr;simp only[oq,aq,ax,ak,aO]at h;obtain⟨⟨rfl,⟨g0,g1⟩,hp⟩,rfl,rfl⟩:=h;subst g0;subst g1;obtain⟨rfl,rfl⟩:=fV hr;exact alN w hp
def gP2 (q b ai:Int)(cp:List AV)(rows:List Row):OP :=
 match cp,rows with
 |[.ptr 1 0,.ptr 2 0,.ptr 3 0],rd :: .cells t1 [.str c] :: .cells t2 [.int .i64 op,.int .i64 aM,.dH e x] :: .cells t3 [.ptr 0 0]::l=>match iu e jV x,uC 3 rd l with
  |some x,some (b1,s)=>some (b1&&((Nat.beq t1 106&&(Nat.beq t2 36&&(Nat.beq t3 67&&(Nat.ble c.length 2000000&&(nZ x)))))&&HS s 1 q b ai),oq (FP c op aM x) (ko s q b ai (it2 s.az c op aM x)))
  |_,_=>none
 |_,_=>none
theorem ahq {q b ai:Int}{cp:List AV}{rows outs:List Row}{v:AV}(h:gP2 q b ai cp rows=some (true,v,outs)):aT X0 (cV S1 N2 G3 _) HQ 100000 82 [.ptr 0 0,.int .i64 q,.int .i64 b,.int .i64 ai,.fn 89 [] cp] (eT (sQ rows) rows) gy=some (v,outs):=by
 unfold gP2 at h;split at h;case h_2=>cases h
 rename_i rd t1 c t2 op aM e x t3 l;split at h;case h_2=>cases h
 rename_i x' b1 s hx hr;simp only[oq,aq,ax,ak,aO]at h;obtain⟨⟨rfl,⟨g0,g1,g2,g3,g4⟩,hp⟩,rfl,rfl⟩:=h;subst g0;subst g1;subst g2;obtain⟨rfl,hx⟩:=bS hx;have hx:x=x':=hx;subst hx;obtain⟨rfl,rfl⟩:=fV hr;exact alO c op aM x (ay g3) g4 hp
def gP3 (q b ai:Int)(cp:List AV)(rows:List Row):OP :=
 match cp,rows with
 |[.ptr 1 0,.ptr 2 0,.ptr 3 0],rd::st :: .cells t2 [.ptr 0 0] :: .cells t3 [.str c]::l=>match FD st,uC 3 rd l with
  |some (b0,x),some (b1,s)=>some (b1&&((b0&&(Nat.beq t2 67&&(Nat.beq t3 106&&(Nat.ble c.length 2000000&&(CC x.sz&&(Kb x.data&&(Nat.ble 1 x.data.length)))))))&&HS s x.data.length q b ai),oq (TD x c) (ko s q b ai (it3 s.az x c)))
  |_,_=>none
 |_,_=>none
theorem ahr {q b ai:Int}{cp:List AV}{rows outs:List Row}{v:AV}(h:gP3 q b ai cp rows=some (true,v,outs)):aT X0 (cV S1 N2 G3 _) HQ 100000 82 [.ptr 0 0,.int .i64 q,.int .i64 b,.int .i64 ai,.fn 91 [] cp] (eT (sQ rows) rows) gy=some (v,outs):=by
 unfold gP3 at h;split at h;case h_2=>cases h
 rename_i rd st t2 t3 c l;split at h;case h_2=>cases h
 rename_i b0 x b1 s hx hr;simp only[oq,aq,ax,ak,aO]at h;obtain⟨⟨rfl,⟨g0,g1,g2,g3,g4,g5,g6⟩,hp⟩,rfl,rfl⟩:=h;subst g0;subst g1;subst g2;obtain rfl:=nJ hx;obtain⟨rfl,rfl⟩:=fV hr;exact alP x c (ay g3) g4 g5 (ay g6) hp
def gP4 (q b ai:Int)(cp:List AV)(rows:List Row):OP :=
 match cp,rows with
 |[.ptr 1 0,.ptr 2 0],rd :: .cells t1 [.ptr 0 0] :: .cells t2 [.int .i64 n]::l=>match uC 2 rd l with
  |some (b1,s)=>some (b1&&((Nat.beq t1 67&&(Nat.beq t2 3))&&HS s 1 q b ai),oq (TE n) (ko s q b ai (it4 s.az n)))
  |_=>none
 |_,_=>none
theorem ahs {q b ai:Int}{cp:List AV}{rows outs:List Row}{v:AV}(h:gP4 q b ai cp rows=some (true,v,outs)):aT X0 (cV S1 N2 G3 _) HQ 100000 82 [.ptr 0 0,.int .i64 q,.int .i64 b,.int .i64 ai,.fn 92 [] cp] (eT (sQ rows) rows) gy=some (v,outs):=by
 unfold gP4 at h;split at h;case h_2=>cases h
 rename_i rd t1 t2 n l;split at h;case h_2=>cases h
 rename_i b1 s hr;simp only[oq,aq,ax,ak,aO]at h;obtain⟨⟨rfl,⟨g0,g1⟩,hp⟩,rfl,rfl⟩:=h;subst g0;subst g1;obtain⟨rfl,rfl⟩:=fV hr;exact alQ n hp
def gP5 (q b ai:Int)(cp:List AV)(rows:List Row):OP :=
 match cp,rows with
 |[.ptr 1 0,.ptr 2 0],rd :: .cells t1 [.ptr 0 0] :: .cells t2 [.int .i64 n]::l=>match uC 2 rd l with
  |some (b1,s)=>some (b1&&((Nat.beq t1 67&&(Nat.beq t2 3&&(!bB n 0&&(!bB 2000000 n))))&&HS s 1 q b ai),oq (TG n) (ko s q b ai (it5 s.az n)))
  |_=>none
 |_,_=>none
theorem aht {q b ai:Int}{cp:List AV}{rows outs:List Row}{v:AV}(h:gP5 q b ai cp rows=some (true,v,outs)):aT X0 (cV S1 N2 G3 _) HQ 100000 82 [.ptr 0 0,.int .i64 q,.int .i64 b,.int .i64 ai,.fn 93 [] cp] (eT (sQ rows) rows) gy=some (v,outs):=by
 unfold gP5 at h;split at h;case h_2=>cases h
 rename_i rd t1 t2 n l;split at h;case h_2=>cases h
 rename_i b1 s hr;simp only[oq,aq,ax,ak,aO]at h;obtain⟨⟨rfl,⟨g0,g1,g2,g3⟩,hp⟩,rfl,rfl⟩:=h;subst g0;subst g1;obtain⟨rfl,rfl⟩:=fV hr;exact alR n (by rw[cA]at g2;simpa using g2) (by rw[cA]at g3;simpa using g3) hp
def gP6 (q b ai:Int)(cp:List AV)(rows:List Row):OP :=
 match cp,rows with
 |[.ptr 1 0,.ptr 2 0],rd :: .cells t1 [.ptr 0 0] :: .cells t2 [.dH e x]::l=>match iu e (.int .u8) x,uC 2 rd l with
  |some x,some (b1,s)=>some (b1&&((Nat.beq t1 67&&(Nat.beq t2 50&&(Nat.ble x.length 2000000)))&&HS s 1 q b ai),oq (TH x) (ko s q b ai (it6 s.az x)))
  |_,_=>none
 |_,_=>none
theorem ahu {q b ai:Int}{cp:List AV}{rows outs:List Row}{v:AV}(h:gP6 q b ai cp rows=some (true,v,outs)):aT X0 (cV S1 N2 G3 _) HQ 100000 82 [.ptr 0 0,.int .i64 q,.int .i64 b,.int .i64 ai,.fn 95 [] cp] (eT (sQ rows) rows) gy=some (v,outs):=by
 unfold gP6 at h;split at h;case h_2=>cases h
 rename_i rd t1 t2 e x l;split at h;case h_2=>cases h
 rename_i x' b1 s hx hr;simp only[oq,aq,ax,ak,aO]at h;obtain⟨⟨rfl,⟨g0,g1,g2⟩,hp⟩,rfl,rfl⟩:=h;subst g0;subst g1;obtain⟨rfl,hx⟩:=bS hx;have hx:x=x':=hx;subst hx;obtain⟨rfl,rfl⟩:=fV hr;exact alS x (ay g2) hp
def gP (args:List AV)(rows:List Row):OP :=
 match args with
 |[.ptr 0 0,.int .i64 q,.int .i64 b,.int .i64 ai,.fn f [] cp] =>
  ah (Nat.beq f 83) (gP1 q b ai cp rows) (ah (Nat.beq f 89) (gP2 q b ai cp rows) (ah (Nat.beq f 91) (gP3 q b ai cp rows) (ah (Nat.beq f 92) (gP4 q b ai cp rows) (ah (Nat.beq f 93) (gP5 q b ai cp rows) (ah (Nat.beq f 95) (gP6 q b ai cp rows) (none))))))
 |_=>none
theorem alU:j3 X0 fR 82 gP :=
 nI (λargs=>lt.bR rfl args) (qM nv uB adF) λargs rows v outs hg=>by
  unfold gP at hg;split at hg;case h_2=>cases hg
  rename_i q b ai f cp;refine⟨HQ,100000,?_⟩;rw[au]at hg;split at hg
  .rename_i hf;obtain rfl:=bf hf;exact ahp hg
  rw[au]at hg;split at hg
  .rename_i hf;obtain rfl:=bf hf;exact ahq hg
  rw[au]at hg;split at hg
  .rename_i hf;obtain rfl:=bf hf;exact ahr hg
  rw[au]at hg;split at hg
  .rename_i hf;obtain rfl:=bf hf;exact ahs hg
  rw[au]at hg;split at hg
  .rename_i hf;obtain rfl:=bf hf;exact aht hg
  rw[au]at hg;split at hg
  .rename_i hf;obtain rfl:=bf hf;exact ahu hg
  cases hg
def G4:List AJ:=(82,⟨70,vV,gP⟩)::G3
theorem yD:pN X0 fR G4:=.cons alU adF
def Tk {β:Type}(s:SS)(go:List UInt8->Option β):Option β:=ah s.opn (go s.bp) (go s.lab)
def TI (s:SS)(g:Bool)(a q b ai:Int)(l:List It):OG:=ah (Yc s.aH.length s.av.length&&(g&&HS s a q b ai)) (eH [] (ko s q b ai l)) none
def MO (s:SS)(a q b ai:Int)(l:List It):OG:=ah (Yc s.aH.length s.av.length&&HS s a q b ai) (eH [] (ko s q b ai l)) none
def frT (s:SS)(w:List UInt8)(go:OG):OG:=ah (qQ s.aI w) (jc [] s 7) (ah (bB 60 (w.length:Int)) (jc [] s 3) go)
def syT (s:SS)(w:List UInt8)(n:Int):OG:=nN s.aH.length (jc [] (JO s w n) 0)
def kT (s:SS)(x:List Nd)(go:Int->OG):OG:=ah (Yc s.aH.length s.av.length&&(zq s&&ep x)) (ah (!bI (cS gJ fS s x).2 0) (jc [] s (cS gJ fS s x).2) (go (cS gJ fS s x).1)) none
def labT' (s:SS)(w:List UInt8):OG :=
 Tk s λc=>nmT c w λfull=>frT s full (ah s.opn (syT s full s.aN)
  ((λgo:List UInt8->OG=>ah (!lt.preB w [46]) (go w) (go s.lab)) λL=>MO { s with lab:=L,aI:=ia s.aI full 0 } 1 1 0 1 (it1 s.az full)))
theorem Yd (fJ:Int)(aH:List Sy)(av:List It)(aI:List (List UInt8×Int))(lab:List UInt8)(opn:Bool)(bp:List UInt8)(aN:Int)(aR:Bool)(aD az:Int)(w:List UInt8)(r:Nat) :
 aT X0 (cV S1 N2 G4 _) gG r 43 [.ptr 0 0,.str w] (eT 2 (vA ⟨fJ,aH,av,aI,lab,opn,bp,aN,aR,aD,az⟩ [])) gy=labT' ⟨fJ,aH,av,aI,lab,opn,bp,aN,aR,aD,az⟩ w:=by kernel_rfl
def Rs (s:SS)(op aM:Int)(l:List Raw)(ai:Int):OG :=
 Tk s λc=>ah (Nat.ble c.length 2000000&&nZ l) (ah (!(JN c l).2) (jc [] s 3) (TI s (Nat.ble c.length 2000000&&nZ l) 1 1 0 ai (it2 s.az c op aM l))) none
theorem TJ (fJ:Int)(aH:List Sy)(av:List It)(aI:List (List UInt8×Int))(lab:List UInt8)(opn:Bool)(bp:List UInt8)(aN:Int)(aR:Bool)(aD az:Int)(op aM:Int)(l:List Raw)(ai:Int)(r:Nat) :
 aT X0 (cV S1 N2 G4 _) gG r 46 [.ptr 0 0,.agg [.int .i64 op,.int .i64 aM,.dH jV l],.int .i64 ai] (eT 2 (vA ⟨fJ,aH,av,aI,lab,opn,bp,aN,aR,aD,az⟩ [])) gy=Rs ⟨fJ,aH,av,aI,lab,opn,bp,aN,aR,aD,az⟩ op aM l ai:=by kernel_rfl
def abJ (s:SS)(x:RS):OG:=Tk s λc=>nmT c x.lab λfull=>frT s full (kT s x.x λn=>syT s full n)
theorem Ye (fJ:Int)(aH:List Sy)(av:List It)(aI:List (List UInt8×Int))(lab:List UInt8)(opn:Bool)(bp:List UInt8)(aN:Int)(aR:Bool)(aD az:Int)(a0:Int)(iF:List UInt8)(aF sz op aM:Int)(args:List Raw)(data:List Dt)(xx dO:List Nd)(e0 f0:Int)(r:Nat) :
 aT X0 (cV S1 N2 G4 _) gG r 48 [.ptr 0 0,.agg (Jj ⟨a0,iF,aF,sz,op,aM,args,data,xx,dO,e0,f0⟩)] (eT 2 (vA ⟨fJ,aH,av,aI,lab,opn,bp,aN,aR,aD,az⟩ [])) gy=abJ ⟨fJ,aH,av,aI,lab,opn,bp,aN,aR,aD,az⟩ ⟨a0,iF,aF,sz,op,aM,args,data,xx,dO,e0,f0⟩:=by kernel_rfl
def endT' (s:SS):OG:=ah (Nat.ble (s.bp.length+Cz.length) 9223372036854775807) (frT s (s.bp++Cz) (nN s.aH.length (jc [] { JO s (s.bp++Cz) s.aN with opn:=false } 0))) none
theorem Yf (fJ:Int)(aH:List Sy)(av:List It)(aI:List (List UInt8×Int))(lab:List UInt8)(opn:Bool)(bp:List UInt8)(aN:Int)(aR:Bool)(aD az:Int)(r:Nat) :
 aT X0 (cV S1 N2 G4 _) gG r 53 [.ptr 0 0] (eT 2 (vA ⟨fJ,aH,av,aI,lab,opn,bp,aN,aR,aD,az⟩ [])) gy=endT' ⟨fJ,aH,av,aI,lab,opn,bp,aN,aR,aD,az⟩:=by kernel_rfl
def abK (s:SS)(x:RS):OG:=kT s x.x λn =>
 (λgo:OG=>ah s.aR (jc [] s 8) (ah (bB 0 (s.av.length:Int)) (jc [] s 8) go)) (ah (bB n 0) (jc [] s 5) (ah (bB 140737488355328 n) (jc [] s 5) (jc [] { s with fJ:=n,aR:=true } 0)))
theorem Yg (fJ:Int)(aH:List Sy)(av:List It)(aI:List (List UInt8×Int))(lab:List UInt8)(opn:Bool)(bp:List UInt8)(aN:Int)(aR:Bool)(aD az:Int)(a0:Int)(iF:List UInt8)(aF sz op aM:Int)(args:List Raw)(data:List Dt)(xx dO:List Nd)(e0 f0:Int)(r:Nat) :
 aT X0 (cV S1 N2 G4 _) gG r 50 [.ptr 0 0,.agg (Jj ⟨a0,iF,aF,sz,op,aM,args,data,xx,dO,e0,f0⟩)] (eT 2 (vA ⟨fJ,aH,av,aI,lab,opn,bp,aN,aR,aD,az⟩ [])) gy=abK ⟨fJ,aH,av,aI,lab,opn,bp,aN,aR,aD,az⟩ ⟨a0,iF,aF,sz,op,aM,args,data,xx,dO,e0,f0⟩:=by kernel_rfl
def ahv (n:Int):Int:=IntKind.wrap .i64 ((BitVec.ofInt 64 n &&& BitVec.ofInt 64 (IntKind.wrap .i64 (n-1))).toNat:Int)
def abL (s:SS)(x:RS):OG:=kT s x.x λn =>
 ah (bB n 1) (jc [] s 5) (ah (bB 4096 n) (jc [] s 5) (ah (!bI (ahv n) 0) (jc [] s 5) (MO s 1 1 0 1 (it4 s.az n))))
theorem Yh (fJ:Int)(aH:List Sy)(av:List It)(aI:List (List UInt8×Int))(lab:List UInt8)(opn:Bool)(bp:List UInt8)(aN:Int)(aR:Bool)(aD az:Int)(a0:Int)(iF:List UInt8)(aF sz op aM:Int)(args:List Raw)(data:List Dt)(xx dO:List Nd)(e0 f0:Int)(r:Nat) :
 aT X0 (cV S1 N2 G4 _) gG r 49 [.ptr 0 0,.agg (Jj ⟨a0,iF,aF,sz,op,aM,args,data,xx,dO,e0,f0⟩)] (eT 2 (vA ⟨fJ,aH,av,aI,lab,opn,bp,aN,aR,aD,az⟩ [])) gy=abL ⟨fJ,aH,av,aI,lab,opn,bp,aN,aR,aD,az⟩ ⟨a0,iF,aF,sz,op,aM,args,data,xx,dO,e0,f0⟩:=by kernel_rfl
def abM (s:SS)(x:RS)(ai:Int):OG:=kT s x.x λn=>ah (bB n 0) (jc [] s 5) (ah (bI x.sz 0) none (ah (bB (IntKind.wrap .i64 (Int.tdiv 1048576 x.sz)) n) (jc [] s 3)
 (ah s.opn (jc [] { s with aN:=IntKind.wrap .i64 (s.aN+IntKind.wrap .i64 (n*x.sz)) } 0) (TI s (!bB (IntKind.wrap .i64 (n*x.sz)) 0 && !bB 2000000 (IntKind.wrap .i64 (n*x.sz))) 1 1 (IntKind.wrap .i64 (n*x.sz)) ai (it5 s.az (IntKind.wrap .i64 (n*x.sz)))))))
theorem Yi (fJ:Int)(aH:List Sy)(av:List It)(aI:List (List UInt8×Int))(lab:List UInt8)(opn:Bool)(bp:List UInt8)(aN:Int)(aR:Bool)(aD az:Int)(a0:Int)(iF:List UInt8)(aF sz op aM:Int)(args:List Raw)(data:List Dt)(xx dO:List Nd)(e0 f0 ai:Int)(r:Nat) :
 aT X0 (cV S1 N2 G4 _) gG r 54 [.ptr 0 0,.agg (Jj ⟨a0,iF,aF,sz,op,aM,args,data,xx,dO,e0,f0⟩),.int .i64 ai] (eT 2 (vA ⟨fJ,aH,av,aI,lab,opn,bp,aN,aR,aD,az⟩ [])) gy=abM ⟨fJ,aH,av,aI,lab,opn,bp,aN,aR,aD,az⟩ ⟨a0,iF,aF,sz,op,aM,args,data,xx,dO,e0,f0⟩ ai:=by kernel_rfl
end
end Go.Proofs.YtbeckacfibledaaGreatDoor.ps.sr
namespace Go.Proofs.YtbeckacfibledaaGreatDoor.ps.sp
open Go.Tv Go.Ev Go.Proofs.YtbeckacfibledaaGreatDoor.ex
noncomputable section
def X1:gY:={ ex.X0 with fl:=true }
abbrev kn:fc:=lt.kn
def K0:T3:=λ_=>none
abbrev inl:FuncId->Bool:=lt.inl
theorem bR {f:FuncId}(h:inl f=true)(args:List Value):kn f args=none:=lt.bR h args
def c1 (β:Type):cH β:=sy X1 K0 inl 200 β 40
theorem GX (β:Type):cX X1 (dR X1 kn) (c1 β):=lp (by intro id s g h;cases h) (λf h args=>bR h args) 200 40 β
def wI (n:Nat):Int:=IntKind.wrap .u64 (IntKind.wrap .i64 (n:Int))
def leB (n:Nat):List Int:=[IntKind.wrap .u8 (Int.fdiv (wI n) 1),IntKind.wrap .u8 (Int.fdiv (wI n) 256),IntKind.wrap .u8 (Int.fdiv (wI n) 65536),IntKind.wrap .u8 (Int.fdiv (wI n) 16777216),IntKind.wrap .u8 (Int.fdiv (wI n) 4294967296),IntKind.wrap .u8 (Int.fdiv (wI n) 1099511627776),IntKind.wrap .u8 (Int.fdiv (wI n) 281474976710656),IntKind.wrap .u8 (Int.fdiv (wI n) 72057594037927936)]
def TK (n:Nat):Bool:=Ieee.Format.order (FloatKind.format FloatKind.f64) n n != some Ordering.eq
def TL:List Int:=[1,0,0,0,0,0,248,127]
def Yj (n:Nat):Bool:=bI (Int.fdiv (IntKind.wrap .i64 (IntKind.wrap .u64 (IntKind.wrap .u64 (IntKind.wrap .i64 (n:Int))*1))) 1) (IntKind.wrap .i64 (n:Int))
def alW (n:Nat):Bool:=bI (IntKind.wrap .i64 (Int.fdiv (IntKind.wrap .u64 (IntKind.wrap .u64 (IntKind.wrap .i64 (n:Int))*1)) 1)) (IntKind.wrap .i64 (n:Int))
def xu (v:AV)(H:aG):Option (AV×Option Row) :=
 match v with
 |.fG (.own i _::_)=>some (v,H.get i)
 |.own i _=>some (v,H.get i)
 |.rF i _ _ _=>some (v,H.get i)
 |_=>some (v,none)
theorem B4 {v:AV}{H:aG}{r:AV×Option Row}(h:xu v H=some r):v=r.1:=by
 unfold xu at h;split at h<;>(cases h;rfl)
def ptB (n:Nat):List Int:=[IntKind.wrap .u8 (Int.fdiv (n:Int) 1),IntKind.wrap .u8 (Int.fdiv (n:Int) 256),IntKind.wrap .u8 (Int.fdiv (n:Int) 65536),IntKind.wrap .u8 (Int.fdiv (n:Int) 16777216),IntKind.wrap .u8 (Int.fdiv (n:Int) 4294967296),IntKind.wrap .u8 (Int.fdiv (n:Int) 1099511627776),IntKind.wrap .u8 (Int.fdiv (n:Int) 281474976710656),IntKind.wrap .u8 (Int.fdiv (n:Int) 72057594037927936)]
def Rt:Option Nat->List Int
 |none=>TL
 |some n=>ah (TK n) TL (ptB n)
theorem mM (a:Option Nat):(Rt a).length=8:=by
 cases a with
 |none=>rfl
 |some n =>
  show (ah (TK n) TL (ptB n)).length=8;cases TK n<;>rfl
theorem alY (n:Nat):wI n=(n:Int)%18446744073709551616:=by
 unfold wI IntKind.wrap;have e1:IntKind.signed .u64=false:=rfl;have e2:IntKind.signed .i64=true:=rfl;have e3:IntKind.bits .u64=64:=rfl;have e4:IntKind.bits .i64=64:=rfl;simp only[e1,e2,e3,e4,iS,dM];have e5:((2:Int) ^ 64)=18446744073709551616:=by decide
 simp;split<;>omega
theorem xw {d:Int}(x:Int)(c:Int)(hd:0<d)(hc:256*d*c=18446744073709551616):IntKind.wrap .u8 (Int.fdiv (x%18446744073709551616) d)=IntKind.wrap .u8 (Int.fdiv x d):=by
 have e:∀y:Int,IntKind.wrap .u8 y=y%256:=λy=>by
  unfold IntKind.wrap;have e1:IntKind.signed .u8=false:=rfl;have e3:IntKind.bits .u8=8:=rfl;simp only[e1,e3,iS];simp
 rw[e,e,iK _ (Int.le_of_lt hd),iK _ (Int.le_of_lt hd)];have h1:x%18446744073709551616=x-18446744073709551616*(x/18446744073709551616):=by omega
 generalize x/18446744073709551616=q at h1;rw[h1,<-hc];have h2:x-256*d*c*q=x+(-(256*c*q))*d:=by
  have:256*d*c*q=256*c*q*d:=by rw[jz 256 d c,ot d c,<-jz 256 c d,jz (256*c) d q,ot d q,<-jz]
  rw[this,Int.neg_mul];omega
 rw[h2,Int.add_mul_ediv_right _ _ (by omega)];have h3 : -(256*c*q)=256*(-(c*q)):=by rw[jz,Int.mul_neg]
 rw[h3];omega
theorem ahw (n:Nat):leB n=ptB n:=by
 unfold leB ptB;rw[alY,xw (d:=1) _ 72057594037927936 (by decide) (by decide),xw (d:=256) _ 281474976710656 (by decide) (by decide),xw (d:=65536) _ 1099511627776 (by decide) (by decide),xw (d:=16777216) _ 4294967296 (by decide) (by decide),
  xw (d:=4294967296) _ 16777216 (by decide) (by decide),xw (d:=1099511627776) _ 65536 (by decide) (by decide),xw (d:=281474976710656) _ 256 (by decide) (by decide),xw (d:=72057594037927936) _ 1 (by decide) (by decide)]
theorem TM (n:Nat):Yj n=true:=by
 unfold Yj;rw[eF,eK];generalize (n:Int)=x;unfold IntKind.wrap;have e1:IntKind.signed .u64=false:=rfl;have e2:IntKind.signed .i64=true:=rfl;have e3:IntKind.bits .u64=64:=rfl;have e4:IntKind.bits .i64=64:=rfl;simp only[e1,e2,e3,e4,iS,dM];have e5:((2:Int) ^ 64)=18446744073709551616:=by decide
 simp;split<;>split<;>omega
def obF (l:List Int):Option (AV×Option Row):=some (.rF 0 0 8 8,some (.list 5 (.int .u8) l 8 true false))
set_option maxRecDepth 100000 in
theorem ahx (n:Nat):aT X1 (c1 _) gG 100 127 [.p6 n] aG.empty xu=ah (TK n) (obF TL) (ah (Yj n) (obF (leB n)) (ah (!alW n) (some (.dG,none)) (obF (leB n)))):=by kernel_rfl
set_option maxRecDepth 100000 in
theorem ahy:aT X1 (c1 _) gG 100 127 [.fl none] aG.empty xu=obF TL:=by kernel_rfl
theorem alZ (n:Nat):aT X1 (c1 _) gG 100 127 [.p6 n] aG.empty xu=obF (Rt (some n)):=by
 rw[ahx,TM,ahw];show _=obF (ah (TK n) TL (ptB n));cases TK n<;>rfl
def abN:List AV->Option (Option Nat)
 |[.p6 n]=>some (some n)
 |[.fl a]=>some a
 |_=>none
def al0:Option Nat->AV
 |some n=>.p6 n
 |none=>.fl none
theorem abO {args:List AV}{a:Option Nat}(h:abN args=some a):∀S m,LV S args m->LV S [al0 a] m:=by
 intro S m hm;unfold abN at h;split at h
 .cases h;exact hm
 .cases h;obtain⟨x,m',rfl,h1,h2⟩:=hm.cons_inv;refine LV.cons ?_ h2;cases h1 with
  |fl b v hv =>
   cases a with
   |none=>exact .fl none _ hv
   |some n=>rw[hv];exact .p6 n
 cases h
theorem abP {f:FuncId}(hk:∀args,kn f args=none){rs:Option Nat->List fy}(h:∀a:Option Nat,∃v o,aT X1 (c1 _) gG 100 f [al0 a] aG.empty xu=some (v,o)/\∀M,xu v M=some (v,o)->tn M [] [v] (rs a)/\rH [v]=v) :
 cZ X1 (dR X1 kn) f λargs=>match abN args with|some a=>some (true,rs a)|none=>none:=by
 intro args r hg;simp only at hg;split at hg
 .rename_i a ha;simp only[aq,ax]at hg;obtain⟨_,rfl⟩:=hg;obtain⟨v,o,h1,h2⟩:=h a;obtain⟨v',M1,k1,k2⟩:=oo hk (GX _) h1;have e:v'=v:=B4 k1;rw[e]at k1 k2;refine⟨[v],M1,λS E bK hr hgl hl=>k2 [v] (h2 M1 k1).2.symm S E bK hr hgl (abO ha S bK hl),(h2 M1 k1).1⟩
 cases hg
def rsF (a:Option Nat):List fy:=[.room 5 (.int .u8) (Rt a) 8]
def gF (args:List AV):Option (Bool×List fy):=match abN args with|some a=>some (true,rsF a)|none=>none
theorem apP:cZ X1 (dR X1 kn) 127 gF :=
 abP (λargs=>bR rfl args) (rs:=rsF) λa=>⟨.rF 0 0 8 8,some (.list 5 (.int .u8) (Rt a) 8 true false),by
  cases a with
  |none=>exact ahy
  |some n=>exact alZ n,λM hM=>⟨⟨rfl,0,8,by rw[mM],(jI (bM hM)).2,by simp,trivial⟩,rfl⟩⟩
def N1:List vW:=[(127,[none],gF)]
theorem Rp:iO X1 (dR X1 kn) N1:=.cons apP .nil
def c2 (β:Type):cH β:=sy X1 (T4 N1) inl 200 β 40
theorem QI (β:Type):cX X1 (dR X1 kn) (c2 β):=lp Rp (λf h args=>bR h args) 200 40 β
abbrev Ob:=Option (AV×Option Row)
def HT (a:Option Nat):List Int:=List.take 8 (List.drop 0 (Rt a))
theorem Yk (a:Option Nat):HT a=Rt a:=by
 unfold HT;rw[j4,<-mM a,kD]
def vT (o v:List Int)(k:Nat->List Int->Ob):Ob:=ah (Nat.ble (o.length+v.length) 2000000) (k (o.length+v.length) (o++v)) none
theorem Dr {o v:List Int}(h:o.length+v.length<=2000000)(k:Nat->List Int->Ob):vT o v k=k (o.length+v.length) (o++v):=by
 unfold vT;rw[dS h]
def CD (a b c d:Option Nat):Option Nat:=Nq .sub (Nq .mul a c) (Nq .mul b d)
def CE (a b c d:Option Nat):Option Nat:=Nq .add (Nq .mul a d) (Nq .mul b c)
def sW:Nat:=4607182418800017408
def obE:Ob:=some (.fG [.dG,.int .i64 5],none)
def obO (k:Nat)(o:List Int):Ob:=some (.fG [.own 0 k,.int .i64 0],some (.list 5 (.int .u8) o 0 false false))
def abQ (re im n:Int)(go:Ob):Ob :=
 ah (bB n 1) obE (ah (bB 64 n) obE (ah (bB re (-9007199254740992)) obE (ah (bB 9007199254740992 re) obE (ah (bB im (-9007199254740992)) obE (ah (bB 9007199254740992 im) obE go)))))
def fI (n:Int):Nat:=FloatKind.nearest .f64 n
def pA:List Bool:=[true,true,true,true,false,true,false]
def anA:ez:=⟨gZ [8,9,10,38,39] pA,.none,[]⟩
def jA0 (c d:Nat)(n:Int)(r m:Nat)(i:Int):Ob:=iH X1 (c2 _) anA r 94 pA xu m (lq 76 [(8,.dG),(9,.cx (some c) (some d)),(10,.zX (.complex .f64 4607182418800017408 0)),(38,.int .i64 n),(39,.int .i64 i)]) (oY [])
def jA1 (c d:Nat)(n:Int)(r m:Nat)(k:Nat)(o:List Int)(a b:Option Nat)(i:Int):Ob:=iH X1 (c2 _) anA r 94 pA xu m (lq 76 [(8,.own 0 k),(9,.cx (some c) (some d)),(10,.cx a b),(38,.int .i64 n),(39,.int .i64 i)]) (oY [.list 5 (.int .u8) o 0 false false])
set_option maxRecDepth 100000 in
theorem ahB (c d:Nat)(n:Int)(r m:Nat)(k:Nat)(o:List Int)(a b:Option Nat)(i:Int):jA1 c d n r (m+1) k o a b i =
 ah (bB i n) (vT o (HT a) λ_ o1=>vT o1 (HT b) λk2 o2=>jA1 c d n r m k2 o2 (CD a b (some c) (some d)) (CE a b (some c) (some d)) (IntKind.wrap .i64 (i+1))) (obO k o):=by kernel_rfl
set_option maxRecDepth 100000 in
theorem ahC (c d:Nat)(n:Int)(r m:Nat)(i:Int):jA0 c d n r (m+1) i =
 ah (bB i n) (vT [] (HT (some sW)) λ_ o1=>vT o1 (HT (some 0)) λk2 o2=>jA1 c d n r m k2 o2 (CD (some sW) (some 0) (some c) (some d)) (CE (some sW) (some 0) (some c) (some d)) (IntKind.wrap .i64 (i+1))) (some (.fG [.dG,.int .i64 0],none)):=by kernel_rfl
set_option maxRecDepth 100000 in
theorem lO (re im n:Int)(r:Nat):aT X1 (c2 _) anA r 94 [.int .i64 re,.int .i64 im,.int .i64 n] aG.empty xu=abQ re im n (jA0 (fI re) (fI im) n r r 0):=by kernel_rfl
def Ru:Nat->Option Nat->Option Nat->Option Nat->Option Nat->List Int
 |0,_,_,_,_=>[]
 |k+1,a,b,c,d=>Rt a++(Rt b++Ru k (CD a b c d) (CE a b c d) c d)
theorem Rv (c d:Option Nat):∀(k:Nat) (a b:Option Nat),(Ru k a b c d).length=16*k
 |0,_,_=>rfl
 |k+1,a,b=>by
  unfold Ru;rw[aA,aA,mM,mM,Rv c d k];omega
theorem Ya {vw:Option Nat->List Int}(hv:∀a,vw a=Rt a){c d:Nat}{n:Int}(hn:n<=64){J:Nat->Nat->List Int->Option Nat->Option Nat->Int->Ob}
 (step:∀m k o a b i,J (m+1) k o a b i=ah (bB i n) (vT o (vw a) λ_ o1=>vT o1 (vw b) λk2 o2=>J m k2 o2 (CD a b (some c) (some d)) (CE a b (some c) (some d)) (IntKind.wrap .i64 (i+1))) (obO k o)) :
 ∀(q m:Nat) (o:List Int) (a b:Option Nat) (i:Nat),(i:Int)+q=n->q<m->o.length=16*i->J m o.length o a b i=obO (o++Ru q a b (some c) (some d)).length (o++Ru q a b (some c) (some d)):=by
 intro q;induction q with
 |zero =>
  intro m o a b i hi hm ho;obtain⟨m,rfl⟩:∃m',m=m'+1:=⟨m-1,by omega⟩;rw[step,fH (by omega)];show obO _ _=_;rw[Ru,fA]
 |succ q ih =>
  intro m o a b i hi hm ho;obtain⟨m,rfl⟩:∃m',m=m'+1:=⟨m-1,by omega⟩;rw[step,qG (by omega)];show vT _ _ _=_;rw[hv,hv,Dr (by rw[mM];omega),Dr (by rw[aA,mM,mM];omega),<-aA,i64_in (n:=(i:Int)+1) (by omega) (by omega)];have:=ih m (o++Rt a++Rt b) (CD a b (some c) (some d)) (CE a b (some c) (some d)) (i+1) (by omega) (by omega) (by rw[aA,aA,mM,mM];omega);refine this.trans ?_;rw[Ru,bJ,bJ]
theorem ahD {vw:Option Nat->List Int}(hv:∀a,vw a=Rt a){c d:Nat}{n:Int}(h1:1<=n)(hn:n<=64){J:Nat->Nat->List Int->Option Nat->Option Nat->Int->Ob}{J0:Nat->Int->Ob}{e:Ob}
 (step:∀m k o a b i,J (m+1) k o a b i=ah (bB i n) (vT o (vw a) λ_ o1=>vT o1 (vw b) λk2 o2=>J m k2 o2 (CD a b (some c) (some d)) (CE a b (some c) (some d)) (IntKind.wrap .i64 (i+1))) (obO k o))
 (step0:∀m i,J0 (m+1) i=ah (bB i n) (vT [] (vw (some sW)) λ_ o1=>vT o1 (vw (some 0)) λk2 o2=>J m k2 o2 (CD (some sW) (some 0) (some c) (some d)) (CE (some sW) (some 0) (some c) (some d)) (IntKind.wrap .i64 (i+1))) e) :
 J0 66 0=obO (Ru n.toNat (some sW) (some 0) (some c) (some d)).length (Ru n.toNat (some sW) (some 0) (some c) (some d)):=by
 rw[step0,qG (by omega)];show vT _ _ _=_;obtain⟨q,hq⟩:∃q:Nat,n.toNat=q+1:=⟨n.toNat-1,by omega⟩;rw[hv,hv,Dr (by rw[mM];decide),Dr (by rw[aA,mM,mM];decide),<-aA,hq,Ru,eR];have:=Ya hv hn step q 65 (Rt (some sW)++Rt (some 0)) (CD (some sW) (some 0) (some c) (some d)) (CE (some sW) (some 0) (some c) (some d)) 1 (by omega) (by omega) (by rw[aA,mM,mM]);refine Eq.trans ?_ (this.trans ?_)
 .rfl
 rw[bJ]
def JZ (re im n:Int):Bool:=decide (n<1)||decide (64<n)||decide (re < -9007199254740992)||decide (9007199254740992<re)||decide (im < -9007199254740992)||decide (9007199254740992<im)
theorem abR (re im n:Int)(go:Ob):abQ re im n go=if JZ re im n=true then obE else go:=by
 unfold abQ JZ;simp only[cF];by_cases h1:n<1
 .simp[h1]
 by_cases h2:64<n
 .simp[h1,h2]
 by_cases h3:re < -9007199254740992
 .simp[h1,h2,h3]
 by_cases h4:9007199254740992<re
 .simp[h1,h2,h3,h4]
 by_cases h5:im < -9007199254740992
 .simp[h1,h2,h3,h4,h5]
 by_cases h6:9007199254740992<im
 .simp[h1,h2,h3,h4,h5,h6]
 simp[h1,h2,h3,h4,h5,h6]
def pwF (re im n:Int):List Int:=if JZ re im n=true then [] else Ru n.toNat (some sW) (some 0) (some (fI re)) (some (fI im))
def gPw (args:List AV):Option (Bool×List fy) :=
 match args with
 |[.int .i64 re,.int .i64 im,.int .i64 n]=>some (true,[.list 5 (.int .u8) (pwF re im n),.val (.int .i64 (if JZ re im n=true then 5 else 0))])
 |_=>none
theorem PF {f:FuncId}(hk:∀args,kn f args=none){an:ez}{J0:Nat->Nat->Int->Nat->Int->Ob}(h:∀re im n,aT X1 (c2 _) an 66 f [.int .i64 re,.int .i64 im,.int .i64 n] aG.empty xu=abQ re im n (J0 (fI re) (fI im) n 66 0))
 (h0:∀c d n,1<=n->n<=64->J0 c d n 66 0=obO (Ru n.toNat (some sW) (some 0) (some c) (some d)).length (Ru n.toNat (some sW) (some 0) (some c) (some d))):cZ X1 (dR X1 kn) f gPw:=by
 intro args rs hg;unfold gPw at hg;split at hg;case h_2=>cases hg
 rename_i re im n;simp only[aq,ax]at hg;obtain⟨_,rfl⟩:=hg;have hrun:=h re im n;rw[abR]at hrun;unfold pwF;by_cases hb:JZ re im n=true
 .rw[ag hb]at hrun ⊢;obtain⟨v,M1,k1,k2⟩:=oo hk (QI _) hrun;have e:v = .fG [.dG,.int .i64 5]:=B4 k1;rw[e]at k2;rw[ag hb];exact⟨_,M1,k2 [.dG,.int .i64 5] rfl,rfl,.inr ⟨rfl,rfl,rfl,rfl,trivial⟩⟩
 rw[aa hb]at hrun ⊢;have hb':1<=n/\n<=64:=by
  unfold JZ at hb;simp only[cI,aV,kL]at hb;omega
 rw[h0 _ _ _ hb'.1 hb'.2]at hrun;rw[aa hb];generalize Ru n.toNat (some sW) (some 0) (some (fI re)) (some (fI im))=l at *;obtain⟨v,M1,k1,k2⟩:=oo hk (QI _) hrun;have e:v = .fG [.own 0 l.length,.int .i64 0]:=B4 k1;rw[e]at k1 k2;exact⟨_,M1,k2 [.own 0 l.length,.int .i64 0] rfl,rfl,.inl ⟨0,0,false,rfl,(jI (bM k1)).2,by simp,rfl,rfl,trivial⟩⟩
theorem al1:cZ X1 (dR X1 kn) 94 gPw :=
 PF (λargs=>bR rfl args) (J0:=λc d n m i=>jA0 c d n 66 m i) (λre im n=>lO re im n 66) λc d n h1 h2 =>
  ahD Yk h1 h2 (J:=λm k o a b i=>jA1 c d n 66 m k o a b i) (λm k o a b i=>ahB c d n 66 m k o a b i) (λm i=>ahC c d n 66 m i)
theorem PG:cZ ex.X0 fR 94 gPw:=al1
end
end Go.Proofs.YtbeckacfibledaaGreatDoor.ps.sp

/- Sources: items, so many times: what stands in each round is open. Sources: items, so many times: the contract of put. Sources: put, in the table. Sources: what lines do, as it runs: labels, instructions, equ, align, org, endstruc, res. Sources: the contract of Powers. -/
import Derived.Test.YtbeckacfibledaaGreatDoorGxb
import Derived.Test.YtbeckacfibledaaGreatDoorGrc
import Derived.Test.YtbeckacfibledaaGreatDoorLyh
set_option linter.unusedVariables false
set_option linter.unusedSimpArgs false

namespace Go.Proofs.YtbeckacfibledaaGreatDoor.ps.sr
open Go.Tv Go.Ev Go.Px Go.Pp Go.Proofs.YtbeckacfibledaaGreatDoor.ex
set_option maxRecDepth 100000
noncomputable section
def rdQ (cs:List Row)(s:SS)(nb:Nat):List Row:=.cells 70 (ZD (cs.length+1) (cs.length+2) (cs.length+3) s.aH.length nb s)::(cs++[.mp 68 s.aI,.list 59 gZ s.aH 0 false false,.list 52 qX s.av 0 false false])
def jh (cs:List Row)(s:SS)(e:Int):OG:=some (.int .i64 e,vK s cs)
def pP:List Bool:=[true,true,true,true,false,true,false]
def H8:ei:=⟨gD [0,4,49,50] pP,.none,[]⟩
def jP (G:List AZ)(F:AV)(cs:List Row)(s:SS)(nb r m:Nat)(ai i:Int):OG:=iF X0 (cV S1 N2 G _) H8 r 82 pP gG m (kr 55 [(0,.ptr 0 0),(4,F),(49,.int .i64 ai),(50,.int .i64 i)]) (eU (cs.length+2) (rdQ cs s nb))
theorem Yv {ai:Int}{s:SS}{cs:List Row}{l:List It}{J:List It->Nat->Nat->Int->OG}
 (step:∀it nb m i,it.length+l.length<=1000000->∃nb',J it nb (m+1) i=ah (bC i ai) (J (it++l) nb' m (IntKind.wrap .i64 (i+1))) (jh cs (hU s it) 0)) (hl:l.length<=100000) (ht:ai<=1000000) :
 ∀(q m nb:Nat) (it:List It) (i:Int),0<=i->i+q=ai->q<m->it.length+l.length*q<=100000->J it nb m i=jh cs (hU s (it++(List.replicate q l).flatten)) 0:=by
 intro q;induction q with
 |zero =>
  intro m nb it i h0 hi hm hn;obtain⟨m,rfl⟩:∃m',m=m'+1:=⟨m-1,by omega⟩;obtain⟨nb',e⟩:=step it nb m i (by omega);rw[e,fL (by omega)];show jh _ _ _=_;simp
 |succ q ih =>
  intro m nb it i h0 hi hm hn;obtain⟨m,rfl⟩:∃m',m=m'+1:=⟨m-1,by omega⟩;rw[Nat.mul_succ]at hn;obtain⟨nb',e⟩:=step it nb m i (by omega);rw[e,pZ (by omega)];show J _ _ _ _=_;rw[i64_in (n:=i+1) (by omega) (by omega),ih m nb' (it++l) (i+1) (by omega) (by omega) (by omega) (by rw[aA];omega),gQ,kg,bM]
def Nf (av aD ai:Int)(cs:List Row)(s:SS)(go:OG):OG :=
 (λsecond:OG=>ah (bC 0 av) (ah (bI av 0) none (ah (bC (IntKind.wrap .i64 (Int.tdiv (IntKind.wrap .i64 (20000-(s.av.length:Int))) av)) ai) (jh cs s 3) second)) second)
  (ah (bC 0 aD) (ah (bI aD 0) none (ah (bC (IntKind.wrap .i64 (Int.tdiv (IntKind.wrap .i64 (1048576-s.aD)) aD)) ai) (jh cs s 3) go)) go)
def eH (cs:List Row)(r:SR'):OG:=jh cs r.1 r.2
theorem tdiv_le {a b:Int}(h0:0<=a)(h1:1<=b):0<=Int.tdiv a b/\Int.tdiv a b<=a:=by
 rw[di h0];exact⟨Int.ediv_nonneg h0 (by omega),Int.ediv_le_self b h0⟩
def okB (s:SS):Bool := !bC s.aD 0 && !bC 1048576 s.aD
theorem Ng {s:SS}(h:okB s=true):0<=s.aD/\s.aD<=1048576:=by
 unfold okB at h;rw[cD,cD]at h;simp at h;omega
theorem H9 {s:SS}(hs:zG s=true)(hb:okB s=true){cs:List Row}{av aD ai:Int}{l:List It}(hl:(l.length:Int)=av)(h1:1<=av)(h2:av<=100000)(b0:0<=aD)(b1:aD<=1000000000000)(t0:0<=ai){J:SS->List It->Nat->Nat->Int->OG}
 (step:∀(b:Int) (it:List It) nb m i,it.length+l.length<=1000000->∃nb',J { s with aD:=b } it nb (m+1) i=ah (bC i ai) (J { s with aD:=b } (it++l) nb' m (IntKind.wrap .i64 (i+1))) (jh cs (hU { s with aD:=b } it) 0)) {T:OG}
 (enter:T=Nf av aD ai cs s (J { s with aD:=IntKind.wrap .i64 (s.aD+IntKind.wrap .i64 (aD*ai)) } s.av s.av.length 100000 0)):T=eH cs (jW s av aD ai l):=by
 obtain⟨_,_,_,hn⟩:=s7 hs;obtain⟨c0,c1⟩:=Ng hb;rw[enter];unfold Nf jW;have e1:IntKind.wrap .i64 (20000-(s.av.length:Int))=20000-(s.av.length:Int):=i64_in (by omega) (by omega);obtain⟨d1,d2⟩:=tdiv_le (a:=20000-(s.av.length:Int)) (b:=av) (by omega) h1;rw[pZ (show (0:Int)<av by omega),x9 (show av≠0 by omega),e1,i64_in (n:=Int.tdiv (20000-(s.av.length:Int)) av) (by omega) (by omega)];show ah _ _ _=_;rw[cA];by_cases ht:Int.tdiv (20000-(s.av.length:Int)) av<ai
 .rw[ag ht,ag ⟨by omega,ht⟩];rfl
 rw[aa ht,aa (λq=>ht q.2)];have ht2:av*ai<=20000-(s.av.length:Int):=by
  have h3:=dA (show ai<=Int.tdiv (20000-(s.av.length:Int)) av by omega) (show (0:Int)<=av by omega);rw[di (by omega)]at h3;have h4:=iZ (x:=20000-(s.av.length:Int)) (k:=av) (by omega);omega
 have ht3:ai<=20000:=by
  have:=gM h1 t0;omega
 have go:∀(hbt:aD*ai<=1048576),J { s with aD:=IntKind.wrap .i64 (s.aD+IntKind.wrap .i64 (aD*ai)) } s.av s.av.length 100000 0=eH cs ({ s with aD:=s.aD+aD*ai,av:=s.av++(List.replicate ai.toNat l).flatten },0):=λhbt=>by
  have hb0:0<=aD*ai:=mN b0 t0;rw[i64_in (n:=aD*ai) (by omega) (by omega),i64_in (n:=s.aD+aD*ai) (by omega) (by omega)];refine(Yv (s:={ s with aD:=s.aD+aD*ai }) (J:=J { s with aD:=s.aD+aD*ai }) (ai:=ai) (cs:=cs) (l:=l) (λit nb m i h=>step _ it nb m i h) (by omega) (by omega) ai.toNat 100000 s.av.length s.av 0 (bB 0) (by omega) (by omega) ?_).trans rfl;have:((l.length*ai.toNat:Nat):Int)=av*ai:=by
   rw[jK,hl,Int.toNat_of_nonneg t0]
  omega
 rw[cA];by_cases yo:0<aD
 .have e2:IntKind.wrap .i64 (1048576-s.aD)=1048576-s.aD:=i64_in (by omega) (by omega);obtain⟨d3,d4⟩:=tdiv_le (a:=1048576-s.aD) (b:=aD) (by omega) (by omega);rw[ag yo,x9 (show aD≠0 by omega),e2,i64_in (n:=Int.tdiv (1048576-s.aD) aD) (by omega) (by omega)];show ah _ _ _=_;rw[cA];by_cases ht4:Int.tdiv (1048576-s.aD) aD<ai
  .rw[ag ht4,ag ⟨yo,ht4⟩];rfl
  rw[aa ht4,aa (λq=>ht4 q.2)];refine go ?_;have h3:=dA (show ai<=Int.tdiv (1048576-s.aD) aD by omega) b0;rw[di (by omega)]at h3;have h4:=iZ (x:=1048576-s.aD) (k:=aD) (by omega);omega
 rw[aa yo,aa (λq=>yo q.1)];have:aD=0:=by omega
 exact go (by rw[this,Int.zero_mul];omega)
theorem tc {β:Type}{n:Nat}(h:n<=1000000)(k:Option β):nU n k=k:=by unfold nU;rw[dS (by omega)]
theorem Yw {β:Type}{p:Int}(h0:0<=p)(h1:p<=2000000)(k:Option β):FM p k=k:=by
 unfold FM;rw[fL (a:=p) (b:=0) (by omega),fL (a:=p) (b:=p) (by omega),fL (a:=2000000) (by omega)];rfl
def Yx (a b:Nat):Bool:=Nat.beq a a&&Nat.beq b b
theorem qY (a b:Nat):Yx a b=true:=by unfold Yx;simp
def Ia (s:SS)(a av b ai:Int):Bool:=zG s&&(okB s&&(bI av a&&(!bC b 0&&(!bC 1000000000000 b && !bC ai 0))))
theorem uN {s:SS}{a av b ai:Int}(h:Ia s a av b ai=true):zG s=true/\okB s=true/\av=a/\0<=b/\b<=1000000000000/\0<=ai:=by
 unfold Ia at h;simp only[ak]at h;obtain⟨h1,h2,h3,h4,h5,h6⟩:=h;rw[cD]at h4 h5 h6;rw[eF]at h3;simp at h3 h4 h5 h6;exact⟨h1,h2,h3,h4,h5,h6⟩
def ahL (n:Int):List Int:=List.take n.toNat (List.drop 0 (List.replicate n.toNat (0:Int)))
theorem ab7 (n:Int):ahL n=List.replicate n.toNat 0:=by
 unfold ahL;rw[ke,cU (by simp)]
def cs1 (w:List UInt8):List Row:=[P7 0,.cells 9 [.str w]]
def it1 (au:Int)(w:List UInt8):List It:=[(au,1,w,(0,0,[]),[],[],0)]
abbrev fn1:AV:=.fn 83 [] [.ptr 1 0,.ptr 2 0]
theorem ahN (w:List UInt8)(fM:Int)(aH:List Sy)(av:List It)(aI:List (List UInt8×Int))(lab:List UInt8)(opn:Bool)(bp:List UInt8)(aN:Int)(aR:Bool)(aD au:Int)(nb r m:Nat)(ai i:Int):jP G3 fn1 (cs1 w) ⟨fM,aH,av,aI,lab,opn,bp,aN,aR,aD,au⟩ nb r (m+1) ai i=ah (bC i ai) (nU av.length (jP G3 fn1 (cs1 w) ⟨fM,aH,(av++it1 au w),aI,lab,opn,bp,aN,aR,aD,au⟩ (av.length+1) r m ai (IntKind.wrap .i64 (i+1)))) (jh (cs1 w) ⟨fM,aH,av,aI,lab,opn,bp,aN,aR,aD,au⟩ 0):=by kernel_rfl
theorem ab8 (w:List UInt8)(fM:Int)(aH:List Sy)(av:List It)(aI:List (List UInt8×Int))(lab:List UInt8)(opn:Bool)(bp:List UInt8)(aN:Int)(aR:Bool)(aD au:Int)(q b ai:Int)(r:Nat):aT X0 (cV S1 N2 G3 _) H8 r 82 [.ptr 0 0,.int .i64 q,.int .i64 b,.int .i64 ai,fn1] (eU 4 (vK ⟨fM,aH,av,aI,lab,opn,bp,aN,aR,aD,au⟩ (cs1 w))) gG=Nf q b ai (cs1 w) ⟨fM,aH,av,aI,lab,opn,bp,aN,aR,aD,au⟩ (jP G3 fn1 (cs1 w) ⟨fM,aH,av,aI,lab,opn,bp,aN,aR,IntKind.wrap .i64 (aD+IntKind.wrap .i64 (b*ai)),au⟩ av.length r r ai 0):=by kernel_rfl
theorem ami (w:List UInt8){s:SS}{q b ai:Int}(h:Ia s 1 q b ai=true):aT X0 (cV S1 N2 G3 _) H8 100000 82 [.ptr 0 0,.int .i64 q,.int .i64 b,.int .i64 ai,fn1] (eU 4 (vK s (cs1 w))) gG=eH (cs1 w) (jW s q b ai (it1 s.au w)):=by
 obtain⟨h1',h2,h3,h4,h5,h6⟩:=uN h;refine H9 h1' h2 (l:=it1 s.au w) (by rw[h3];rfl) (by omega) (by omega) h4 h5 h6 (J:=λs' it nb m i=>jP G3 fn1 (cs1 w) (hU s' it) nb 100000 m ai i) (λb' it nb m i hn=>?_) ?_
 .refine ⟨it.length+1,?_⟩;have hn:it.length+1<=1000000:=hn;have e:jP G3 fn1 (cs1 w) (hU { s with aD:=b' } it) nb 100000 (m+1) ai i=ah (bC i ai) (nU it.length (jP G3 fn1 (cs1 w) (hU { s with aD:=b' } (it++it1 s.au w)) (it.length+1) 100000 m ai (IntKind.wrap .i64 (i+1)))) (jh (cs1 w) (hU { s with aD:=b' } it) 0):=by
   cases s;exact ahN ..
  refine e.trans ?_;rw[tc (by omega)]
  skip
 cases s;exact ab8 ..
def F2 (c:List UInt8)(op aM:Int)(l:List Raw):List Row:=[scR c,.cells 36 [.int .i64 op,.int .i64 aM,.dH j3 l],P7 0]
def it2 (au:Int)(c:List UInt8)(op aM:Int)(l:List Raw):List It:=[(au,2,[],(op,aM,(JZ c l).1),[],[],0)]
abbrev fn2:AV:=.fn 89 [] [.ptr 1 0,.ptr 2 0,.ptr 3 0]
theorem ahO (c:List UInt8)(op aM:Int)(l:List Raw)(fM:Int)(aH:List Sy)(av:List It)(aI:List (List UInt8×Int))(lab:List UInt8)(opn:Bool)(bp:List UInt8)(aN:Int)(aR:Bool)(aD au:Int)(nb r m:Nat)(ai i:Int):jP G3 fn2 (F2 c op aM l) ⟨fM,aH,av,aI,lab,opn,bp,aN,aR,aD,au⟩ nb r (m+1) ai i=ah (bC i ai) (ah (Nat.ble c.length 2000000&&oo l) (nU av.length (jP G3 fn2 (F2 c op aM l) ⟨fM,aH,(av++it2 au c op aM l),aI,lab,opn,bp,aN,aR,aD,au⟩ (av.length+1) r m ai (IntKind.wrap .i64 (i+1)))) none) (jh (F2 c op aM l) ⟨fM,aH,av,aI,lab,opn,bp,aN,aR,aD,au⟩ 0):=by kernel_rfl
theorem ab9 (c:List UInt8)(op aM:Int)(l:List Raw)(fM:Int)(aH:List Sy)(av:List It)(aI:List (List UInt8×Int))(lab:List UInt8)(opn:Bool)(bp:List UInt8)(aN:Int)(aR:Bool)(aD au:Int)(q b ai:Int)(r:Nat):aT X0 (cV S1 N2 G3 _) H8 r 82 [.ptr 0 0,.int .i64 q,.int .i64 b,.int .i64 ai,fn2] (eU 5 (vK ⟨fM,aH,av,aI,lab,opn,bp,aN,aR,aD,au⟩ (F2 c op aM l))) gG=Nf q b ai (F2 c op aM l) ⟨fM,aH,av,aI,lab,opn,bp,aN,aR,aD,au⟩ (jP G3 fn2 (F2 c op aM l) ⟨fM,aH,av,aI,lab,opn,bp,aN,aR,IntKind.wrap .i64 (aD+IntKind.wrap .i64 (b*ai)),au⟩ av.length r r ai 0):=by kernel_rfl
theorem amj (c:List UInt8)(op aM:Int)(l:List Raw)(hc:c.length<=2000000)(hl:oo l=true){s:SS}{q b ai:Int}(h:Ia s 1 q b ai=true):aT X0 (cV S1 N2 G3 _) H8 100000 82 [.ptr 0 0,.int .i64 q,.int .i64 b,.int .i64 ai,fn2] (eU 5 (vK s (F2 c op aM l))) gG=eH (F2 c op aM l) (jW s q b ai (it2 s.au c op aM l)):=by
 obtain⟨h1',h2,h3,h4,h5,h6⟩:=uN h;refine H9 h1' h2 (l:=it2 s.au c op aM l) (by rw[h3];rfl) (by omega) (by omega) h4 h5 h6 (J:=λs' it nb m i=>jP G3 fn2 (F2 c op aM l) (hU s' it) nb 100000 m ai i) (λb' it nb m i hn=>?_) ?_
 .refine ⟨it.length+1,?_⟩;have hn:it.length+1<=1000000:=hn;have e:jP G3 fn2 (F2 c op aM l) (hU { s with aD:=b' } it) nb 100000 (m+1) ai i=ah (bC i ai) (ah (Nat.ble c.length 2000000&&oo l) (nU it.length (jP G3 fn2 (F2 c op aM l) (hU { s with aD:=b' } (it++it2 s.au c op aM l)) (it.length+1) 100000 m ai (IntKind.wrap .i64 (i+1)))) none) (jh (F2 c op aM l) (hU { s with aD:=b' } it) 0):=by
   cases s;exact ahO ..
  refine e.trans ?_;rw[dS hc,hl];show ah _ (nU _ _) _=_;rw[tc (by omega)]
  skip
 cases s;exact ab9 ..
def TY (x:RS)(c:List UInt8):List Row:=[Nc x,P7 0,scR c]
def it3 (au:Int)(x:RS)(c:List UInt8):List It:=(x.data.map (Yt au c x.sz))
abbrev fn3:AV:=.fn 91 [] [.ptr 1 0,.ptr 2 0,.ptr 3 0]
theorem ahQ (a0:Int)(iK:List UInt8)(aF sz op aM:Int)(args:List Raw)(data:List Dt)(xx dO:List Nd)(e0 f0:Int)(c:List UInt8)(fM:Int)(aH:List Sy)(av:List It)(aI:List (List UInt8×Int))(lab:List UInt8)(opn:Bool)(bp:List UInt8)(aN:Int)(aR:Bool)(aD au:Int)(nb r m:Nat)(ai i:Int):jP G3 fn3 (TY ⟨a0,iK,aF,sz,op,aM,args,data,xx,dO,e0,f0⟩ c) ⟨fM,aH,av,aI,lab,opn,bp,aN,aR,aD,au⟩ nb r (m+1) ai i=ah (bC i ai) (ah (Yx aH.length av.length&&(Nat.ble c.length 2000000&&(CP sz&&(Kq data&&Nat.ble (av.length+data.length) 1000000)))) (jP G3 fn3 (TY ⟨a0,iK,aF,sz,op,aM,args,data,xx,dO,e0,f0⟩ c) ⟨fM,aH,(av++data.map (Yt au c sz)),aI,lab,opn,bp,aN,aR,aD,au⟩ (av++data.map (Yt au c sz)).length r m ai (IntKind.wrap .i64 (i+1))) none) (jh (TY ⟨a0,iK,aF,sz,op,aM,args,data,xx,dO,e0,f0⟩ c) ⟨fM,aH,av,aI,lab,opn,bp,aN,aR,aD,au⟩ 0):=by kernel_rfl
theorem acd (a0:Int)(iK:List UInt8)(aF sz op aM:Int)(args:List Raw)(data:List Dt)(xx dO:List Nd)(e0 f0:Int)(c:List UInt8)(fM:Int)(aH:List Sy)(av:List It)(aI:List (List UInt8×Int))(lab:List UInt8)(opn:Bool)(bp:List UInt8)(aN:Int)(aR:Bool)(aD au:Int)(q b ai:Int)(r:Nat):aT X0 (cV S1 N2 G3 _) H8 r 82 [.ptr 0 0,.int .i64 q,.int .i64 b,.int .i64 ai,fn3] (eU 5 (vK ⟨fM,aH,av,aI,lab,opn,bp,aN,aR,aD,au⟩ (TY ⟨a0,iK,aF,sz,op,aM,args,data,xx,dO,e0,f0⟩ c))) gG=Nf q b ai (TY ⟨a0,iK,aF,sz,op,aM,args,data,xx,dO,e0,f0⟩ c) ⟨fM,aH,av,aI,lab,opn,bp,aN,aR,aD,au⟩ (jP G3 fn3 (TY ⟨a0,iK,aF,sz,op,aM,args,data,xx,dO,e0,f0⟩ c) ⟨fM,aH,av,aI,lab,opn,bp,aN,aR,IntKind.wrap .i64 (aD+IntKind.wrap .i64 (b*ai)),au⟩ av.length r r ai 0):=by kernel_rfl
theorem amk (x:RS)(c:List UInt8)(hc:c.length<=2000000)(hz:CP x.sz=true)(hd:Kq x.data=true)(h1:1<=x.data.length){s:SS}{q b ai:Int}(h:Ia s x.data.length q b ai=true):aT X0 (cV S1 N2 G3 _) H8 100000 82 [.ptr 0 0,.int .i64 q,.int .i64 b,.int .i64 ai,fn3] (eU 5 (vK s (TY x c))) gG=eH (TY x c) (jW s q b ai (it3 s.au x c)):=by
 obtain⟨h1',h2,h3,h4,h5,h6⟩:=uN h;refine H9 h1' h2 (l:=it3 s.au x c) (by rw[h3];show ((x.data.map _).length:Int)=_;rw[cg]) (by omega) (by have:=(s9 hd).1;omega) h4 h5 h6 (J:=λs' it nb m i=>jP G3 fn3 (TY x c) (hU s' it) nb 100000 m ai i) (λb' it nb m i hn=>?_) ?_
 .refine ⟨(it++it3 s.au x c).length,?_⟩;have hn:it.length+(x.data.map (Yt s.au c x.sz)).length<=1000000:=hn;rw[cg]at hn;have e:jP G3 fn3 (TY x c) (hU { s with aD:=b' } it) nb 100000 (m+1) ai i=ah (bC i ai) (ah (Yx s.aH.length it.length&&(Nat.ble c.length 2000000&&(CP x.sz&&(Kq x.data&&Nat.ble (it.length+x.data.length) 1000000)))) (jP G3 fn3 (TY x c) (hU { s with aD:=b' } (it++it3 s.au x c)) (it++it3 s.au x c).length 100000 m ai (IntKind.wrap .i64 (i+1))) none) (jh (TY x c) (hU { s with aD:=b' } it) 0):=by
   cases s;cases x;exact ahQ ..
  refine e.trans ?_;rw[qY,dS hc,hz,hd,dS hn];rfl
 cases s;cases x;exact acd ..
def TZ (n:Int):List Row:=[P7 0,.cells 3 [.int .i64 n]]
def it4 (au:Int)(n:Int):List It:=[(au,5,[],(0,0,[]),[],[],n)]
abbrev fn4:AV:=.fn 92 [] [.ptr 1 0,.ptr 2 0]
theorem ahR (n:Int)(fM:Int)(aH:List Sy)(av:List It)(aI:List (List UInt8×Int))(lab:List UInt8)(opn:Bool)(bp:List UInt8)(aN:Int)(aR:Bool)(aD au:Int)(nb r m:Nat)(ai i:Int):jP G3 fn4 (TZ n) ⟨fM,aH,av,aI,lab,opn,bp,aN,aR,aD,au⟩ nb r (m+1) ai i=ah (bC i ai) (nU av.length (jP G3 fn4 (TZ n) ⟨fM,aH,(av++it4 au n),aI,lab,opn,bp,aN,aR,aD,au⟩ (av.length+1) r m ai (IntKind.wrap .i64 (i+1)))) (jh (TZ n) ⟨fM,aH,av,aI,lab,opn,bp,aN,aR,aD,au⟩ 0):=by kernel_rfl
theorem ace (n:Int)(fM:Int)(aH:List Sy)(av:List It)(aI:List (List UInt8×Int))(lab:List UInt8)(opn:Bool)(bp:List UInt8)(aN:Int)(aR:Bool)(aD au:Int)(q b ai:Int)(r:Nat):aT X0 (cV S1 N2 G3 _) H8 r 82 [.ptr 0 0,.int .i64 q,.int .i64 b,.int .i64 ai,fn4] (eU 4 (vK ⟨fM,aH,av,aI,lab,opn,bp,aN,aR,aD,au⟩ (TZ n))) gG=Nf q b ai (TZ n) ⟨fM,aH,av,aI,lab,opn,bp,aN,aR,aD,au⟩ (jP G3 fn4 (TZ n) ⟨fM,aH,av,aI,lab,opn,bp,aN,aR,IntKind.wrap .i64 (aD+IntKind.wrap .i64 (b*ai)),au⟩ av.length r r ai 0):=by kernel_rfl
theorem aml (n:Int){s:SS}{q b ai:Int}(h:Ia s 1 q b ai=true):aT X0 (cV S1 N2 G3 _) H8 100000 82 [.ptr 0 0,.int .i64 q,.int .i64 b,.int .i64 ai,fn4] (eU 4 (vK s (TZ n))) gG=eH (TZ n) (jW s q b ai (it4 s.au n)):=by
 obtain⟨h1',h2,h3,h4,h5,h6⟩:=uN h;refine H9 h1' h2 (l:=it4 s.au n) (by rw[h3];rfl) (by omega) (by omega) h4 h5 h6 (J:=λs' it nb m i=>jP G3 fn4 (TZ n) (hU s' it) nb 100000 m ai i) (λb' it nb m i hn=>?_) ?_
 .refine ⟨it.length+1,?_⟩;have hn:it.length+1<=1000000:=hn;have e:jP G3 fn4 (TZ n) (hU { s with aD:=b' } it) nb 100000 (m+1) ai i=ah (bC i ai) (nU it.length (jP G3 fn4 (TZ n) (hU { s with aD:=b' } (it++it4 s.au n)) (it.length+1) 100000 m ai (IntKind.wrap .i64 (i+1)))) (jh (TZ n) (hU { s with aD:=b' } it) 0):=by
   cases s;exact ahR ..
  refine e.trans ?_;rw[tc (by omega)]
  skip
 cases s;exact ace ..
def T1 (n:Int):List Row:=[P7 0,.cells 3 [.int .i64 n]]
def it5 (au:Int)(n:Int):List It:=[(au,4,[],(0,0,[]),[],ahL n,0)]
abbrev fn5:AV:=.fn 93 [] [.ptr 1 0,.ptr 2 0]
theorem ahT (n:Int)(fM:Int)(aH:List Sy)(av:List It)(aI:List (List UInt8×Int))(lab:List UInt8)(opn:Bool)(bp:List UInt8)(aN:Int)(aR:Bool)(aD au:Int)(nb r m:Nat)(ai i:Int):jP G3 fn5 (T1 n) ⟨fM,aH,av,aI,lab,opn,bp,aN,aR,aD,au⟩ nb r (m+1) ai i=ah (bC i ai) (FM n (nU av.length (jP G3 fn5 (T1 n) ⟨fM,aH,(av++it5 au n),aI,lab,opn,bp,aN,aR,aD,au⟩ (av.length+1) r m ai (IntKind.wrap .i64 (i+1))))) (jh (T1 n) ⟨fM,aH,av,aI,lab,opn,bp,aN,aR,aD,au⟩ 0):=by kernel_rfl
theorem acf (n:Int)(fM:Int)(aH:List Sy)(av:List It)(aI:List (List UInt8×Int))(lab:List UInt8)(opn:Bool)(bp:List UInt8)(aN:Int)(aR:Bool)(aD au:Int)(q b ai:Int)(r:Nat):aT X0 (cV S1 N2 G3 _) H8 r 82 [.ptr 0 0,.int .i64 q,.int .i64 b,.int .i64 ai,fn5] (eU 4 (vK ⟨fM,aH,av,aI,lab,opn,bp,aN,aR,aD,au⟩ (T1 n))) gG=Nf q b ai (T1 n) ⟨fM,aH,av,aI,lab,opn,bp,aN,aR,aD,au⟩ (jP G3 fn5 (T1 n) ⟨fM,aH,av,aI,lab,opn,bp,aN,aR,IntKind.wrap .i64 (aD+IntKind.wrap .i64 (b*ai)),au⟩ av.length r r ai 0):=by kernel_rfl
theorem amm (n:Int)(n0:0<=n)(n1:n<=2000000){s:SS}{q b ai:Int}(h:Ia s 1 q b ai=true):aT X0 (cV S1 N2 G3 _) H8 100000 82 [.ptr 0 0,.int .i64 q,.int .i64 b,.int .i64 ai,fn5] (eU 4 (vK s (T1 n))) gG=eH (T1 n) (jW s q b ai (it5 s.au n)):=by
 obtain⟨h1',h2,h3,h4,h5,h6⟩:=uN h;refine H9 h1' h2 (l:=it5 s.au n) (by rw[h3];rfl) (by omega) (by omega) h4 h5 h6 (J:=λs' it nb m i=>jP G3 fn5 (T1 n) (hU s' it) nb 100000 m ai i) (λb' it nb m i hn=>?_) ?_
 .refine ⟨it.length+1,?_⟩;have hn:it.length+1<=1000000:=hn;have e:jP G3 fn5 (T1 n) (hU { s with aD:=b' } it) nb 100000 (m+1) ai i=ah (bC i ai) (FM n (nU it.length (jP G3 fn5 (T1 n) (hU { s with aD:=b' } (it++it5 s.au n)) (it.length+1) 100000 m ai (IntKind.wrap .i64 (i+1))))) (jh (T1 n) (hU { s with aD:=b' } it) 0):=by
   cases s;exact ahT ..
  refine e.trans ?_;rw[Yw n0 n1,tc (by omega)]
  skip
 cases s;exact acf ..
def T2 (b6:List Int):List Row:=[P7 0,.cells 50 [.dH (.int .u8) b6]]
def it6 (au:Int)(b6:List Int):List It:=[(au,4,[],(0,0,[]),[],b6,0)]
abbrev fn6:AV:=.fn 95 [] [.ptr 1 0,.ptr 2 0]
theorem ahU (b6:List Int)(fM:Int)(aH:List Sy)(av:List It)(aI:List (List UInt8×Int))(lab:List UInt8)(opn:Bool)(bp:List UInt8)(aN:Int)(aR:Bool)(aD au:Int)(nb r m:Nat)(ai i:Int):jP G3 fn6 (T2 b6) ⟨fM,aH,av,aI,lab,opn,bp,aN,aR,aD,au⟩ nb r (m+1) ai i=ah (bC i ai) (ah (Nat.ble b6.length 2000000) (nU av.length (jP G3 fn6 (T2 b6) ⟨fM,aH,(av++it6 au b6),aI,lab,opn,bp,aN,aR,aD,au⟩ (av.length+1) r m ai (IntKind.wrap .i64 (i+1)))) none) (jh (T2 b6) ⟨fM,aH,av,aI,lab,opn,bp,aN,aR,aD,au⟩ 0):=by kernel_rfl
theorem acg (b6:List Int)(fM:Int)(aH:List Sy)(av:List It)(aI:List (List UInt8×Int))(lab:List UInt8)(opn:Bool)(bp:List UInt8)(aN:Int)(aR:Bool)(aD au:Int)(q b ai:Int)(r:Nat):aT X0 (cV S1 N2 G3 _) H8 r 82 [.ptr 0 0,.int .i64 q,.int .i64 b,.int .i64 ai,fn6] (eU 4 (vK ⟨fM,aH,av,aI,lab,opn,bp,aN,aR,aD,au⟩ (T2 b6))) gG=Nf q b ai (T2 b6) ⟨fM,aH,av,aI,lab,opn,bp,aN,aR,aD,au⟩ (jP G3 fn6 (T2 b6) ⟨fM,aH,av,aI,lab,opn,bp,aN,aR,IntKind.wrap .i64 (aD+IntKind.wrap .i64 (b*ai)),au⟩ av.length r r ai 0):=by kernel_rfl
theorem amn (b6:List Int)(hl:b6.length<=2000000){s:SS}{q b ai:Int}(h:Ia s 1 q b ai=true):aT X0 (cV S1 N2 G3 _) H8 100000 82 [.ptr 0 0,.int .i64 q,.int .i64 b,.int .i64 ai,fn6] (eU 4 (vK s (T2 b6))) gG=eH (T2 b6) (jW s q b ai (it6 s.au b6)):=by
 obtain⟨h1',h2,h3,h4,h5,h6⟩:=uN h;refine H9 h1' h2 (l:=it6 s.au b6) (by rw[h3];rfl) (by omega) (by omega) h4 h5 h6 (J:=λs' it nb m i=>jP G3 fn6 (T2 b6) (hU s' it) nb 100000 m ai i) (λb' it nb m i hn=>?_) ?_
 .refine ⟨it.length+1,?_⟩;have hn:it.length+1<=1000000:=hn;have e:jP G3 fn6 (T2 b6) (hU { s with aD:=b' } it) nb 100000 (m+1) ai i=ah (bC i ai) (ah (Nat.ble b6.length 2000000) (nU it.length (jP G3 fn6 (T2 b6) (hU { s with aD:=b' } (it++it6 s.au b6)) (it.length+1) 100000 m ai (IntKind.wrap .i64 (i+1)))) none) (jh (T2 b6) (hU { s with aD:=b' } it) 0):=by
   cases s;exact ahU ..
  refine e.trans ?_;rw[dS hl];show ah _ (nU _ _) _=_;rw[tc (by omega)]
  skip
 cases s;exact acg ..
abbrev OP:=Option (Bool×AV×List Row)
def oz (cs:List Row)(r:SR'):AV×List Row:=(.int .i64 r.2,vK r.1 cs)
def gP1 (q b ai:Int)(cp:List AV)(rows:List Row):OP :=
 match cp,rows with
 |[.ptr 1 0,.ptr 2 0],rd :: .cells t1 [.ptr 0 0] :: .cells t2 [.str w]::l=>match uM 2 rd l with
  |some (b1,s)=>some (b1&&((Nat.beq t1 67&&(Nat.beq t2 9))&&Ia s 1 q b ai),oz (cs1 w) (jW s q b ai (it1 s.au w)))
  |_=>none
 |_,_=>none
theorem ahV {q b ai:Int}{cp:List AV}{rows outs:List Row}{v:AV}(h:gP1 q b ai cp rows=some (true,v,outs)):aT X0 (cV S1 N2 G3 _) H8 100000 82 [.ptr 0 0,.int .i64 q,.int .i64 b,.int .i64 ai,.fn 83 [] cp] (eU (s6 rows) rows) gG=some (v,outs):=by
 unfold gP1 at h;split at h;case h_2=>cases h
 rename_i rd t1 t2 w l;split at h;case h_2=>cases h
 rename_i b1 s hr;simp only[oz,aq,ay,ak,aO]at h;obtain⟨⟨rfl,⟨g0,g1⟩,hp⟩,rfl,rfl⟩:=h;subst g0;subst g1;obtain⟨rfl,rfl⟩:=fX hr;exact ami w hp
def gP2 (q b ai:Int)(cp:List AV)(rows:List Row):OP :=
 match cp,rows with
 |[.ptr 1 0,.ptr 2 0,.ptr 3 0],rd :: .cells t1 [.str c] :: .cells t2 [.int .i64 op,.int .i64 aM,.dH e x] :: .cells t3 [.ptr 0 0]::l=>match iC e j3 x,uM 3 rd l with
  |some x,some (b1,s)=>some (b1&&((Nat.beq t1 106&&(Nat.beq t2 36&&(Nat.beq t3 67&&(Nat.ble c.length 2000000&&(oo x)))))&&Ia s 1 q b ai),oz (F2 c op aM x) (jW s q b ai (it2 s.au c op aM x)))
  |_,_=>none
 |_,_=>none
theorem ahW {q b ai:Int}{cp:List AV}{rows outs:List Row}{v:AV}(h:gP2 q b ai cp rows=some (true,v,outs)):aT X0 (cV S1 N2 G3 _) H8 100000 82 [.ptr 0 0,.int .i64 q,.int .i64 b,.int .i64 ai,.fn 89 [] cp] (eU (s6 rows) rows) gG=some (v,outs):=by
 unfold gP2 at h;split at h;case h_2=>cases h
 rename_i rd t1 c t2 op aM e x t3 l;split at h;case h_2=>cases h
 rename_i x' b1 s hx hr;simp only[oz,aq,ay,ak,aO]at h;obtain⟨⟨rfl,⟨g0,g1,g2,g3,g4⟩,hp⟩,rfl,rfl⟩:=h;subst g0;subst g1;subst g2;obtain⟨rfl,hx⟩:=bT hx;have hx:x=x':=hx;subst hx;obtain⟨rfl,rfl⟩:=fX hr;exact amj c op aM x (az g3) g4 hp
def gP3 (q b ai:Int)(cp:List AV)(rows:List Row):OP :=
 match cp,rows with
 |[.ptr 1 0,.ptr 2 0,.ptr 3 0],rd::st :: .cells t2 [.ptr 0 0] :: .cells t3 [.str c]::l=>match FN st,uM 3 rd l with
  |some (b0,x),some (b1,s)=>some (b1&&((b0&&(Nat.beq t2 67&&(Nat.beq t3 106&&(Nat.ble c.length 2000000&&(CP x.sz&&(Kq x.data&&(Nat.ble 1 x.data.length)))))))&&Ia s x.data.length q b ai),oz (TY x c) (jW s q b ai (it3 s.au x c)))
  |_,_=>none
 |_,_=>none
theorem ahX {q b ai:Int}{cp:List AV}{rows outs:List Row}{v:AV}(h:gP3 q b ai cp rows=some (true,v,outs)):aT X0 (cV S1 N2 G3 _) H8 100000 82 [.ptr 0 0,.int .i64 q,.int .i64 b,.int .i64 ai,.fn 91 [] cp] (eU (s6 rows) rows) gG=some (v,outs):=by
 unfold gP3 at h;split at h;case h_2=>cases h
 rename_i rd st t2 t3 c l;split at h;case h_2=>cases h
 rename_i b0 x b1 s hx hr;simp only[oz,aq,ay,ak,aO]at h;obtain⟨⟨rfl,⟨g0,g1,g2,g3,g4,g5,g6⟩,hp⟩,rfl,rfl⟩:=h;subst g0;subst g1;subst g2;obtain rfl:=nQ hx;obtain⟨rfl,rfl⟩:=fX hr;exact amk x c (az g3) g4 g5 (az g6) hp
def gP4 (q b ai:Int)(cp:List AV)(rows:List Row):OP :=
 match cp,rows with
 |[.ptr 1 0,.ptr 2 0],rd :: .cells t1 [.ptr 0 0] :: .cells t2 [.int .i64 n]::l=>match uM 2 rd l with
  |some (b1,s)=>some (b1&&((Nat.beq t1 67&&(Nat.beq t2 3))&&Ia s 1 q b ai),oz (TZ n) (jW s q b ai (it4 s.au n)))
  |_=>none
 |_,_=>none
theorem ahY {q b ai:Int}{cp:List AV}{rows outs:List Row}{v:AV}(h:gP4 q b ai cp rows=some (true,v,outs)):aT X0 (cV S1 N2 G3 _) H8 100000 82 [.ptr 0 0,.int .i64 q,.int .i64 b,.int .i64 ai,.fn 92 [] cp] (eU (s6 rows) rows) gG=some (v,outs):=by
 unfold gP4 at h;split at h;case h_2=>cases h
 rename_i rd t1 t2 n l;split at h;case h_2=>cases h
 rename_i b1 s hr;simp only[oz,aq,ay,ak,aO]at h;obtain⟨⟨rfl,⟨g0,g1⟩,hp⟩,rfl,rfl⟩:=h;subst g0;subst g1;obtain⟨rfl,rfl⟩:=fX hr;exact aml n hp
def gP5 (q b ai:Int)(cp:List AV)(rows:List Row):OP :=
 match cp,rows with
 |[.ptr 1 0,.ptr 2 0],rd :: .cells t1 [.ptr 0 0] :: .cells t2 [.int .i64 n]::l=>match uM 2 rd l with
  |some (b1,s)=>some (b1&&((Nat.beq t1 67&&(Nat.beq t2 3&&(!bC n 0&&(!bC 2000000 n))))&&Ia s 1 q b ai),oz (T1 n) (jW s q b ai (it5 s.au n)))
  |_=>none
 |_,_=>none
theorem ahZ {q b ai:Int}{cp:List AV}{rows outs:List Row}{v:AV}(h:gP5 q b ai cp rows=some (true,v,outs)):aT X0 (cV S1 N2 G3 _) H8 100000 82 [.ptr 0 0,.int .i64 q,.int .i64 b,.int .i64 ai,.fn 93 [] cp] (eU (s6 rows) rows) gG=some (v,outs):=by
 unfold gP5 at h;split at h;case h_2=>cases h
 rename_i rd t1 t2 n l;split at h;case h_2=>cases h
 rename_i b1 s hr;simp only[oz,aq,ay,ak,aO]at h;obtain⟨⟨rfl,⟨g0,g1,g2,g3⟩,hp⟩,rfl,rfl⟩:=h;subst g0;subst g1;obtain⟨rfl,rfl⟩:=fX hr;exact amm n (by rw[cD]at g2;simpa using g2) (by rw[cD]at g3;simpa using g3) hp
def gP6 (q b ai:Int)(cp:List AV)(rows:List Row):OP :=
 match cp,rows with
 |[.ptr 1 0,.ptr 2 0],rd :: .cells t1 [.ptr 0 0] :: .cells t2 [.dH e x]::l=>match iC e (.int .u8) x,uM 2 rd l with
  |some x,some (b1,s)=>some (b1&&((Nat.beq t1 67&&(Nat.beq t2 50&&(Nat.ble x.length 2000000)))&&Ia s 1 q b ai),oz (T2 x) (jW s q b ai (it6 s.au x)))
  |_,_=>none
 |_,_=>none
theorem ah0 {q b ai:Int}{cp:List AV}{rows outs:List Row}{v:AV}(h:gP6 q b ai cp rows=some (true,v,outs)):aT X0 (cV S1 N2 G3 _) H8 100000 82 [.ptr 0 0,.int .i64 q,.int .i64 b,.int .i64 ai,.fn 95 [] cp] (eU (s6 rows) rows) gG=some (v,outs):=by
 unfold gP6 at h;split at h;case h_2=>cases h
 rename_i rd t1 t2 e x l;split at h;case h_2=>cases h
 rename_i x' b1 s hx hr;simp only[oz,aq,ay,ak,aO]at h;obtain⟨⟨rfl,⟨g0,g1,g2⟩,hp⟩,rfl,rfl⟩:=h;subst g0;subst g1;obtain⟨rfl,hx⟩:=bT hx;have hx:x=x':=hx;subst hx;obtain⟨rfl,rfl⟩:=fX hr;exact amn x (az g2) hp
def gP (args:List AV)(rows:List Row):OP :=
 match args with
 |[.ptr 0 0,.int .i64 q,.int .i64 b,.int .i64 ai,.fn f [] cp] =>
  ah (Nat.beq f 83) (gP1 q b ai cp rows) (ah (Nat.beq f 89) (gP2 q b ai cp rows) (ah (Nat.beq f 91) (gP3 q b ai cp rows) (ah (Nat.beq f 92) (gP4 q b ai cp rows) (ah (Nat.beq f 93) (gP5 q b ai cp rows) (ah (Nat.beq f 95) (gP6 q b ai cp rows) (none))))))
 |_=>none
theorem amo:j7 X0 fU 82 gP :=
 nP (λargs=>lt.bS rfl args) (qW nF uL aeb) λargs rows v outs hg=>by
  unfold gP at hg;split at hg;case h_2=>cases hg
  rename_i q b ai f cp;refine⟨H8,100000,?_⟩;rw[ax]at hg;split at hg
  .rename_i hf;obtain rfl:=bf hf;exact ahV hg
  rw[ax]at hg;split at hg
  .rename_i hf;obtain rfl:=bf hf;exact ahW hg
  rw[ax]at hg;split at hg
  .rename_i hf;obtain rfl:=bf hf;exact ahX hg
  rw[ax]at hg;split at hg
  .rename_i hf;obtain rfl:=bf hf;exact ahY hg
  rw[ax]at hg;split at hg
  .rename_i hf;obtain rfl:=bf hf;exact ahZ hg
  rw[ax]at hg;split at hg
  .rename_i hf;obtain rfl:=bf hf;exact ah0 hg
  cases hg
def G4:List AZ:=(82,⟨70,wg,gP⟩)::G3
theorem yO:pX X0 fU G4:=.cons amo aeb
def TI {β:Type}(s:SS)(go:List UInt8->Option β):Option β:=ah s.opn (go s.bp) (go s.lab)
def T3 (s:SS)(g:Bool)(a q b ai:Int)(l:List It):OG:=ah (Yx s.aH.length s.av.length&&(g&&Ia s a q b ai)) (eH [] (jW s q b ai l)) none
def Nh (s:SS)(a q b ai:Int)(l:List It):OG:=ah (Yx s.aH.length s.av.length&&Ia s a q b ai) (eH [] (jW s q b ai l)) none
def frT (s:SS)(w:List UInt8)(go:OG):OG:=ah (ri s.aI w) (jh [] s 7) (ah (bC 60 (w.length:Int)) (jh [] s 3) go)
def syT (s:SS)(w:List UInt8)(n:Int):OG:=nU s.aH.length (jh [] (PL s w n) 0)
def kT (s:SS)(x:List Nd)(go:Int->OG):OG:=ah (Yx s.aH.length s.av.length&&(zG s&&eu x)) (ah (!bI (cO gz fP s x).2 0) (jh [] s (cO gz fP s x).2) (go (cO gz fP s x).1)) none
def labT' (s:SS)(w:List UInt8):OG :=
 TI s λc=>nmT c w λfull=>frT s full (ah s.opn (syT s full s.aN)
  ((λgo:List UInt8->OG=>ah (!lt.preB w [46]) (go w) (go s.lab)) λL=>Nh { s with lab:=L,aI:=iw s.aI full 0 } 1 1 0 1 (it1 s.au full)))
theorem Yy (fM:Int)(aH:List Sy)(av:List It)(aI:List (List UInt8×Int))(lab:List UInt8)(opn:Bool)(bp:List UInt8)(aN:Int)(aR:Bool)(aD au:Int)(w:List UInt8)(r:Nat) :
 aT X0 (cV S1 N2 G4 _) gO r 43 [.ptr 0 0,.str w] (eU 2 (vK ⟨fM,aH,av,aI,lab,opn,bp,aN,aR,aD,au⟩ [])) gG=labT' ⟨fM,aH,av,aI,lab,opn,bp,aN,aR,aD,au⟩ w:=by kernel_rfl
def RM (s:SS)(op aM:Int)(l:List Raw)(ai:Int):OG :=
 TI s λc=>ah (Nat.ble c.length 2000000&&oo l) (ah (!(JZ c l).2) (jh [] s 3) (T3 s (Nat.ble c.length 2000000&&oo l) 1 1 0 ai (it2 s.au c op aM l))) none
theorem T4 (fM:Int)(aH:List Sy)(av:List It)(aI:List (List UInt8×Int))(lab:List UInt8)(opn:Bool)(bp:List UInt8)(aN:Int)(aR:Bool)(aD au:Int)(op aM:Int)(l:List Raw)(ai:Int)(r:Nat) :
 aT X0 (cV S1 N2 G4 _) gO r 46 [.ptr 0 0,.agg [.int .i64 op,.int .i64 aM,.dH j3 l],.int .i64 ai] (eU 2 (vK ⟨fM,aH,av,aI,lab,opn,bp,aN,aR,aD,au⟩ [])) gG=RM ⟨fM,aH,av,aI,lab,opn,bp,aN,aR,aD,au⟩ op aM l ai:=by kernel_rfl
def ach (s:SS)(x:RS):OG:=TI s λc=>nmT c x.lab λfull=>frT s full (kT s x.x λn=>syT s full n)
theorem Yz (fM:Int)(aH:List Sy)(av:List It)(aI:List (List UInt8×Int))(lab:List UInt8)(opn:Bool)(bp:List UInt8)(aN:Int)(aR:Bool)(aD au:Int)(a0:Int)(iK:List UInt8)(aF sz op aM:Int)(args:List Raw)(data:List Dt)(xx dO:List Nd)(e0 f0:Int)(r:Nat) :
 aT X0 (cV S1 N2 G4 _) gO r 48 [.ptr 0 0,.agg (Jv ⟨a0,iK,aF,sz,op,aM,args,data,xx,dO,e0,f0⟩)] (eU 2 (vK ⟨fM,aH,av,aI,lab,opn,bp,aN,aR,aD,au⟩ [])) gG=ach ⟨fM,aH,av,aI,lab,opn,bp,aN,aR,aD,au⟩ ⟨a0,iK,aF,sz,op,aM,args,data,xx,dO,e0,f0⟩:=by kernel_rfl
def endT' (s:SS):OG:=ah (Nat.ble (s.bp.length+CL.length) 9223372036854775807) (frT s (s.bp++CL) (nU s.aH.length (jh [] { PL s (s.bp++CL) s.aN with opn:=false } 0))) none
theorem YA (fM:Int)(aH:List Sy)(av:List It)(aI:List (List UInt8×Int))(lab:List UInt8)(opn:Bool)(bp:List UInt8)(aN:Int)(aR:Bool)(aD au:Int)(r:Nat) :
 aT X0 (cV S1 N2 G4 _) gO r 53 [.ptr 0 0] (eU 2 (vK ⟨fM,aH,av,aI,lab,opn,bp,aN,aR,aD,au⟩ [])) gG=endT' ⟨fM,aH,av,aI,lab,opn,bp,aN,aR,aD,au⟩:=by kernel_rfl
def aci (s:SS)(x:RS):OG:=kT s x.x λn =>
 (λgo:OG=>ah s.aR (jh [] s 8) (ah (bC 0 (s.av.length:Int)) (jh [] s 8) go)) (ah (bC n 0) (jh [] s 5) (ah (bC 140737488355328 n) (jh [] s 5) (jh [] { s with fM:=n,aR:=true } 0)))
theorem YB (fM:Int)(aH:List Sy)(av:List It)(aI:List (List UInt8×Int))(lab:List UInt8)(opn:Bool)(bp:List UInt8)(aN:Int)(aR:Bool)(aD au:Int)(a0:Int)(iK:List UInt8)(aF sz op aM:Int)(args:List Raw)(data:List Dt)(xx dO:List Nd)(e0 f0:Int)(r:Nat) :
 aT X0 (cV S1 N2 G4 _) gO r 50 [.ptr 0 0,.agg (Jv ⟨a0,iK,aF,sz,op,aM,args,data,xx,dO,e0,f0⟩)] (eU 2 (vK ⟨fM,aH,av,aI,lab,opn,bp,aN,aR,aD,au⟩ [])) gG=aci ⟨fM,aH,av,aI,lab,opn,bp,aN,aR,aD,au⟩ ⟨a0,iK,aF,sz,op,aM,args,data,xx,dO,e0,f0⟩:=by kernel_rfl
def ah1 (n:Int):Int:=IntKind.wrap .i64 ((BitVec.ofInt 64 n &&& BitVec.ofInt 64 (IntKind.wrap .i64 (n-1))).toNat:Int)
def acj (s:SS)(x:RS):OG:=kT s x.x λn =>
 ah (bC n 1) (jh [] s 5) (ah (bC 4096 n) (jh [] s 5) (ah (!bI (ah1 n) 0) (jh [] s 5) (Nh s 1 1 0 1 (it4 s.au n))))
theorem YC (fM:Int)(aH:List Sy)(av:List It)(aI:List (List UInt8×Int))(lab:List UInt8)(opn:Bool)(bp:List UInt8)(aN:Int)(aR:Bool)(aD au:Int)(a0:Int)(iK:List UInt8)(aF sz op aM:Int)(args:List Raw)(data:List Dt)(xx dO:List Nd)(e0 f0:Int)(r:Nat) :
 aT X0 (cV S1 N2 G4 _) gO r 49 [.ptr 0 0,.agg (Jv ⟨a0,iK,aF,sz,op,aM,args,data,xx,dO,e0,f0⟩)] (eU 2 (vK ⟨fM,aH,av,aI,lab,opn,bp,aN,aR,aD,au⟩ [])) gG=acj ⟨fM,aH,av,aI,lab,opn,bp,aN,aR,aD,au⟩ ⟨a0,iK,aF,sz,op,aM,args,data,xx,dO,e0,f0⟩:=by kernel_rfl
def ack (s:SS)(x:RS)(ai:Int):OG:=kT s x.x λn=>ah (bC n 0) (jh [] s 5) (ah (bI x.sz 0) none (ah (bC (IntKind.wrap .i64 (Int.tdiv 1048576 x.sz)) n) (jh [] s 3)
 (ah s.opn (jh [] { s with aN:=IntKind.wrap .i64 (s.aN+IntKind.wrap .i64 (n*x.sz)) } 0) (T3 s (!bC (IntKind.wrap .i64 (n*x.sz)) 0 && !bC 2000000 (IntKind.wrap .i64 (n*x.sz))) 1 1 (IntKind.wrap .i64 (n*x.sz)) ai (it5 s.au (IntKind.wrap .i64 (n*x.sz)))))))
theorem YD (fM:Int)(aH:List Sy)(av:List It)(aI:List (List UInt8×Int))(lab:List UInt8)(opn:Bool)(bp:List UInt8)(aN:Int)(aR:Bool)(aD au:Int)(a0:Int)(iK:List UInt8)(aF sz op aM:Int)(args:List Raw)(data:List Dt)(xx dO:List Nd)(e0 f0 ai:Int)(r:Nat) :
 aT X0 (cV S1 N2 G4 _) gO r 54 [.ptr 0 0,.agg (Jv ⟨a0,iK,aF,sz,op,aM,args,data,xx,dO,e0,f0⟩),.int .i64 ai] (eU 2 (vK ⟨fM,aH,av,aI,lab,opn,bp,aN,aR,aD,au⟩ [])) gG=ack ⟨fM,aH,av,aI,lab,opn,bp,aN,aR,aD,au⟩ ⟨a0,iK,aF,sz,op,aM,args,data,xx,dO,e0,f0⟩ ai:=by kernel_rfl
end
end Go.Proofs.YtbeckacfibledaaGreatDoor.ps.sr
namespace Go.Proofs.YtbeckacfibledaaGreatDoor.ps.sp
open Go.Tv Go.Ev Go.Proofs.YtbeckacfibledaaGreatDoor.ex
noncomputable section
def X1:ij:={ ex.X0 with fl:=true }
abbrev kn:fe:=lt.kn
def K0:Up:=λ_=>none
abbrev inl:FuncId->Bool:=lt.inl
theorem bS {f:FuncId}(h:inl f=true)(args:List Value):kn f args=none:=lt.bS h args
def c1 (β:Type):cI β:=sJ X1 K0 inl 200 β 40
theorem Hp (β:Type):cX X1 (dR X1 kn) (c1 β):=lB (by intro id s g h;cases h) (λf h args=>bS h args) 200 40 β
def wI (n:Nat):Int:=IntKind.wrap .u64 (IntKind.wrap .i64 (n:Int))
def leB (n:Nat):List Int:=[IntKind.wrap .u8 (Int.fdiv (wI n) 1),IntKind.wrap .u8 (Int.fdiv (wI n) 256),IntKind.wrap .u8 (Int.fdiv (wI n) 65536),IntKind.wrap .u8 (Int.fdiv (wI n) 16777216),IntKind.wrap .u8 (Int.fdiv (wI n) 4294967296),IntKind.wrap .u8 (Int.fdiv (wI n) 1099511627776),IntKind.wrap .u8 (Int.fdiv (wI n) 281474976710656),IntKind.wrap .u8 (Int.fdiv (wI n) 72057594037927936)]
def T5 (n:Nat):Bool:=Ieee.Format.order (FloatKind.format FloatKind.f64) n n != some Ordering.eq
def T6:List Int:=[1,0,0,0,0,0,248,127]
def YE (n:Nat):Bool:=bI (Int.fdiv (IntKind.wrap .i64 (IntKind.wrap .u64 (IntKind.wrap .u64 (IntKind.wrap .i64 (n:Int))*1))) 1) (IntKind.wrap .i64 (n:Int))
def amr (n:Nat):Bool:=bI (IntKind.wrap .i64 (Int.fdiv (IntKind.wrap .u64 (IntKind.wrap .u64 (IntKind.wrap .i64 (n:Int))*1)) 1)) (IntKind.wrap .i64 (n:Int))
def xI (v:AV)(H:aG):Option (AV×Option Row) :=
 match v with
 |.fH (.own i _::_)=>some (v,H.get i)
 |.own i _=>some (v,H.get i)
 |.rO i _ _ _=>some (v,H.get i)
 |_=>some (v,none)
theorem Ch {v:AV}{H:aG}{r:AV×Option Row}(h:xI v H=some r):v=r.1:=by
 unfold xI at h;split at h<;>(cases h;rfl)
def ptB (n:Nat):List Int:=[IntKind.wrap .u8 (Int.fdiv (n:Int) 1),IntKind.wrap .u8 (Int.fdiv (n:Int) 256),IntKind.wrap .u8 (Int.fdiv (n:Int) 65536),IntKind.wrap .u8 (Int.fdiv (n:Int) 16777216),IntKind.wrap .u8 (Int.fdiv (n:Int) 4294967296),IntKind.wrap .u8 (Int.fdiv (n:Int) 1099511627776),IntKind.wrap .u8 (Int.fdiv (n:Int) 281474976710656),IntKind.wrap .u8 (Int.fdiv (n:Int) 72057594037927936)]
def RN:Option Nat->List Int
 |none=>T6
 |some n=>ah (T5 n) T6 (ptB n)
theorem mS (a:Option Nat):(RN a).length=8:=by
 cases a with
 |none=>rfl
 |some n =>
  show (ah (T5 n) T6 (ptB n)).length=8;cases T5 n<;>rfl
theorem amt (n:Nat):wI n=(n:Int)%18446744073709551616:=by
 unfold wI IntKind.wrap;have e1:IntKind.signed .u64=false:=rfl;have e2:IntKind.signed .i64=true:=rfl;have e3:IntKind.bits .u64=64:=rfl;have e4:IntKind.bits .i64=64:=rfl;simp only[e1,e2,e3,e4,iY,dM];have e5:((2:Int) ^ 64)=18446744073709551616:=by decide
 simp;split<;>omega
theorem xJ {d:Int}(x:Int)(c:Int)(hd:0<d)(hc:256*d*c=18446744073709551616):IntKind.wrap .u8 (Int.fdiv (x%18446744073709551616) d)=IntKind.wrap .u8 (Int.fdiv x d):=by
 have e:∀y:Int,IntKind.wrap .u8 y=y%256:=λy=>by
  unfold IntKind.wrap;have e1:IntKind.signed .u8=false:=rfl;have e3:IntKind.bits .u8=8:=rfl;simp only[e1,e3,iY];simp
 rw[e,e,iP _ (Int.le_of_lt hd),iP _ (Int.le_of_lt hd)];have h1:x%18446744073709551616=x-18446744073709551616*(x/18446744073709551616):=by omega
 generalize x/18446744073709551616=q at h1;rw[h1,<-hc];have h2:x-256*d*c*q=x+(-(256*c*q))*d:=by
  have:256*d*c*q=256*c*q*d:=by rw[jI 256 d c,oC d c,<-jI 256 c d,jI (256*c) d q,oC d q,<-jI]
  rw[this,Int.neg_mul];omega
 rw[h2,Int.add_mul_ediv_right _ _ (by omega)];have h3 : -(256*c*q)=256*(-(c*q)):=by rw[jI,Int.mul_neg]
 rw[h3];omega
theorem ah2 (n:Nat):leB n=ptB n:=by
 unfold leB ptB;rw[amt,xJ (d:=1) _ 72057594037927936 (by decide) (by decide),xJ (d:=256) _ 281474976710656 (by decide) (by decide),xJ (d:=65536) _ 1099511627776 (by decide) (by decide),xJ (d:=16777216) _ 4294967296 (by decide) (by decide),
  xJ (d:=4294967296) _ 16777216 (by decide) (by decide),xJ (d:=1099511627776) _ 65536 (by decide) (by decide),xJ (d:=281474976710656) _ 256 (by decide) (by decide),xJ (d:=72057594037927936) _ 1 (by decide) (by decide)]
theorem T7 (n:Nat):YE n=true:=by
 unfold YE;rw[eF,eK];generalize (n:Int)=x;unfold IntKind.wrap;have e1:IntKind.signed .u64=false:=rfl;have e2:IntKind.signed .i64=true:=rfl;have e3:IntKind.bits .u64=64:=rfl;have e4:IntKind.bits .i64=64:=rfl;simp only[e1,e2,e3,e4,iY,dM];have e5:((2:Int) ^ 64)=18446744073709551616:=by decide
 simp;split<;>split<;>omega
def obF (l:List Int):Option (AV×Option Row):=some (.rO 0 0 8 8,some (.list 5 (.int .u8) l 8 true false))
set_option maxRecDepth 100000 in
theorem ah3 (n:Nat):aT X1 (c1 _) gO 100 127 [.qg n] aG.empty xI=ah (T5 n) (obF T6) (ah (YE n) (obF (leB n)) (ah (!amr n) (some (.dG,none)) (obF (leB n)))):=by kernel_rfl
set_option maxRecDepth 100000 in
theorem ah4:aT X1 (c1 _) gO 100 127 [.fl none] aG.empty xI=obF T6:=by kernel_rfl
theorem amu (n:Nat):aT X1 (c1 _) gO 100 127 [.qg n] aG.empty xI=obF (RN (some n)):=by
 rw[ah3,T7,ah2];show _=obF (ah (T5 n) T6 (ptB n));cases T5 n<;>rfl
def acm:List AV->Option (Option Nat)
 |[.qg n]=>some (some n)
 |[.fl a]=>some a
 |_=>none
def amv:Option Nat->AV
 |some n=>.qg n
 |none=>.fl none
theorem acn {args:List AV}{a:Option Nat}(h:acm args=some a):∀S m,LV S args m->LV S [amv a] m:=by
 intro S m hm;unfold acm at h;split at h
 .cases h;exact hm
 .cases h;obtain⟨x,m',rfl,h1,h2⟩:=hm.cons_inv;refine LV.cons ?_ h2;cases h1 with
  |fl b v hv =>
   cases a with
   |none=>exact .fl none _ hv
   |some n=>rw[hv];exact .qg n
 cases h
theorem aco {f:FuncId}(hk:∀args,kn f args=none){rs:Option Nat->List fA}(h:∀a:Option Nat,∃v o,aT X1 (c1 _) gO 100 f [amv a] aG.empty xI=some (v,o)/\∀M,xI v M=some (v,o)->tE M [] [v] (rs a)/\rQ [v]=v) :
 dc X1 (dR X1 kn) f λargs=>match acm args with|some a=>some (true,rs a)|none=>none:=by
 intro args r hg;simp only at hg;split at hg
 .rename_i a ha;simp only[aq,ay]at hg;obtain⟨_,rfl⟩:=hg;obtain⟨v,o,h1,h2⟩:=h a;obtain⟨v',M1,k1,k2⟩:=oy hk (Hp _) h1;have e:v'=v:=Ch k1;rw[e]at k1 k2;refine⟨[v],M1,λS E bJ hr hgl hl=>k2 [v] (h2 M1 k1).2.symm S E bJ hr hgl (acn ha S bJ hl),(h2 M1 k1).1⟩
 cases hg
def rsF (a:Option Nat):List fA:=[.room 5 (.int .u8) (RN a) 8]
def gF (args:List AV):Option (Bool×List fA):=match acm args with|some a=>some (true,rsF a)|none=>none
theorem aql:dc X1 (dR X1 kn) 127 gF :=
 aco (λargs=>bS rfl args) (rs:=rsF) λa=>⟨.rO 0 0 8 8,some (.list 5 (.int .u8) (RN a) 8 true false),by
  cases a with
  |none=>exact ah4
  |some n=>exact amu n,λM hM=>⟨⟨rfl,0,8,by rw[mS],(jN (bL hM)).2,by simp,trivial⟩,rfl⟩⟩
def N1:List wh:=[(127,[none],gF)]
theorem RJ:iT X1 (dR X1 kn) N1:=.cons aql .nil
def c2 (β:Type):cI β:=sJ X1 (Uq N1) inl 200 β 40
theorem Q4 (β:Type):cX X1 (dR X1 kn) (c2 β):=lB RJ (λf h args=>bS h args) 200 40 β
abbrev Ob:=Option (AV×Option Row)
def Ib (a:Option Nat):List Int:=List.take 8 (List.drop 0 (RN a))
theorem YF (a:Option Nat):Ib a=RN a:=by
 unfold Ib;rw[ke,<-mS a,kI]
def v9 (o v:List Int)(k:Nat->List Int->Ob):Ob:=ah (Nat.ble (o.length+v.length) 2000000) (k (o.length+v.length) (o++v)) none
theorem DD {o v:List Int}(h:o.length+v.length<=2000000)(k:Nat->List Int->Ob):v9 o v k=k (o.length+v.length) (o++v):=by
 unfold v9;rw[dS h]
def CQ (a b c d:Option Nat):Option Nat:=NT .sub (NT .mul a c) (NT .mul b d)
def CS (a b c d:Option Nat):Option Nat:=NT .add (NT .mul a d) (NT .mul b c)
def td:Nat:=4607182418800017408
def obE:Ob:=some (.fH [.dG,.int .i64 5],none)
def obO (k:Nat)(o:List Int):Ob:=some (.fH [.own 0 k,.int .i64 0],some (.list 5 (.int .u8) o 0 false false))
def acp (re im n:Int)(go:Ob):Ob :=
 ah (bC n 1) obE (ah (bC 64 n) obE (ah (bC re (-9007199254740992)) obE (ah (bC 9007199254740992 re) obE (ah (bC im (-9007199254740992)) obE (ah (bC 9007199254740992 im) obE go)))))
def fI (n:Int):Nat:=FloatKind.nearest .f64 n
def pA:List Bool:=[true,true,true,true,false,true,false]
def anA:ei:=⟨gD [8,9,10,38,39] pA,.none,[]⟩
def jA0 (c d:Nat)(n:Int)(r m:Nat)(i:Int):Ob:=iF X1 (c2 _) anA r 94 pA xI m (kr 76 [(8,.dG),(9,.cx (some c) (some d)),(10,.Ad (.complex .f64 4607182418800017408 0)),(38,.int .i64 n),(39,.int .i64 i)]) (nA [])
def jA1 (c d:Nat)(n:Int)(r m:Nat)(k:Nat)(o:List Int)(a b:Option Nat)(i:Int):Ob:=iF X1 (c2 _) anA r 94 pA xI m (kr 76 [(8,.own 0 k),(9,.cx (some c) (some d)),(10,.cx a b),(38,.int .i64 n),(39,.int .i64 i)]) (nA [.list 5 (.int .u8) o 0 false false])
set_option maxRecDepth 100000 in
theorem ah7 (c d:Nat)(n:Int)(r m:Nat)(k:Nat)(o:List Int)(a b:Option Nat)(i:Int):jA1 c d n r (m+1) k o a b i =
 ah (bC i n) (v9 o (Ib a) λ_ o1=>v9 o1 (Ib b) λk2 o2=>jA1 c d n r m k2 o2 (CQ a b (some c) (some d)) (CS a b (some c) (some d)) (IntKind.wrap .i64 (i+1))) (obO k o):=by kernel_rfl
set_option maxRecDepth 100000 in
theorem ah8 (c d:Nat)(n:Int)(r m:Nat)(i:Int):jA0 c d n r (m+1) i =
 ah (bC i n) (v9 [] (Ib (some td)) λ_ o1=>v9 o1 (Ib (some 0)) λk2 o2=>jA1 c d n r m k2 o2 (CQ (some td) (some 0) (some c) (some d)) (CS (some td) (some 0) (some c) (some d)) (IntKind.wrap .i64 (i+1))) (some (.fH [.dG,.int .i64 0],none)):=by kernel_rfl
set_option maxRecDepth 100000 in
theorem lR (re im n:Int)(r:Nat):aT X1 (c2 _) anA r 94 [.int .i64 re,.int .i64 im,.int .i64 n] aG.empty xI=acp re im n (jA0 (fI re) (fI im) n r r 0):=by kernel_rfl
def RO:Nat->Option Nat->Option Nat->Option Nat->Option Nat->List Int
 |0,_,_,_,_=>[]
 |k+1,a,b,c,d=>RN a++(RN b++RO k (CQ a b c d) (CS a b c d) c d)
theorem RP (c d:Option Nat):∀(k:Nat) (a b:Option Nat),(RO k a b c d).length=16*k
 |0,_,_=>rfl
 |k+1,a,b=>by
  unfold RO;rw[aA,aA,mS,mS,RP c d k];omega
theorem Yv {vw:Option Nat->List Int}(hv:∀a,vw a=RN a){c d:Nat}{n:Int}(hn:n<=64){J:Nat->Nat->List Int->Option Nat->Option Nat->Int->Ob}
 (step:∀m k o a b i,J (m+1) k o a b i=ah (bC i n) (v9 o (vw a) λ_ o1=>v9 o1 (vw b) λk2 o2=>J m k2 o2 (CQ a b (some c) (some d)) (CS a b (some c) (some d)) (IntKind.wrap .i64 (i+1))) (obO k o)) :
 ∀(q m:Nat) (o:List Int) (a b:Option Nat) (i:Nat),(i:Int)+q=n->q<m->o.length=16*i->J m o.length o a b i=obO (o++RO q a b (some c) (some d)).length (o++RO q a b (some c) (some d)):=by
 intro q;induction q with
 |zero =>
  intro m o a b i hi hm ho;obtain⟨m,rfl⟩:∃m',m=m'+1:=⟨m-1,by omega⟩;rw[step,fL (by omega)];show obO _ _=_;rw[RO,fB]
 |succ q ih =>
  intro m o a b i hi hm ho;obtain⟨m,rfl⟩:∃m',m=m'+1:=⟨m-1,by omega⟩;rw[step,pZ (by omega)];show v9 _ _ _=_;rw[hv,hv,DD (by rw[mS];omega),DD (by rw[aA,mS,mS];omega),<-aA,i64_in (n:=(i:Int)+1) (by omega) (by omega)];have:=ih m (o++RN a++RN b) (CQ a b (some c) (some d)) (CS a b (some c) (some d)) (i+1) (by omega) (by omega) (by rw[aA,aA,mS,mS];omega);refine this.trans ?_;rw[RO,bM,bM]
theorem ah9 {vw:Option Nat->List Int}(hv:∀a,vw a=RN a){c d:Nat}{n:Int}(h1:1<=n)(hn:n<=64){J:Nat->Nat->List Int->Option Nat->Option Nat->Int->Ob}{J0:Nat->Int->Ob}{e:Ob}
 (step:∀m k o a b i,J (m+1) k o a b i=ah (bC i n) (v9 o (vw a) λ_ o1=>v9 o1 (vw b) λk2 o2=>J m k2 o2 (CQ a b (some c) (some d)) (CS a b (some c) (some d)) (IntKind.wrap .i64 (i+1))) (obO k o))
 (step0:∀m i,J0 (m+1) i=ah (bC i n) (v9 [] (vw (some td)) λ_ o1=>v9 o1 (vw (some 0)) λk2 o2=>J m k2 o2 (CQ (some td) (some 0) (some c) (some d)) (CS (some td) (some 0) (some c) (some d)) (IntKind.wrap .i64 (i+1))) e) :
 J0 66 0=obO (RO n.toNat (some td) (some 0) (some c) (some d)).length (RO n.toNat (some td) (some 0) (some c) (some d)):=by
 rw[step0,pZ (by omega)];show v9 _ _ _=_;obtain⟨q,hq⟩:∃q:Nat,n.toNat=q+1:=⟨n.toNat-1,by omega⟩;rw[hv,hv,DD (by rw[mS];decide),DD (by rw[aA,mS,mS];decide),<-aA,hq,RO,eS];have:=Yv hv hn step q 65 (RN (some td)++RN (some 0)) (CQ (some td) (some 0) (some c) (some d)) (CS (some td) (some 0) (some c) (some d)) 1 (by omega) (by omega) (by rw[aA,mS,mS]);refine Eq.trans ?_ (this.trans ?_)
 .rfl
 rw[bM]
def J9 (re im n:Int):Bool:=decide (n<1)||decide (64<n)||decide (re < -9007199254740992)||decide (9007199254740992<re)||decide (im < -9007199254740992)||decide (9007199254740992<im)
theorem acq (re im n:Int)(go:Ob):acp re im n go=if J9 re im n=true then obE else go:=by
 unfold acp J9;simp only[cA];by_cases h1:n<1
 .simp[h1]
 by_cases h2:64<n
 .simp[h1,h2]
 by_cases h3:re < -9007199254740992
 .simp[h1,h2,h3]
 by_cases h4:9007199254740992<re
 .simp[h1,h2,h3,h4]
 by_cases h5:im < -9007199254740992
 .simp[h1,h2,h3,h4,h5]
 by_cases h6:9007199254740992<im
 .simp[h1,h2,h3,h4,h5,h6]
 simp[h1,h2,h3,h4,h5,h6]
def pwF (re im n:Int):List Int:=if J9 re im n=true then [] else RO n.toNat (some td) (some 0) (some (fI re)) (some (fI im))
def gPw (args:List AV):Option (Bool×List fA) :=
 match args with
 |[.int .i64 re,.int .i64 im,.int .i64 n]=>some (true,[.list 5 (.int .u8) (pwF re im n),.val (.int .i64 (if J9 re im n=true then 5 else 0))])
 |_=>none
theorem P8 {f:FuncId}(hk:∀args,kn f args=none){an:ei}{J0:Nat->Nat->Int->Nat->Int->Ob}(h:∀re im n,aT X1 (c2 _) an 66 f [.int .i64 re,.int .i64 im,.int .i64 n] aG.empty xI=acp re im n (J0 (fI re) (fI im) n 66 0))
 (h0:∀c d n,1<=n->n<=64->J0 c d n 66 0=obO (RO n.toNat (some td) (some 0) (some c) (some d)).length (RO n.toNat (some td) (some 0) (some c) (some d))):dc X1 (dR X1 kn) f gPw:=by
 intro args rs hg;unfold gPw at hg;split at hg;case h_2=>cases hg
 rename_i re im n;simp only[aq,ay]at hg;obtain⟨_,rfl⟩:=hg;have hrun:=h re im n;rw[acq]at hrun;unfold pwF;by_cases hb:J9 re im n=true
 .rw[ag hb]at hrun ⊢;obtain⟨v,M1,k1,k2⟩:=oy hk (Q4 _) hrun;have e:v = .fH [.dG,.int .i64 5]:=Ch k1;rw[e]at k2;rw[ag hb];exact⟨_,M1,k2 [.dG,.int .i64 5] rfl,rfl,.inr ⟨rfl,rfl,rfl,rfl,trivial⟩⟩
 rw[aa hb]at hrun ⊢;have hb':1<=n/\n<=64:=by
  unfold J9 at hb;simp only[cJ,aV,kQ]at hb;omega
 rw[h0 _ _ _ hb'.1 hb'.2]at hrun;rw[aa hb];generalize RO n.toNat (some td) (some 0) (some (fI re)) (some (fI im))=l at *;obtain⟨v,M1,k1,k2⟩:=oy hk (Q4 _) hrun;have e:v = .fH [.own 0 l.length,.int .i64 0]:=Ch k1;rw[e]at k1 k2;exact⟨_,M1,k2 [.own 0 l.length,.int .i64 0] rfl,rfl,.inl ⟨0,0,false,rfl,(jN (bL k1)).2,by simp,rfl,rfl,trivial⟩⟩
theorem amw:dc X1 (dR X1 kn) 94 gPw :=
 P8 (λargs=>bS rfl args) (J0:=λc d n m i=>jA0 c d n 66 m i) (λre im n=>lR re im n 66) λc d n h1 h2 =>
  ah9 YF h1 h2 (J:=λm k o a b i=>jA1 c d n 66 m k o a b i) (λm k o a b i=>ah7 c d n 66 m k o a b i) (λm i=>ah8 c d n 66 m i)
theorem P9:dc ex.X0 fU 94 gPw:=amw
end
end Go.Proofs.YtbeckacfibledaaGreatDoor.ps.sp

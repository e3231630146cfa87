/- Sources: items, so many times: what stands in each round is open. Sources: items, so many times: the contract of put. Sources: put, in the table. Sources: what lines do, as it runs: labels, instructions, equ, align, org, endstruc, res. Sources: the contract of Powers. -/
import Derived.Test.YtfggompceldfgaaGreatDoorGxb
import Derived.Test.YtfggompceldfgaaGreatDoorGrc
import Derived.Test.YtfggompceldfgaaGreatDoorLyh
set_option linter.unusedVariables false
set_option linter.unusedSimpArgs false

namespace Go.Proofs.YtfggompceldfgaaGreatDoor.ps.sr
open Go.Tv Go.Ev Go.Px Go.Pp Go.Proofs.YtfggompceldfgaaGreatDoor.ex
set_option maxRecDepth 100000
noncomputable section
def rdQ (cs:List Row)(s:SS)(nb:Nat):List Row:=.cells 81 (YI (cs.length+1) (cs.length+2) (cs.length+3) s.aB.length nb s)::(cs++[.mp 79 s.aI,.list 61 kj s.aB 0 false false,.list 56 x6 s.au 0 false false])
def iY (cs:List Row)(s:SS)(e:Int):OG:=some (.int .i64 e,vp s cs)
def pP:List Bool:=[true,true,true,true,false,true,false]
def Hy:eD:=⟨gZ [0,4,49,50] pP,.none,[]⟩
def jP (G:List AB)(F:AV)(cs:List Row)(s:SS)(nb r m:Nat)(ai i:Int):OG:=jf X0 (cV S1 N2 G _) Hy r 98 pP gw m (lz 55 [(0,.ptr 0 0),(4,F),(49,.int .i64 ai),(50,.int .i64 i)]) (eS (cs.length+2) (rdQ cs s nb))
theorem XN {ai:Int}{s:SS}{cs:List Row}{l:List It}{J:List It->Nat->Nat->Int->OG}
 (step:∀it nb m i,it.length+l.length<=1000000->∃nb',J it nb (m+1) i=ah (bB i ai) (J (it++l) nb' m (IntKind.wrap .i64 (i+1))) (iY cs (gM s it) 0)) (hl:l.length<=100000) (ht:ai<=1000000) :
 ∀(q m nb:Nat) (it:List It) (i:Int),0<=i->i+q=ai->q<m->it.length+l.length*q<=100000->J it nb m i=iY cs (gM s (it++(List.replicate q l).flatten)) 0:=by
 intro q;induction q with
 |zero =>
  intro m nb it i h0 hi hm hn;obtain⟨m,rfl⟩:∃m',m=m'+1:=⟨m-1,by omega⟩;obtain⟨nb',e⟩:=step it nb m i (by omega);rw[e,fG (by omega)];show iY _ _ _=_;simp
 |succ q ih =>
  intro m nb it i h0 hi hm hn;obtain⟨m,rfl⟩:∃m',m=m'+1:=⟨m-1,by omega⟩;rw[Nat.mul_succ]at hn;obtain⟨nb',e⟩:=step it nb m i (by omega);rw[e,pL (by omega)];show J _ _ _ _=_;rw[i64_in (n:=i+1) (by omega) (by omega),ih m nb' (it++l) (i+1) (by omega) (by omega) (by omega) (by rw[aA];omega),ji,j7,bQ]
def Mu (au aF ai:Int)(cs:List Row)(s:SS)(go:OG):OG :=
 (λsecond:OG=>ah (bB 0 au) (ah (bI au 0) none (ah (bB (IntKind.wrap .i64 (Int.tdiv (IntKind.wrap .i64 (20000-(s.au.length:Int))) au)) ai) (iY cs s 3) second)) second)
  (ah (bB 0 aF) (ah (bI aF 0) none (ah (bB (IntKind.wrap .i64 (Int.tdiv (IntKind.wrap .i64 (1048576-s.aF)) aF)) ai) (iY cs s 3) go)) go)
def eF (cs:List Row)(r:SR'):OG:=iY cs r.1 r.2
theorem tdiv_le {a b:Int}(h0:0<=a)(h1:1<=b):0<=Int.tdiv a b/\Int.tdiv a b<=a:=by
 rw[dc h0];exact⟨Int.ediv_nonneg h0 (by omega),Int.ediv_le_self b h0⟩
def okB (s:SS):Bool := !bB s.aF 0 && !bB 1048576 s.aF
theorem Mv {s:SS}(h:okB s=true):0<=s.aF/\s.aF<=1048576:=by
 unfold okB at h;rw[cB,cB]at h;simp at h;omega
theorem Hz {s:SS}(hs:zj s=true)(hb:okB s=true){cs:List Row}{au aF ai:Int}{l:List It}(hl:(l.length:Int)=au)(h1:1<=au)(h2:au<=100000)(b0:0<=aF)(b1:aF<=1000000000000)(t0:0<=ai){J:SS->List It->Nat->Nat->Int->OG}
 (step:∀(b:Int) (it:List It) nb m i,it.length+l.length<=1000000->∃nb',J { s with aF:=b } it nb (m+1) i=ah (bB i ai) (J { s with aF:=b } (it++l) nb' m (IntKind.wrap .i64 (i+1))) (iY cs (gM { s with aF:=b } it) 0)) {T:OG}
 (enter:T=Mu au aF ai cs s (J { s with aF:=IntKind.wrap .i64 (s.aF+IntKind.wrap .i64 (aF*ai)) } s.au s.au.length 100000 0)):T=eF cs (kz s au aF ai l):=by
 obtain⟨_,_,_,hn⟩:=sP hs;obtain⟨c0,c1⟩:=Mv hb;rw[enter];unfold Mu kz;have e1:IntKind.wrap .i64 (20000-(s.au.length:Int))=20000-(s.au.length:Int):=i64_in (by omega) (by omega);obtain⟨d1,d2⟩:=tdiv_le (a:=20000-(s.au.length:Int)) (b:=au) (by omega) h1;rw[pL (show (0:Int)<au by omega),xI (show au≠0 by omega),e1,i64_in (n:=Int.tdiv (20000-(s.au.length:Int)) au) (by omega) (by omega)];show ah _ _ _=_;rw[cG];by_cases ht:Int.tdiv (20000-(s.au.length:Int)) au<ai
 .rw[ag ht,ag ⟨by omega,ht⟩];rfl
 rw[aa ht,aa (λq=>ht q.2)];have ht2:au*ai<=20000-(s.au.length:Int):=by
  have h3:=dx (show ai<=Int.tdiv (20000-(s.au.length:Int)) au by omega) (show (0:Int)<=au by omega);rw[dc (by omega)]at h3;have h4:=iP (x:=20000-(s.au.length:Int)) (k:=au) (by omega);omega
 have ht3:ai<=20000:=by
  have:=gz h1 t0;omega
 have go:∀(hbt:aF*ai<=1048576),J { s with aF:=IntKind.wrap .i64 (s.aF+IntKind.wrap .i64 (aF*ai)) } s.au s.au.length 100000 0=eF cs ({ s with aF:=s.aF+aF*ai,au:=s.au++(List.replicate ai.toNat l).flatten },0):=λhbt=>by
  have hb0:0<=aF*ai:=mH b0 t0;rw[i64_in (n:=aF*ai) (by omega) (by omega),i64_in (n:=s.aF+aF*ai) (by omega) (by omega)];refine(XN (s:={ s with aF:=s.aF+aF*ai }) (J:=J { s with aF:=s.aF+aF*ai }) (ai:=ai) (cs:=cs) (l:=l) (λit nb m i h=>step _ it nb m i h) (by omega) (by omega) ai.toNat 100000 s.au.length s.au 0 (bx 0) (by omega) (by omega) ?_).trans rfl;have:((l.length*ai.toNat:Nat):Int)=au*ai:=by
   rw[jC,hl,Int.toNat_of_nonneg t0]
  omega
 rw[cG];by_cases xS:0<aF
 .have e2:IntKind.wrap .i64 (1048576-s.aF)=1048576-s.aF:=i64_in (by omega) (by omega);obtain⟨d3,d4⟩:=tdiv_le (a:=1048576-s.aF) (b:=aF) (by omega) (by omega);rw[ag xS,xI (show aF≠0 by omega),e2,i64_in (n:=Int.tdiv (1048576-s.aF) aF) (by omega) (by omega)];show ah _ _ _=_;rw[cG];by_cases ht4:Int.tdiv (1048576-s.aF) aF<ai
  .rw[ag ht4,ag ⟨xS,ht4⟩];rfl
  rw[aa ht4,aa (λq=>ht4 q.2)];refine go ?_;have h3:=dx (show ai<=Int.tdiv (1048576-s.aF) aF by omega) b0;rw[dc (by omega)]at h3;have h4:=iP (x:=1048576-s.aF) (k:=aF) (by omega);omega
 rw[aa xS,aa (λq=>xS q.1)];have:aF=0:=by omega
 exact go (by rw[this,Int.zero_mul];omega)
theorem sQ {β:Type}{n:Nat}(h:n<=1000000)(k:Option β):nN n k=k:=by unfold nN;rw[ee (by omega)]
theorem XO {β:Type}{p:Int}(h0:0<=p)(h1:p<=2000000)(k:Option β):Fu p k=k:=by
 unfold Fu;rw[fG (a:=p) (b:=0) (by omega),fG (a:=p) (b:=p) (by omega),fG (a:=2000000) (by omega)];rfl
def XP (a b:Nat):Bool:=Nat.beq a a&&Nat.beq b b
theorem qO (a b:Nat):XP a b=true:=by unfold XP;simp
def HA (s:SS)(a au b ai:Int):Bool:=zj s&&(okB s&&(bI au a&&(!bB b 0&&(!bB 1000000000000 b && !bB ai 0))))
theorem uB {s:SS}{a au b ai:Int}(h:HA s a au b ai=true):zj s=true/\okB s=true/\au=a/\0<=b/\b<=1000000000000/\0<=ai:=by
 unfold HA at h;simp only[ak]at h;obtain⟨h1,h2,h3,h4,h5,h6⟩:=h;rw[cB]at h4 h5 h6;rw[eT]at h3;simp at h3 h4 h5 h6;exact⟨h1,h2,h3,h4,h5,h6⟩
def agw (n:Int):List Int:=List.take n.toNat (List.drop 0 (List.replicate n.toNat (0:Int)))
theorem aba (n:Int):agw n=List.replicate n.toNat 0:=by
 unfold agw;rw[mK,cS (by simp)]
def cs1 (w:List UInt8):List Row:=[Pa 0,.cells 9 [.str w]]
def TA (ay:Int)(w:List UInt8):List It:=[(ay,1,w,(0,0,[]),[],[],0)]
abbrev fn1:AV:=.fn 99 [] [.ptr 1 0,.ptr 2 0]
theorem agx (w:List UInt8)(fq:Int)(aB:List Sy)(au:List It)(aI:List (List UInt8×Int))(lab:List UInt8)(opn:Bool)(bp:List UInt8)(aM:Int)(aR:Bool)(aF ay:Int)(nb r m:Nat)(ai i:Int):jP G3 fn1 (cs1 w) ⟨fq,aB,au,aI,lab,opn,bp,aM,aR,aF,ay⟩ nb r (m+1) ai i=ah (bB i ai) (nN au.length (jP G3 fn1 (cs1 w) ⟨fq,aB,(au++TA ay w),aI,lab,opn,bp,aM,aR,aF,ay⟩ (au.length+1) r m ai (IntKind.wrap .i64 (i+1)))) (iY (cs1 w) ⟨fq,aB,au,aI,lab,opn,bp,aM,aR,aF,ay⟩ 0):=by kernel_rfl
theorem abb (w:List UInt8)(fq:Int)(aB:List Sy)(au:List It)(aI:List (List UInt8×Int))(lab:List UInt8)(opn:Bool)(bp:List UInt8)(aM:Int)(aR:Bool)(aF ay:Int)(q b ai:Int)(r:Nat):aT X0 (cV S1 N2 G3 _) Hy r 98 [.ptr 0 0,.int .i64 q,.int .i64 b,.int .i64 ai,fn1] (eS 4 (vp ⟨fq,aB,au,aI,lab,opn,bp,aM,aR,aF,ay⟩ (cs1 w))) gw=Mu q b ai (cs1 w) ⟨fq,aB,au,aI,lab,opn,bp,aM,aR,aF,ay⟩ (jP G3 fn1 (cs1 w) ⟨fq,aB,au,aI,lab,opn,bp,aM,aR,IntKind.wrap .i64 (aF+IntKind.wrap .i64 (b*ai)),ay⟩ au.length r r ai 0):=by kernel_rfl
theorem akP (w:List UInt8){s:SS}{q b ai:Int}(h:HA s 1 q b ai=true):aT X0 (cV S1 N2 G3 _) Hy 100000 98 [.ptr 0 0,.int .i64 q,.int .i64 b,.int .i64 ai,fn1] (eS 4 (vp s (cs1 w))) gw=eF (cs1 w) (kz s q b ai (TA s.ay w)):=by
 obtain⟨h1',h2,h3,h4,h5,h6⟩:=uB h;refine Hz h1' h2 (l:=TA s.ay w) (by rw[h3];rfl) (by omega) (by omega) h4 h5 h6 (J:=λs' it nb m i=>jP G3 fn1 (cs1 w) (gM s' it) nb 100000 m ai i) (λb' it nb m i hn=>?_) ?_
 .refine ⟨it.length+1,?_⟩;have hn:it.length+1<=1000000:=hn;have e:jP G3 fn1 (cs1 w) (gM { s with aF:=b' } it) nb 100000 (m+1) ai i=ah (bB i ai) (nN it.length (jP G3 fn1 (cs1 w) (gM { s with aF:=b' } (it++TA s.ay w)) (it.length+1) 100000 m ai (IntKind.wrap .i64 (i+1)))) (iY (cs1 w) (gM { s with aF:=b' } it) 0):=by
   cases s;exact agx ..
  refine e.trans ?_;rw[sQ (by omega)]
  skip
 cases s;exact abb ..
def FA (c:List UInt8)(op aL:Int)(l:List Raw):List Row:=[scR c,.cells 42 [.int .i64 op,.int .i64 aL,.dW nu l],Pa 0]
def it2 (ay:Int)(c:List UInt8)(op aL:Int)(l:List Raw):List It:=[(ay,2,[],(op,aL,(OV c l).1),[],[],0)]
abbrev fn2:AV:=.fn 105 [] [.ptr 1 0,.ptr 2 0,.ptr 3 0]
theorem agy (c:List UInt8)(op aL:Int)(l:List Raw)(fq:Int)(aB:List Sy)(au:List It)(aI:List (List UInt8×Int))(lab:List UInt8)(opn:Bool)(bp:List UInt8)(aM:Int)(aR:Bool)(aF ay:Int)(nb r m:Nat)(ai i:Int):jP G3 fn2 (FA c op aL l) ⟨fq,aB,au,aI,lab,opn,bp,aM,aR,aF,ay⟩ nb r (m+1) ai i=ah (bB i ai) (ah (Nat.ble c.length 2000000&&oL l) (nN au.length (jP G3 fn2 (FA c op aL l) ⟨fq,aB,(au++it2 ay c op aL l),aI,lab,opn,bp,aM,aR,aF,ay⟩ (au.length+1) r m ai (IntKind.wrap .i64 (i+1)))) none) (iY (FA c op aL l) ⟨fq,aB,au,aI,lab,opn,bp,aM,aR,aF,ay⟩ 0):=by kernel_rfl
theorem abc (c:List UInt8)(op aL:Int)(l:List Raw)(fq:Int)(aB:List Sy)(au:List It)(aI:List (List UInt8×Int))(lab:List UInt8)(opn:Bool)(bp:List UInt8)(aM:Int)(aR:Bool)(aF ay:Int)(q b ai:Int)(r:Nat):aT X0 (cV S1 N2 G3 _) Hy r 98 [.ptr 0 0,.int .i64 q,.int .i64 b,.int .i64 ai,fn2] (eS 5 (vp ⟨fq,aB,au,aI,lab,opn,bp,aM,aR,aF,ay⟩ (FA c op aL l))) gw=Mu q b ai (FA c op aL l) ⟨fq,aB,au,aI,lab,opn,bp,aM,aR,aF,ay⟩ (jP G3 fn2 (FA c op aL l) ⟨fq,aB,au,aI,lab,opn,bp,aM,aR,IntKind.wrap .i64 (aF+IntKind.wrap .i64 (b*ai)),ay⟩ au.length r r ai 0):=by kernel_rfl
theorem akQ (c:List UInt8)(op aL:Int)(l:List Raw)(hc:c.length<=2000000)(hl:oL l=true){s:SS}{q b ai:Int}(h:HA s 1 q b ai=true):aT X0 (cV S1 N2 G3 _) Hy 100000 98 [.ptr 0 0,.int .i64 q,.int .i64 b,.int .i64 ai,fn2] (eS 5 (vp s (FA c op aL l))) gw=eF (FA c op aL l) (kz s q b ai (it2 s.ay c op aL l)):=by
 obtain⟨h1',h2,h3,h4,h5,h6⟩:=uB h;refine Hz h1' h2 (l:=it2 s.ay c op aL l) (by rw[h3];rfl) (by omega) (by omega) h4 h5 h6 (J:=λs' it nb m i=>jP G3 fn2 (FA c op aL l) (gM s' it) nb 100000 m ai i) (λb' it nb m i hn=>?_) ?_
 .refine ⟨it.length+1,?_⟩;have hn:it.length+1<=1000000:=hn;have e:jP G3 fn2 (FA c op aL l) (gM { s with aF:=b' } it) nb 100000 (m+1) ai i=ah (bB i ai) (ah (Nat.ble c.length 2000000&&oL l) (nN it.length (jP G3 fn2 (FA c op aL l) (gM { s with aF:=b' } (it++it2 s.ay c op aL l)) (it.length+1) 100000 m ai (IntKind.wrap .i64 (i+1)))) none) (iY (FA c op aL l) (gM { s with aF:=b' } it) 0):=by
   cases s;exact agy ..
  refine e.trans ?_;rw[ee hc,hl];show ah _ (nN _ _) _=_;rw[sQ (by omega)]
  skip
 cases s;exact abc ..
def S6 (x:RS)(c:List UInt8):List Row:=[Mt x,Pa 0,scR c]
def it3 (ay:Int)(x:RS)(c:List UInt8):List It:=(x.data.map (XL ay c x.sz))
abbrev fn3:AV:=.fn 107 [] [.ptr 1 0,.ptr 2 0,.ptr 3 0]
theorem agA (a0:Int)(iC:List UInt8)(aC sz op aL:Int)(args:List Raw)(data:List Dt)(xx dM:List Nd)(e0 f0:Int)(c:List UInt8)(fq:Int)(aB:List Sy)(au:List It)(aI:List (List UInt8×Int))(lab:List UInt8)(opn:Bool)(bp:List UInt8)(aM:Int)(aR:Bool)(aF ay:Int)(nb r m:Nat)(ai i:Int):jP G3 fn3 (S6 ⟨a0,iC,aC,sz,op,aL,args,data,xx,dM,e0,f0⟩ c) ⟨fq,aB,au,aI,lab,opn,bp,aM,aR,aF,ay⟩ nb r (m+1) ai i=ah (bB i ai) (ah (XP aB.length au.length&&(Nat.ble c.length 2000000&&(Ct sz&&(JQ data&&Nat.ble (au.length+data.length) 1000000)))) (jP G3 fn3 (S6 ⟨a0,iC,aC,sz,op,aL,args,data,xx,dM,e0,f0⟩ c) ⟨fq,aB,(au++data.map (XL ay c sz)),aI,lab,opn,bp,aM,aR,aF,ay⟩ (au++data.map (XL ay c sz)).length r m ai (IntKind.wrap .i64 (i+1))) none) (iY (S6 ⟨a0,iC,aC,sz,op,aL,args,data,xx,dM,e0,f0⟩ c) ⟨fq,aB,au,aI,lab,opn,bp,aM,aR,aF,ay⟩ 0):=by kernel_rfl
theorem abd (a0:Int)(iC:List UInt8)(aC sz op aL:Int)(args:List Raw)(data:List Dt)(xx dM:List Nd)(e0 f0:Int)(c:List UInt8)(fq:Int)(aB:List Sy)(au:List It)(aI:List (List UInt8×Int))(lab:List UInt8)(opn:Bool)(bp:List UInt8)(aM:Int)(aR:Bool)(aF ay:Int)(q b ai:Int)(r:Nat):aT X0 (cV S1 N2 G3 _) Hy r 98 [.ptr 0 0,.int .i64 q,.int .i64 b,.int .i64 ai,fn3] (eS 5 (vp ⟨fq,aB,au,aI,lab,opn,bp,aM,aR,aF,ay⟩ (S6 ⟨a0,iC,aC,sz,op,aL,args,data,xx,dM,e0,f0⟩ c))) gw=Mu q b ai (S6 ⟨a0,iC,aC,sz,op,aL,args,data,xx,dM,e0,f0⟩ c) ⟨fq,aB,au,aI,lab,opn,bp,aM,aR,aF,ay⟩ (jP G3 fn3 (S6 ⟨a0,iC,aC,sz,op,aL,args,data,xx,dM,e0,f0⟩ c) ⟨fq,aB,au,aI,lab,opn,bp,aM,aR,IntKind.wrap .i64 (aF+IntKind.wrap .i64 (b*ai)),ay⟩ au.length r r ai 0):=by kernel_rfl
theorem akR (x:RS)(c:List UInt8)(hc:c.length<=2000000)(hz:Ct x.sz=true)(hd:JQ x.data=true)(h1:1<=x.data.length){s:SS}{q b ai:Int}(h:HA s x.data.length q b ai=true):aT X0 (cV S1 N2 G3 _) Hy 100000 98 [.ptr 0 0,.int .i64 q,.int .i64 b,.int .i64 ai,fn3] (eS 5 (vp s (S6 x c))) gw=eF (S6 x c) (kz s q b ai (it3 s.ay x c)):=by
 obtain⟨h1',h2,h3,h4,h5,h6⟩:=uB h;refine Hz h1' h2 (l:=it3 s.ay x c) (by rw[h3];show ((x.data.map _).length:Int)=_;rw[cz]) (by omega) (by have:=(uA hd).1;omega) h4 h5 h6 (J:=λs' it nb m i=>jP G3 fn3 (S6 x c) (gM s' it) nb 100000 m ai i) (λb' it nb m i hn=>?_) ?_
 .refine ⟨(it++it3 s.ay x c).length,?_⟩;have hn:it.length+(x.data.map (XL s.ay c x.sz)).length<=1000000:=hn;rw[cz]at hn;have e:jP G3 fn3 (S6 x c) (gM { s with aF:=b' } it) nb 100000 (m+1) ai i=ah (bB i ai) (ah (XP s.aB.length it.length&&(Nat.ble c.length 2000000&&(Ct x.sz&&(JQ x.data&&Nat.ble (it.length+x.data.length) 1000000)))) (jP G3 fn3 (S6 x c) (gM { s with aF:=b' } (it++it3 s.ay x c)) (it++it3 s.ay x c).length 100000 m ai (IntKind.wrap .i64 (i+1))) none) (iY (S6 x c) (gM { s with aF:=b' } it) 0):=by
   cases s;cases x;exact agA ..
  refine e.trans ?_;rw[qO,ee hc,hz,hd,ee hn];rfl
 cases s;cases x;exact abd ..
def S7 (n:Int):List Row:=[Pa 0,.cells 3 [.int .i64 n]]
def it4 (ay:Int)(n:Int):List It:=[(ay,5,[],(0,0,[]),[],[],n)]
abbrev fn4:AV:=.fn 108 [] [.ptr 1 0,.ptr 2 0]
theorem agB (n:Int)(fq:Int)(aB:List Sy)(au:List It)(aI:List (List UInt8×Int))(lab:List UInt8)(opn:Bool)(bp:List UInt8)(aM:Int)(aR:Bool)(aF ay:Int)(nb r m:Nat)(ai i:Int):jP G3 fn4 (S7 n) ⟨fq,aB,au,aI,lab,opn,bp,aM,aR,aF,ay⟩ nb r (m+1) ai i=ah (bB i ai) (nN au.length (jP G3 fn4 (S7 n) ⟨fq,aB,(au++it4 ay n),aI,lab,opn,bp,aM,aR,aF,ay⟩ (au.length+1) r m ai (IntKind.wrap .i64 (i+1)))) (iY (S7 n) ⟨fq,aB,au,aI,lab,opn,bp,aM,aR,aF,ay⟩ 0):=by kernel_rfl
theorem abe (n:Int)(fq:Int)(aB:List Sy)(au:List It)(aI:List (List UInt8×Int))(lab:List UInt8)(opn:Bool)(bp:List UInt8)(aM:Int)(aR:Bool)(aF ay:Int)(q b ai:Int)(r:Nat):aT X0 (cV S1 N2 G3 _) Hy r 98 [.ptr 0 0,.int .i64 q,.int .i64 b,.int .i64 ai,fn4] (eS 4 (vp ⟨fq,aB,au,aI,lab,opn,bp,aM,aR,aF,ay⟩ (S7 n))) gw=Mu q b ai (S7 n) ⟨fq,aB,au,aI,lab,opn,bp,aM,aR,aF,ay⟩ (jP G3 fn4 (S7 n) ⟨fq,aB,au,aI,lab,opn,bp,aM,aR,IntKind.wrap .i64 (aF+IntKind.wrap .i64 (b*ai)),ay⟩ au.length r r ai 0):=by kernel_rfl
theorem akS (n:Int){s:SS}{q b ai:Int}(h:HA s 1 q b ai=true):aT X0 (cV S1 N2 G3 _) Hy 100000 98 [.ptr 0 0,.int .i64 q,.int .i64 b,.int .i64 ai,fn4] (eS 4 (vp s (S7 n))) gw=eF (S7 n) (kz s q b ai (it4 s.ay n)):=by
 obtain⟨h1',h2,h3,h4,h5,h6⟩:=uB h;refine Hz h1' h2 (l:=it4 s.ay n) (by rw[h3];rfl) (by omega) (by omega) h4 h5 h6 (J:=λs' it nb m i=>jP G3 fn4 (S7 n) (gM s' it) nb 100000 m ai i) (λb' it nb m i hn=>?_) ?_
 .refine ⟨it.length+1,?_⟩;have hn:it.length+1<=1000000:=hn;have e:jP G3 fn4 (S7 n) (gM { s with aF:=b' } it) nb 100000 (m+1) ai i=ah (bB i ai) (nN it.length (jP G3 fn4 (S7 n) (gM { s with aF:=b' } (it++it4 s.ay n)) (it.length+1) 100000 m ai (IntKind.wrap .i64 (i+1)))) (iY (S7 n) (gM { s with aF:=b' } it) 0):=by
   cases s;exact agB ..
  refine e.trans ?_;rw[sQ (by omega)]
  skip
 cases s;exact abe ..
def S8 (n:Int):List Row:=[Pa 0,.cells 3 [.int .i64 n]]
def it5 (ay:Int)(n:Int):List It:=[(ay,4,[],(0,0,[]),[],agw n,0)]
abbrev fn5:AV:=.fn 109 [] [.ptr 1 0,.ptr 2 0]
theorem agD (n:Int)(fq:Int)(aB:List Sy)(au:List It)(aI:List (List UInt8×Int))(lab:List UInt8)(opn:Bool)(bp:List UInt8)(aM:Int)(aR:Bool)(aF ay:Int)(nb r m:Nat)(ai i:Int):jP G3 fn5 (S8 n) ⟨fq,aB,au,aI,lab,opn,bp,aM,aR,aF,ay⟩ nb r (m+1) ai i=ah (bB i ai) (Fu n (nN au.length (jP G3 fn5 (S8 n) ⟨fq,aB,(au++it5 ay n),aI,lab,opn,bp,aM,aR,aF,ay⟩ (au.length+1) r m ai (IntKind.wrap .i64 (i+1))))) (iY (S8 n) ⟨fq,aB,au,aI,lab,opn,bp,aM,aR,aF,ay⟩ 0):=by kernel_rfl
theorem abf (n:Int)(fq:Int)(aB:List Sy)(au:List It)(aI:List (List UInt8×Int))(lab:List UInt8)(opn:Bool)(bp:List UInt8)(aM:Int)(aR:Bool)(aF ay:Int)(q b ai:Int)(r:Nat):aT X0 (cV S1 N2 G3 _) Hy r 98 [.ptr 0 0,.int .i64 q,.int .i64 b,.int .i64 ai,fn5] (eS 4 (vp ⟨fq,aB,au,aI,lab,opn,bp,aM,aR,aF,ay⟩ (S8 n))) gw=Mu q b ai (S8 n) ⟨fq,aB,au,aI,lab,opn,bp,aM,aR,aF,ay⟩ (jP G3 fn5 (S8 n) ⟨fq,aB,au,aI,lab,opn,bp,aM,aR,IntKind.wrap .i64 (aF+IntKind.wrap .i64 (b*ai)),ay⟩ au.length r r ai 0):=by kernel_rfl
theorem akT (n:Int)(n0:0<=n)(n1:n<=2000000){s:SS}{q b ai:Int}(h:HA s 1 q b ai=true):aT X0 (cV S1 N2 G3 _) Hy 100000 98 [.ptr 0 0,.int .i64 q,.int .i64 b,.int .i64 ai,fn5] (eS 4 (vp s (S8 n))) gw=eF (S8 n) (kz s q b ai (it5 s.ay n)):=by
 obtain⟨h1',h2,h3,h4,h5,h6⟩:=uB h;refine Hz h1' h2 (l:=it5 s.ay n) (by rw[h3];rfl) (by omega) (by omega) h4 h5 h6 (J:=λs' it nb m i=>jP G3 fn5 (S8 n) (gM s' it) nb 100000 m ai i) (λb' it nb m i hn=>?_) ?_
 .refine ⟨it.length+1,?_⟩;have hn:it.length+1<=1000000:=hn;have e:jP G3 fn5 (S8 n) (gM { s with aF:=b' } it) nb 100000 (m+1) ai i=ah (bB i ai) (Fu n (nN it.length (jP G3 fn5 (S8 n) (gM { s with aF:=b' } (it++it5 s.ay n)) (it.length+1) 100000 m ai (IntKind.wrap .i64 (i+1))))) (iY (S8 n) (gM { s with aF:=b' } it) 0):=by
   cases s;exact agD ..
  refine e.trans ?_;rw[XO n0 n1,sQ (by omega)]
  skip
 cases s;exact abf ..
def S9 (b6:List Int):List Row:=[Pa 0,.cells 22 [.dW (.int .u8) b6]]
def it6 (ay:Int)(b6:List Int):List It:=[(ay,4,[],(0,0,[]),[],b6,0)]
abbrev fn6:AV:=.fn 110 [] [.ptr 1 0,.ptr 2 0]
theorem agE (b6:List Int)(fq:Int)(aB:List Sy)(au:List It)(aI:List (List UInt8×Int))(lab:List UInt8)(opn:Bool)(bp:List UInt8)(aM:Int)(aR:Bool)(aF ay:Int)(nb r m:Nat)(ai i:Int):jP G3 fn6 (S9 b6) ⟨fq,aB,au,aI,lab,opn,bp,aM,aR,aF,ay⟩ nb r (m+1) ai i=ah (bB i ai) (ah (Nat.ble b6.length 2000000) (nN au.length (jP G3 fn6 (S9 b6) ⟨fq,aB,(au++it6 ay b6),aI,lab,opn,bp,aM,aR,aF,ay⟩ (au.length+1) r m ai (IntKind.wrap .i64 (i+1)))) none) (iY (S9 b6) ⟨fq,aB,au,aI,lab,opn,bp,aM,aR,aF,ay⟩ 0):=by kernel_rfl
theorem abg (b6:List Int)(fq:Int)(aB:List Sy)(au:List It)(aI:List (List UInt8×Int))(lab:List UInt8)(opn:Bool)(bp:List UInt8)(aM:Int)(aR:Bool)(aF ay:Int)(q b ai:Int)(r:Nat):aT X0 (cV S1 N2 G3 _) Hy r 98 [.ptr 0 0,.int .i64 q,.int .i64 b,.int .i64 ai,fn6] (eS 4 (vp ⟨fq,aB,au,aI,lab,opn,bp,aM,aR,aF,ay⟩ (S9 b6))) gw=Mu q b ai (S9 b6) ⟨fq,aB,au,aI,lab,opn,bp,aM,aR,aF,ay⟩ (jP G3 fn6 (S9 b6) ⟨fq,aB,au,aI,lab,opn,bp,aM,aR,IntKind.wrap .i64 (aF+IntKind.wrap .i64 (b*ai)),ay⟩ au.length r r ai 0):=by kernel_rfl
theorem akU (b6:List Int)(hl:b6.length<=2000000){s:SS}{q b ai:Int}(h:HA s 1 q b ai=true):aT X0 (cV S1 N2 G3 _) Hy 100000 98 [.ptr 0 0,.int .i64 q,.int .i64 b,.int .i64 ai,fn6] (eS 4 (vp s (S9 b6))) gw=eF (S9 b6) (kz s q b ai (it6 s.ay b6)):=by
 obtain⟨h1',h2,h3,h4,h5,h6⟩:=uB h;refine Hz h1' h2 (l:=it6 s.ay b6) (by rw[h3];rfl) (by omega) (by omega) h4 h5 h6 (J:=λs' it nb m i=>jP G3 fn6 (S9 b6) (gM s' it) nb 100000 m ai i) (λb' it nb m i hn=>?_) ?_
 .refine ⟨it.length+1,?_⟩;have hn:it.length+1<=1000000:=hn;have e:jP G3 fn6 (S9 b6) (gM { s with aF:=b' } it) nb 100000 (m+1) ai i=ah (bB i ai) (ah (Nat.ble b6.length 2000000) (nN it.length (jP G3 fn6 (S9 b6) (gM { s with aF:=b' } (it++it6 s.ay b6)) (it.length+1) 100000 m ai (IntKind.wrap .i64 (i+1)))) none) (iY (S9 b6) (gM { s with aF:=b' } it) 0):=by
   cases s;exact agE ..
  refine e.trans ?_;rw[ee hl];show ah _ (nN _ _) _=_;rw[sQ (by omega)]
  skip
 cases s;exact abg ..
abbrev OP:=Option (Bool×AV×List Row)
def oh (cs:List Row)(r:SR'):AV×List Row:=(.int .i64 r.2,vp r.1 cs)
def gP1 (q b ai:Int)(cp:List AV)(rows:List Row):OP :=
 match cp,rows with
 |[.ptr 1 0,.ptr 2 0],rd :: .cells t1 [.ptr 0 0] :: .cells t2 [.str w]::l=>match uz 2 rd l with
  |some (b1,s)=>some (b1&&((Nat.beq t1 78&&(Nat.beq t2 9))&&HA s 1 q b ai),oh (cs1 w) (kz s q b ai (TA s.ay w)))
  |_=>none
 |_,_=>none
theorem agF {q b ai:Int}{cp:List AV}{rows outs:List Row}{v:AV}(h:gP1 q b ai cp rows=some (true,v,outs)):aT X0 (cV S1 N2 G3 _) Hy 100000 98 [.ptr 0 0,.int .i64 q,.int .i64 b,.int .i64 ai,.fn 99 [] cp] (eS (sN rows) rows) gw=some (v,outs):=by
 unfold gP1 at h;split at h;case h_2=>cases h
 rename_i rd t1 t2 w l;split at h;case h_2=>cases h
 rename_i b1 s hr;simp only[oh,aq,ax,ak,aN]at h;obtain⟨⟨rfl,⟨g0,g1⟩,hp⟩,rfl,rfl⟩:=h;subst g0;subst g1;obtain⟨rfl,rfl⟩:=fU hr;exact akP w hp
def gP2 (q b ai:Int)(cp:List AV)(rows:List Row):OP :=
 match cp,rows with
 |[.ptr 1 0,.ptr 2 0,.ptr 3 0],rd :: .cells t1 [.str c] :: .cells t2 [.int .i64 op,.int .i64 aL,.dW e x] :: .cells t3 [.ptr 0 0]::l=>match iq e nu x,uz 3 rd l with
  |some x,some (b1,s)=>some (b1&&((Nat.beq t1 121&&(Nat.beq t2 42&&(Nat.beq t3 78&&(Nat.ble c.length 2000000&&(oL x)))))&&HA s 1 q b ai),oh (FA c op aL x) (kz s q b ai (it2 s.ay c op aL x)))
  |_,_=>none
 |_,_=>none
theorem agG {q b ai:Int}{cp:List AV}{rows outs:List Row}{v:AV}(h:gP2 q b ai cp rows=some (true,v,outs)):aT X0 (cV S1 N2 G3 _) Hy 100000 98 [.ptr 0 0,.int .i64 q,.int .i64 b,.int .i64 ai,.fn 105 [] cp] (eS (sN rows) rows) gw=some (v,outs):=by
 unfold gP2 at h;split at h;case h_2=>cases h
 rename_i rd t1 c t2 op aL e x t3 l;split at h;case h_2=>cases h
 rename_i x' b1 s hx hr;simp only[oh,aq,ax,ak,aN]at h;obtain⟨⟨rfl,⟨g0,g1,g2,g3,g4⟩,hp⟩,rfl,rfl⟩:=h;subst g0;subst g1;subst g2;obtain⟨rfl,hx⟩:=bT hx;have hx:x=x':=hx;subst hx;obtain⟨rfl,rfl⟩:=fU hr;exact akQ c op aL x (az g3) g4 hp
def gP3 (q b ai:Int)(cp:List AV)(rows:List Row):OP :=
 match cp,rows with
 |[.ptr 1 0,.ptr 2 0,.ptr 3 0],rd::st :: .cells t2 [.ptr 0 0] :: .cells t3 [.str c]::l=>match Fv st,uz 3 rd l with
  |some (b0,x),some (b1,s)=>some (b1&&((b0&&(Nat.beq t2 78&&(Nat.beq t3 121&&(Nat.ble c.length 2000000&&(Ct x.sz&&(JQ x.data&&(Nat.ble 1 x.data.length)))))))&&HA s x.data.length q b ai),oh (S6 x c) (kz s q b ai (it3 s.ay x c)))
  |_,_=>none
 |_,_=>none
theorem agH {q b ai:Int}{cp:List AV}{rows outs:List Row}{v:AV}(h:gP3 q b ai cp rows=some (true,v,outs)):aT X0 (cV S1 N2 G3 _) Hy 100000 98 [.ptr 0 0,.int .i64 q,.int .i64 b,.int .i64 ai,.fn 107 [] cp] (eS (sN rows) rows) gw=some (v,outs):=by
 unfold gP3 at h;split at h;case h_2=>cases h
 rename_i rd st t2 t3 c l;split at h;case h_2=>cases h
 rename_i b0 x b1 s hx hr;simp only[oh,aq,ax,ak,aN]at h;obtain⟨⟨rfl,⟨g0,g1,g2,g3,g4,g5,g6⟩,hp⟩,rfl,rfl⟩:=h;subst g0;subst g1;subst g2;obtain rfl:=nJ hx;obtain⟨rfl,rfl⟩:=fU hr;exact akR x c (az g3) g4 g5 (az g6) hp
def gP4 (q b ai:Int)(cp:List AV)(rows:List Row):OP :=
 match cp,rows with
 |[.ptr 1 0,.ptr 2 0],rd :: .cells t1 [.ptr 0 0] :: .cells t2 [.int .i64 n]::l=>match uz 2 rd l with
  |some (b1,s)=>some (b1&&((Nat.beq t1 78&&(Nat.beq t2 3))&&HA s 1 q b ai),oh (S7 n) (kz s q b ai (it4 s.ay n)))
  |_=>none
 |_,_=>none
theorem agI {q b ai:Int}{cp:List AV}{rows outs:List Row}{v:AV}(h:gP4 q b ai cp rows=some (true,v,outs)):aT X0 (cV S1 N2 G3 _) Hy 100000 98 [.ptr 0 0,.int .i64 q,.int .i64 b,.int .i64 ai,.fn 108 [] cp] (eS (sN rows) rows) gw=some (v,outs):=by
 unfold gP4 at h;split at h;case h_2=>cases h
 rename_i rd t1 t2 n l;split at h;case h_2=>cases h
 rename_i b1 s hr;simp only[oh,aq,ax,ak,aN]at h;obtain⟨⟨rfl,⟨g0,g1⟩,hp⟩,rfl,rfl⟩:=h;subst g0;subst g1;obtain⟨rfl,rfl⟩:=fU hr;exact akS n hp
def gP5 (q b ai:Int)(cp:List AV)(rows:List Row):OP :=
 match cp,rows with
 |[.ptr 1 0,.ptr 2 0],rd :: .cells t1 [.ptr 0 0] :: .cells t2 [.int .i64 n]::l=>match uz 2 rd l with
  |some (b1,s)=>some (b1&&((Nat.beq t1 78&&(Nat.beq t2 3&&(!bB n 0&&(!bB 2000000 n))))&&HA s 1 q b ai),oh (S8 n) (kz s q b ai (it5 s.ay n)))
  |_=>none
 |_,_=>none
theorem agJ {q b ai:Int}{cp:List AV}{rows outs:List Row}{v:AV}(h:gP5 q b ai cp rows=some (true,v,outs)):aT X0 (cV S1 N2 G3 _) Hy 100000 98 [.ptr 0 0,.int .i64 q,.int .i64 b,.int .i64 ai,.fn 109 [] cp] (eS (sN rows) rows) gw=some (v,outs):=by
 unfold gP5 at h;split at h;case h_2=>cases h
 rename_i rd t1 t2 n l;split at h;case h_2=>cases h
 rename_i b1 s hr;simp only[oh,aq,ax,ak,aN]at h;obtain⟨⟨rfl,⟨g0,g1,g2,g3⟩,hp⟩,rfl,rfl⟩:=h;subst g0;subst g1;obtain⟨rfl,rfl⟩:=fU hr;exact akT n (by rw[cB]at g2;simpa using g2) (by rw[cB]at g3;simpa using g3) hp
def gP6 (q b ai:Int)(cp:List AV)(rows:List Row):OP :=
 match cp,rows with
 |[.ptr 1 0,.ptr 2 0],rd :: .cells t1 [.ptr 0 0] :: .cells t2 [.dW e x]::l=>match iq e (.int .u8) x,uz 2 rd l with
  |some x,some (b1,s)=>some (b1&&((Nat.beq t1 78&&(Nat.beq t2 22&&(Nat.ble x.length 2000000)))&&HA s 1 q b ai),oh (S9 x) (kz s q b ai (it6 s.ay x)))
  |_,_=>none
 |_,_=>none
theorem agK {q b ai:Int}{cp:List AV}{rows outs:List Row}{v:AV}(h:gP6 q b ai cp rows=some (true,v,outs)):aT X0 (cV S1 N2 G3 _) Hy 100000 98 [.ptr 0 0,.int .i64 q,.int .i64 b,.int .i64 ai,.fn 110 [] cp] (eS (sN rows) rows) gw=some (v,outs):=by
 unfold gP6 at h;split at h;case h_2=>cases h
 rename_i rd t1 t2 e x l;split at h;case h_2=>cases h
 rename_i x' b1 s hx hr;simp only[oh,aq,ax,ak,aN]at h;obtain⟨⟨rfl,⟨g0,g1,g2⟩,hp⟩,rfl,rfl⟩:=h;subst g0;subst g1;obtain⟨rfl,hx⟩:=bT hx;have hx:x=x':=hx;subst hx;obtain⟨rfl,rfl⟩:=fU hr;exact akU x (az g2) hp
def gP (args:List AV)(rows:List Row):OP :=
 match args with
 |[.ptr 0 0,.int .i64 q,.int .i64 b,.int .i64 ai,.fn f [] cp] =>
  ah (Nat.beq f 99) (gP1 q b ai cp rows) (ah (Nat.beq f 105) (gP2 q b ai cp rows) (ah (Nat.beq f 107) (gP3 q b ai cp rows) (ah (Nat.beq f 108) (gP4 q b ai cp rows) (ah (Nat.beq f 109) (gP5 q b ai cp rows) (ah (Nat.beq f 110) (gP6 q b ai cp rows) (none))))))
 |_=>none
theorem akV:j5 X0 gW 98 gP :=
 nI (λargs=>lt.bS rfl args) (rz qN uy acS) λargs rows v outs hg=>by
  unfold gP at hg;split at hg;case h_2=>cases hg
  rename_i q b ai f cp;refine⟨Hy,100000,?_⟩;rw[av]at hg;split at hg
  .rename_i hf;obtain rfl:=aZ hf;exact agF hg
  rw[av]at hg;split at hg
  .rename_i hf;obtain rfl:=aZ hf;exact agG hg
  rw[av]at hg;split at hg
  .rename_i hf;obtain rfl:=aZ hf;exact agH hg
  rw[av]at hg;split at hg
  .rename_i hf;obtain rfl:=aZ hf;exact agI hg
  rw[av]at hg;split at hg
  .rename_i hf;obtain rfl:=aZ hf;exact agJ hg
  rw[av]at hg;split at hg
  .rename_i hf;obtain rfl:=aZ hf;exact agK hg
  cases hg
def G4:List AB:=(98,⟨81,vO,gP⟩)::G3
theorem yp:pI X0 gW G4:=.cons akV acS
def SK {β:Type}(s:SS)(go:List UInt8->Option β):Option β:=ah s.opn (go s.bp) (go s.lab)
def Ta (s:SS)(g:Bool)(a q b ai:Int)(l:List It):OG:=ah (XP s.aB.length s.au.length&&(g&&HA s a q b ai)) (eF [] (kz s q b ai l)) none
def Mw (s:SS)(a q b ai:Int)(l:List It):OG:=ah (XP s.aB.length s.au.length&&HA s a q b ai) (eF [] (kz s q b ai l)) none
def frT (s:SS)(w:List UInt8)(go:OG):OG:=ah (iA s.aI w) (iY [] s 7) (ah (bB 60 (w.length:Int)) (iY [] s 3) go)
def syT (s:SS)(w:List UInt8)(n:Int):OG:=nN s.aB.length (iY [] (CN s w n) 0)
def kT (s:SS)(x:List Nd)(go:Int->OG):OG:=ah (XP s.aB.length s.au.length&&(zj s&&eL x)) (ah (!bI (cQ iM gS s x).2 0) (iY [] s (cQ iM gS s x).2) (go (cQ iM gS s x).1)) none
def labT' (s:SS)(w:List UInt8):OG :=
 SK s λc=>nmT c w λfull=>frT s full (ah s.opn (syT s full s.aM)
  ((λgo:List UInt8->OG=>ah (!lt.preB w [46]) (go w) (go s.lab)) λL=>Mw { s with lab:=L,aI:=fk s.aI full 0 } 1 1 0 1 (TA s.ay full)))
theorem XQ (fq:Int)(aB:List Sy)(au:List It)(aI:List (List UInt8×Int))(lab:List UInt8)(opn:Bool)(bp:List UInt8)(aM:Int)(aR:Bool)(aF ay:Int)(w:List UInt8)(r:Nat) :
 aT X0 (cV S1 N2 G4 _) ia r 57 [.ptr 0 0,.str w] (eS 2 (vp ⟨fq,aB,au,aI,lab,opn,bp,aM,aR,aF,ay⟩ [])) gw=labT' ⟨fq,aB,au,aI,lab,opn,bp,aM,aR,aF,ay⟩ w:=by kernel_rfl
def Q3 (s:SS)(op aL:Int)(l:List Raw)(ai:Int):OG :=
 SK s λc=>ah (Nat.ble c.length 2000000&&oL l) (ah (!(OV c l).2) (iY [] s 3) (Ta s (Nat.ble c.length 2000000&&oL l) 1 1 0 ai (it2 s.ay c op aL l))) none
theorem Tb (fq:Int)(aB:List Sy)(au:List It)(aI:List (List UInt8×Int))(lab:List UInt8)(opn:Bool)(bp:List UInt8)(aM:Int)(aR:Bool)(aF ay:Int)(op aL:Int)(l:List Raw)(ai:Int)(r:Nat) :
 aT X0 (cV S1 N2 G4 _) ia r 60 [.ptr 0 0,.agg [.int .i64 op,.int .i64 aL,.dW nu l],.int .i64 ai] (eS 2 (vp ⟨fq,aB,au,aI,lab,opn,bp,aM,aR,aF,ay⟩ [])) gw=Q3 ⟨fq,aB,au,aI,lab,opn,bp,aM,aR,aF,ay⟩ op aL l ai:=by kernel_rfl
def abh (s:SS)(x:RS):OG:=SK s λc=>nmT c x.lab λfull=>frT s full (kT s x.x λn=>syT s full n)
theorem XR (fq:Int)(aB:List Sy)(au:List It)(aI:List (List UInt8×Int))(lab:List UInt8)(opn:Bool)(bp:List UInt8)(aM:Int)(aR:Bool)(aF ay:Int)(a0:Int)(iC:List UInt8)(aC sz op aL:Int)(args:List Raw)(data:List Dt)(xx dM:List Nd)(e0 f0:Int)(r:Nat) :
 aT X0 (cV S1 N2 G4 _) ia r 62 [.ptr 0 0,.agg (I1 ⟨a0,iC,aC,sz,op,aL,args,data,xx,dM,e0,f0⟩)] (eS 2 (vp ⟨fq,aB,au,aI,lab,opn,bp,aM,aR,aF,ay⟩ [])) gw=abh ⟨fq,aB,au,aI,lab,opn,bp,aM,aR,aF,ay⟩ ⟨a0,iC,aC,sz,op,aL,args,data,xx,dM,e0,f0⟩:=by kernel_rfl
def endT' (s:SS):OG:=ah (Nat.ble (s.bp.length+Au.length) 9223372036854775807) (frT s (s.bp++Au) (nN s.aB.length (iY [] { CN s (s.bp++Au) s.aM with opn:=false } 0))) none
theorem XS (fq:Int)(aB:List Sy)(au:List It)(aI:List (List UInt8×Int))(lab:List UInt8)(opn:Bool)(bp:List UInt8)(aM:Int)(aR:Bool)(aF ay:Int)(r:Nat) :
 aT X0 (cV S1 N2 G4 _) ia r 67 [.ptr 0 0] (eS 2 (vp ⟨fq,aB,au,aI,lab,opn,bp,aM,aR,aF,ay⟩ [])) gw=endT' ⟨fq,aB,au,aI,lab,opn,bp,aM,aR,aF,ay⟩:=by kernel_rfl
def abj (s:SS)(x:RS):OG:=kT s x.x λn =>
 (λgo:OG=>ah s.aR (iY [] s 8) (ah (bB 0 (s.au.length:Int)) (iY [] s 8) go)) (ah (bB n 0) (iY [] s 5) (ah (bB 140737488355328 n) (iY [] s 5) (iY [] { s with fq:=n,aR:=true } 0)))
theorem XT (fq:Int)(aB:List Sy)(au:List It)(aI:List (List UInt8×Int))(lab:List UInt8)(opn:Bool)(bp:List UInt8)(aM:Int)(aR:Bool)(aF ay:Int)(a0:Int)(iC:List UInt8)(aC sz op aL:Int)(args:List Raw)(data:List Dt)(xx dM:List Nd)(e0 f0:Int)(r:Nat) :
 aT X0 (cV S1 N2 G4 _) ia r 64 [.ptr 0 0,.agg (I1 ⟨a0,iC,aC,sz,op,aL,args,data,xx,dM,e0,f0⟩)] (eS 2 (vp ⟨fq,aB,au,aI,lab,opn,bp,aM,aR,aF,ay⟩ [])) gw=abj ⟨fq,aB,au,aI,lab,opn,bp,aM,aR,aF,ay⟩ ⟨a0,iC,aC,sz,op,aL,args,data,xx,dM,e0,f0⟩:=by kernel_rfl
def agL (n:Int):Int:=IntKind.wrap .i64 ((BitVec.ofInt 64 n &&& BitVec.ofInt 64 (IntKind.wrap .i64 (n-1))).toNat:Int)
def abk (s:SS)(x:RS):OG:=kT s x.x λn =>
 ah (bB n 1) (iY [] s 5) (ah (bB 4096 n) (iY [] s 5) (ah (!bI (agL n) 0) (iY [] s 5) (Mw s 1 1 0 1 (it4 s.ay n))))
theorem XU (fq:Int)(aB:List Sy)(au:List It)(aI:List (List UInt8×Int))(lab:List UInt8)(opn:Bool)(bp:List UInt8)(aM:Int)(aR:Bool)(aF ay:Int)(a0:Int)(iC:List UInt8)(aC sz op aL:Int)(args:List Raw)(data:List Dt)(xx dM:List Nd)(e0 f0:Int)(r:Nat) :
 aT X0 (cV S1 N2 G4 _) ia r 63 [.ptr 0 0,.agg (I1 ⟨a0,iC,aC,sz,op,aL,args,data,xx,dM,e0,f0⟩)] (eS 2 (vp ⟨fq,aB,au,aI,lab,opn,bp,aM,aR,aF,ay⟩ [])) gw=abk ⟨fq,aB,au,aI,lab,opn,bp,aM,aR,aF,ay⟩ ⟨a0,iC,aC,sz,op,aL,args,data,xx,dM,e0,f0⟩:=by kernel_rfl
def abl (s:SS)(x:RS)(ai:Int):OG:=kT s x.x λn=>ah (bB n 0) (iY [] s 5) (ah (bI x.sz 0) none (ah (bB (IntKind.wrap .i64 (Int.tdiv 1048576 x.sz)) n) (iY [] s 3)
 (ah s.opn (iY [] { s with aM:=IntKind.wrap .i64 (s.aM+IntKind.wrap .i64 (n*x.sz)) } 0) (Ta s (!bB (IntKind.wrap .i64 (n*x.sz)) 0 && !bB 2000000 (IntKind.wrap .i64 (n*x.sz))) 1 1 (IntKind.wrap .i64 (n*x.sz)) ai (it5 s.ay (IntKind.wrap .i64 (n*x.sz)))))))
theorem XV (fq:Int)(aB:List Sy)(au:List It)(aI:List (List UInt8×Int))(lab:List UInt8)(opn:Bool)(bp:List UInt8)(aM:Int)(aR:Bool)(aF ay:Int)(a0:Int)(iC:List UInt8)(aC sz op aL:Int)(args:List Raw)(data:List Dt)(xx dM:List Nd)(e0 f0 ai:Int)(r:Nat) :
 aT X0 (cV S1 N2 G4 _) ia r 68 [.ptr 0 0,.agg (I1 ⟨a0,iC,aC,sz,op,aL,args,data,xx,dM,e0,f0⟩),.int .i64 ai] (eS 2 (vp ⟨fq,aB,au,aI,lab,opn,bp,aM,aR,aF,ay⟩ [])) gw=abl ⟨fq,aB,au,aI,lab,opn,bp,aM,aR,aF,ay⟩ ⟨a0,iC,aC,sz,op,aL,args,data,xx,dM,e0,f0⟩ ai:=by kernel_rfl
end
end Go.Proofs.YtfggompceldfgaaGreatDoor.ps.sr
namespace Go.Proofs.YtfggompceldfgaaGreatDoor.ps.sp
open Go.Tv Go.Ev Go.Proofs.YtfggompceldfgaaGreatDoor.ex
noncomputable section
def X1:gU:={ ex.X0 with fl:=true }
abbrev kn:fc:=lt.kn
def K0:Tu:=λ_=>none
abbrev inl:FuncId->Bool:=lt.inl
theorem bS {f:FuncId}(h:inl f=true)(args:List Value):kn f args=none:=lt.bS h args
def c1 (β:Type):cI β:=sx X1 K0 inl 200 β 40
theorem GD (β:Type):cT X1 (dO X1 kn) (c1 β):=lg (by intro id s g h;cases h) (λf h args=>bS h args) 200 40 β
def wI (n:Nat):Int:=IntKind.wrap .u64 (IntKind.wrap .i64 (n:Int))
def leB (n:Nat):List Int:=[IntKind.wrap .u8 (Int.fdiv (wI n) 1),IntKind.wrap .u8 (Int.fdiv (wI n) 256),IntKind.wrap .u8 (Int.fdiv (wI n) 65536),IntKind.wrap .u8 (Int.fdiv (wI n) 16777216),IntKind.wrap .u8 (Int.fdiv (wI n) 4294967296),IntKind.wrap .u8 (Int.fdiv (wI n) 1099511627776),IntKind.wrap .u8 (Int.fdiv (wI n) 281474976710656),IntKind.wrap .u8 (Int.fdiv (wI n) 72057594037927936)]
def Tc (n:Nat):Bool:=Ieee.Format.order (FloatKind.format FloatKind.f64) n n != some Ordering.eq
def Td:List Int:=[1,0,0,0,0,0,248,127]
def XW (n:Nat):Bool:=bI (Int.fdiv (IntKind.wrap .i64 (IntKind.wrap .u64 (IntKind.wrap .u64 (IntKind.wrap .i64 (n:Int))*1))) 1) (IntKind.wrap .i64 (n:Int))
def akX (n:Nat):Bool:=bI (IntKind.wrap .i64 (Int.fdiv (IntKind.wrap .u64 (IntKind.wrap .u64 (IntKind.wrap .i64 (n:Int))*1)) 1)) (IntKind.wrap .i64 (n:Int))
def xe (v:AV)(H:aH):Option (AV×Option Row) :=
 match v with
 |.fH (.own i _::_)=>some (v,H.get i)
 |.own i _=>some (v,H.get i)
 |.rH i _ _ _=>some (v,H.get i)
 |_=>some (v,none)
theorem BV {v:AV}{H:aH}{r:AV×Option Row}(h:xe v H=some r):v=r.1:=by
 unfold xe at h;split at h<;>(cases h;rfl)
def ptB (n:Nat):List Int:=[IntKind.wrap .u8 (Int.fdiv (n:Int) 1),IntKind.wrap .u8 (Int.fdiv (n:Int) 256),IntKind.wrap .u8 (Int.fdiv (n:Int) 65536),IntKind.wrap .u8 (Int.fdiv (n:Int) 16777216),IntKind.wrap .u8 (Int.fdiv (n:Int) 4294967296),IntKind.wrap .u8 (Int.fdiv (n:Int) 1099511627776),IntKind.wrap .u8 (Int.fdiv (n:Int) 281474976710656),IntKind.wrap .u8 (Int.fdiv (n:Int) 72057594037927936)]
def Q4:Option Nat->List Int
 |none=>Td
 |some n=>ah (Tc n) Td (ptB n)
theorem mL (a:Option Nat):(Q4 a).length=8:=by
 cases a with
 |none=>rfl
 |some n =>
  show (ah (Tc n) Td (ptB n)).length=8;cases Tc n<;>rfl
theorem akZ (n:Nat):wI n=(n:Int)%18446744073709551616:=by
 unfold wI IntKind.wrap;have e1:IntKind.signed .u64=false:=rfl;have e2:IntKind.signed .i64=true:=rfl;have e3:IntKind.bits .u64=64:=rfl;have e4:IntKind.bits .i64=64:=rfl;simp only[e1,e2,e3,e4,iO,dK];have e5:((2:Int) ^ 64)=18446744073709551616:=by decide
 simp;split<;>omega
theorem xg {d:Int}(x:Int)(c:Int)(hd:0<d)(hc:256*d*c=18446744073709551616):IntKind.wrap .u8 (Int.fdiv (x%18446744073709551616) d)=IntKind.wrap .u8 (Int.fdiv x d):=by
 have e:∀y:Int,IntKind.wrap .u8 y=y%256:=λy=>by
  unfold IntKind.wrap;have e1:IntKind.signed .u8=false:=rfl;have e3:IntKind.bits .u8=8:=rfl;simp only[e1,e3,iO];simp
 rw[e,e,iF _ (Int.le_of_lt hd),iF _ (Int.le_of_lt hd)];have h1:x%18446744073709551616=x-18446744073709551616*(x/18446744073709551616):=by omega
 generalize x/18446744073709551616=q at h1;rw[h1,<-hc];have h2:x-256*d*c*q=x+(-(256*c*q))*d:=by
  have:256*d*c*q=256*c*q*d:=by rw[jy 256 d c,oo d c,<-jy 256 c d,jy (256*c) d q,oo d q,<-jy]
  rw[this,Int.neg_mul];omega
 rw[h2,Int.add_mul_ediv_right _ _ (by omega)];have h3 : -(256*c*q)=256*(-(c*q)):=by rw[jy,Int.mul_neg]
 rw[h3];omega
theorem agM (n:Nat):leB n=ptB n:=by
 unfold leB ptB;rw[akZ,xg (d:=1) _ 72057594037927936 (by decide) (by decide),xg (d:=256) _ 281474976710656 (by decide) (by decide),xg (d:=65536) _ 1099511627776 (by decide) (by decide),xg (d:=16777216) _ 4294967296 (by decide) (by decide),
  xg (d:=4294967296) _ 16777216 (by decide) (by decide),xg (d:=1099511627776) _ 65536 (by decide) (by decide),xg (d:=281474976710656) _ 256 (by decide) (by decide),xg (d:=72057594037927936) _ 1 (by decide) (by decide)]
theorem Te (n:Nat):XW n=true:=by
 unfold XW;rw[eT,eI];generalize (n:Int)=x;unfold IntKind.wrap;have e1:IntKind.signed .u64=false:=rfl;have e2:IntKind.signed .i64=true:=rfl;have e3:IntKind.bits .u64=64:=rfl;have e4:IntKind.bits .i64=64:=rfl;simp only[e1,e2,e3,e4,iO,dK];have e5:((2:Int) ^ 64)=18446744073709551616:=by decide
 simp;split<;>split<;>omega
def obF (l:List Int):Option (AV×Option Row):=some (.rH 0 0 8 8,some (.list 5 (.int .u8) l 8 true false))
set_option maxRecDepth 100000 in
theorem agN (n:Nat):aT X1 (c1 _) ia 100 26 [.pZ n] aH.empty xe=ah (Tc n) (obF Td) (ah (XW n) (obF (leB n)) (ah (!akX n) (some (.dg,none)) (obF (leB n)))):=by kernel_rfl
set_option maxRecDepth 100000 in
theorem agO:aT X1 (c1 _) ia 100 26 [.fl none] aH.empty xe=obF Td:=by kernel_rfl
theorem ak0 (n:Nat):aT X1 (c1 _) ia 100 26 [.pZ n] aH.empty xe=obF (Q4 (some n)):=by
 rw[agN,Te,agM];show _=obF (ah (Tc n) Td (ptB n));cases Tc n<;>rfl
def abm:List AV->Option (Option Nat)
 |[.pZ n]=>some (some n)
 |[.fl a]=>some a
 |_=>none
def ak1:Option Nat->AV
 |some n=>.pZ n
 |none=>.fl none
theorem abn {args:List AV}{a:Option Nat}(h:abm args=some a):∀S m,LV S args m->LV S [ak1 a] m:=by
 intro S m hm;unfold abm at h;split at h
 .cases h;exact hm
 .cases h;obtain⟨x,m',rfl,h1,h2⟩:=hm.cons_inv;refine LV.cons ?_ h2;cases h1 with
  |fl b v hv =>
   cases a with
   |none=>exact .fl none _ hv
   |some n=>rw[hv];exact .pZ n
 cases h
theorem abo {f:FuncId}(hk:∀args,kn f args=none){rs:Option Nat->List fN}(h:∀a:Option Nat,∃v o,aT X1 (c1 _) ia 100 f [ak1 a] aH.empty xe=some (v,o)/\∀M,xe v M=some (v,o)->tf M [] [v] (rs a)/\rJ [v]=v) :
 dh X1 (dO X1 kn) f λargs=>match abm args with|some a=>some (true,rs a)|none=>none:=by
 intro args r hg;simp only at hg;split at hg
 .rename_i a ha;simp only[aq,ax]at hg;obtain⟨_,rfl⟩:=hg;obtain⟨v,o,h1,h2⟩:=h a;obtain⟨v',M1,k1,k2⟩:=og hk (GD _) h1;have e:v'=v:=BV k1;rw[e]at k1 k2;refine⟨[v],M1,λS E bM hr hgl hl=>k2 [v] (h2 M1 k1).2.symm S E bM hr hgl (abn ha S bM hl),(h2 M1 k1).1⟩
 cases hg
def rsF (a:Option Nat):List fN:=[.room 5 (.int .u8) (Q4 a) 8]
def gF (args:List AV):Option (Bool×List fN):=match abm args with|some a=>some (true,rsF a)|none=>none
theorem aoN:dh X1 (dO X1 kn) 26 gF :=
 abo (λargs=>bS rfl args) (rs:=rsF) λa=>⟨.rH 0 0 8 8,some (.list 5 (.int .u8) (Q4 a) 8 true false),by
  cases a with
  |none=>exact agO
  |some n=>exact ak0 n,λM hM=>⟨⟨rfl,0,8,by rw[mL],(jI (bL hM)).2,by simp,trivial⟩,rfl⟩⟩
def N1:List xX:=[(26,[none],gF)]
theorem Q1:jx X1 (dO X1 kn) N1:=.cons aoN .nil
def c2 (β:Type):cI β:=sx X1 (Tw N1) inl 200 β 40
theorem Qg (β:Type):cT X1 (dO X1 kn) (c2 β):=lg Q1 (λf h args=>bS h args) 200 40 β
abbrev Ob:=Option (AV×Option Row)
def HB (a:Option Nat):List Int:=List.take 8 (List.drop 0 (Q4 a))
theorem XX (a:Option Nat):HB a=Q4 a:=by
 unfold HB;rw[mK,<-mL a,kD]
def vM (o v:List Int)(k:Nat->List Int->Ob):Ob:=ah (Nat.ble (o.length+v.length) 2000000) (k (o.length+v.length) (o++v)) none
theorem Dj {o v:List Int}(h:o.length+v.length<=2000000)(k:Nat->List Int->Ob):vM o v k=k (o.length+v.length) (o++v):=by
 unfold vM;rw[ee h]
def Cu (a b c d:Option Nat):Option Nat:=MQ .sub (MQ .mul a c) (MQ .mul b d)
def Cv (a b c d:Option Nat):Option Nat:=MQ .add (MQ .mul a d) (MQ .mul b c)
def sR:Nat:=4607182418800017408
def obE:Ob:=some (.fH [.dg,.int .i64 5],none)
def obO (k:Nat)(o:List Int):Ob:=some (.fH [.own 0 k,.int .i64 0],some (.list 5 (.int .u8) o 0 false false))
def abp (re im n:Int)(go:Ob):Ob :=
 ah (bB n 1) obE (ah (bB 64 n) obE (ah (bB re (-9007199254740992)) obE (ah (bB 9007199254740992 re) obE (ah (bB im (-9007199254740992)) obE (ah (bB 9007199254740992 im) obE go)))))
def fI (n:Int):Nat:=FloatKind.nearest .f64 n
def pA:List Bool:=[true,true,true,true,false,true,false]
def anA:eD:=⟨gZ [8,9,10,38,39] pA,.none,[]⟩
def jA0 (c d:Nat)(n:Int)(r m:Nat)(i:Int):Ob:=jf X1 (c2 _) anA r 10 pA xe m (lz 76 [(8,.dg),(9,.cx (some c) (some d)),(10,.zR (.complex .f64 4607182418800017408 0)),(38,.int .i64 n),(39,.int .i64 i)]) (pz [])
def XY (c d:Nat)(n:Int)(r m:Nat)(k:Nat)(o:List Int)(a b:Option Nat)(i:Int):Ob:=jf X1 (c2 _) anA r 10 pA xe m (lz 76 [(8,.own 0 k),(9,.cx (some c) (some d)),(10,.cx a b),(38,.int .i64 n),(39,.int .i64 i)]) (pz [.list 5 (.int .u8) o 0 false false])
set_option maxRecDepth 100000 in
theorem JB (c d:Nat)(n:Int)(r m:Nat)(k:Nat)(o:List Int)(a b:Option Nat)(i:Int):XY c d n r (m+1) k o a b i =
 ah (bB i n) (vM o (HB a) λ_ o1=>vM o1 (HB b) λk2 o2=>XY c d n r m k2 o2 (Cu a b (some c) (some d)) (Cv a b (some c) (some d)) (IntKind.wrap .i64 (i+1))) (obO k o):=by kernel_rfl
set_option maxRecDepth 100000 in
theorem agR (c d:Nat)(n:Int)(r m:Nat)(i:Int):jA0 c d n r (m+1) i =
 ah (bB i n) (vM [] (HB (some sR)) λ_ o1=>vM o1 (HB (some 0)) λk2 o2=>XY c d n r m k2 o2 (Cu (some sR) (some 0) (some c) (some d)) (Cv (some sR) (some 0) (some c) (some d)) (IntKind.wrap .i64 (i+1))) (some (.fH [.dg,.int .i64 0],none)):=by kernel_rfl
set_option maxRecDepth 100000 in
theorem lK (re im n:Int)(r:Nat):aT X1 (c2 _) anA r 10 [.int .i64 re,.int .i64 im,.int .i64 n] aH.empty xe=abp re im n (jA0 (fI re) (fI im) n r r 0):=by kernel_rfl
def Q5:Nat->Option Nat->Option Nat->Option Nat->Option Nat->List Int
 |0,_,_,_,_=>[]
 |k+1,a,b,c,d=>Q4 a++(Q4 b++Q5 k (Cu a b c d) (Cv a b c d) c d)
theorem Q6 (c d:Option Nat):∀(k:Nat) (a b:Option Nat),(Q5 k a b c d).length=16*k
 |0,_,_=>rfl
 |k+1,a,b=>by
  unfold Q5;rw[aA,aA,mL,mL,Q6 c d k];omega
theorem XN {vw:Option Nat->List Int}(hv:∀a,vw a=Q4 a){c d:Nat}{n:Int}(hn:n<=64){J:Nat->Nat->List Int->Option Nat->Option Nat->Int->Ob}
 (step:∀m k o a b i,J (m+1) k o a b i=ah (bB i n) (vM o (vw a) λ_ o1=>vM o1 (vw b) λk2 o2=>J m k2 o2 (Cu a b (some c) (some d)) (Cv a b (some c) (some d)) (IntKind.wrap .i64 (i+1))) (obO k o)) :
 ∀(q m:Nat) (o:List Int) (a b:Option Nat) (i:Nat),(i:Int)+q=n->q<m->o.length=16*i->J m o.length o a b i=obO (o++Q5 q a b (some c) (some d)).length (o++Q5 q a b (some c) (some d)):=by
 intro q;induction q with
 |zero =>
  intro m o a b i hi hm ho;obtain⟨m,rfl⟩:∃m',m=m'+1:=⟨m-1,by omega⟩;rw[step,fG (by omega)];show obO _ _=_;rw[Q5,eO]
 |succ q ih =>
  intro m o a b i hi hm ho;obtain⟨m,rfl⟩:∃m',m=m'+1:=⟨m-1,by omega⟩;rw[step,pL (by omega)];show vM _ _ _=_;rw[hv,hv,Dj (by rw[mL];omega),Dj (by rw[aA,mL,mL];omega),<-aA,i64_in (n:=(i:Int)+1) (by omega) (by omega)];have:=ih m (o++Q4 a++Q4 b) (Cu a b (some c) (some d)) (Cv a b (some c) (some d)) (i+1) (by omega) (by omega) (by rw[aA,aA,mL,mL];omega);refine this.trans ?_;rw[Q5,bQ,bQ]
theorem agS {vw:Option Nat->List Int}(hv:∀a,vw a=Q4 a){c d:Nat}{n:Int}(h1:1<=n)(hn:n<=64){J:Nat->Nat->List Int->Option Nat->Option Nat->Int->Ob}{J0:Nat->Int->Ob}{e:Ob}
 (step:∀m k o a b i,J (m+1) k o a b i=ah (bB i n) (vM o (vw a) λ_ o1=>vM o1 (vw b) λk2 o2=>J m k2 o2 (Cu a b (some c) (some d)) (Cv a b (some c) (some d)) (IntKind.wrap .i64 (i+1))) (obO k o))
 (step0:∀m i,J0 (m+1) i=ah (bB i n) (vM [] (vw (some sR)) λ_ o1=>vM o1 (vw (some 0)) λk2 o2=>J m k2 o2 (Cu (some sR) (some 0) (some c) (some d)) (Cv (some sR) (some 0) (some c) (some d)) (IntKind.wrap .i64 (i+1))) e) :
 J0 66 0=obO (Q5 n.toNat (some sR) (some 0) (some c) (some d)).length (Q5 n.toNat (some sR) (some 0) (some c) (some d)):=by
 rw[step0,pL (by omega)];show vM _ _ _=_;obtain⟨q,hq⟩:∃q:Nat,n.toNat=q+1:=⟨n.toNat-1,by omega⟩;rw[hv,hv,Dj (by rw[mL];decide),Dj (by rw[aA,mL,mL];decide),<-aA,hq,Q5,eP];have:=XN hv hn step q 65 (Q4 (some sR)++Q4 (some 0)) (Cu (some sR) (some 0) (some c) (some d)) (Cv (some sR) (some 0) (some c) (some d)) 1 (by omega) (by omega) (by rw[aA,mL,mL]);refine Eq.trans ?_ (this.trans ?_)
 .rfl
 rw[bQ]
def JC (re im n:Int):Bool:=decide (n<1)||decide (64<n)||decide (re < -9007199254740992)||decide (9007199254740992<re)||decide (im < -9007199254740992)||decide (9007199254740992<im)
theorem abq (re im n:Int)(go:Ob):abp re im n go=if JC re im n=true then obE else go:=by
 unfold abp JC;simp only[cG];by_cases h1:n<1
 .simp[h1]
 by_cases h2:64<n
 .simp[h1,h2]
 by_cases h3:re < -9007199254740992
 .simp[h1,h2,h3]
 by_cases h4:9007199254740992<re
 .simp[h1,h2,h3,h4]
 by_cases h5:im < -9007199254740992
 .simp[h1,h2,h3,h4,h5]
 by_cases h6:9007199254740992<im
 .simp[h1,h2,h3,h4,h5,h6]
 simp[h1,h2,h3,h4,h5,h6]
def pwF (re im n:Int):List Int:=if JC re im n=true then [] else Q5 n.toNat (some sR) (some 0) (some (fI re)) (some (fI im))
def gPw (args:List AV):Option (Bool×List fN) :=
 match args with
 |[.int .i64 re,.int .i64 im,.int .i64 n]=>some (true,[.list 5 (.int .u8) (pwF re im n),.val (.int .i64 (if JC re im n=true then 5 else 0))])
 |_=>none
theorem Pb {f:FuncId}(hk:∀args,kn f args=none){an:eD}{J0:Nat->Nat->Int->Nat->Int->Ob}(h:∀re im n,aT X1 (c2 _) an 66 f [.int .i64 re,.int .i64 im,.int .i64 n] aH.empty xe=abp re im n (J0 (fI re) (fI im) n 66 0))
 (h0:∀c d n,1<=n->n<=64->J0 c d n 66 0=obO (Q5 n.toNat (some sR) (some 0) (some c) (some d)).length (Q5 n.toNat (some sR) (some 0) (some c) (some d))):dh X1 (dO X1 kn) f gPw:=by
 intro args rs hg;unfold gPw at hg;split at hg;case h_2=>cases hg
 rename_i re im n;simp only[aq,ax]at hg;obtain⟨_,rfl⟩:=hg;have hrun:=h re im n;rw[abq]at hrun;unfold pwF;by_cases hb:JC re im n=true
 .rw[ag hb]at hrun ⊢;obtain⟨v,M1,k1,k2⟩:=og hk (Qg _) hrun;have e:v = .fH [.dg,.int .i64 5]:=BV k1;rw[e]at k2;rw[ag hb];exact⟨_,M1,k2 [.dg,.int .i64 5] rfl,rfl,.inr ⟨rfl,rfl,rfl,rfl,trivial⟩⟩
 rw[aa hb]at hrun ⊢;have hb':1<=n/\n<=64:=by
  unfold JC at hb;simp only[cJ,aV,kK]at hb;omega
 rw[h0 _ _ _ hb'.1 hb'.2]at hrun;rw[aa hb];generalize Q5 n.toNat (some sR) (some 0) (some (fI re)) (some (fI im))=l at *;obtain⟨v,M1,k1,k2⟩:=og hk (Qg _) hrun;have e:v = .fH [.own 0 l.length,.int .i64 0]:=BV k1;rw[e]at k1 k2;exact⟨_,M1,k2 [.own 0 l.length,.int .i64 0] rfl,rfl,.inl ⟨0,0,false,rfl,(jI (bL k1)).2,by simp,rfl,rfl,trivial⟩⟩
theorem ak2:dh X1 (dO X1 kn) 10 gPw :=
 Pb (λargs=>bS rfl args) (J0:=λc d n m i=>jA0 c d n 66 m i) (λre im n=>lK re im n 66) λc d n h1 h2 =>
  agS XX h1 h2 (J:=λm k o a b i=>XY c d n 66 m k o a b i) (λm k o a b i=>JB c d n 66 m k o a b i) (λm i=>agR c d n 66 m i)
theorem Pc:dh ex.X0 gW 10 gPw:=ak2
end
end Go.Proofs.YtfggompceldfgaaGreatDoor.ps.sp

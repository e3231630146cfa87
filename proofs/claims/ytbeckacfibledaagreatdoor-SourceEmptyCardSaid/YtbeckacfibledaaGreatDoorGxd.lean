/- Sources: what lines do, as it runs: data, dcx. Sources: what lines do: the runs come to the plain functions. Sources: what lines do: contracts. Sources: a line read, as it runs. Sources: a line read: the contract. -/
import Derived.Test.YtbeckacfibledaaGreatDoorGxc
import Derived.Test.YtbeckacfibledaaGreatDoorGrf
set_option linter.unusedVariables false
set_option linter.unusedSimpArgs false

namespace Go.Proofs.YtbeckacfibledaaGreatDoor.ps.sr
open Go.Tv Go.Ev Go.Px Go.Pp Go.Proofs.YtbeckacfibledaaGreatDoor.ex
set_option maxRecDepth 100000
noncomputable section
def mD (re im n:Int):List Int×Int:=(sp.pwF re im n,if sp.J9 re im n=true then 5 else 0)
def fPw (args:List AV):Option (Bool×List AV) :=
 match args with
 |[.int .i64 re,.int .i64 im,.int .i64 n]=>some (true,[.dH (.int .u8) (mD re im n).1,.int .i64 (mD re im n).2])
 |_=>none
theorem P8:gy X0 fU 94 ⟨none,[none,none,none],gV fPw⟩:=by
 intro ins outs rs hg hlen;clear hlen;have hg:gV fPw ins=some (true,outs,rs):=hg;unfold gV at hg;split at hg;case h_2=>cases hg
 rename_i vs hv;split at hg;case h_2=>cases hg
 rename_i c ws hf;simp only[aq,ay]at hg;obtain⟨rfl,_,rfl⟩:=hg;obtain rfl:=qV hv;clear hv;unfold fPw at hf;split at hf;case h_2=>cases hf
 rename_i re im n;simp only[aq,ay]at hf;obtain⟨_,rfl⟩:=hf;obtain⟨vs,H1,h1,h2⟩:=sp.P9 [.int .i64 re,.int .i64 im,.int .i64 n] _ rfl;have hrun:C6 X0 fU 94 [.int .i64 re,.int .i64 im,.int .i64 n] aG.empty vs H1:=h1
 match vs,h2 with
 |[v,w],h2 =>
  obtain⟨_,h2⟩:=h2;rcases h2 with⟨id,gC,ex,rfl,hg,_,h3⟩|⟨rfl,hl,h3⟩
  .obtain ⟨rfl,_,_⟩:=h3;have hs:pz H1 [.val .j5,.val .j5] [.own id (mD re im n).1.length,.int .i64 (mD re im n).2]=some ([.dH (.int .u8) (mD re im n).1,.int .i64 (mD re im n).2],H1.put id (.list 5 (.int .u8) (mD re im n).1 gC ex true)):=by
    unfold pz;have e:jv H1 [.own id (mD re im n).1.length]=some ([.dH (.int .u8) (mD re im n).1],H1.put id (.list 5 (.int .u8) (mD re im n).1 gC ex true)):=by
     unfold jv;have hg:H1.get id=some (.list 5 (.int .u8) (mD re im n).1 gC ex false):=hg;rw[hg];rfl
    simp only[e];rfl
   exact⟨_,_,hrun.WU hs,rfl,rfl,rfl,rfl,trivial⟩
  obtain⟨rfl,_,_⟩:=h3;refine⟨[.dH (.int .u8) (mD re im n).1,.int .i64 (mD re im n).2],H1,λS E bJ hr hgl hl'=>?_,rfl,rfl,rfl,rfl,trivial⟩;obtain⟨S',vE,E',a1,⟨xs,rfl,a2⟩,a3,a4⟩:=hrun S E bJ hr hgl hl';obtain⟨x,m,rfl,k1,k2⟩:=a2.cons_inv;have hl:(mD re im n).1=[]:=hl;rw[hl];exact⟨S',_,E',a1,⟨_,rfl,LV.cons (JH (some (.int .u8)) k1) k2⟩,a3,a4⟩
def pDa:List Bool:=[true,true,true,false,true,false]
def acr:ei:=⟨gD [3,4,7,2,8,16,17,18] pDa,.none,[]⟩
def mDa (s:SS)(x:RS)(c:List UInt8):aG:=eU 2 [.cells 70 (ZD 1 5 6 s.aH.length s.av.length s),.mp 68 s.aI,P7 0,Nc x,scR c,.list 59 gZ s.aH 0 false false,.list 52 qX s.av 0 false false]
def YG (s:SS)(x:RS)(c:List UInt8)(ai:Int)(r m:Nat)(by' len i:Int):OG:=iF X0 (cV S1 N2 G4 _) acr r 47 pDa gG m (kr 56 [(3,.ptr 2 0),(4,.ptr 3 0),(7,.ptr 4 0),(2,.int .i64 ai),(8,.int .i64 by'),(16,.dH Fq x.data),(17,.int .i64 len),(18,.int .i64 i)]) (mDa s x c)
def stepDa' (s:SS)(x:RS)(c:List UInt8)(ai by' len i:Int)(J:Int->OG):OG :=
 ah (bC i len) (tj x.data i λy=>ah (bI (y.2.length:Int) 0) (ah (bI x.sz 0) none (J (IntKind.wrap .i64 (by'+Yr y.1.length x.sz))))
  (ah (Nat.ble c.length 2000000&&eu y.2) (ah (!(de c y.2).2) (jh [] s 3) (J (IntKind.wrap .i64 (by'+x.sz)))) none))
  (T3 s (Nat.ble c.length 2000000&&(CP x.sz&&(Kq x.data&&Nat.ble 1 x.data.length))) x.data.length x.data.length by' ai (it3 s.au x c))
theorem YH (a0:Int)(iK:List UInt8)(aF sz op aM:Int)(args:List Raw)(data:List Dt)(xx dO:List Nd)(e0 f0:Int)(c:List UInt8)(fM:Int)(aH:List Sy)(av:List It)(aI:List (List UInt8×Int))(lab:List UInt8)(opn:Bool)(bp:List UInt8)(aN:Int)(aR:Bool)(aD au:Int)(ai:Int)(r m:Nat)(by' len i:Int) :
 YG ⟨fM,aH,av,aI,lab,opn,bp,aN,aR,aD,au⟩ ⟨a0,iK,aF,sz,op,aM,args,data,xx,dO,e0,f0⟩ c ai r (m+1) by' len i =
 stepDa' ⟨fM,aH,av,aI,lab,opn,bp,aN,aR,aD,au⟩ ⟨a0,iK,aF,sz,op,aM,args,data,xx,dO,e0,f0⟩ c ai by' len i λb=>YG ⟨fM,aH,av,aI,lab,opn,bp,aN,aR,aD,au⟩ ⟨a0,iK,aF,sz,op,aM,args,data,xx,dO,e0,f0⟩ c ai r m b len (IntKind.wrap .i64 (i+1)):=by kernel_rfl
theorem acs (a0:Int)(iK:List UInt8)(aF sz op aM:Int)(args:List Raw)(data:List Dt)(xx dO:List Nd)(e0 f0:Int)(fM:Int)(aH:List Sy)(av:List It)(aI:List (List UInt8×Int))(lab:List UInt8)(opn:Bool)(bp:List UInt8)(aN:Int)(aR:Bool)(aD au:Int)(ai:Int)(r:Nat) :
 aT X0 (cV S1 N2 G4 _) acr r 47 [.ptr 0 0,.agg (Jv ⟨a0,iK,aF,sz,op,aM,args,data,xx,dO,e0,f0⟩),.int .i64 ai] (eU 2 (vK ⟨fM,aH,av,aI,lab,opn,bp,aN,aR,aD,au⟩ [])) gG =
 TI ⟨fM,aH,av,aI,lab,opn,bp,aN,aR,aD,au⟩ λc=>YG ⟨fM,aH,av,aI,lab,opn,bp,aN,aR,aD,au⟩ ⟨a0,iK,aF,sz,op,aM,args,data,xx,dO,e0,f0⟩ c ai r r 0 data.length 0:=by kernel_rfl
def N3:List pQ:=(94,⟨none,[none,none,none],gV fPw⟩)::N2
theorem aei:gY X0 fU N3:=.cons P8 uL
def pDx:List Bool:=[true,true,false,true,false]
def acu:ei:=⟨gD [3,4,7,2,16,17,18] pDx,.none,[]⟩
def mDx (s:SS)(x:RS)(v0 v1 v2:Int):aG:=eU 2 [.cells 70 (ZD 1 5 6 s.aH.length s.av.length s),.mp 68 s.aI,P7 0,Nc x,.cells 126 [.int .i64 v0,.int .i64 v1,.int .i64 v2],.list 59 gZ s.aH 0 false false,.list 52 qX s.av 0 false false]
def RQ (s:SS)(x:RS)(ai:Int)(r m:Nat)(v0 v1 v2 len i:Int):OG:=iF X0 (cV S1 N3 G4 _) acu r 55 pDx gG m (kr 56 [(3,.ptr 2 0),(4,.ptr 3 0),(7,.ptr 4 0),(2,.int .i64 ai),(16,.dH Fq x.data),(17,.int .i64 len),(18,.int .i64 i)]) (mDx s x v0 v1 v2)
def Ni (s:SS)(ai:Int)(q:List Int×Int):OG:=ah (!bI q.2 0) (jh [] s q.2) (T3 s (Nat.ble q.1.length 2000000) 1 1 q.1.length ai (it6 s.au q.1))
def Nj (s:SS)(x:RS)(ai:Int)(v0 v1 v2 len i:Int)(J:Int->Int->Int->OG):OG :=
 ah (bC i len) (tj x.data i λy=>ah (Yx s.aH.length s.av.length&&(zG s&&eu y.2)) (ah (!bI (cO gz fP s y.2).2 0) (jh [] s (cO gz fP s y.2).2)
  (ah (bI i 0) (J (cO gz fP s y.2).1 v1 v2) (ah (bI i 1) (J v0 (cO gz fP s y.2).1 v2) (ah (bI i 2) (J v0 v1 (cO gz fP s y.2).1) none)))) none)
  (Ni s ai (mD v0 v1 v2))
theorem aia (a0:Int)(iK:List UInt8)(aF sz op aM:Int)(args:List Raw)(data:List Dt)(xx dO:List Nd)(e0 f0:Int)(fM:Int)(aH:List Sy)(av:List It)(aI:List (List UInt8×Int))(lab:List UInt8)(opn:Bool)(bp:List UInt8)(aN:Int)(aR:Bool)(aD au:Int)(ai:Int)(r m:Nat)(v0 v1 v2 len i:Int) :
 RQ ⟨fM,aH,av,aI,lab,opn,bp,aN,aR,aD,au⟩ ⟨a0,iK,aF,sz,op,aM,args,data,xx,dO,e0,f0⟩ ai r (m+1) v0 v1 v2 len i =
 Nj ⟨fM,aH,av,aI,lab,opn,bp,aN,aR,aD,au⟩ ⟨a0,iK,aF,sz,op,aM,args,data,xx,dO,e0,f0⟩ ai v0 v1 v2 len i λa b c=>RQ ⟨fM,aH,av,aI,lab,opn,bp,aN,aR,aD,au⟩ ⟨a0,iK,aF,sz,op,aM,args,data,xx,dO,e0,f0⟩ ai r m a b c len (IntKind.wrap .i64 (i+1)):=by kernel_rfl
theorem acv (a0:Int)(iK:List UInt8)(aF sz op aM:Int)(args:List Raw)(data:List Dt)(xx dO:List Nd)(e0 f0:Int)(fM:Int)(aH:List Sy)(av:List It)(aI:List (List UInt8×Int))(lab:List UInt8)(opn:Bool)(bp:List UInt8)(aN:Int)(aR:Bool)(aD au:Int)(ai:Int)(r:Nat) :
 aT X0 (cV S1 N3 G4 _) acu r 55 [.ptr 0 0,.agg (Jv ⟨a0,iK,aF,sz,op,aM,args,data,xx,dO,e0,f0⟩),.int .i64 ai] (eU 2 (vK ⟨fM,aH,av,aI,lab,opn,bp,aN,aR,aD,au⟩ [])) gG =
 RQ ⟨fM,aH,av,aI,lab,opn,bp,aN,aR,aD,au⟩ ⟨a0,iK,aF,sz,op,aM,args,data,xx,dO,e0,f0⟩ ai r r 0 0 1 data.length 0:=by kernel_rfl
theorem zC {β:Type}(s:SS)(go:List UInt8->Option β):TI s go=go (cj s):=by
 unfold TI cj;cases s.opn<;>rfl
theorem Ka {s:SS}(h:knB s=true)(w:List UInt8){n:Int}{m:Nat}(hm:s.aH.length<=m)(hn:n.toNat<=m):((iw s.aI w n).all λq=>Nat.ble q.2.toNat m)=true:=by
 have:∀l:List (List UInt8×Int),(l.all λq=>Nat.ble q.2.toNat s.aH.length)=true->((iw l w n).all λq=>Nat.ble q.2.toNat m)=true:=by
  intro l;induction l with
  |nil=>intro _;show (Nat.ble n.toNat m&&true)=true;rw[dS hn];rfl
  |cons q l ih =>
   intro hl;rw[bY,ak]at hl;rw[iw,ax];have hr:(l.all λq=>Nat.ble q.2.toNat m)=true:=aK.2 λq' hq'=>dS (br (az (aK.1 hl.2 q' hq')) hm)
   split
   .rw[bY,hr];show (Nat.ble n.toNat m&&true)=true;rw[dS hn];rfl
   rw[bY,ih hl.2,dS (br (az hl.1) hm)];rfl
 exact this s.aI h
theorem YI {s:SS}(h1:knB s=true)(h2:s.lab.length<=1000000)(h3:s.bp.length<=1000000)(h4:s.aH.length<=1000000)(h5:s.av.length<=20000):zG s=true:=by
 unfold zG ahE;rw[h1,dS h2,dS h3,dS h4,dS h5];rfl
theorem Ci {s:SS}{a q b ai:Int}(h1:zG s=true)(h2:okB s=true)(h3:q=a)(h4:0<=b)(h5:b<=1000000000000)(h6:0<=ai):Ia s a q b ai=true:=by
 unfold Ia;rw[h1,h2,h3,fL (a:=b) (b:=0) (by omega),fL (a:=1000000000000) (by omega),fL (a:=ai) (b:=0) (by omega),eF];simp
theorem DE {s:SS}{g:Bool}(hg:g=true){a q b ai:Int}(h:Ia s a q b ai=true)(l:List It):T3 s g a q b ai l=eH [] (jW s q b ai l):=by
 unfold T3;rw[qY,hg,h];rfl
theorem Nk {s:SS}{a q b ai:Int}(h:Ia s a q b ai=true)(l:List It):Nh s a q b ai l=eH [] (jW s q b ai l):=by
 unfold Nh;rw[qY,h];rfl
theorem Qa (s:SS)(w:List UInt8){go:OG}{K:SR'}(h:go=eH [] K):frT s w go=eH [] (oT s w K):=by
 unfold frT oT;rw[ax,cA,h];by_cases h1:ri s.aI w=true
 .have e:xB s w=7:=by unfold xB;rw[ag h1]
  rw[ag h1,e,ag (by decide)];rfl
 by_cases h2:60<w.length
 .have e:xB s w=3:=by unfold xB;rw[aa h1,ag h2]
  rw[aa h1,ag (by omega),e,ag (by decide)];rfl
 have e:xB s w=0:=by unfold xB;rw[aa h1,aa h2]
 rw[aa h1,aa (by omega),e,aa (by decide)]
theorem YJ {s:SS}(h:s.aH.length<=1000000)(w:List UInt8)(n:Int):syT s w n=eH [] (PL s w n,0):=tc h _
theorem RR {s:SS}(hs:zG s=true){x:List Nd}(hx:eu x=true){go:Int->OG}{K:Int->SR'}(h:∀n,go n=eH [] (K n)):kT s x go=eH [] (nE gz fP s x K):=by
 unfold kT nE;rw[qY,hs,hx];show ah _ _ _=_;rw[cn];by_cases h0:(cO gz fP s x).2=0
 .rw[ag h0,aa (by simp[h0]),h];rfl
 rw[aa h0,ag h0];rfl
def okG (s:SS):Bool := !bC s.aN 0 && !bC 1000000000000000 s.aN
theorem Nl {s:SS}(h:okG s=true):0<=s.aN/\s.aN<=1000000000000000:=by
 unfold okG at h;rw[cD,cD]at h;simp at h;omega
theorem aib {c w:List UInt8}:(gu c w).length<=c.length+w.length:=by
 unfold gu;split
 .rw[aA];exact aC _
 omega
theorem aic {s:SS}(hs:zG s=true)(hb:okB s=true){w:List UInt8}(hw:w.length<=1000000):labT' s w=eH [] (vH s w):=by
 have hsc:=sn hs;obtain⟨k1,⟨k2,k3⟩,k4,k5⟩:=s7 hs;unfold labT' vH;rw[zC,J7 (by omega)];refine Qa s _ ?_;rw[ax];by_cases ho:s.opn=true
 .rw[ag ho,ag ho];exact YJ k4 _ _
 rw[aa ho,aa ho];have key:∀L:List UInt8,L.length<=1000000->Nh { s with lab:=L,aI:=iw s.aI (gu (cj s) w) 0 } 1 1 0 1 (it1 s.au (gu (cj s) w))=eH [] (jW { s with lab:=L,aI:=iw s.aI (gu (cj s) w) 0 } 1 0 1 [itL s (gu (cj s) w)]):=λL hL =>
  Nk (a:=1) (q:=1) (b:=0) (ai:=1) (Ci (YI (s:={ s with lab:=L,aI:=iw s.aI (gu (cj s) w) 0 }) (Ka k1 (gu (cj s) w) (n:=0) (aC _) (ct _)) hL k3 k4 k5) hb rfl (by decide) (by decide) (by decide)) _
 unfold lt.preB;by_cases hp:w.take 1=[46]
 .rw[ag hp,show (decide (w.take ([46]:List UInt8).length=[46]))=true from aX hp];exact key _ k2
 rw[aa hp,show (decide (w.take ([46]:List UInt8).length=[46]))=false from aU hp];exact key _ hw
theorem acw {s:SS}(hs:zG s=true)(hb:okB s=true){x:RS}(hx:oo x.args=true){ai:Int}(ht:0<=ai):RM s x.op x.aM x.args ai=eH [] (xC s x ai):=by
 have hsc:=sn hs;unfold RM xC;rw[zC,dS (by omega),hx];show ah _ _ _=_;cases hn:(JZ (cj s) x.args).2 with
 |false=>rw[ag rfl];rfl
 |true =>
  rw[aa (by decide)];exact DE rfl (Ci hs hb rfl (by decide) (by decide) ht) _
theorem aid {s:SS}(hs:zG s=true){x:RS}(hw:x.lab.length<=1000000)(hx:eu x.x=true):ach s x=eH [] (MH gz fP s x):=by
 have hsc:=sn hs;obtain⟨_,_,k4,_⟩:=s7 hs;unfold ach MH;rw[zC,J7 (by omega)];exact Qa s _ (RR hs hx λn=>YJ k4 _ _)
theorem aie {s:SS}(hs:zG s=true):endT' s=eH [] (MI s):=by
 obtain⟨_,⟨_,k3⟩,k4,_⟩:=s7 hs;unfold endT' MI;have e:s.bp.length+CL.length<=9223372036854775807:=by
  have:CL.length=5:=rfl;omega
 rw[dS e];exact Qa s _ (tc k4 _)
theorem aif {s:SS}(hs:zG s=true){x:RS}(hx:eu x.x=true):aci s x=eH [] (MJ gz fP s x):=by
 unfold aci MJ;refine RR hs hx λn=>?_
 show ah s.aR _ (ah _ _ (ah _ _ (ah _ _ _)))=_;rw[ax,cA,cA,cA];by_cases h1:s.aR=true
 .rw[ag h1,ag (.inl h1)];rfl
 rw[aa h1];by_cases h2:(0:Int)<(s.av.length:Int)
 .rw[ag h2,ag (.inr λe=>by rw[e]at h2;exact absurd h2 (by decide))];rfl
 have h3:s.av=[]:=aQ.1 (by omega);have e1:¬(s.aR=true\/s.av≠[]):=λq=>q.elim h1 λq=>q h3
 rw[aa h2,aa e1];by_cases h4:n<0
 .rw[ag h4,ag (.inl h4)];rfl
 rw[aa h4];by_cases h5:140737488355328<n
 .have e2:n<0\/140737488355328<n:=.inr h5;rw[ag h5,ag e2];rfl
 have e2:¬(n<0\/140737488355328<n):=λq=>q.elim h4 h5
 rw[aa h5,aa e2];rfl
def aqo:Bool:=(List.range 4096).all λk=>(bI (ah1 ((k+1:Nat):Int)) 0)==pow2 ((k+1:Nat):Int)
theorem T8:aqo=true:=by kernel_rfl
theorem pow_eq {n:Int}(h1:1<=n)(h2:n<=4096):bI (ah1 n) 0=pow2 n:=by
 obtain⟨k,rfl⟩:∃k:Nat,n=((k+1:Nat):Int):=⟨n.toNat-1,by omega⟩;have:=aK.1 T8 k (by rw[List.mem_range];omega);exact eq_of_beq this
theorem aih {s:SS}(hs:zG s=true)(hb:okB s=true){x:RS}(hx:eu x.x=true):acj s x=eH [] (xD gz fP s x):=by
 unfold acj xD;refine RR hs hx λn=>?_
 rw[cA,cA];by_cases h1:n<1
 .rw[ag h1,ag (by unfold pow2;exact aU (by omega))];rfl
 rw[aa h1];by_cases h2:4096<n
 .rw[ag h2,ag (by unfold pow2;exact aU (by omega))];rfl
 rw[aa h2,pow_eq (by omega) (by omega)];cases hp:pow2 n with
 |false=>rw[ag rfl];rfl
 |true =>
  rw[aa (by decide)];exact Nk (Ci hs hb rfl (by decide) (by decide) (by decide)) _
theorem aii {s:SS}(hs:zG s=true)(hb:okB s=true)(hg:okG s=true){x:RS}(hx:eu x.x=true)(hz:CP x.sz=true){ai:Int}(ht:0<=ai):ack s x ai=eH [] (MK gz fP s x ai):=by
 have hz:=s8 hz;obtain⟨g0,g1⟩:=Nl hg;unfold ack MK;refine RR hs hx λn=>?_
 rw[cA];by_cases h1:n<0
 .rw[ag h1,ag h1];rfl
 rw[aa h1,aa h1,x9 (by omega)];have hd:Int.tdiv 1048576 x.sz=1048576\/Int.tdiv 1048576 x.sz=524288\/Int.tdiv 1048576 x.sz=262144\/Int.tdiv 1048576 x.sz=131072:=by
  rcases hz with e|e|e|e<;>rw[e]<;>decide
 rw[i64_in (n:=Int.tdiv 1048576 x.sz) (by omega) (by omega)];show ah _ _ _=_;rw[cA];by_cases h2:Int.tdiv 1048576 x.sz<n
 .rw[ag h2,ag h2];rfl
 have h3:0<=n*x.sz/\n*x.sz<=1048576:=by
  rcases hz with e|e|e|e<;>rw[e]at h2 ⊢
  .have:Int.tdiv 1048576 1=1048576:=by decide
   omega
  .have:Int.tdiv 1048576 2=524288:=by decide
   omega
  .have:Int.tdiv 1048576 4=262144:=by decide
   omega
  have:Int.tdiv 1048576 8=131072:=by decide
  omega
 rw[aa h2,aa h2,i64_in (n:=n*x.sz) (by omega) (by omega),i64_in (n:=s.aN+n*x.sz) (by omega) (by omega),ax];by_cases ho:s.opn=true
 .rw[ag ho,ag ho];rfl
 rw[aa ho,aa ho];refine(DE (by rw[fL (a:=n*x.sz) (b:=0) (by omega),fL (a:=2000000) (by omega)];rfl) (Ci hs hb rfl h3.1 (by omega) ht) _).trans ?_;unfold it5 itB;rw[ab7]
theorem YK {sz:Int}(hz:sz=1\/sz=2\/sz=4\/sz=8){d:Dt}(hd:d.1.length<=1000000):0<=Rq sz d/\Rq sz d<=1000007:=by
 unfold Rq;split
 .have:=A0 (n:=d.1.length) hz;omega
 omega
theorem aij {s:SS}(hs:zG s=true)(hb:okB s=true){x:RS}(hz:CP x.sz=true)(hd:Kq x.data=true)(h1:1<=x.data.length){ai:Int}(ht:0<=ai)(r:Nat):∀(rest pre:List Dt) (m:Nat) (b:Int),x.data=pre++rest->rest.length<m->0<=b->b<=1000007*(pre.length:Int) ->
 YG s x (cj s) ai r m b x.data.length pre.length=eH [] (if rest.all (λd=>decide (d.2=[])||(de (cj s) d.2).2)=false then (s,3) else jW s x.data.length (rest.foldl (λn d=>n+Rq x.sz d) b) ai (x.data.map (dtC s x.sz))):=by
 have hsc:=sn hs;have hz':=s8 hz;obtain⟨d1,d2⟩:=s9 hd;intro rest;induction rest with
 |nil =>
  intro pre m b he hm hb0 yo;obtain⟨m,rfl⟩:∃m',m=m'+1:=⟨m-1,by simp at hm;omega⟩;have hp:x.data.length=pre.length:=by rw[he];simp
  have e:YG s x (cj s) ai r (m+1) b x.data.length pre.length=stepDa' s x (cj s) ai b x.data.length pre.length λb=>YG s x (cj s) ai r m b x.data.length (IntKind.wrap .i64 ((pre.length:Int)+1)):=by
   cases s;cases x;exact YH ..
  rw[e];unfold stepDa';rw[fL (by omega),aa (by simp)];exact DE (by rw[dS (by omega),hz,hd,dS h1];rfl) (Ci hs hb rfl hb0 (by omega) ht) _
 |cons y rest ih =>
  intro pre m b he hm hb0 yo;obtain⟨m,rfl⟩:∃m',m=m'+1:=⟨m-1,by simp at hm;omega⟩;have hl:x.data.length=pre.length+(rest.length+1):=by rw[he];simp
  obtain⟨y1,y2⟩:=d2 y (by rw[he];simp);have hN:=YK hz' y1;have e:YG s x (cj s) ai r (m+1) b x.data.length pre.length=stepDa' s x (cj s) ai b x.data.length pre.length λb=>YG s x (cj s) ai r m b x.data.length (IntKind.wrap .i64 ((pre.length:Int)+1)):=by
   cases s;cases x;exact YH ..
  have go:((decide (y.2=[])||(de (cj s) y.2).2)=true)->YG s x (cj s) ai r m (IntKind.wrap .i64 (b+Rq x.sz y)) x.data.length (IntKind.wrap .i64 ((pre.length:Int)+1))=eH [] (if (y::rest).all (λd=>decide (d.2=[])||(de (cj s) d.2).2)=false then (s,3) else jW s x.data.length ((y::rest).foldl (λn d=>n+Rq x.sz d) b) ai (x.data.map (dtC s x.sz))):=λhy=>by
   rw[i64_in (n:=(pre.length:Int)+1) (by omega) (by omega),i64_in (n:=b+Rq x.sz y) (by omega) (by omega),bY,hy,dM,gw];have:=ih (pre++[y]) m (b+Rq x.sz y) (by rw[he];simp) (by simp at hm;omega) (by omega) (by rw[aA];show _<=1000007*(((pre.length+1:Nat)):Int);omega);rw[aA]at this;exact this
  rw[e];unfold stepDa';rw[pZ (by omega)];show tj _ _ _=_;rw[qD he,cq];by_cases h0:(y.2.length:Int)=0
  .have h2:y.2=[]:=aQ.1 (by omega);rw[ag h0,x9 (by omega),RK hz' y1];have hg:=go (by rw[aX h2];rfl);have hD:Rq x.sz y=AQ y.1.length x.sz:=by unfold Rq;rw[ag h2]
   rw[hD]at hg;exact hg
  have h2:y.2≠[]:=λq=>h0 (by rw[q];rfl)
  rw[aa h0,dS (by omega),y2];show ah _ _ _=_;have hD:Rq x.sz y=x.sz:=by unfold Rq;rw[aa h2]
  cases hn:(de (cj s) y.2).2 with
  |false =>
   have ea:((y::rest).all λd=>decide (d.2=[])||(de (cj s) d.2).2)=false:=by rw[bY,hn,aU h2];rfl
   rw[ag ea];rfl
  |true =>
   have hg:=go (by rw[hn,Bool.or_true]);rw[hD]at hg;exact hg
theorem yf {s:SS}(y:Dt)(l:List Dt):rG gz fP s (y::l)=if (cO gz fP s y.2).2≠0 then ([],(cO gz fP s y.2).2) else if (rG gz fP s l).2≠0 then ([],(rG gz fP s l).2) else ((cO gz fP s y.2).1::(rG gz fP s l).1,0):=rfl
theorem acy {s:SS}(hs:zG s=true)(hb:okB s=true){ai:Int}(ht:0<=ai)(q:List Int×Int)(hq:q.1.length<=2000000):Ni s ai q=eH [] (powC s ai q):=by
 unfold Ni powC;rw[cn];by_cases h0:q.2=0
 .rw[ag h0,aa (by simp[h0])];exact DE (dS hq) (Ci hs hb rfl (by omega) (by omega) ht) _
 rw[aa h0,ag h0];rfl
theorem YL (a b c:Int):(mD a b c).1.length<=2000:=by
 unfold mD sp.pwF;by_cases h:sp.J9 a b c=true
 .rw[ag h];simp
 rw[aa h,sp.RP];unfold sp.J9 at h;simp only[cJ,aV,kQ]at h;omega
theorem uO {s:SS}(hs:zG s=true){x:RS}{ai v0 v1 v2:Int}{pre rest:List Dt}{y:Dt}(he:x.data=pre++y::rest)(hy:eu y.2=true)(J:Int->Int->Int->OG):Nj s x ai v0 v1 v2 x.data.length pre.length J =
 if (cO gz fP s y.2).2≠0 then eH [] (s,(cO gz fP s y.2).2) else ah (bI pre.length 0) (J (cO gz fP s y.2).1 v1 v2) (ah (bI pre.length 1) (J v0 (cO gz fP s y.2).1 v2) (ah (bI pre.length 2) (J v0 v1 (cO gz fP s y.2).1) none)):=by
 have hl:x.data.length=pre.length+(rest.length+1):=by rw[he];simp
 unfold Nj;rw[pZ (by omega)];show tj _ _ _=_;rw[qD he,qY,hs,hy];show ah _ _ _=_;rw[cn];by_cases h0:(cO gz fP s y.2).2=0
 .rw[ag h0,aa (by simp[h0])];rfl
 rw[aa h0,ag h0];rfl
theorem tf (s:SS)(x:RS)(ai:Int)(r m:Nat)(v0 v1 v2 len i:Int):RQ s x ai r (m+1) v0 v1 v2 len i=Nj s x ai v0 v1 v2 len i λa b c=>RQ s x ai r m a b c len (IntKind.wrap .i64 (i+1)):=by
 cases s;cases x;exact aia ..
theorem DF (s:SS)(x:RS)(ai:Int)(r m:Nat)(v0 v1 v2:Int):RQ s x ai r (m+1) v0 v1 v2 x.data.length x.data.length=Ni s ai (mD v0 v1 v2):=by
 rw[tf];unfold Nj;rw[fL (by omega)]
theorem aik {s:SS}(hs:zG s=true)(hb:okB s=true){x:RS}(hd:Kq x.data=true)(hn:x.data.length<=3){ai:Int}(ht:0<=ai):RQ s x ai 5 5 0 0 1 x.data.length 0=eH [] (Fz gz fP mD s x ai):=by
 obtain⟨_,d2⟩:=s9 hd;have fin:∀a b c,Ni s ai (mD a b c)=eH [] (powC s ai (mD a b c)):=λa b c=>acy hs hb ht _ (by have:=YL a b c;omega)
 have w0:IntKind.wrap .i64 (((([]:List Dt).length:Nat):Int)+1)=1:=by decide
 unfold Fz
 match he:x.data,hn with
 |[],_ =>
  have:=DF s x ai 5 4 0 0 1;rw[he]at this;refine this.trans ((fin 0 0 1).trans ?_);rfl
 |[a],_ =>
  have ha:=(d2 a (by rw[he];simp)).2;rw[<-he];have e1:=tf s x ai 5 4 0 0 1 x.data.length 0;have e2:=uO (ai:=ai) (v0:=0) (v1:=0) (v2:=1) hs (pre:=[]) (rest:=[]) he ha λa b c=>RQ s x ai 5 4 a b c x.data.length (IntKind.wrap .i64 (0+1))
  refine(e1.trans e2).trans ?_;rw[he,yf];by_cases h0:(cO gz fP s a.2).2≠0
  .rw[ag h0,ag h0,ag h0]
  rw[aa h0,aa h0];have e3:=DF s x ai 5 3 (cO gz fP s a.2).1 0 1;rw[he]at e3;exact e3.trans (fin _ 0 1)
 |[a,b],_ =>
  have ha:=(d2 a (by rw[he];simp)).2;have hb':=(d2 b (by rw[he];simp)).2;rw[<-he];have e1:=tf s x ai 5 4 0 0 1 x.data.length 0;have e2:=uO (ai:=ai) (v0:=0) (v1:=0) (v2:=1) hs (pre:=[]) (rest:=[b]) he ha λa b c=>RQ s x ai 5 4 a b c x.data.length (IntKind.wrap .i64 (0+1))
  refine(e1.trans e2).trans ?_;rw[he,yf,yf];by_cases h0:(cO gz fP s a.2).2≠0
  .rw[ag h0,ag h0,ag h0]
  rw[aa h0,aa h0];have e3:=tf s x ai 5 3 (cO gz fP s a.2).1 0 1 x.data.length 1;have e4:=uO (ai:=ai) (v0:=(cO gz fP s a.2).1) (v1:=0) (v2:=1) hs (pre:=[a]) (rest:=[]) he hb' λa b c=>RQ s x ai 5 3 a b c x.data.length (IntKind.wrap .i64 (1+1))
  rw[he]at e3 e4;refine(e3.trans e4).trans ?_;by_cases h1:(cO gz fP s b.2).2≠0
  .rw[ag h1,ag h1,ag h1,ag h1]
  rw[aa h1,aa h1];have e5:=DF s x ai 5 2 (cO gz fP s a.2).1 (cO gz fP s b.2).1 1;rw[he]at e5;exact e5.trans (fin _ _ 1)
 |[a,b,c],_ =>
  have ha:=(d2 a (by rw[he];simp)).2;have hb':=(d2 b (by rw[he];simp)).2;have hc:=(d2 c (by rw[he];simp)).2;rw[<-he];have e1:=tf s x ai 5 4 0 0 1 x.data.length 0;have e2:=uO (ai:=ai) (v0:=0) (v1:=0) (v2:=1) hs (pre:=[]) (rest:=[b,c]) he ha λa b c=>RQ s x ai 5 4 a b c x.data.length (IntKind.wrap .i64 (0+1))
  refine(e1.trans e2).trans ?_;rw[he,yf,yf,yf];by_cases h0:(cO gz fP s a.2).2≠0
  .rw[ag h0,ag h0,ag h0]
  rw[aa h0,aa h0];have e3:=tf s x ai 5 3 (cO gz fP s a.2).1 0 1 x.data.length 1;have e4:=uO (ai:=ai) (v0:=(cO gz fP s a.2).1) (v1:=0) (v2:=1) hs (pre:=[a]) (rest:=[c]) he hb' λa b c=>RQ s x ai 5 3 a b c x.data.length (IntKind.wrap .i64 (1+1))
  rw[he]at e3 e4;refine(e3.trans e4).trans ?_;by_cases h1:(cO gz fP s b.2).2≠0
  .rw[ag h1,ag h1,ag h1,ag h1]
  rw[aa h1,aa h1];have e5:=tf s x ai 5 2 (cO gz fP s a.2).1 (cO gz fP s b.2).1 1 x.data.length 2;have e6:=uO (ai:=ai) (v0:=(cO gz fP s a.2).1) (v1:=(cO gz fP s b.2).1) (v2:=1) hs (pre:=[a,b]) (rest:=[]) he hc λa b c=>RQ s x ai 5 2 a b c x.data.length (IntKind.wrap .i64 (2+1))
  rw[he]at e5 e6;refine(e5.trans e6).trans ?_;by_cases h2:(cO gz fP s c.2).2≠0
  .rw[ag h2,ag h2,ag h2,ag h2,ag h2]
  rw[aa h2,aa h2];have e7:=DF s x ai 5 1 (cO gz fP s a.2).1 (cO gz fP s b.2).1 (cO gz fP s c.2).1;rw[he]at e7;exact e7.trans (fin _ _ _)
 |_::_::_::_::_,hn=>simp at hn
def FO (s:SS):Bool:=zG s&&(okB s&&okG s)
theorem mE {s:SS}(h:FO s=true):zG s=true/\okB s=true/\okG s=true:=by
 unfold FO at h;simp only[ak]at h;exact⟨h.1,h.2.1,h.2.2⟩
theorem acz {s:SS}(hs:zG s=true)(hb:okB s=true){x:RS}(hz:CP x.sz=true)(hd:Kq x.data=true)(h1:1<=x.data.length){ai:Int}(ht:0<=ai):TI s (λc=>YG s x c ai 100001 100001 0 x.data.length 0)=eH [] (yN s x ai):=by
 rw[zC];have:=(s9 hd).1;exact aij hs hb hz hd h1 ht 100001 x.data [] 100001 0 rfl (by omega) (by decide) (by simp)
def ail (args:List AV)(rows:List Row):OP :=
 match args,rows with
 |[.ptr 0 0,.str w],c::l=>match uM 0 c l with
  |some (b,s)=>some (b&&(FO s&&(Nat.ble w.length 1000000)),oz [] (vH s w))
  |_=>none
 |_,_=>none
theorem acA:j7 X0 fU 43 ail :=
 nP (λargs=>lt.bS rfl args) (qW nF uL yO) λargs rows v outs hg=>by
  unfold ail at hg;split at hg;case h_2=>cases hg
  rename_i w c l;split at hg;case h_2=>cases hg
  rename_i b s hr;simp only[oz,aq,ay,ak]at hg;obtain⟨⟨rfl,h0,h4⟩,rfl,rfl⟩:=hg;obtain⟨h1,h2,h3⟩:=mE h0;obtain⟨rfl,rfl⟩:=fX hr;refine⟨gO,5,?_⟩;have e:aT X0 (cV S1 N2 G4 _) gO 5 43 [.ptr 0 0,.str w] (eU 2 (vK s [])) gG=labT' s w:=by
   cases s;exact Yy ..
  exact e.trans (aic h1 h2 (az h4))
def aim (args:List AV)(rows:List Row):OP :=
 match args,rows with
 |[.ptr 0 0],c::l=>match uM 0 c l with
  |some (b,s)=>some (b&&(FO s&&(true)),oz [] (MI s))
  |_=>none
 |_,_=>none
theorem acB:j7 X0 fU 53 aim :=
 nP (λargs=>lt.bS rfl args) (qW nF uL yO) λargs rows v outs hg=>by
  unfold aim at hg;split at hg;case h_2=>cases hg
  rename_i c l;split at hg;case h_2=>cases hg
  rename_i b s hr;simp only[oz,aq,ay,ak]at hg;obtain⟨⟨rfl,h0,h4⟩,rfl,rfl⟩:=hg;obtain⟨h1,h2,h3⟩:=mE h0;obtain⟨rfl,rfl⟩:=fX hr;refine⟨gO,5,?_⟩;have e:aT X0 (cV S1 N2 G4 _) gO 5 53 [.ptr 0 0] (eU 2 (vK s [])) gG=endT' s:=by
   cases s;exact YA ..
  exact e.trans (aie h1)
def YM (args:List AV)(rows:List Row):OP :=
 match args,rows with
 |[.ptr 0 0,.agg [.int .i64 op,.int .i64 aM,.dH e x],.int .i64 ai],c::l=>match iC e j3 x,uM 0 c l with
  |some x,some (b,s)=>some (b&&(FO s&&(oo x && !bC ai 0)),oz [] (xC s ⟨0,[],0,0,op,aM,x,[],[],[],0,0⟩ ai))
  |_,_=>none
 |_,_=>none
theorem YN:j7 X0 fU 46 YM :=
 nP (λargs=>lt.bS rfl args) (qW nF uL yO) λargs rows v outs hg=>by
  unfold YM at hg;split at hg;case h_2=>cases hg
  rename_i op aM e x ai c l;split at hg;case h_2=>cases hg
  rename_i x' b s hx hr;simp only[oz,aq,ay,ak]at hg;obtain⟨⟨rfl,h0,h4⟩,rfl,rfl⟩:=hg;obtain⟨h1,h2,h3⟩:=mE h0;obtain⟨rfl,hx⟩:=bT hx;have hx:x=x':=hx;subst hx;obtain⟨rfl,rfl⟩:=fX hr;refine⟨gO,5,?_⟩;have e:aT X0 (cV S1 N2 G4 _) gO 5 46 [.ptr 0 0,.agg [.int .i64 op,.int .i64 aM,.dH j3 x],.int .i64 ai] (eU 2 (vK s [])) gG=RM s op aM x ai:=by
   cases s;exact T4 ..
  exact e.trans (acw (x:=⟨0,[],0,0,op,aM,x,[],[],[],0,0⟩) h1 h2 h4.1 (by have:=h4.2;rw[cD]at this;simpa using this))
def ain (args:List AV)(rows:List Row):OP :=
 match args,rows with
 |[.ptr 0 0,.agg cs],c::l=>match FN (.cells 40 cs),uM 0 c l with
  |some (b0,x),some (b,s)=>some (b&&(FO s&&(b0&&(Nat.ble x.lab.length 1000000&&eu x.x))),oz [] (MH gz fP s x))
  |_,_=>none
 |_,_=>none
theorem acC:j7 X0 fU 48 ain :=
 nP (λargs=>lt.bS rfl args) (qW nF uL yO) λargs rows v outs hg=>by
  unfold ain at hg;split at hg;case h_2=>cases hg
  rename_i cs c l;split at hg;case h_2=>cases hg
  rename_i b0 x b s hx hr;simp only[oz,aq,ay,ak]at hg;obtain⟨⟨rfl,h0,h4⟩,rfl,rfl⟩:=hg;obtain⟨h1,h2,h3⟩:=mE h0;obtain⟨hb0,h4⟩:=h4;subst hb0;have hx:=nQ hx;simp only[Nc,Row.cells.injEq,jF]at hx;subst hx;obtain⟨rfl,rfl⟩:=fX hr;refine⟨gO,5,?_⟩;have e:aT X0 (cV S1 N2 G4 _) gO 5 48 [.ptr 0 0,.agg (Jv x)] (eU 2 (vK s [])) gG=ach s x:=by
   cases s;cases x;exact Yz ..
  exact e.trans (aid h1 (az h4.1) h4.2)
def aio (args:List AV)(rows:List Row):OP :=
 match args,rows with
 |[.ptr 0 0,.agg cs],c::l=>match FN (.cells 40 cs),uM 0 c l with
  |some (b0,x),some (b,s)=>some (b&&(FO s&&(b0&&(eu x.x))),oz [] (xD gz fP s x))
  |_,_=>none
 |_,_=>none
theorem acD:j7 X0 fU 49 aio :=
 nP (λargs=>lt.bS rfl args) (qW nF uL yO) λargs rows v outs hg=>by
  unfold aio at hg;split at hg;case h_2=>cases hg
  rename_i cs c l;split at hg;case h_2=>cases hg
  rename_i b0 x b s hx hr;simp only[oz,aq,ay,ak]at hg;obtain⟨⟨rfl,h0,h4⟩,rfl,rfl⟩:=hg;obtain⟨h1,h2,h3⟩:=mE h0;obtain⟨hb0,h4⟩:=h4;subst hb0;have hx:=nQ hx;simp only[Nc,Row.cells.injEq,jF]at hx;subst hx;obtain⟨rfl,rfl⟩:=fX hr;refine⟨gO,5,?_⟩;have e:aT X0 (cV S1 N2 G4 _) gO 5 49 [.ptr 0 0,.agg (Jv x)] (eU 2 (vK s [])) gG=acj s x:=by
   cases s;cases x;exact YC ..
  exact e.trans (aih h1 h2 h4)
def aip (args:List AV)(rows:List Row):OP :=
 match args,rows with
 |[.ptr 0 0,.agg cs],c::l=>match FN (.cells 40 cs),uM 0 c l with
  |some (b0,x),some (b,s)=>some (b&&(FO s&&(b0&&(eu x.x))),oz [] (MJ gz fP s x))
  |_,_=>none
 |_,_=>none
theorem acE:j7 X0 fU 50 aip :=
 nP (λargs=>lt.bS rfl args) (qW nF uL yO) λargs rows v outs hg=>by
  unfold aip at hg;split at hg;case h_2=>cases hg
  rename_i cs c l;split at hg;case h_2=>cases hg
  rename_i b0 x b s hx hr;simp only[oz,aq,ay,ak]at hg;obtain⟨⟨rfl,h0,h4⟩,rfl,rfl⟩:=hg;obtain⟨h1,h2,h3⟩:=mE h0;obtain⟨hb0,h4⟩:=h4;subst hb0;have hx:=nQ hx;simp only[Nc,Row.cells.injEq,jF]at hx;subst hx;obtain⟨rfl,rfl⟩:=fX hr;refine⟨gO,5,?_⟩;have e:aT X0 (cV S1 N2 G4 _) gO 5 50 [.ptr 0 0,.agg (Jv x)] (eU 2 (vK s [])) gG=aci s x:=by
   cases s;cases x;exact YB ..
  exact e.trans (aif h1 h4)
def Pa (args:List AV)(rows:List Row):OP :=
 match args,rows with
 |[.ptr 0 0,.agg cs,.int .i64 ai],c::l=>match FN (.cells 40 cs),uM 0 c l with
  |some (b0,x),some (b,s)=>some (b&&(FO s&&(b0&&((eu x.x&&CP x.sz) && !bC ai 0))),oz [] (MK gz fP s x ai))
  |_,_=>none
 |_,_=>none
theorem acF:j7 X0 fU 54 Pa :=
 nP (λargs=>lt.bS rfl args) (qW nF uL yO) λargs rows v outs hg=>by
  unfold Pa at hg;split at hg;case h_2=>cases hg
  rename_i cs ai c l;split at hg;case h_2=>cases hg
  rename_i b0 x b s hx hr;simp only[oz,aq,ay,ak]at hg;obtain⟨⟨rfl,h0,h4⟩,rfl,rfl⟩:=hg;obtain⟨h1,h2,h3⟩:=mE h0;obtain⟨hb0,h4⟩:=h4;subst hb0;have hx:=nQ hx;simp only[Nc,Row.cells.injEq,jF]at hx;subst hx;obtain⟨rfl,rfl⟩:=fX hr;refine⟨gO,5,?_⟩;have e:aT X0 (cV S1 N2 G4 _) gO 5 54 [.ptr 0 0,.agg (Jv x),.int .i64 ai] (eU 2 (vK s [])) gG=ack s x ai:=by
   cases s;cases x;exact YD ..
  exact e.trans (aii h1 h2 h3 h4.1.1 h4.1.2 (by have:=h4.2;rw[cD]at this;simpa using this))
def YO (args:List AV)(rows:List Row):OP :=
 match args,rows with
 |[.ptr 0 0,.agg cs,.int .i64 ai],c::l=>match FN (.cells 40 cs),uM 0 c l with
  |some (b0,x),some (b,s)=>some (b&&(FO s&&(b0&&((CP x.sz&&(Kq x.data&&Nat.ble 1 x.data.length)) && !bC ai 0))),oz [] (yN s x ai))
  |_,_=>none
 |_,_=>none
theorem YP:j7 X0 fU 47 YO :=
 nP (λargs=>lt.bS rfl args) (qW nF uL yO) λargs rows v outs hg=>by
  unfold YO at hg;split at hg;case h_2=>cases hg
  rename_i cs ai c l;split at hg;case h_2=>cases hg
  rename_i b0 x b s hx hr;simp only[oz,aq,ay,ak]at hg;obtain⟨⟨rfl,h0,h4⟩,rfl,rfl⟩:=hg;obtain⟨h1,h2,h3⟩:=mE h0;obtain⟨hb0,h4⟩:=h4;subst hb0;have hx:=nQ hx;simp only[Nc,Row.cells.injEq,jF]at hx;subst hx;obtain⟨rfl,rfl⟩:=fX hr;refine⟨acr,100001,?_⟩;have e:aT X0 (cV S1 N2 G4 _) acr 100001 47 [.ptr 0 0,.agg (Jv x),.int .i64 ai] (eU 2 (vK s [])) gG=TI s (λc=>YG s x c ai 100001 100001 0 x.data.length 0):=by
   cases s;cases x;exact acs ..
  exact e.trans (acz h1 h2 h4.1.1 h4.1.2.1 (az h4.1.2.2) (by have:=h4.2;rw[cD]at this;simpa using this))
def aiq (args:List AV)(rows:List Row):OP :=
 match args,rows with
 |[.ptr 0 0,.agg cs,.int .i64 ai],c::l=>match FN (.cells 40 cs),uM 0 c l with
  |some (b0,x),some (b,s)=>some (b&&(FO s&&(b0&&((Kq x.data&&Nat.ble x.data.length 3) && !bC ai 0))),oz [] (Fz gz fP mD s x ai))
  |_,_=>none
 |_,_=>none
theorem acG:j7 X0 fU 55 aiq :=
 nP (λargs=>lt.bS rfl args) (qW nF aei yO) λargs rows v outs hg=>by
  unfold aiq at hg;split at hg;case h_2=>cases hg
  rename_i cs ai c l;split at hg;case h_2=>cases hg
  rename_i b0 x b s hx hr;simp only[oz,aq,ay,ak]at hg;obtain⟨⟨rfl,h0,h4⟩,rfl,rfl⟩:=hg;obtain⟨h1,h2,h3⟩:=mE h0;obtain⟨hb0,h4⟩:=h4;subst hb0;have hx:=nQ hx;simp only[Nc,Row.cells.injEq,jF]at hx;subst hx;obtain⟨rfl,rfl⟩:=fX hr;refine⟨acu,5,?_⟩;have e:aT X0 (cV S1 N3 G4 _) acu 5 55 [.ptr 0 0,.agg (Jv x),.int .i64 ai] (eU 2 (vK s [])) gG=RQ s x ai 5 5 0 0 1 x.data.length 0:=by
   cases s;cases x;exact acv ..
  exact e.trans (aik h1 h2 h4.1.1 (az h4.1.2) (by have:=h4.2;rw[cD]at this;simpa using this))
def G5:List AZ:=(43,⟨70,wg,ail⟩)::(46,⟨70,wg,YM⟩)::(47,⟨70,wg,YO⟩)::(48,⟨70,wg,ain⟩)::(49,⟨70,wg,aio⟩)::(50,⟨70,wg,aip⟩)::(53,⟨70,wg,aim⟩)::(54,⟨70,wg,Pa⟩)::(55,⟨70,wg,aiq⟩)::G4
theorem aek:pX X0 fU G5:=.cons acA (.cons YN (.cons YP (.cons acC (.cons acD (.cons acE (.cons acB (.cons acF (.cons acG (yO)))))))))
def q1:List Bool:=[true,true]
def q2:List Bool:=[true,true,true,true]
def q3:List Bool:=[true,true,true,true,true]
def Ut:ei:=⟨rR (gD [0,3] q1) (rR (gD [0,3,6] q2) (gD [0,3,6] q3)),.none,[]⟩
abbrev c5:cI (AV×List Row):=cV S1 N2 G5 _
def fr1:fJ:=kr 116 [(0,.ptr 0 0),(3,.ptr 2 0)]
def fr2 (n:Int):fJ:=kr 116 [(0,.ptr 0 0),(3,.ptr 2 0),(6,.int .i64 n)]
def mR (s:SS)(x:RS):aG:=eU 2 [.cells 70 (ZD 1 3 4 s.aH.length s.av.length s),.mp 68 s.aI,Nc x,.list 59 gZ s.aH 0 false false,.list 52 qX s.av 0 false false]
def YQ (s:SS)(g:Bool)(r:SR')(k:SS->Int->OG):OG:=ah (Yx s.aH.length s.av.length&&(FO s&&g)) (k r.1 r.2) none
def uP (s:SS)(e:Int):OG:=jh [] s e
def ais (s:SS)(x:RS)(k:SS->OG):OG :=
 ah (!decide (x.lab=[])) (ah (!bI x.aF 3) (ah (!bI x.aF 6) (YQ s (Nat.ble x.lab.length 1000000) (vH s x.lab) λs' e=>ah (!bI e 0) (uP s' e) (k s')) (k s)) (k s)) (k s)
def cnT (s:SS)(x:List Nd)(k:Int->Int->OG):OG:=ah (Yx s.aH.length s.av.length&&(zG s&&eu x)) (k (cO gz fP s x).1 (cO gz fP s x).2) none
def Nm (s:SS)(x:RS)(k:Int->OG):OG :=
 ah (bC 0 (x.ai.length:Int)) (cnT s x.ai λn e=>ah (bI e 0) (ah (bC n 0) (uP s 5) (ah (!bI e 0) (uP s e) (k n))) (ah (!bI e 0) (uP s e) (k n))) (k 1)
def ait (s:SS)(x:RS)(k:OG):OG:=ah (!bI (x.ai.length:Int) 0) (uP s 8) k
def Qb (s:SS)(x:RS)(q:Int)(k next:OG):OG:=ah (bI x.aF q) (ah (bI x.aF q) (uP s 8) (ait s x k)) next
def xK (s:SS)(x:RS)(k:OG):OG :=
 ah (!s.opn) (ah (!(!bI x.aF 7)) (uP s 8) k) (Qb s x 1 k (Qb s x 2 k (Qb s x 4 k (Qb s x 5 k (Qb s x 9 k (ah (bI x.aF 6) (uP s 8) (ait s x k)))))))
def Dd (s:SS)(x:RS)(n:Int):OG :=
 ah (bI x.aF 1) (YQ s (oo x.args && !bC n 0) (xC s ⟨0,[],0,0,x.op,x.aM,x.args,[],[],[],0,0⟩ n) uP)
 (ah (bI x.aF 2) (YQ s ((CP x.sz&&(Kq x.data&&Nat.ble 1 x.data.length)) && !bC n 0) (yN s ⟨0,x.lab,x.aF,x.sz,x.op,x.aM,x.args,x.data,x.x,x.ai,0,0⟩ n) uP)
 (ah (bI x.aF 3) (YQ s (Nat.ble x.lab.length 1000000&&eu x.x) (MH gz fP s ⟨0,x.lab,x.aF,x.sz,x.op,x.aM,x.args,x.data,x.x,x.ai,0,0⟩) uP)
 (ah (bI x.aF 4) (YQ s (eu x.x) (xD gz fP s ⟨0,x.lab,x.aF,x.sz,x.op,x.aM,x.args,x.data,x.x,x.ai,0,0⟩) uP)
 (ah (bI x.aF 5) (YQ s (eu x.x) (MJ gz fP s ⟨0,x.lab,x.aF,x.sz,x.op,x.aM,x.args,x.data,x.x,x.ai,0,0⟩) uP)
 (ah (bI x.aF 6) (TI s λc=>nmT c x.lab λw=>uP { s with bp:=w,aN:=0,opn:=true } 0)
 (ah (bI x.aF 7) (YQ s true (MI s) uP)
 (ah (bI x.aF 8) (YQ s ((eu x.x&&CP x.sz) && !bC n 0) (MK gz fP s ⟨0,x.lab,x.aF,x.sz,x.op,x.aM,x.args,x.data,x.x,x.ai,0,0⟩ n) uP)
 (ah (bI x.aF 9) (YQ s ((Kq x.data&&Nat.ble x.data.length 3) && !bC n 0) (Fz gz fP mD s ⟨0,x.lab,x.aF,x.sz,x.op,x.aM,x.args,x.data,x.x,x.ai,0,0⟩ n) uP) (uP s 0)))))))))
theorem amx (fM:Int)(aH:List Sy)(av:List It)(aI:List (List UInt8×Int))(lab:List UInt8)(opn:Bool)(bp:List UInt8)(aN:Int)(aR:Bool)(aD au:Int)(a0:Int)(iK:List UInt8)(aF sz op aM:Int)(args:List Raw)(data:List Dt)(xx dO:List Nd)(e0 f0:Int)(r:Nat)(K:fJ->aG->OG):aaK X0 c5 Ut r 21 q1 [.ptr 0 0,.agg (Jv ⟨a0,iK,aF,sz,op,aM,args,data,xx,dO,e0,f0⟩)] (eU 2 (vK ⟨fM,aH,av,aI,lab,opn,bp,aN,aR,aD,au⟩ [])) gG K=ais ⟨fM,aH,av,aI,lab,opn,bp,aN,aR,aD,au⟩ ⟨a0,iK,aF,sz,op,aM,args,data,xx,dO,e0,f0⟩ λs'=>K fr1 (mR s' ⟨a0,iK,aF,sz,op,aM,args,data,xx,dO,e0,f0⟩):=by kernel_rfl
theorem amy (fM:Int)(aH:List Sy)(av:List It)(aI:List (List UInt8×Int))(lab:List UInt8)(opn:Bool)(bp:List UInt8)(aN:Int)(aR:Bool)(aD au:Int)(a0:Int)(iK:List UInt8)(aF sz op aM:Int)(args:List Raw)(data:List Dt)(xx dO:List Nd)(e0 f0:Int)(r:Nat)(K:fJ->aG->OG):PJ X0 c5 Ut r 21 q1 [true,true] gG K fr1 (mR ⟨fM,aH,av,aI,lab,opn,bp,aN,aR,aD,au⟩ ⟨a0,iK,aF,sz,op,aM,args,data,xx,dO,e0,f0⟩)=Nm ⟨fM,aH,av,aI,lab,opn,bp,aN,aR,aD,au⟩ ⟨a0,iK,aF,sz,op,aM,args,data,xx,dO,e0,f0⟩ λn=>K (fr2 n) (mR ⟨fM,aH,av,aI,lab,opn,bp,aN,aR,aD,au⟩ ⟨a0,iK,aF,sz,op,aM,args,data,xx,dO,e0,f0⟩):=by kernel_rfl
theorem amz (fM:Int)(aH:List Sy)(av:List It)(aI:List (List UInt8×Int))(lab:List UInt8)(opn:Bool)(bp:List UInt8)(aN:Int)(aR:Bool)(aD au:Int)(a0:Int)(iK:List UInt8)(aF sz op aM:Int)(args:List Raw)(data:List Dt)(xx dO:List Nd)(e0 f0:Int)(n:Int)(r:Nat)(K:fJ->aG->OG):PJ X0 c5 Ut r 21 q2 [true] gG K (fr2 n) (mR ⟨fM,aH,av,aI,lab,opn,bp,aN,aR,aD,au⟩ ⟨a0,iK,aF,sz,op,aM,args,data,xx,dO,e0,f0⟩)=xK ⟨fM,aH,av,aI,lab,opn,bp,aN,aR,aD,au⟩ ⟨a0,iK,aF,sz,op,aM,args,data,xx,dO,e0,f0⟩ (K (fr2 n) (mR ⟨fM,aH,av,aI,lab,opn,bp,aN,aR,aD,au⟩ ⟨a0,iK,aF,sz,op,aM,args,data,xx,dO,e0,f0⟩)):=by kernel_rfl
theorem EP (fM:Int)(aH:List Sy)(av:List It)(aI:List (List UInt8×Int))(lab:List UInt8)(opn:Bool)(bp:List UInt8)(aN:Int)(aR:Bool)(aD au:Int)(a0:Int)(iK:List UInt8)(aF sz op aM:Int)(args:List Raw)(data:List Dt)(xx dO:List Nd)(e0 f0:Int)(n:Int)(r:Nat):codeFrom X0 c5 Ut r 21 q3 gG (fr2 n) (mR ⟨fM,aH,av,aI,lab,opn,bp,aN,aR,aD,au⟩ ⟨a0,iK,aF,sz,op,aM,args,data,xx,dO,e0,f0⟩)=Dd ⟨fM,aH,av,aI,lab,opn,bp,aN,aR,aD,au⟩ ⟨a0,iK,aF,sz,op,aM,args,data,xx,dO,e0,f0⟩ n:=by kernel_rfl
def okX (x:RS):Bool:=Nat.ble x.lab.length 1000000&&(eu x.x&&(eu x.ai&&(oo x.args&&(Kq x.data&&((!bI x.aF 2||(CP x.sz&&Nat.ble 1 x.data.length))&&((!bI x.aF 8||CP x.sz)&&(!bI x.aF 9||Nat.ble x.data.length 3)))))))
structure Nn (x:RS):Prop where
 lab:x.lab.length<=1000000
 ex:eu x.x=true
 ai:eu x.ai=true
 args:oo x.args=true
 data:Kq x.data=true
 k2:x.aF=2->CP x.sz=true/\1<=x.data.length
 k8:x.aF=8->CP x.sz=true
 k9:x.aF=9->x.data.length<=3
theorem YR {x:RS}(h:okX x=true):Nn x:=by
 unfold okX at h;simp only[ak,cJ,aS]at h;obtain⟨h1,h2,h3,h4,h5,h6,h7,h8⟩:=h;have ne:∀k:Int,x.aF=k->bI x.aF k=true:=λk hk=>by rw[eF];simp[hk]
 refine⟨az h1,h2,h3,h4,h5,λhk=>?_,λhk=>?_,λhk=>?_⟩
 .rcases h6 with h6|h6
  .rw[ne 2 hk]at h6;cases h6
  exact⟨h6.1,az h6.2⟩
 .rcases h7 with h7|h7
  .rw[ne 8 hk]at h7;cases h7
  exact h7
 rcases h8 with h8|h8
 .rw[ne 9 hk]at h8;cases h8
 exact az h8
theorem Nn.b {x:RS}(h:Nn x):okX x=true:=by
 unfold okX;rw[dS h.lab,h.ex,h.ai,h.args,h.data];have e2:(!bI x.aF 2||(CP x.sz&&Nat.ble 1 x.data.length))=true:=by
  by_cases hk:x.aF=2
  .obtain ⟨a,b⟩:=h.k2 hk;rw[a,dS b];simp
  rw[x9 hk];rfl
 have e8:(!bI x.aF 8||CP x.sz)=true:=by
  by_cases hk:x.aF=8
  .rw[h.k8 hk];simp
  rw[x9 hk];rfl
 have e9:(!bI x.aF 9||Nat.ble x.data.length 3)=true:=by
  by_cases hk:x.aF=9
  .rw[dS (h.k9 hk)];simp
  rw[x9 hk];rfl
 rw[e2,e8,e9];rfl
theorem vL {s:SS}(h:FO s=true){g:Bool}(hg:g=true)(r:SR')(k:SS->Int->OG):YQ s g r k=k r.1 r.2:=by
 unfold YQ;rw[qY,h,hg];rfl
theorem ge0 {n:Int}(h:0<=n):(!bC n 0)=true:=by rw[fL (by omega)];rfl
theorem aiu {s:SS}(hs:FO s=true){x:RS}(hx:Nn x){n:Int}(hn:0<=n):Dd s x n=eH [] (tM gz fP mD s x n):=by
 have hsc:=sn (mE hs).1;have hl:=hx.lab;unfold Dd tM;simp only[cq];by_cases h1:x.aF=1
 .rw[ag h1,ag h1,vL hs (by rw[hx.args,ge0 hn];rfl)];rfl
 rw[aa h1,aa h1];by_cases h2:x.aF=2
 .obtain ⟨a,b⟩:=hx.k2 h2;rw[ag h2,ag h2,vL hs (by rw[a,hx.data,dS b,ge0 hn];rfl)];rfl
 rw[aa h2,aa h2];by_cases h3:x.aF=3
 .rw[ag h3,ag h3,vL hs (by rw[dS hx.lab,hx.ex];rfl)];rfl
 rw[aa h3,aa h3];by_cases h4:x.aF=4
 .rw[ag h4,ag h4,vL hs hx.ex];rfl
 rw[aa h4,aa h4];by_cases h5:x.aF=5
 .rw[ag h5,ag h5,vL hs hx.ex];rfl
 rw[aa h5,aa h5];by_cases h6:x.aF=6
 .rw[ag h6,ag h6,zC,J7 (by omega)];rfl
 rw[aa h6,aa h6];by_cases h7:x.aF=7
 .rw[ag h7,ag h7,vL hs rfl];rfl
 rw[aa h7,aa h7];by_cases h8:x.aF=8
 .rw[ag h8,ag h8,vL hs (by rw[hx.ex,hx.k8 h8,ge0 hn];rfl)];rfl
 rw[aa h8,aa h8];by_cases h9:x.aF=9
 .rw[ag h9,ag h9,vL hs (by rw[hx.data,dS (hx.k9 h9),ge0 hn];rfl)];rfl
 rw[aa h9,aa h9];rfl
theorem acH {s:SS}{x:RS}{q:Int}{k next:OG}:Qb s x q k next=if x.aF=q then uP s 8 else next:=by
 unfold Qb;rw[cq,cq];split<;>rfl
theorem aiv {s:SS}{x:RS}{k:OG}:xK s x k=if TK s x=false then uP s 8 else k:=by
 unfold xK TK ait;rw[ax];simp only[acH,cq,cn];cases ho:s.opn with
 |false =>
  show ah (!(!bI x.aF 7)) _ _=_;rw[Bool.not_not,cq];by_cases h7:x.aF=7
  .rw[ag h7,aX h7];rfl
  rw[aa h7,aU h7];rfl
 |true =>
  show (if x.aF=1 then _ else _)=_;by_cases h1:x.aF=1
  .simp[h1]
  by_cases h2:x.aF=2
  .simp[h2]
  by_cases h4:x.aF=4
  .simp[h4]
  by_cases h5:x.aF=5
  .simp[h5]
  by_cases h9:x.aF=9
  .simp[h9]
  by_cases h6:x.aF=6
  .simp[h6]
  simp only[h1,h2,h4,h5,h9,h6,or_false,ee];by_cases ht:x.ai=[]
  .rw[ag (by rw[ht];rfl)];simp[ht]
  have:¬(x.ai.length:Int)=0:=λq=>ht (aQ.1 (by omega))
  rw[aa this];simp[ht]
theorem acI {s:SS}(hs:FO s=true){x:RS}(hx:Nn x){n:Int}(hn:0<=n):xK s x (Dd s x n)=eH [] (sY gz fP mD s x n):=by
 rw[aiv,aiu hs hx hn];unfold sY;split<;>rfl
theorem aiw {s:SS}(hs:FO s=true){x:RS}(hx:Nn x){k:Int->OG}(hk:∀n,0<=n->k n=eH [] (sY gz fP mD s x n)):Nm s x k=eH [] (mM gz fP mD s x):=by
 unfold Nm mM nE cnT;rw[cA];by_cases ht:x.ai=[]
 .rw[aa (by rw[ht];decide),ag ht];exact hk 1 (by decide)
 have h0:¬(x.ai.length:Int)=0:=λq=>ht (aQ.1 (by omega))
 rw[ag (by omega),aa ht,qY,(mE hs).1,hx.ai];show ah (bI (cO gz fP s x.ai).2 0) _ _=_;rw[cq,cA,cn];by_cases h1:(cO gz fP s x.ai).2=0
 .rw[ag h1,ag h1,aa (show ¬(cO gz fP s x.ai).2≠0 from λq=>q h1)];by_cases h2:(cO gz fP s x.ai).1<0
  .rw[ag h2];show _=eH [] (if _ then _ else _);rw[ag h2];rfl
  rw[aa h2];show _=eH [] (if _ then _ else _);rw[aa h2];exact hk _ (by omega)
 rw[aa h1,aa h1,ag h1];rfl
theorem T9 {s:SS}(hs:s.av.length<=20000){q b t:Int}{l:List It}(hl:(l.length:Int)=q)(h1:1<=q)(t0:0<=t):(jW s q b t l).1.av.length<=20000:=by
 unfold jW;by_cases ht:Int.tdiv (20000-(s.av.length:Int)) q<t
 .rw[ag ⟨by omega,ht⟩];exact hs
 rw[aa (λh=>ht h.2)];split
 .exact hs
 have h3:=dA (show t<=Int.tdiv (20000-(s.av.length:Int)) q by omega) (show (0:Int)<=q by omega);rw[di (by omega)]at h3;have h4:=iZ (x:=20000-(s.av.length:Int)) (k:=q) (by omega);have h5:(((List.replicate t.toNat l).flatten.length:Nat):Int)=t*q:=by
  rw[List.length_flatten,List.map_replicate,List.sum_replicate_nat,jK,hl,Int.toNat_of_nonneg t0]
 have h6:t*q=q*t:=oC _ _;show (s.av++(List.replicate t.toNat l).flatten).length<=20000;rw[aA];omega
theorem Ua {s:SS}(h0:0<=s.aD)(h1:s.aD<=1048576){q b t:Int}{l:List It}(b0:0<=b)(t0:0<=t):0<=(jW s q b t l).1.aD/\(jW s q b t l).1.aD<=1048576:=by
 unfold jW;split
 .exact ⟨h0,h1⟩
 by_cases ht:0<b/\Int.tdiv (1048576-s.aD) b<t
 .rw[ag ht];exact⟨h0,h1⟩
 rw[aa ht];show 0<=s.aD+b*t/\s.aD+b*t<=1048576;have hm:=mN b0 t0;by_cases hb:0<b
 .have ht':t<=Int.tdiv (1048576-s.aD) b:=Int.not_lt.1 λq=>ht ⟨hb,q⟩
  have h3:=dA ht' b0;rw[di (by omega)]at h3;have h4:=iZ (x:=1048576-s.aD) (k:=b) (by omega);omega
 have:b=0:=by omega
 rw[this,Int.zero_mul];omega
theorem aix {s:SS}(h0:0<=s.aD)(h1:s.aD<=1048576):okB s=true:=by
 unfold okB;rw[fL (a:=s.aD) (b:=0) (by omega),fL (a:=1048576) (by omega)];rfl
theorem aiy {s:SS}(h0:0<=s.aN)(h1:s.aN<=1000000000000000):okG s=true:=by
 unfold okG;rw[fL (a:=s.aN) (b:=0) (by omega),fL (a:=1000000000000000) (by omega)];rfl
theorem aiz {s:SS}(h1:zG s=true)(h2:okB s=true)(h3:okG s=true):FO s=true:=by
 unfold FO;rw[h1,h2,h3];rfl
structure uT (s:SS)(n:Nat)(g:Int)(w:Nat):Prop where
 kn:knB s=true
 lab:s.lab.length<=w
 bp:s.bp.length<=2*w
 aH:s.aH.length<=n
 av:s.av.length<=20000
 b0:0<=s.aD
 b1:s.aD<=1048576
 g0:0<=s.aN
 g1:s.aN<=g
theorem uT.a {s:SS}{n:Nat}{g:Int}{w:Nat}(h:uT s n g w)(hn:n<=1000000)(hg:g<=1000000000000000)(hw:w<=500000):FO s=true:=by
 have h1:=h.lab;have h2:=h.bp;have h3:=h.aH;have h4:=h.g1;exact aiz (YI h.kn (by omega) (by omega) (by omega) h.av) (aix h.b0 h.b1) (aiy h.g0 (by omega))
theorem Qc {s:SS}{n:Nat}{g:Int}{w:Nat}(h:uT s n g w)(v:List UInt8)(k:Int):uT (PL s v k) (n+1) g w:=by
 have h3:=h.aH;refine⟨?_,h.lab,h.bp,by show (s.aH++_).length<=_;rw[aA];show _+1<=_;omega,h.av,h.b0,h.b1,h.g0,h.g1⟩;show ((iw s.aI v ((s.aH.length+1:Nat):Int)).all λq=>Nat.ble q.2.toNat (s.aH++[(v,k,false)]).length)=true;exact Ka h.kn v (by rw[aA];omega) (by rw[aA];show _<=s.aH.length+1;omega)
theorem Cj {s:SS}{n:Nat}{g:Int}{w:Nat}(h:uT s n g w){q b t:Int}{l:List It}(hl:(l.length:Int)=q)(h1:1<=q)(b0:0<=b)(t0:0<=t):uT (jW s q b t l).1 n g w:=by
 have hi:=T9 h.av (b:=b) hl h1 t0;obtain⟨hb,hb'⟩:=Ua h.b0 h.b1 (q:=q) (l:=l) b0 t0;have e:(jW s q b t l).1={ s with aD:=(jW s q b t l).1.aD,av:=(jW s q b t l).1.av }:=by
  unfold jW;split
  .rfl
  split<;>rfl
 rw[e];exact⟨h.kn,h.lab,h.bp,h.aH,hi,hb,hb',h.g0,h.g1⟩
theorem FP {s:SS}{n m:Nat}{g g':Int}{w:Nat}{v:List UInt8}{K:SR'}(h:uT s m g' w)(hK:uT K.1 m g' w):uT (oT s v K).1 m g' w:=by
 unfold oT;split
 .exact h
 exact hK
theorem uT.up {s:SS}{n m:Nat}{g g':Int}{w:Nat}(h:uT s n g w)(h1:n<=m)(h2:g<=g'):uT s m g' w:=by
 have h3:=h.aH;have h4:=h.g1;exact⟨h.kn,h.lab,h.bp,by omega,h.av,h.b0,h.b1,h.g0,by omega⟩
theorem YS {s:SS}{n:Nat}{g:Int}{w:Nat}(h:uT s n g w){v:List UInt8}(hv:v.length<=w):uT (vH s v).1 (n+1) g w:=by
 unfold vH;refine FP (n:=n) (g:=g) (h.up (fD _) (bB _)) ?_;split
 .exact Qc h _ _
 refine(Cj (n:=n) (q:=1) (b:=0) (t:=1) ?_ rfl (by decide) (by decide) (by decide)).up (fD _) (bB _);refine⟨Ka h.kn _ (aC _) (ct _),?_,h.bp,h.aH,h.av,h.b0,h.b1,h.g0,h.g1⟩;show (if v.take 1=[46] then s.lab else v).length<=w;split
 .exact h.lab
 exact hv
theorem acJ {s:SS}{n:Nat}{g:Int}{w:Nat}(h:uT s n g w)(hn:n<1000000)(hg:g<=1000000000000000)(hw:w<=500000){x:RS}(hx:Nn x)(hv:x.lab.length<=w) :
 aT X0 c5 Ut 5 21 [.ptr 0 0,.agg (Jv x)] (eU 2 (vK s [])) gG=eH [] (iu gz fP mD s x):=by
 have kd:∀s n,codeFrom X0 c5 Ut 5 21 q3 gG (fr2 n) (mR s x)=Dd s x n:=λs n=>by cases s;cases x;exact EP ..
 have kc:∀s n,codeFrom X0 c5 Ut 5 21 q2 gG (fr2 n) (mR s x)=xK s x (Dd s x n):=λs n=>by
  rw[uG (q:=[]) (by kernel_rfl),<-kd];cases s;cases x;exact amz ..
 have kb:∀s,codeFrom X0 c5 Ut 5 21 q1 gG fr1 (mR s x)=Nm s x λn=>xK s x (Dd s x n):=λs=>by
  rw[uG (q:=[true]) (by kernel_rfl)];have e:(λn=>xK s x (Dd s x n))=λn=>codeFrom X0 c5 Ut 5 21 q2 gG (fr2 n) (mR s x):=funext λn=>(kc s n).symm
  rw[e];cases s;cases x;exact amy ..
 have ka:aT X0 c5 Ut 5 21 [.ptr 0 0,.agg (Jv x)] (eU 2 (vK s [])) gG=ais s x λs'=>Nm s' x λn=>xK s' x (Dd s' x n):=by
  rw[EV (p:=q1) (by kernel_rfl)];have e:(λs'=>Nm s' x λn=>xK s' x (Dd s' x n))=λs'=>codeFrom X0 c5 Ut 5 21 q1 gG fr1 (mR s' x):=funext λs'=>(kb s').symm
  rw[e];cases s;cases x;exact amx ..
 have ha:=h.a (by omega) hg hw;have ht:∀s',FO s'=true->Nm s' x (λn=>xK s' x (Dd s' x n))=eH [] (mM gz fP mD s' x):=λs' hs'=>aiw hs' hx λn hn=>acI hs' hx hn
 rw[ka];unfold ais iu;rw[vL ha (dS hx.lab)];have h0':(λs'=>Nm s' x λn=>xK s' x (Dd s' x n)) s=eH [] (mM gz fP mD s x):=ht s ha;rw[h0'];by_cases h1:x.lab=[]
 .rw[aX h1,aa (λq=>q.1 h1)];rfl
 rw[aU h1];show ah (!bI x.aF 3) _ _=_;rw[cn,cn];by_cases h3:x.aF=3
 .rw[ag h3,aa (λq=>q.2.1 h3)]
 rw[aa h3];by_cases h6:x.aF=6
 .rw[ag h6,aa (λq=>q.2.2 h6)]
 rw[aa h6,ag ⟨h1,h3,h6⟩,cn];by_cases h0:(vH s x.lab).2=0
 .rw[ag h0,aa (λq=>q h0)];exact ht _ ((YS h hv).a (by omega) hg hw)
 rw[aa h0,ag h0];rfl
end
end Go.Proofs.YtbeckacfibledaaGreatDoor.ps.sr

/- Sources: what lines do, as it runs: data, dcx. Sources: what lines do: the runs come to the plain functions. Sources: what lines do: contracts. Sources: a line read, as it runs. Sources: a line read: the contract. -/
import Derived.Test.YtfggompceldfgaaGreatDoorGxc
import Derived.Test.YtfggompceldfgaaGreatDoorGrf
set_option linter.unusedVariables false
set_option linter.unusedSimpArgs false

namespace Go.Proofs.YtfggompceldfgaaGreatDoor.ps.sr
open Go.Tv Go.Ev Go.Px Go.Pp Go.Proofs.YtfggompceldfgaaGreatDoor.ex
set_option maxRecDepth 100000
noncomputable section
def pK (re im n:Int):List Int×Int:=(sp.pwF re im n,if sp.JC re im n=true then 5 else 0)
def fPw (args:List AV):Option (Bool×List AV) :=
 match args with
 |[.int .i64 re,.int .i64 im,.int .i64 n]=>some (true,[.dW (.int .u8) (pK re im n).1,.int .i64 (pK re im n).2])
 |_=>none
theorem Pb:iB X0 gW 10 ⟨none,[none,none,none],gV fPw⟩:=by
 intro ins outs rs hg hlen;clear hlen;have hg:gV fPw ins=some (true,outs,rs):=hg;unfold gV at hg;split at hg;case h_2=>cases hg
 rename_i vs hv;split at hg;case h_2=>cases hg
 rename_i c ws hf;simp only[aq,ax]at hg;obtain⟨rfl,_,rfl⟩:=hg;obtain rfl:=tu hv;clear hv;unfold fPw at hf;split at hf;case h_2=>cases hf
 rename_i re im n;simp only[aq,ax]at hf;obtain⟨_,rfl⟩:=hf;obtain⟨vs,H1,h1,h2⟩:=sp.Pc [.int .i64 re,.int .i64 im,.int .i64 n] _ rfl;have hrun:CI X0 gW 10 [.int .i64 re,.int .i64 im,.int .i64 n] aH.empty vs H1:=h1
 match vs,h2 with
 |[v,w],h2 =>
  obtain⟨_,h2⟩:=h2;rcases h2 with⟨id,gu,ex,rfl,hg,_,h3⟩|⟨rfl,hl,h3⟩
  .obtain ⟨rfl,_,_⟩:=h3;have hs:oY H1 [.val .jZ,.val .jZ] [.own id (pK re im n).1.length,.int .i64 (pK re im n).2]=some ([.dW (.int .u8) (pK re im n).1,.int .i64 (pK re im n).2],H1.put id (.list 5 (.int .u8) (pK re im n).1 gu ex true)):=by
    unfold oY;have e:jn H1 [.own id (pK re im n).1.length]=some ([.dW (.int .u8) (pK re im n).1],H1.put id (.list 5 (.int .u8) (pK re im n).1 gu ex true)):=by
     unfold jn;have hg:H1.get id=some (.list 5 (.int .u8) (pK re im n).1 gu ex false):=hg;rw[hg];rfl
    simp only[e];rfl
   exact⟨_,_,hrun.V2 hs,rfl,rfl,rfl,rfl,trivial⟩
  obtain⟨rfl,_,_⟩:=h3;refine⟨[.dW (.int .u8) (pK re im n).1,.int .i64 (pK re im n).2],H1,λS E bM hr hgl hl'=>?_,rfl,rfl,rfl,rfl,trivial⟩;obtain⟨S',vE,E',a1,⟨xs,rfl,a2⟩,a3,a4⟩:=hrun S E bM hr hgl hl';obtain⟨x,m,rfl,k1,k2⟩:=a2.cons_inv;have hl:(pK re im n).1=[]:=hl;rw[hl];exact⟨S',_,E',a1,⟨_,rfl,LV.cons (Ja (some (.int .u8)) k1) k2⟩,a3,a4⟩
def pDa:List Bool:=[true,true,true,false,true,false]
def abr:eD:=⟨gZ [3,4,7,2,8,16,17,18] pDa,.none,[]⟩
def mDa (s:SS)(x:RS)(c:List UInt8):aH:=eS 2 [.cells 81 (YI 1 5 6 s.aB.length s.au.length s),.mp 79 s.aI,Pa 0,Mt x,scR c,.list 61 kj s.aB 0 false false,.list 56 x6 s.au 0 false false]
def XZ (s:SS)(x:RS)(c:List UInt8)(ai:Int)(r m:Nat)(by' len i:Int):OG:=jf X0 (cV S1 N2 G4 _) abr r 61 pDa gw m (lz 56 [(3,.ptr 2 0),(4,.ptr 3 0),(7,.ptr 4 0),(2,.int .i64 ai),(8,.int .i64 by'),(16,.dW EX x.data),(17,.int .i64 len),(18,.int .i64 i)]) (mDa s x c)
def stepDa' (s:SS)(x:RS)(c:List UInt8)(ai by' len i:Int)(J:Int->OG):OG :=
 ah (bB i len) (sW x.data i λy=>ah (bI (y.2.length:Int) 0) (ah (bI x.sz 0) none (J (IntKind.wrap .i64 (by'+XJ y.1.length x.sz))))
  (ah (Nat.ble c.length 2000000&&eL y.2) (ah (!(dm c y.2).2) (iY [] s 3) (J (IntKind.wrap .i64 (by'+x.sz)))) none))
  (Ta s (Nat.ble c.length 2000000&&(Ct x.sz&&(JQ x.data&&Nat.ble 1 x.data.length))) x.data.length x.data.length by' ai (it3 s.ay x c))
theorem X2 (a0:Int)(iC:List UInt8)(aC sz op aL:Int)(args:List Raw)(data:List Dt)(xx dM:List Nd)(e0 f0:Int)(c:List UInt8)(fq:Int)(aB:List Sy)(au:List It)(aI:List (List UInt8×Int))(lab:List UInt8)(opn:Bool)(bp:List UInt8)(aM:Int)(aR:Bool)(aF ay:Int)(ai:Int)(r m:Nat)(by' len i:Int) :
 XZ ⟨fq,aB,au,aI,lab,opn,bp,aM,aR,aF,ay⟩ ⟨a0,iC,aC,sz,op,aL,args,data,xx,dM,e0,f0⟩ c ai r (m+1) by' len i =
 stepDa' ⟨fq,aB,au,aI,lab,opn,bp,aM,aR,aF,ay⟩ ⟨a0,iC,aC,sz,op,aL,args,data,xx,dM,e0,f0⟩ c ai by' len i λb=>XZ ⟨fq,aB,au,aI,lab,opn,bp,aM,aR,aF,ay⟩ ⟨a0,iC,aC,sz,op,aL,args,data,xx,dM,e0,f0⟩ c ai r m b len (IntKind.wrap .i64 (i+1)):=by kernel_rfl
theorem abt (a0:Int)(iC:List UInt8)(aC sz op aL:Int)(args:List Raw)(data:List Dt)(xx dM:List Nd)(e0 f0:Int)(fq:Int)(aB:List Sy)(au:List It)(aI:List (List UInt8×Int))(lab:List UInt8)(opn:Bool)(bp:List UInt8)(aM:Int)(aR:Bool)(aF ay:Int)(ai:Int)(r:Nat) :
 aT X0 (cV S1 N2 G4 _) abr r 61 [.ptr 0 0,.agg (I1 ⟨a0,iC,aC,sz,op,aL,args,data,xx,dM,e0,f0⟩),.int .i64 ai] (eS 2 (vp ⟨fq,aB,au,aI,lab,opn,bp,aM,aR,aF,ay⟩ [])) gw =
 SK ⟨fq,aB,au,aI,lab,opn,bp,aM,aR,aF,ay⟩ λc=>XZ ⟨fq,aB,au,aI,lab,opn,bp,aM,aR,aF,ay⟩ ⟨a0,iC,aC,sz,op,aL,args,data,xx,dM,e0,f0⟩ c ai r r 0 data.length 0:=by kernel_rfl
def N3:List rL:=(10,⟨none,[none,none,none],gV fPw⟩)::N2
theorem acZ:js X0 gW N3:=.cons Pb uy
def pDx:List Bool:=[true,true,false,true,false]
def abu:eD:=⟨gZ [3,4,7,2,16,17,18] pDx,.none,[]⟩
def mDx (s:SS)(x:RS)(v0 v1 v2:Int):aH:=eS 2 [.cells 81 (YI 1 5 6 s.aB.length s.au.length s),.mp 79 s.aI,Pa 0,Mt x,.cells 140 [.int .i64 v0,.int .i64 v1,.int .i64 v2],.list 61 kj s.aB 0 false false,.list 56 x6 s.au 0 false false]
def Q7 (s:SS)(x:RS)(ai:Int)(r m:Nat)(v0 v1 v2 len i:Int):OG:=jf X0 (cV S1 N3 G4 _) abu r 69 pDx gw m (lz 56 [(3,.ptr 2 0),(4,.ptr 3 0),(7,.ptr 4 0),(2,.int .i64 ai),(16,.dW EX x.data),(17,.int .i64 len),(18,.int .i64 i)]) (mDx s x v0 v1 v2)
def Mx (s:SS)(ai:Int)(q:List Int×Int):OG:=ah (!bI q.2 0) (iY [] s q.2) (Ta s (Nat.ble q.1.length 2000000) 1 1 q.1.length ai (it6 s.ay q.1))
def My (s:SS)(x:RS)(ai:Int)(v0 v1 v2 len i:Int)(J:Int->Int->Int->OG):OG :=
 ah (bB i len) (sW x.data i λy=>ah (XP s.aB.length s.au.length&&(zj s&&eL y.2)) (ah (!bI (cQ iM gS s y.2).2 0) (iY [] s (cQ iM gS s y.2).2)
  (ah (bI i 0) (J (cQ iM gS s y.2).1 v1 v2) (ah (bI i 1) (J v0 (cQ iM gS s y.2).1 v2) (ah (bI i 2) (J v0 v1 (cQ iM gS s y.2).1) none)))) none)
  (Mx s ai (pK v0 v1 v2))
theorem agT (a0:Int)(iC:List UInt8)(aC sz op aL:Int)(args:List Raw)(data:List Dt)(xx dM:List Nd)(e0 f0:Int)(fq:Int)(aB:List Sy)(au:List It)(aI:List (List UInt8×Int))(lab:List UInt8)(opn:Bool)(bp:List UInt8)(aM:Int)(aR:Bool)(aF ay:Int)(ai:Int)(r m:Nat)(v0 v1 v2 len i:Int) :
 Q7 ⟨fq,aB,au,aI,lab,opn,bp,aM,aR,aF,ay⟩ ⟨a0,iC,aC,sz,op,aL,args,data,xx,dM,e0,f0⟩ ai r (m+1) v0 v1 v2 len i =
 My ⟨fq,aB,au,aI,lab,opn,bp,aM,aR,aF,ay⟩ ⟨a0,iC,aC,sz,op,aL,args,data,xx,dM,e0,f0⟩ ai v0 v1 v2 len i λa b c=>Q7 ⟨fq,aB,au,aI,lab,opn,bp,aM,aR,aF,ay⟩ ⟨a0,iC,aC,sz,op,aL,args,data,xx,dM,e0,f0⟩ ai r m a b c len (IntKind.wrap .i64 (i+1)):=by kernel_rfl
theorem abv (a0:Int)(iC:List UInt8)(aC sz op aL:Int)(args:List Raw)(data:List Dt)(xx dM:List Nd)(e0 f0:Int)(fq:Int)(aB:List Sy)(au:List It)(aI:List (List UInt8×Int))(lab:List UInt8)(opn:Bool)(bp:List UInt8)(aM:Int)(aR:Bool)(aF ay:Int)(ai:Int)(r:Nat) :
 aT X0 (cV S1 N3 G4 _) abu r 69 [.ptr 0 0,.agg (I1 ⟨a0,iC,aC,sz,op,aL,args,data,xx,dM,e0,f0⟩),.int .i64 ai] (eS 2 (vp ⟨fq,aB,au,aI,lab,opn,bp,aM,aR,aF,ay⟩ [])) gw =
 Q7 ⟨fq,aB,au,aI,lab,opn,bp,aM,aR,aF,ay⟩ ⟨a0,iC,aC,sz,op,aL,args,data,xx,dM,e0,f0⟩ ai r r 0 0 1 data.length 0:=by kernel_rfl
theorem ze {β:Type}(s:SS)(go:List UInt8->Option β):SK s go=go (cg s):=by
 unfold SK cg;cases s.opn<;>rfl
theorem JD {s:SS}(h:knB s=true)(w:List UInt8){n:Int}{m:Nat}(hm:s.aB.length<=m)(hn:n.toNat<=m):((fk s.aI w n).all λq=>Nat.ble q.2.toNat m)=true:=by
 have:∀l:List (List UInt8×Int),(l.all λq=>Nat.ble q.2.toNat s.aB.length)=true->((fk l w n).all λq=>Nat.ble q.2.toNat m)=true:=by
  intro l;induction l with
  |nil=>intro _;show (Nat.ble n.toNat m&&true)=true;rw[ee hn];rfl
  |cons q l ih =>
   intro hl;rw[bY,ak]at hl;rw[fk,av];have hr:(l.all λq=>Nat.ble q.2.toNat m)=true:=aP.2 λq' hq'=>ee (bz (az (aP.1 hl.2 q' hq')) hm)
   split
   .rw[bY,hr];show (Nat.ble n.toNat m&&true)=true;rw[ee hn];rfl
   rw[bY,ih hl.2,ee (bz (az hl.1) hm)];rfl
 exact this s.aI h
theorem X3 {s:SS}(h1:knB s=true)(h2:s.lab.length<=1000000)(h3:s.bp.length<=1000000)(h4:s.aB.length<=1000000)(h5:s.au.length<=20000):zj s=true:=by
 unfold zj agp;rw[h1,ee h2,ee h3,ee h4,ee h5];rfl
theorem BW {s:SS}{a q b ai:Int}(h1:zj s=true)(h2:okB s=true)(h3:q=a)(h4:0<=b)(h5:b<=1000000000000)(h6:0<=ai):HA s a q b ai=true:=by
 unfold HA;rw[h1,h2,h3,fG (a:=b) (b:=0) (by omega),fG (a:=1000000000000) (by omega),fG (a:=ai) (b:=0) (by omega),eT];simp
theorem Dk {s:SS}{g:Bool}(hg:g=true){a q b ai:Int}(h:HA s a q b ai=true)(l:List It):Ta s g a q b ai l=eF [] (kz s q b ai l):=by
 unfold Ta;rw[qO,hg,h];rfl
theorem Mz {s:SS}{a q b ai:Int}(h:HA s a q b ai=true)(l:List It):Mw s a q b ai l=eF [] (kz s q b ai l):=by
 unfold Mw;rw[qO,h];rfl
theorem Pd (s:SS)(w:List UInt8){go:OG}{K:SR'}(h:go=eF [] K):frT s w go=eF [] (qX s w K):=by
 unfold frT qX;rw[av,cG,h];by_cases h1:iA s.aI w=true
 .have e:qi s w=7:=by unfold qi;rw[ag h1]
  rw[ag h1,e,ag (by decide)];rfl
 by_cases h2:60<w.length
 .have e:qi s w=3:=by unfold qi;rw[aa h1,ag h2]
  rw[aa h1,ag (by omega),e,ag (by decide)];rfl
 have e:qi s w=0:=by unfold qi;rw[aa h1,aa h2]
 rw[aa h1,aa (by omega),e,aa (by decide)]
theorem X4 {s:SS}(h:s.aB.length<=1000000)(w:List UInt8)(n:Int):syT s w n=eF [] (CN s w n,0):=sQ h _
theorem Q8 {s:SS}(hs:zj s=true){x:List Nd}(hx:eL x=true){go:Int->OG}{K:Int->SR'}(h:∀n,go n=eF [] (K n)):kT s x go=eF [] (pH iM gS s x K):=by
 unfold kT pH;rw[qO,hs,hx];show ah _ _ _=_;rw[cX];by_cases h0:(cQ iM gS s x).2=0
 .rw[ag h0,aa (by simp[h0]),h];rfl
 rw[aa h0,ag h0];rfl
def okG (s:SS):Bool := !bB s.aM 0 && !bB 1000000000000000 s.aM
theorem MA {s:SS}(h:okG s=true):0<=s.aM/\s.aM<=1000000000000000:=by
 unfold okG at h;rw[cB,cB]at h;simp at h;omega
theorem agU {c w:List UInt8}:(fO c w).length<=c.length+w.length:=by
 unfold fO;split
 .rw[aA];exact aG _
 omega
theorem agV {s:SS}(hs:zj s=true)(hb:okB s=true){w:List UInt8}(hw:w.length<=1000000):labT' s w=eF [] (Aq s w):=by
 have hsc:=rY hs;obtain⟨k1,⟨k2,k3⟩,k4,k5⟩:=sP hs;unfold labT' Aq;rw[ze,Jz (by omega)];refine Pd s _ ?_;rw[av];by_cases ho:s.opn=true
 .rw[ag ho,ag ho];exact X4 k4 _ _
 rw[aa ho,aa ho];have key:∀L:List UInt8,L.length<=1000000->Mw { s with lab:=L,aI:=fk s.aI (fO (cg s) w) 0 } 1 1 0 1 (TA s.ay (fO (cg s) w))=eF [] (kz { s with lab:=L,aI:=fk s.aI (fO (cg s) w) 0 } 1 0 1 [itL s (fO (cg s) w)]):=λL hL =>
  Mz (a:=1) (q:=1) (b:=0) (ai:=1) (BW (X3 (s:={ s with lab:=L,aI:=fk s.aI (fO (cg s) w) 0 }) (JD k1 (fO (cg s) w) (n:=0) (aG _) (cq _)) hL k3 k4 k5) hb rfl (by decide) (by decide) (by decide)) _
 unfold lt.preB;by_cases hp:w.take 1=[46]
 .rw[ag hp,show (decide (w.take ([46]:List UInt8).length=[46]))=true from bf hp];exact key _ k2
 rw[aa hp,show (decide (w.take ([46]:List UInt8).length=[46]))=false from aU hp];exact key _ hw
theorem abw {s:SS}(hs:zj s=true)(hb:okB s=true){x:RS}(hx:oL x.args=true){ai:Int}(ht:0<=ai):Q3 s x.op x.aL x.args ai=eF [] (Cr s x ai):=by
 have hsc:=rY hs;unfold Q3 Cr;rw[ze,ee (by omega),hx];show ah _ _ _=_;cases hn:(OV (cg s) x.args).2 with
 |false=>rw[ag rfl];rfl
 |true =>
  rw[aa (by decide)];exact Dk rfl (BW hs hb rfl (by decide) (by decide) ht) _
theorem agW {s:SS}(hs:zj s=true){x:RS}(hw:x.lab.length<=1000000)(hx:eL x.x=true):abh s x=eF [] (WY iM gS s x):=by
 have hsc:=rY hs;obtain⟨_,_,k4,_⟩:=sP hs;unfold abh WY;rw[ze,Jz (by omega)];exact Pd s _ (Q8 hs hx λn=>X4 k4 _ _)
theorem agX {s:SS}(hs:zj s=true):endT' s=eF [] (WZ s):=by
 obtain⟨_,⟨_,k3⟩,k4,_⟩:=sP hs;unfold endT' WZ;have e:s.bp.length+Au.length<=9223372036854775807:=by
  have:Au.length=5:=rfl;omega
 rw[ee e];exact Pd s _ (sQ k4 _)
theorem agY {s:SS}(hs:zj s=true){x:RS}(hx:eL x.x=true):abj s x=eF [] (W0 iM gS s x):=by
 unfold abj W0;refine Q8 hs hx λn=>?_
 show ah s.aR _ (ah _ _ (ah _ _ (ah _ _ _)))=_;rw[av,cG,cG,cG];by_cases h1:s.aR=true
 .rw[ag h1,ag (.inl h1)];rfl
 rw[aa h1];by_cases h2:(0:Int)<(s.au.length:Int)
 .rw[ag h2,ag (.inr λe=>by rw[e]at h2;exact absurd h2 (by decide))];rfl
 have h3:s.au=[]:=aQ.1 (by omega);have e1:¬(s.aR=true\/s.au≠[]):=λq=>q.elim h1 λq=>q h3
 rw[aa h2,aa e1];by_cases h4:n<0
 .rw[ag h4,ag (.inl h4)];rfl
 rw[aa h4];by_cases h5:140737488355328<n
 .have e2:n<0\/140737488355328<n:=.inr h5;rw[ag h5,ag e2];rfl
 have e2:¬(n<0\/140737488355328<n):=λq=>q.elim h4 h5
 rw[aa h5,aa e2];rfl
def aoQ:Bool:=(List.range 4096).all λk=>(bI (agL ((k+1:Nat):Int)) 0)==pow2 ((k+1:Nat):Int)
theorem Tf:aoQ=true:=by kernel_rfl
theorem pow_eq {n:Int}(h1:1<=n)(h2:n<=4096):bI (agL n) 0=pow2 n:=by
 obtain⟨k,rfl⟩:∃k:Nat,n=((k+1:Nat):Int):=⟨n.toNat-1,by omega⟩;have:=aP.1 Tf k (by rw[List.mem_range];omega);exact eq_of_beq this
theorem agZ {s:SS}(hs:zj s=true)(hb:okB s=true){x:RS}(hx:eL x.x=true):abk s x=eF [] (Fb iM gS s x):=by
 unfold abk Fb;refine Q8 hs hx λn=>?_
 rw[cG,cG];by_cases h1:n<1
 .rw[ag h1,ag (by unfold pow2;exact aU (by omega))];rfl
 rw[aa h1];by_cases h2:4096<n
 .rw[ag h2,ag (by unfold pow2;exact aU (by omega))];rfl
 rw[aa h2,pow_eq (by omega) (by omega)];cases hp:pow2 n with
 |false=>rw[ag rfl];rfl
 |true =>
  rw[aa (by decide)];exact Mz (BW hs hb rfl (by decide) (by decide) (by decide)) _
theorem ag0 {s:SS}(hs:zj s=true)(hb:okB s=true)(hg:okG s=true){x:RS}(hx:eL x.x=true)(hz:Ct x.sz=true){ai:Int}(ht:0<=ai):abl s x ai=eF [] (W5 iM gS s x ai):=by
 have hz:=xd hz;obtain⟨g0,g1⟩:=MA hg;unfold abl W5;refine Q8 hs hx λn=>?_
 rw[cG];by_cases h1:n<0
 .rw[ag h1,ag h1];rfl
 rw[aa h1,aa h1,xI (by omega)];have hd:Int.tdiv 1048576 x.sz=1048576\/Int.tdiv 1048576 x.sz=524288\/Int.tdiv 1048576 x.sz=262144\/Int.tdiv 1048576 x.sz=131072:=by
  rcases hz with e|e|e|e<;>rw[e]<;>decide
 rw[i64_in (n:=Int.tdiv 1048576 x.sz) (by omega) (by omega)];show ah _ _ _=_;rw[cG];by_cases h2:Int.tdiv 1048576 x.sz<n
 .rw[ag h2,ag h2];rfl
 have h3:0<=n*x.sz/\n*x.sz<=1048576:=by
  rcases hz with e|e|e|e<;>rw[e]at h2 ⊢
  .have:Int.tdiv 1048576 1=1048576:=by decide
   omega
  .have:Int.tdiv 1048576 2=524288:=by decide
   omega
  .have:Int.tdiv 1048576 4=262144:=by decide
   omega
  have:Int.tdiv 1048576 8=131072:=by decide
  omega
 rw[aa h2,aa h2,i64_in (n:=n*x.sz) (by omega) (by omega),i64_in (n:=s.aM+n*x.sz) (by omega) (by omega),av];by_cases ho:s.opn=true
 .rw[ag ho,ag ho];rfl
 rw[aa ho,aa ho];refine(Dk (by rw[fG (a:=n*x.sz) (b:=0) (by omega),fG (a:=2000000) (by omega)];rfl) (BW hs hb rfl h3.1 (by omega) ht) _).trans ?_;unfold it5 itB;rw[aba]
theorem X5 {sz:Int}(hz:sz=1\/sz=2\/sz=4\/sz=8){d:Dt}(hd:d.1.length<=1000000):0<=QC sz d/\QC sz d<=1000007:=by
 unfold QC;split
 .have:=Di (n:=d.1.length) hz;omega
 omega
theorem ag1 {s:SS}(hs:zj s=true)(hb:okB s=true){x:RS}(hz:Ct x.sz=true)(hd:JQ x.data=true)(h1:1<=x.data.length){ai:Int}(ht:0<=ai)(r:Nat):∀(rest pre:List Dt) (m:Nat) (b:Int),x.data=pre++rest->rest.length<m->0<=b->b<=1000007*(pre.length:Int) ->
 XZ s x (cg s) ai r m b x.data.length pre.length=eF [] (if rest.all (λd=>decide (d.2=[])||(dm (cg s) d.2).2)=false then (s,3) else kz s x.data.length (rest.foldl (λn d=>n+QC x.sz d) b) ai (x.data.map (dtC s x.sz))):=by
 have hsc:=rY hs;have hz':=xd hz;obtain⟨d1,d2⟩:=uA hd;intro rest;induction rest with
 |nil =>
  intro pre m b he hm hb0 xS;obtain⟨m,rfl⟩:∃m',m=m'+1:=⟨m-1,by simp at hm;omega⟩;have hp:x.data.length=pre.length:=by rw[he];simp
  have e:XZ s x (cg s) ai r (m+1) b x.data.length pre.length=stepDa' s x (cg s) ai b x.data.length pre.length λb=>XZ s x (cg s) ai r m b x.data.length (IntKind.wrap .i64 ((pre.length:Int)+1)):=by
   cases s;cases x;exact X2 ..
  rw[e];unfold stepDa';rw[fG (by omega),aa (by simp)];exact Dk (by rw[ee (by omega),hz,hd,ee h1];rfl) (BW hs hb rfl hb0 (by omega) ht) _
 |cons y rest ih =>
  intro pre m b he hm hb0 xS;obtain⟨m,rfl⟩:∃m',m=m'+1:=⟨m-1,by simp at hm;omega⟩;have hl:x.data.length=pre.length+(rest.length+1):=by rw[he];simp
  obtain⟨y1,y2⟩:=d2 y (by rw[he];simp);have hN:=X5 hz' y1;have e:XZ s x (cg s) ai r (m+1) b x.data.length pre.length=stepDa' s x (cg s) ai b x.data.length pre.length λb=>XZ s x (cg s) ai r m b x.data.length (IntKind.wrap .i64 ((pre.length:Int)+1)):=by
   cases s;cases x;exact X2 ..
  have go:((decide (y.2=[])||(dm (cg s) y.2).2)=true)->XZ s x (cg s) ai r m (IntKind.wrap .i64 (b+QC x.sz y)) x.data.length (IntKind.wrap .i64 ((pre.length:Int)+1))=eF [] (if (y::rest).all (λd=>decide (d.2=[])||(dm (cg s) d.2).2)=false then (s,3) else kz s x.data.length ((y::rest).foldl (λn d=>n+QC x.sz d) b) ai (x.data.map (dtC s x.sz))):=λhy=>by
   rw[i64_in (n:=(pre.length:Int)+1) (by omega) (by omega),i64_in (n:=b+QC x.sz y) (by omega) (by omega),bY,hy,dK,gk];have:=ih (pre++[y]) m (b+QC x.sz y) (by rw[he];simp) (by simp at hm;omega) (by omega) (by rw[aA];show _<=1000007*(((pre.length+1:Nat)):Int);omega);rw[aA]at this;exact this
  rw[e];unfold stepDa';rw[pL (by omega)];show sW _ _ _=_;rw[qv he,ck];by_cases h0:(y.2.length:Int)=0
  .have h2:y.2=[]:=aQ.1 (by omega);rw[ag h0,xI (by omega),Q2 hz' y1];have hg:=go (by rw[bf h2];rfl);have hD:QC x.sz y=Ar y.1.length x.sz:=by unfold QC;rw[ag h2]
   rw[hD]at hg;exact hg
  have h2:y.2≠[]:=λq=>h0 (by rw[q];rfl)
  rw[aa h0,ee (by omega),y2];show ah _ _ _=_;have hD:QC x.sz y=x.sz:=by unfold QC;rw[aa h2]
  cases hn:(dm (cg s) y.2).2 with
  |false =>
   have ea:((y::rest).all λd=>decide (d.2=[])||(dm (cg s) d.2).2)=false:=by rw[bY,hn,aU h2];rfl
   rw[ag ea];rfl
  |true =>
   have hg:=go (by rw[hn,Bool.or_true]);rw[hD]at hg;exact hg
theorem xN {s:SS}(y:Dt)(l:List Dt):vG iM gS s (y::l)=if (cQ iM gS s y.2).2≠0 then ([],(cQ iM gS s y.2).2) else if (vG iM gS s l).2≠0 then ([],(vG iM gS s l).2) else ((cQ iM gS s y.2).1::(vG iM gS s l).1,0):=rfl
theorem abx {s:SS}(hs:zj s=true)(hb:okB s=true){ai:Int}(ht:0<=ai)(q:List Int×Int)(hq:q.1.length<=2000000):Mx s ai q=eF [] (powC s ai q):=by
 unfold Mx powC;rw[cX];by_cases h0:q.2=0
 .rw[ag h0,aa (by simp[h0])];exact Dk (ee hq) (BW hs hb rfl (by omega) (by omega) ht) _
 rw[aa h0,ag h0];rfl
theorem ag2 (a b c:Int):(pK a b c).1.length<=2000:=by
 unfold pK sp.pwF;by_cases h:sp.JC a b c=true
 .rw[ag h];simp
 rw[aa h,sp.Q6];unfold sp.JC at h;simp only[cJ,aV,kK]at h;omega
theorem uC {s:SS}(hs:zj s=true){x:RS}{ai v0 v1 v2:Int}{pre rest:List Dt}{y:Dt}(he:x.data=pre++y::rest)(hy:eL y.2=true)(J:Int->Int->Int->OG):My s x ai v0 v1 v2 x.data.length pre.length J =
 if (cQ iM gS s y.2).2≠0 then eF [] (s,(cQ iM gS s y.2).2) else ah (bI pre.length 0) (J (cQ iM gS s y.2).1 v1 v2) (ah (bI pre.length 1) (J v0 (cQ iM gS s y.2).1 v2) (ah (bI pre.length 2) (J v0 v1 (cQ iM gS s y.2).1) none)):=by
 have hl:x.data.length=pre.length+(rest.length+1):=by rw[he];simp
 unfold My;rw[pL (by omega)];show sW _ _ _=_;rw[qv he,qO,hs,hy];show ah _ _ _=_;rw[cX];by_cases h0:(cQ iM gS s y.2).2=0
 .rw[ag h0,aa (by simp[h0])];rfl
 rw[aa h0,ag h0];rfl
theorem sS (s:SS)(x:RS)(ai:Int)(r m:Nat)(v0 v1 v2 len i:Int):Q7 s x ai r (m+1) v0 v1 v2 len i=My s x ai v0 v1 v2 len i λa b c=>Q7 s x ai r m a b c len (IntKind.wrap .i64 (i+1)):=by
 cases s;cases x;exact agT ..
theorem Dl (s:SS)(x:RS)(ai:Int)(r m:Nat)(v0 v1 v2:Int):Q7 s x ai r (m+1) v0 v1 v2 x.data.length x.data.length=Mx s ai (pK v0 v1 v2):=by
 rw[sS];unfold My;rw[fG (by omega)]
theorem ag3 {s:SS}(hs:zj s=true)(hb:okB s=true){x:RS}(hd:JQ x.data=true)(hn:x.data.length<=3){ai:Int}(ht:0<=ai):Q7 s x ai 5 5 0 0 1 x.data.length 0=eF [] (L9 iM gS pK s x ai):=by
 obtain⟨_,d2⟩:=uA hd;have fin:∀a b c,Mx s ai (pK a b c)=eF [] (powC s ai (pK a b c)):=λa b c=>abx hs hb ht _ (by have:=ag2 a b c;omega)
 have w0:IntKind.wrap .i64 (((([]:List Dt).length:Nat):Int)+1)=1:=by decide
 unfold L9
 match he:x.data,hn with
 |[],_ =>
  have:=Dl s x ai 5 4 0 0 1;rw[he]at this;refine this.trans ((fin 0 0 1).trans ?_);rfl
 |[a],_ =>
  have ha:=(d2 a (by rw[he];simp)).2;rw[<-he];have e1:=sS s x ai 5 4 0 0 1 x.data.length 0;have e2:=uC (ai:=ai) (v0:=0) (v1:=0) (v2:=1) hs (pre:=[]) (rest:=[]) he ha λa b c=>Q7 s x ai 5 4 a b c x.data.length (IntKind.wrap .i64 (0+1))
  refine(e1.trans e2).trans ?_;rw[he,xN];by_cases h0:(cQ iM gS s a.2).2≠0
  .rw[ag h0,ag h0,ag h0]
  rw[aa h0,aa h0];have e3:=Dl s x ai 5 3 (cQ iM gS s a.2).1 0 1;rw[he]at e3;exact e3.trans (fin _ 0 1)
 |[a,b],_ =>
  have ha:=(d2 a (by rw[he];simp)).2;have hb':=(d2 b (by rw[he];simp)).2;rw[<-he];have e1:=sS s x ai 5 4 0 0 1 x.data.length 0;have e2:=uC (ai:=ai) (v0:=0) (v1:=0) (v2:=1) hs (pre:=[]) (rest:=[b]) he ha λa b c=>Q7 s x ai 5 4 a b c x.data.length (IntKind.wrap .i64 (0+1))
  refine(e1.trans e2).trans ?_;rw[he,xN,xN];by_cases h0:(cQ iM gS s a.2).2≠0
  .rw[ag h0,ag h0,ag h0]
  rw[aa h0,aa h0];have e3:=sS s x ai 5 3 (cQ iM gS s a.2).1 0 1 x.data.length 1;have e4:=uC (ai:=ai) (v0:=(cQ iM gS s a.2).1) (v1:=0) (v2:=1) hs (pre:=[a]) (rest:=[]) he hb' λa b c=>Q7 s x ai 5 3 a b c x.data.length (IntKind.wrap .i64 (1+1))
  rw[he]at e3 e4;refine(e3.trans e4).trans ?_;by_cases h1:(cQ iM gS s b.2).2≠0
  .rw[ag h1,ag h1,ag h1,ag h1]
  rw[aa h1,aa h1];have e5:=Dl s x ai 5 2 (cQ iM gS s a.2).1 (cQ iM gS s b.2).1 1;rw[he]at e5;exact e5.trans (fin _ _ 1)
 |[a,b,c],_ =>
  have ha:=(d2 a (by rw[he];simp)).2;have hb':=(d2 b (by rw[he];simp)).2;have hc:=(d2 c (by rw[he];simp)).2;rw[<-he];have e1:=sS s x ai 5 4 0 0 1 x.data.length 0;have e2:=uC (ai:=ai) (v0:=0) (v1:=0) (v2:=1) hs (pre:=[]) (rest:=[b,c]) he ha λa b c=>Q7 s x ai 5 4 a b c x.data.length (IntKind.wrap .i64 (0+1))
  refine(e1.trans e2).trans ?_;rw[he,xN,xN,xN];by_cases h0:(cQ iM gS s a.2).2≠0
  .rw[ag h0,ag h0,ag h0]
  rw[aa h0,aa h0];have e3:=sS s x ai 5 3 (cQ iM gS s a.2).1 0 1 x.data.length 1;have e4:=uC (ai:=ai) (v0:=(cQ iM gS s a.2).1) (v1:=0) (v2:=1) hs (pre:=[a]) (rest:=[c]) he hb' λa b c=>Q7 s x ai 5 3 a b c x.data.length (IntKind.wrap .i64 (1+1))
  rw[he]at e3 e4;refine(e3.trans e4).trans ?_;by_cases h1:(cQ iM gS s b.2).2≠0
  .rw[ag h1,ag h1,ag h1,ag h1]
  rw[aa h1,aa h1];have e5:=sS s x ai 5 2 (cQ iM gS s a.2).1 (cQ iM gS s b.2).1 1 x.data.length 2;have e6:=uC (ai:=ai) (v0:=(cQ iM gS s a.2).1) (v1:=(cQ iM gS s b.2).1) (v2:=1) hs (pre:=[a,b]) (rest:=[]) he hc λa b c=>Q7 s x ai 5 2 a b c x.data.length (IntKind.wrap .i64 (2+1))
  rw[he]at e5 e6;refine(e5.trans e6).trans ?_;by_cases h2:(cQ iM gS s c.2).2≠0
  .rw[ag h2,ag h2,ag h2,ag h2,ag h2]
  rw[aa h2,aa h2];have e7:=Dl s x ai 5 1 (cQ iM gS s a.2).1 (cQ iM gS s b.2).1 (cQ iM gS s c.2).1;rw[he]at e7;exact e7.trans (fin _ _ _)
 |_::_::_::_::_,hn=>simp at hn
def Fw (s:SS):Bool:=zj s&&(okB s&&okG s)
theorem mq {s:SS}(h:Fw s=true):zj s=true/\okB s=true/\okG s=true:=by
 unfold Fw at h;simp only[ak]at h;exact⟨h.1,h.2.1,h.2.2⟩
theorem aby {s:SS}(hs:zj s=true)(hb:okB s=true){x:RS}(hz:Ct x.sz=true)(hd:JQ x.data=true)(h1:1<=x.data.length){ai:Int}(ht:0<=ai):SK s (λc=>XZ s x c ai 100001 100001 0 x.data.length 0)=eF [] (Fa s x ai):=by
 rw[ze];have:=(uA hd).1;exact ag1 hs hb hz hd h1 ht 100001 x.data [] 100001 0 rfl (by omega) (by decide) (by simp)
def ag4 (args:List AV)(rows:List Row):OP :=
 match args,rows with
 |[.ptr 0 0,.str w],c::l=>match uz 0 c l with
  |some (b,s)=>some (b&&(Fw s&&(Nat.ble w.length 1000000)),oh [] (Aq s w))
  |_=>none
 |_,_=>none
theorem abz:j5 X0 gW 57 ag4 :=
 nI (λargs=>lt.bS rfl args) (rz qN uy yp) λargs rows v outs hg=>by
  unfold ag4 at hg;split at hg;case h_2=>cases hg
  rename_i w c l;split at hg;case h_2=>cases hg
  rename_i b s hr;simp only[oh,aq,ax,ak]at hg;obtain⟨⟨rfl,h0,h4⟩,rfl,rfl⟩:=hg;obtain⟨h1,h2,h3⟩:=mq h0;obtain⟨rfl,rfl⟩:=fU hr;refine⟨ia,5,?_⟩;have e:aT X0 (cV S1 N2 G4 _) ia 5 57 [.ptr 0 0,.str w] (eS 2 (vp s [])) gw=labT' s w:=by
   cases s;exact XQ ..
  exact e.trans (agV h1 h2 (az h4))
def ag5 (args:List AV)(rows:List Row):OP :=
 match args,rows with
 |[.ptr 0 0],c::l=>match uz 0 c l with
  |some (b,s)=>some (b&&(Fw s&&(true)),oh [] (WZ s))
  |_=>none
 |_,_=>none
theorem abA:j5 X0 gW 67 ag5 :=
 nI (λargs=>lt.bS rfl args) (rz qN uy yp) λargs rows v outs hg=>by
  unfold ag5 at hg;split at hg;case h_2=>cases hg
  rename_i c l;split at hg;case h_2=>cases hg
  rename_i b s hr;simp only[oh,aq,ax,ak]at hg;obtain⟨⟨rfl,h0,h4⟩,rfl,rfl⟩:=hg;obtain⟨h1,h2,h3⟩:=mq h0;obtain⟨rfl,rfl⟩:=fU hr;refine⟨ia,5,?_⟩;have e:aT X0 (cV S1 N2 G4 _) ia 5 67 [.ptr 0 0] (eS 2 (vp s [])) gw=endT' s:=by
   cases s;exact XS ..
  exact e.trans (agX h1)
def X6 (args:List AV)(rows:List Row):OP :=
 match args,rows with
 |[.ptr 0 0,.agg [.int .i64 op,.int .i64 aL,.dW e x],.int .i64 ai],c::l=>match iq e nu x,uz 0 c l with
  |some x,some (b,s)=>some (b&&(Fw s&&(oL x && !bB ai 0)),oh [] (Cr s ⟨0,[],0,0,op,aL,x,[],[],[],0,0⟩ ai))
  |_,_=>none
 |_,_=>none
theorem X7:j5 X0 gW 60 X6 :=
 nI (λargs=>lt.bS rfl args) (rz qN uy yp) λargs rows v outs hg=>by
  unfold X6 at hg;split at hg;case h_2=>cases hg
  rename_i op aL e x ai c l;split at hg;case h_2=>cases hg
  rename_i x' b s hx hr;simp only[oh,aq,ax,ak]at hg;obtain⟨⟨rfl,h0,h4⟩,rfl,rfl⟩:=hg;obtain⟨h1,h2,h3⟩:=mq h0;obtain⟨rfl,hx⟩:=bT hx;have hx:x=x':=hx;subst hx;obtain⟨rfl,rfl⟩:=fU hr;refine⟨ia,5,?_⟩;have e:aT X0 (cV S1 N2 G4 _) ia 5 60 [.ptr 0 0,.agg [.int .i64 op,.int .i64 aL,.dW nu x],.int .i64 ai] (eS 2 (vp s [])) gw=Q3 s op aL x ai:=by
   cases s;exact Tb ..
  exact e.trans (abw (x:=⟨0,[],0,0,op,aL,x,[],[],[],0,0⟩) h1 h2 h4.1 (by have:=h4.2;rw[cB]at this;simpa using this))
def ag6 (args:List AV)(rows:List Row):OP :=
 match args,rows with
 |[.ptr 0 0,.agg cs],c::l=>match Fv (.cells 46 cs),uz 0 c l with
  |some (b0,x),some (b,s)=>some (b&&(Fw s&&(b0&&(Nat.ble x.lab.length 1000000&&eL x.x))),oh [] (WY iM gS s x))
  |_,_=>none
 |_,_=>none
theorem abB:j5 X0 gW 62 ag6 :=
 nI (λargs=>lt.bS rfl args) (rz qN uy yp) λargs rows v outs hg=>by
  unfold ag6 at hg;split at hg;case h_2=>cases hg
  rename_i cs c l;split at hg;case h_2=>cases hg
  rename_i b0 x b s hx hr;simp only[oh,aq,ax,ak]at hg;obtain⟨⟨rfl,h0,h4⟩,rfl,rfl⟩:=hg;obtain⟨h1,h2,h3⟩:=mq h0;obtain⟨hb0,h4⟩:=h4;subst hb0;have hx:=nJ hx;simp only[Mt,Row.cells.injEq,jv]at hx;subst hx;obtain⟨rfl,rfl⟩:=fU hr;refine⟨ia,5,?_⟩;have e:aT X0 (cV S1 N2 G4 _) ia 5 62 [.ptr 0 0,.agg (I1 x)] (eS 2 (vp s [])) gw=abh s x:=by
   cases s;cases x;exact XR ..
  exact e.trans (agW h1 (az h4.1) h4.2)
def ag7 (args:List AV)(rows:List Row):OP :=
 match args,rows with
 |[.ptr 0 0,.agg cs],c::l=>match Fv (.cells 46 cs),uz 0 c l with
  |some (b0,x),some (b,s)=>some (b&&(Fw s&&(b0&&(eL x.x))),oh [] (Fb iM gS s x))
  |_,_=>none
 |_,_=>none
theorem abC:j5 X0 gW 63 ag7 :=
 nI (λargs=>lt.bS rfl args) (rz qN uy yp) λargs rows v outs hg=>by
  unfold ag7 at hg;split at hg;case h_2=>cases hg
  rename_i cs c l;split at hg;case h_2=>cases hg
  rename_i b0 x b s hx hr;simp only[oh,aq,ax,ak]at hg;obtain⟨⟨rfl,h0,h4⟩,rfl,rfl⟩:=hg;obtain⟨h1,h2,h3⟩:=mq h0;obtain⟨hb0,h4⟩:=h4;subst hb0;have hx:=nJ hx;simp only[Mt,Row.cells.injEq,jv]at hx;subst hx;obtain⟨rfl,rfl⟩:=fU hr;refine⟨ia,5,?_⟩;have e:aT X0 (cV S1 N2 G4 _) ia 5 63 [.ptr 0 0,.agg (I1 x)] (eS 2 (vp s [])) gw=abk s x:=by
   cases s;cases x;exact XU ..
  exact e.trans (agZ h1 h2 h4)
def ag8 (args:List AV)(rows:List Row):OP :=
 match args,rows with
 |[.ptr 0 0,.agg cs],c::l=>match Fv (.cells 46 cs),uz 0 c l with
  |some (b0,x),some (b,s)=>some (b&&(Fw s&&(b0&&(eL x.x))),oh [] (W0 iM gS s x))
  |_,_=>none
 |_,_=>none
theorem abD:j5 X0 gW 64 ag8 :=
 nI (λargs=>lt.bS rfl args) (rz qN uy yp) λargs rows v outs hg=>by
  unfold ag8 at hg;split at hg;case h_2=>cases hg
  rename_i cs c l;split at hg;case h_2=>cases hg
  rename_i b0 x b s hx hr;simp only[oh,aq,ax,ak]at hg;obtain⟨⟨rfl,h0,h4⟩,rfl,rfl⟩:=hg;obtain⟨h1,h2,h3⟩:=mq h0;obtain⟨hb0,h4⟩:=h4;subst hb0;have hx:=nJ hx;simp only[Mt,Row.cells.injEq,jv]at hx;subst hx;obtain⟨rfl,rfl⟩:=fU hr;refine⟨ia,5,?_⟩;have e:aT X0 (cV S1 N2 G4 _) ia 5 64 [.ptr 0 0,.agg (I1 x)] (eS 2 (vp s [])) gw=abj s x:=by
   cases s;cases x;exact XT ..
  exact e.trans (agY h1 h4)
def Oi (args:List AV)(rows:List Row):OP :=
 match args,rows with
 |[.ptr 0 0,.agg cs,.int .i64 ai],c::l=>match Fv (.cells 46 cs),uz 0 c l with
  |some (b0,x),some (b,s)=>some (b&&(Fw s&&(b0&&((eL x.x&&Ct x.sz) && !bB ai 0))),oh [] (W5 iM gS s x ai))
  |_,_=>none
 |_,_=>none
theorem abE:j5 X0 gW 68 Oi :=
 nI (λargs=>lt.bS rfl args) (rz qN uy yp) λargs rows v outs hg=>by
  unfold Oi at hg;split at hg;case h_2=>cases hg
  rename_i cs ai c l;split at hg;case h_2=>cases hg
  rename_i b0 x b s hx hr;simp only[oh,aq,ax,ak]at hg;obtain⟨⟨rfl,h0,h4⟩,rfl,rfl⟩:=hg;obtain⟨h1,h2,h3⟩:=mq h0;obtain⟨hb0,h4⟩:=h4;subst hb0;have hx:=nJ hx;simp only[Mt,Row.cells.injEq,jv]at hx;subst hx;obtain⟨rfl,rfl⟩:=fU hr;refine⟨ia,5,?_⟩;have e:aT X0 (cV S1 N2 G4 _) ia 5 68 [.ptr 0 0,.agg (I1 x),.int .i64 ai] (eS 2 (vp s [])) gw=abl s x ai:=by
   cases s;cases x;exact XV ..
  exact e.trans (ag0 h1 h2 h3 h4.1.1 h4.1.2 (by have:=h4.2;rw[cB]at this;simpa using this))
def X8 (args:List AV)(rows:List Row):OP :=
 match args,rows with
 |[.ptr 0 0,.agg cs,.int .i64 ai],c::l=>match Fv (.cells 46 cs),uz 0 c l with
  |some (b0,x),some (b,s)=>some (b&&(Fw s&&(b0&&((Ct x.sz&&(JQ x.data&&Nat.ble 1 x.data.length)) && !bB ai 0))),oh [] (Fa s x ai))
  |_,_=>none
 |_,_=>none
theorem X9:j5 X0 gW 61 X8 :=
 nI (λargs=>lt.bS rfl args) (rz qN uy yp) λargs rows v outs hg=>by
  unfold X8 at hg;split at hg;case h_2=>cases hg
  rename_i cs ai c l;split at hg;case h_2=>cases hg
  rename_i b0 x b s hx hr;simp only[oh,aq,ax,ak]at hg;obtain⟨⟨rfl,h0,h4⟩,rfl,rfl⟩:=hg;obtain⟨h1,h2,h3⟩:=mq h0;obtain⟨hb0,h4⟩:=h4;subst hb0;have hx:=nJ hx;simp only[Mt,Row.cells.injEq,jv]at hx;subst hx;obtain⟨rfl,rfl⟩:=fU hr;refine⟨abr,100001,?_⟩;have e:aT X0 (cV S1 N2 G4 _) abr 100001 61 [.ptr 0 0,.agg (I1 x),.int .i64 ai] (eS 2 (vp s [])) gw=SK s (λc=>XZ s x c ai 100001 100001 0 x.data.length 0):=by
   cases s;cases x;exact abt ..
  exact e.trans (aby h1 h2 h4.1.1 h4.1.2.1 (az h4.1.2.2) (by have:=h4.2;rw[cB]at this;simpa using this))
def ag9 (args:List AV)(rows:List Row):OP :=
 match args,rows with
 |[.ptr 0 0,.agg cs,.int .i64 ai],c::l=>match Fv (.cells 46 cs),uz 0 c l with
  |some (b0,x),some (b,s)=>some (b&&(Fw s&&(b0&&((JQ x.data&&Nat.ble x.data.length 3) && !bB ai 0))),oh [] (L9 iM gS pK s x ai))
  |_,_=>none
 |_,_=>none
theorem abF:j5 X0 gW 69 ag9 :=
 nI (λargs=>lt.bS rfl args) (rz qN acZ yp) λargs rows v outs hg=>by
  unfold ag9 at hg;split at hg;case h_2=>cases hg
  rename_i cs ai c l;split at hg;case h_2=>cases hg
  rename_i b0 x b s hx hr;simp only[oh,aq,ax,ak]at hg;obtain⟨⟨rfl,h0,h4⟩,rfl,rfl⟩:=hg;obtain⟨h1,h2,h3⟩:=mq h0;obtain⟨hb0,h4⟩:=h4;subst hb0;have hx:=nJ hx;simp only[Mt,Row.cells.injEq,jv]at hx;subst hx;obtain⟨rfl,rfl⟩:=fU hr;refine⟨abu,5,?_⟩;have e:aT X0 (cV S1 N3 G4 _) abu 5 69 [.ptr 0 0,.agg (I1 x),.int .i64 ai] (eS 2 (vp s [])) gw=Q7 s x ai 5 5 0 0 1 x.data.length 0:=by
   cases s;cases x;exact abv ..
  exact e.trans (ag3 h1 h2 h4.1.1 (az h4.1.2) (by have:=h4.2;rw[cB]at this;simpa using this))
def G5:List AB:=(57,⟨81,vO,ag4⟩)::(60,⟨81,vO,X6⟩)::(61,⟨81,vO,X8⟩)::(62,⟨81,vO,ag6⟩)::(63,⟨81,vO,ag7⟩)::(64,⟨81,vO,ag8⟩)::(67,⟨81,vO,ag5⟩)::(68,⟨81,vO,Oi⟩)::(69,⟨81,vO,ag9⟩)::G4
theorem ac1:pI X0 gW G5:=.cons abz (.cons X7 (.cons X9 (.cons abB (.cons abC (.cons abD (.cons abA (.cons abE (.cons abF (yp)))))))))
def q1:List Bool:=[true,true]
def q2:List Bool:=[true,true,true,true]
def q3:List Bool:=[true,true,true,true,true]
def TB:eD:=⟨qt (gZ [0,3] q1) (qt (gZ [0,3,6] q2) (gZ [0,3,6] q3)),.none,[]⟩
abbrev c5:cI (AV×List Row):=cV S1 N2 G5 _
def fr1:fF:=lz 116 [(0,.ptr 0 0),(3,.ptr 2 0)]
def fr2 (n:Int):fF:=lz 116 [(0,.ptr 0 0),(3,.ptr 2 0),(6,.int .i64 n)]
def mR (s:SS)(x:RS):aH:=eS 2 [.cells 81 (YI 1 3 4 s.aB.length s.au.length s),.mp 79 s.aI,Mt x,.list 61 kj s.aB 0 false false,.list 56 x6 s.au 0 false false]
def Ya (s:SS)(g:Bool)(r:SR')(k:SS->Int->OG):OG:=ah (XP s.aB.length s.au.length&&(Fw s&&g)) (k r.1 r.2) none
def uD (s:SS)(e:Int):OG:=iY [] s e
def ahb (s:SS)(x:RS)(k:SS->OG):OG :=
 ah (!decide (x.lab=[])) (ah (!bI x.aC 3) (ah (!bI x.aC 6) (Ya s (Nat.ble x.lab.length 1000000) (Aq s x.lab) λs' e=>ah (!bI e 0) (uD s' e) (k s')) (k s)) (k s)) (k s)
def cnT (s:SS)(x:List Nd)(k:Int->Int->OG):OG:=ah (XP s.aB.length s.au.length&&(zj s&&eL x)) (k (cQ iM gS s x).1 (cQ iM gS s x).2) none
def MB (s:SS)(x:RS)(k:Int->OG):OG :=
 ah (bB 0 (x.ai.length:Int)) (cnT s x.ai λn e=>ah (bI e 0) (ah (bB n 0) (uD s 5) (ah (!bI e 0) (uD s e) (k n))) (ah (!bI e 0) (uD s e) (k n))) (k 1)
def ahc (s:SS)(x:RS)(k:OG):OG:=ah (!bI (x.ai.length:Int) 0) (uD s 8) k
def Pe (s:SS)(x:RS)(q:Int)(k next:OG):OG:=ah (bI x.aC q) (ah (bI x.aC q) (uD s 8) (ahc s x k)) next
def xh (s:SS)(x:RS)(k:OG):OG :=
 ah (!s.opn) (ah (!(!bI x.aC 7)) (uD s 8) k) (Pe s x 1 k (Pe s x 2 k (Pe s x 4 k (Pe s x 5 k (Pe s x 9 k (ah (bI x.aC 6) (uD s 8) (ahc s x k)))))))
def CP (s:SS)(x:RS)(n:Int):OG :=
 ah (bI x.aC 1) (Ya s (oL x.args && !bB n 0) (Cr s ⟨0,[],0,0,x.op,x.aL,x.args,[],[],[],0,0⟩ n) uD)
 (ah (bI x.aC 2) (Ya s ((Ct x.sz&&(JQ x.data&&Nat.ble 1 x.data.length)) && !bB n 0) (Fa s ⟨0,x.lab,x.aC,x.sz,x.op,x.aL,x.args,x.data,x.x,x.ai,0,0⟩ n) uD)
 (ah (bI x.aC 3) (Ya s (Nat.ble x.lab.length 1000000&&eL x.x) (WY iM gS s ⟨0,x.lab,x.aC,x.sz,x.op,x.aL,x.args,x.data,x.x,x.ai,0,0⟩) uD)
 (ah (bI x.aC 4) (Ya s (eL x.x) (Fb iM gS s ⟨0,x.lab,x.aC,x.sz,x.op,x.aL,x.args,x.data,x.x,x.ai,0,0⟩) uD)
 (ah (bI x.aC 5) (Ya s (eL x.x) (W0 iM gS s ⟨0,x.lab,x.aC,x.sz,x.op,x.aL,x.args,x.data,x.x,x.ai,0,0⟩) uD)
 (ah (bI x.aC 6) (SK s λc=>nmT c x.lab λw=>uD { s with bp:=w,aM:=0,opn:=true } 0)
 (ah (bI x.aC 7) (Ya s true (WZ s) uD)
 (ah (bI x.aC 8) (Ya s ((eL x.x&&Ct x.sz) && !bB n 0) (W5 iM gS s ⟨0,x.lab,x.aC,x.sz,x.op,x.aL,x.args,x.data,x.x,x.ai,0,0⟩ n) uD)
 (ah (bI x.aC 9) (Ya s ((JQ x.data&&Nat.ble x.data.length 3) && !bB n 0) (L9 iM gS pK s ⟨0,x.lab,x.aC,x.sz,x.op,x.aL,x.args,x.data,x.x,x.ai,0,0⟩ n) uD) (uD s 0)))))))))
theorem ak3 (fq:Int)(aB:List Sy)(au:List It)(aI:List (List UInt8×Int))(lab:List UInt8)(opn:Bool)(bp:List UInt8)(aM:Int)(aR:Bool)(aF ay:Int)(a0:Int)(iC:List UInt8)(aC sz op aL:Int)(args:List Raw)(data:List Dt)(xx dM:List Nd)(e0 f0:Int)(r:Nat)(K:fF->aH->OG):ZM X0 c5 TB r 32 q1 [.ptr 0 0,.agg (I1 ⟨a0,iC,aC,sz,op,aL,args,data,xx,dM,e0,f0⟩)] (eS 2 (vp ⟨fq,aB,au,aI,lab,opn,bp,aM,aR,aF,ay⟩ [])) gw K=ahb ⟨fq,aB,au,aI,lab,opn,bp,aM,aR,aF,ay⟩ ⟨a0,iC,aC,sz,op,aL,args,data,xx,dM,e0,f0⟩ λs'=>K fr1 (mR s' ⟨a0,iC,aC,sz,op,aL,args,data,xx,dM,e0,f0⟩):=by kernel_rfl
theorem ak4 (fq:Int)(aB:List Sy)(au:List It)(aI:List (List UInt8×Int))(lab:List UInt8)(opn:Bool)(bp:List UInt8)(aM:Int)(aR:Bool)(aF ay:Int)(a0:Int)(iC:List UInt8)(aC sz op aL:Int)(args:List Raw)(data:List Dt)(xx dM:List Nd)(e0 f0:Int)(r:Nat)(K:fF->aH->OG):OT X0 c5 TB r 32 q1 [true,true] gw K fr1 (mR ⟨fq,aB,au,aI,lab,opn,bp,aM,aR,aF,ay⟩ ⟨a0,iC,aC,sz,op,aL,args,data,xx,dM,e0,f0⟩)=MB ⟨fq,aB,au,aI,lab,opn,bp,aM,aR,aF,ay⟩ ⟨a0,iC,aC,sz,op,aL,args,data,xx,dM,e0,f0⟩ λn=>K (fr2 n) (mR ⟨fq,aB,au,aI,lab,opn,bp,aM,aR,aF,ay⟩ ⟨a0,iC,aC,sz,op,aL,args,data,xx,dM,e0,f0⟩):=by kernel_rfl
theorem ak5 (fq:Int)(aB:List Sy)(au:List It)(aI:List (List UInt8×Int))(lab:List UInt8)(opn:Bool)(bp:List UInt8)(aM:Int)(aR:Bool)(aF ay:Int)(a0:Int)(iC:List UInt8)(aC sz op aL:Int)(args:List Raw)(data:List Dt)(xx dM:List Nd)(e0 f0:Int)(n:Int)(r:Nat)(K:fF->aH->OG):OT X0 c5 TB r 32 q2 [true] gw K (fr2 n) (mR ⟨fq,aB,au,aI,lab,opn,bp,aM,aR,aF,ay⟩ ⟨a0,iC,aC,sz,op,aL,args,data,xx,dM,e0,f0⟩)=xh ⟨fq,aB,au,aI,lab,opn,bp,aM,aR,aF,ay⟩ ⟨a0,iC,aC,sz,op,aL,args,data,xx,dM,e0,f0⟩ (K (fr2 n) (mR ⟨fq,aB,au,aI,lab,opn,bp,aM,aR,aF,ay⟩ ⟨a0,iC,aC,sz,op,aL,args,data,xx,dM,e0,f0⟩)):=by kernel_rfl
theorem Ew (fq:Int)(aB:List Sy)(au:List It)(aI:List (List UInt8×Int))(lab:List UInt8)(opn:Bool)(bp:List UInt8)(aM:Int)(aR:Bool)(aF ay:Int)(a0:Int)(iC:List UInt8)(aC sz op aL:Int)(args:List Raw)(data:List Dt)(xx dM:List Nd)(e0 f0:Int)(n:Int)(r:Nat):codeFrom X0 c5 TB r 32 q3 gw (fr2 n) (mR ⟨fq,aB,au,aI,lab,opn,bp,aM,aR,aF,ay⟩ ⟨a0,iC,aC,sz,op,aL,args,data,xx,dM,e0,f0⟩)=CP ⟨fq,aB,au,aI,lab,opn,bp,aM,aR,aF,ay⟩ ⟨a0,iC,aC,sz,op,aL,args,data,xx,dM,e0,f0⟩ n:=by kernel_rfl
def okX (x:RS):Bool:=Nat.ble x.lab.length 1000000&&(eL x.x&&(eL x.ai&&(oL x.args&&(JQ x.data&&((!bI x.aC 2||(Ct x.sz&&Nat.ble 1 x.data.length))&&((!bI x.aC 8||Ct x.sz)&&(!bI x.aC 9||Nat.ble x.data.length 3)))))))
structure Tg (x:RS):Prop where
 lab:x.lab.length<=1000000
 ex:eL x.x=true
 ai:eL x.ai=true
 args:oL x.args=true
 data:JQ x.data=true
 k2:x.aC=2->Ct x.sz=true/\1<=x.data.length
 k8:x.aC=8->Ct x.sz=true
 k9:x.aC=9->x.data.length<=3
theorem Yb {x:RS}(h:okX x=true):Tg x:=by
 unfold okX at h;simp only[ak,cJ,aS]at h;obtain⟨h1,h2,h3,h4,h5,h6,h7,h8⟩:=h;have ne:∀k:Int,x.aC=k->bI x.aC k=true:=λk hk=>by rw[eT];simp[hk]
 refine⟨az h1,h2,h3,h4,h5,λhk=>?_,λhk=>?_,λhk=>?_⟩
 .rcases h6 with h6|h6
  .rw[ne 2 hk]at h6;cases h6
  exact⟨h6.1,az h6.2⟩
 .rcases h7 with h7|h7
  .rw[ne 8 hk]at h7;cases h7
  exact h7
 rcases h8 with h8|h8
 .rw[ne 9 hk]at h8;cases h8
 exact az h8
theorem Tg.b {x:RS}(h:Tg x):okX x=true:=by
 unfold okX;rw[ee h.lab,h.ex,h.ai,h.args,h.data];have e2:(!bI x.aC 2||(Ct x.sz&&Nat.ble 1 x.data.length))=true:=by
  by_cases hk:x.aC=2
  .obtain ⟨a,b⟩:=h.k2 hk;rw[a,ee b];simp
  rw[xI hk];rfl
 have e8:(!bI x.aC 8||Ct x.sz)=true:=by
  by_cases hk:x.aC=8
  .rw[h.k8 hk];simp
  rw[xI hk];rfl
 have e9:(!bI x.aC 9||Nat.ble x.data.length 3)=true:=by
  by_cases hk:x.aC=9
  .rw[ee (h.k9 hk)];simp
  rw[xI hk];rfl
 rw[e2,e8,e9];rfl
theorem vq {s:SS}(h:Fw s=true){g:Bool}(hg:g=true)(r:SR')(k:SS->Int->OG):Ya s g r k=k r.1 r.2:=by
 unfold Ya;rw[qO,h,hg];rfl
theorem ge0 {n:Int}(h:0<=n):(!bB n 0)=true:=by rw[fG (by omega)];rfl
theorem ahd {s:SS}(hs:Fw s=true){x:RS}(hx:Tg x){n:Int}(hn:0<=n):CP s x n=eF [] (yo iM gS pK s x n):=by
 have hsc:=rY (mq hs).1;have hl:=hx.lab;unfold CP yo;simp only[ck];by_cases h1:x.aC=1
 .rw[ag h1,ag h1,vq hs (by rw[hx.args,ge0 hn];rfl)];rfl
 rw[aa h1,aa h1];by_cases h2:x.aC=2
 .obtain ⟨a,b⟩:=hx.k2 h2;rw[ag h2,ag h2,vq hs (by rw[a,hx.data,ee b,ge0 hn];rfl)];rfl
 rw[aa h2,aa h2];by_cases h3:x.aC=3
 .rw[ag h3,ag h3,vq hs (by rw[ee hx.lab,hx.ex];rfl)];rfl
 rw[aa h3,aa h3];by_cases h4:x.aC=4
 .rw[ag h4,ag h4,vq hs hx.ex];rfl
 rw[aa h4,aa h4];by_cases h5:x.aC=5
 .rw[ag h5,ag h5,vq hs hx.ex];rfl
 rw[aa h5,aa h5];by_cases h6:x.aC=6
 .rw[ag h6,ag h6,ze,Jz (by omega)];rfl
 rw[aa h6,aa h6];by_cases h7:x.aC=7
 .rw[ag h7,ag h7,vq hs rfl];rfl
 rw[aa h7,aa h7];by_cases h8:x.aC=8
 .rw[ag h8,ag h8,vq hs (by rw[hx.ex,hx.k8 h8,ge0 hn];rfl)];rfl
 rw[aa h8,aa h8];by_cases h9:x.aC=9
 .rw[ag h9,ag h9,vq hs (by rw[hx.data,ee (hx.k9 h9),ge0 hn];rfl)];rfl
 rw[aa h9,aa h9];rfl
theorem abG {s:SS}{x:RS}{q:Int}{k next:OG}:Pe s x q k next=if x.aC=q then uD s 8 else next:=by
 unfold Pe;rw[ck,ck];split<;>rfl
theorem ahe {s:SS}{x:RS}{k:OG}:xh s x k=if aax s x=false then uD s 8 else k:=by
 unfold xh aax ahc;rw[av];simp only[abG,ck,cX];cases ho:s.opn with
 |false =>
  show ah (!(!bI x.aC 7)) _ _=_;rw[Bool.not_not,ck];by_cases h7:x.aC=7
  .rw[ag h7,bf h7];rfl
  rw[aa h7,aU h7];rfl
 |true =>
  show (if x.aC=1 then _ else _)=_;by_cases h1:x.aC=1
  .simp[h1]
  by_cases h2:x.aC=2
  .simp[h2]
  by_cases h4:x.aC=4
  .simp[h4]
  by_cases h5:x.aC=5
  .simp[h5]
  by_cases h9:x.aC=9
  .simp[h9]
  by_cases h6:x.aC=6
  .simp[h6]
  simp only[h1,h2,h4,h5,h9,h6,or_false,dY];by_cases ht:x.ai=[]
  .rw[ag (by rw[ht];rfl)];simp[ht]
  have:¬(x.ai.length:Int)=0:=λq=>ht (aQ.1 (by omega))
  rw[aa this];simp[ht]
theorem abH {s:SS}(hs:Fw s=true){x:RS}(hx:Tg x){n:Int}(hn:0<=n):xh s x (CP s x n)=eF [] (wZ iM gS pK s x n):=by
 rw[ahe,ahd hs hx hn];unfold wZ;split<;>rfl
theorem ahf {s:SS}(hs:Fw s=true){x:RS}(hx:Tg x){k:Int->OG}(hk:∀n,0<=n->k n=eF [] (wZ iM gS pK s x n)):MB s x k=eF [] (qY iM gS pK s x):=by
 unfold MB qY pH cnT;rw[cG];by_cases ht:x.ai=[]
 .rw[aa (by rw[ht];decide),ag ht];exact hk 1 (by decide)
 have h0:¬(x.ai.length:Int)=0:=λq=>ht (aQ.1 (by omega))
 rw[ag (by omega),aa ht,qO,(mq hs).1,hx.ai];show ah (bI (cQ iM gS s x.ai).2 0) _ _=_;rw[ck,cG,cX];by_cases h1:(cQ iM gS s x.ai).2=0
 .rw[ag h1,ag h1,aa (show ¬(cQ iM gS s x.ai).2≠0 from λq=>q h1)];by_cases h2:(cQ iM gS s x.ai).1<0
  .rw[ag h2];show _=eF [] (if _ then _ else _);rw[ag h2];rfl
  rw[aa h2];show _=eF [] (if _ then _ else _);rw[aa h2];exact hk _ (by omega)
 rw[aa h1,aa h1,ag h1];rfl
theorem Th {s:SS}(hs:s.au.length<=20000){q b t:Int}{l:List It}(hl:(l.length:Int)=q)(h1:1<=q)(t0:0<=t):(kz s q b t l).1.au.length<=20000:=by
 unfold kz;by_cases ht:Int.tdiv (20000-(s.au.length:Int)) q<t
 .rw[ag ⟨by omega,ht⟩];exact hs
 rw[aa (λh=>ht h.2)];split
 .exact hs
 have h3:=dx (show t<=Int.tdiv (20000-(s.au.length:Int)) q by omega) (show (0:Int)<=q by omega);rw[dc (by omega)]at h3;have h4:=iP (x:=20000-(s.au.length:Int)) (k:=q) (by omega);have h5:(((List.replicate t.toNat l).flatten.length:Nat):Int)=t*q:=by
  rw[List.length_flatten,List.map_replicate,List.sum_replicate_nat,jC,hl,Int.toNat_of_nonneg t0]
 have h6:t*q=q*t:=oo _ _;show (s.au++(List.replicate t.toNat l).flatten).length<=20000;rw[aA];omega
theorem Ti {s:SS}(h0:0<=s.aF)(h1:s.aF<=1048576){q b t:Int}{l:List It}(b0:0<=b)(t0:0<=t):0<=(kz s q b t l).1.aF/\(kz s q b t l).1.aF<=1048576:=by
 unfold kz;split
 .exact ⟨h0,h1⟩
 by_cases ht:0<b/\Int.tdiv (1048576-s.aF) b<t
 .rw[ag ht];exact⟨h0,h1⟩
 rw[aa ht];show 0<=s.aF+b*t/\s.aF+b*t<=1048576;have hm:=mH b0 t0;by_cases hb:0<b
 .have ht':t<=Int.tdiv (1048576-s.aF) b:=Int.not_lt.1 λq=>ht ⟨hb,q⟩
  have h3:=dx ht' b0;rw[dc (by omega)]at h3;have h4:=iP (x:=1048576-s.aF) (k:=b) (by omega);omega
 have:b=0:=by omega
 rw[this,Int.zero_mul];omega
theorem ahg {s:SS}(h0:0<=s.aF)(h1:s.aF<=1048576):okB s=true:=by
 unfold okB;rw[fG (a:=s.aF) (b:=0) (by omega),fG (a:=1048576) (by omega)];rfl
theorem ahh {s:SS}(h0:0<=s.aM)(h1:s.aM<=1000000000000000):okG s=true:=by
 unfold okG;rw[fG (a:=s.aM) (b:=0) (by omega),fG (a:=1000000000000000) (by omega)];rfl
theorem ahi {s:SS}(h1:zj s=true)(h2:okB s=true)(h3:okG s=true):Fw s=true:=by
 unfold Fw;rw[h1,h2,h3];rfl
structure uG (s:SS)(n:Nat)(g:Int)(w:Nat):Prop where
 kn:knB s=true
 lab:s.lab.length<=w
 bp:s.bp.length<=2*w
 aB:s.aB.length<=n
 au:s.au.length<=20000
 b0:0<=s.aF
 b1:s.aF<=1048576
 g0:0<=s.aM
 g1:s.aM<=g
theorem uG.a {s:SS}{n:Nat}{g:Int}{w:Nat}(h:uG s n g w)(hn:n<=1000000)(hg:g<=1000000000000000)(hw:w<=500000):Fw s=true:=by
 have h1:=h.lab;have h2:=h.bp;have h3:=h.aB;have h4:=h.g1;exact ahi (X3 h.kn (by omega) (by omega) (by omega) h.au) (ahg h.b0 h.b1) (ahh h.g0 (by omega))
theorem Pf {s:SS}{n:Nat}{g:Int}{w:Nat}(h:uG s n g w)(v:List UInt8)(k:Int):uG (CN s v k) (n+1) g w:=by
 have h3:=h.aB;refine⟨?_,h.lab,h.bp,by show (s.aB++_).length<=_;rw[aA];show _+1<=_;omega,h.au,h.b0,h.b1,h.g0,h.g1⟩;show ((fk s.aI v ((s.aB.length+1:Nat):Int)).all λq=>Nat.ble q.2.toNat (s.aB++[(v,k,false)]).length)=true;exact JD h.kn v (by rw[aA];omega) (by rw[aA];show _<=s.aB.length+1;omega)
theorem BX {s:SS}{n:Nat}{g:Int}{w:Nat}(h:uG s n g w){q b t:Int}{l:List It}(hl:(l.length:Int)=q)(h1:1<=q)(b0:0<=b)(t0:0<=t):uG (kz s q b t l).1 n g w:=by
 have hi:=Th h.au (b:=b) hl h1 t0;obtain⟨hb,hb'⟩:=Ti h.b0 h.b1 (q:=q) (l:=l) b0 t0;have e:(kz s q b t l).1={ s with aF:=(kz s q b t l).1.aF,au:=(kz s q b t l).1.au }:=by
  unfold kz;split
  .rfl
  split<;>rfl
 rw[e];exact⟨h.kn,h.lab,h.bp,h.aB,hi,hb,hb',h.g0,h.g1⟩
theorem Fx {s:SS}{n m:Nat}{g g':Int}{w:Nat}{v:List UInt8}{K:SR'}(h:uG s m g' w)(hK:uG K.1 m g' w):uG (qX s v K).1 m g' w:=by
 unfold qX;split
 .exact h
 exact hK
theorem uG.up {s:SS}{n m:Nat}{g g':Int}{w:Nat}(h:uG s n g w)(h1:n<=m)(h2:g<=g'):uG s m g' w:=by
 have h3:=h.aB;have h4:=h.g1;exact⟨h.kn,h.lab,h.bp,by omega,h.au,h.b0,h.b1,h.g0,by omega⟩
theorem Yc {s:SS}{n:Nat}{g:Int}{w:Nat}(h:uG s n g w){v:List UInt8}(hv:v.length<=w):uG (Aq s v).1 (n+1) g w:=by
 unfold Aq;refine Fx (n:=n) (g:=g) (h.up (fC _) (bx _)) ?_;split
 .exact Pf h _ _
 refine(BX (n:=n) (q:=1) (b:=0) (t:=1) ?_ rfl (by decide) (by decide) (by decide)).up (fC _) (bx _);refine⟨JD h.kn _ (aG _) (cq _),?_,h.bp,h.aB,h.au,h.b0,h.b1,h.g0,h.g1⟩;show (if v.take 1=[46] then s.lab else v).length<=w;split
 .exact h.lab
 exact hv
theorem abI {s:SS}{n:Nat}{g:Int}{w:Nat}(h:uG s n g w)(hn:n<1000000)(hg:g<=1000000000000000)(hw:w<=500000){x:RS}(hx:Tg x)(hv:x.lab.length<=w) :
 aT X0 c5 TB 5 32 [.ptr 0 0,.agg (I1 x)] (eS 2 (vp s [])) gw=eF [] (lD iM gS pK s x):=by
 have kd:∀s n,codeFrom X0 c5 TB 5 32 q3 gw (fr2 n) (mR s x)=CP s x n:=λs n=>by cases s;cases x;exact Ew ..
 have kc:∀s n,codeFrom X0 c5 TB 5 32 q2 gw (fr2 n) (mR s x)=xh s x (CP s x n):=λs n=>by
  rw[ur (q:=[]) (by kernel_rfl),<-kd];cases s;cases x;exact ak5 ..
 have kb:∀s,codeFrom X0 c5 TB 5 32 q1 gw fr1 (mR s x)=MB s x λn=>xh s x (CP s x n):=λs=>by
  rw[ur (q:=[true]) (by kernel_rfl)];have e:(λn=>xh s x (CP s x n))=λn=>codeFrom X0 c5 TB 5 32 q2 gw (fr2 n) (mR s x):=funext λn=>(kc s n).symm
  rw[e];cases s;cases x;exact ak4 ..
 have ka:aT X0 c5 TB 5 32 [.ptr 0 0,.agg (I1 x)] (eS 2 (vp s [])) gw=ahb s x λs'=>MB s' x λn=>xh s' x (CP s' x n):=by
  rw[EB (p:=q1) (by kernel_rfl)];have e:(λs'=>MB s' x λn=>xh s' x (CP s' x n))=λs'=>codeFrom X0 c5 TB 5 32 q1 gw fr1 (mR s' x):=funext λs'=>(kb s').symm
  rw[e];cases s;cases x;exact ak3 ..
 have ha:=h.a (by omega) hg hw;have ht:∀s',Fw s'=true->MB s' x (λn=>xh s' x (CP s' x n))=eF [] (qY iM gS pK s' x):=λs' hs'=>ahf hs' hx λn hn=>abH hs' hx hn
 rw[ka];unfold ahb lD;rw[vq ha (ee hx.lab)];have h0':(λs'=>MB s' x λn=>xh s' x (CP s' x n)) s=eF [] (qY iM gS pK s x):=ht s ha;rw[h0'];by_cases h1:x.lab=[]
 .rw[bf h1,aa (λq=>q.1 h1)];rfl
 rw[aU h1];show ah (!bI x.aC 3) _ _=_;rw[cX,cX];by_cases h3:x.aC=3
 .rw[ag h3,aa (λq=>q.2.1 h3)]
 rw[aa h3];by_cases h6:x.aC=6
 .rw[ag h6,aa (λq=>q.2.2 h6)]
 rw[aa h6,ag ⟨h1,h3,h6⟩,cX];by_cases h0:(Aq s x.lab).2=0
 .rw[ag h0,aa (λq=>q h0)];exact ht _ ((Yc h hv).a (by omega) hg hw)
 rw[aa h0,ag h0];rfl
end
end Go.Proofs.YtfggompceldfgaaGreatDoor.ps.sr

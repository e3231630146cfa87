/- Sources: what lines do, as it runs: data, dcx. Sources: what lines do: the runs come to the plain functions. Sources: what lines do: contracts. Sources: a line read, as it runs. Sources: a line read: the contract. -/
import Derived.Test.YtbeckacfibledaaGreatDoorGxc
import Derived.Test.YtbeckacfibledaaGreatDoorGrf
set_option linter.unusedVariables false
set_option linter.unusedSimpArgs false

namespace Go.Proofs.YtbeckacfibledaaGreatDoor.ps.sr
open Go.Tv Go.Ev Go.Px Go.Pp Go.Proofs.YtbeckacfibledaaGreatDoor.ex
set_option maxRecDepth 100000
noncomputable section
def ny (re im n:Int):List Int×Int:=(sp.pwF re im n,if sp.JZ re im n=true then 5 else 0)
def fPw (args:List AV):Option (Bool×List AV) :=
 match args with
 |[.int .i64 re,.int .i64 im,.int .i64 n]=>some (true,[.dH (.int .u8) (ny re im n).1,.int .i64 (ny re im n).2])
 |_=>none
theorem PF:gq X0 fR 94 ⟨none,[none,none,none],gV fPw⟩:=by
 intro ins outs rs hg hlen;clear hlen;have hg:gV fPw ins=some (true,outs,rs):=hg;unfold gV at hg;split at hg;case h_2=>cases hg
 rename_i vs hv;split at hg;case h_2=>cases hg
 rename_i c ws hf;simp only[aq,ax]at hg;obtain⟨rfl,_,rfl⟩:=hg;obtain rfl:=qL hv;clear hv;unfold fPw at hf;split at hf;case h_2=>cases hf
 rename_i re im n;simp only[aq,ax]at hf;obtain⟨_,rfl⟩:=hf;obtain⟨vs,H1,h1,h2⟩:=sp.PG [.int .i64 re,.int .i64 im,.int .i64 n] _ rfl;have hrun:CS X0 fR 94 [.int .i64 re,.int .i64 im,.int .i64 n] aG.empty vs H1:=h1
 match vs,h2 with
 |[v,w],h2 =>
  obtain⟨_,h2⟩:=h2;rcases h2 with⟨id,gw,ex,rfl,hg,_,h3⟩|⟨rfl,hl,h3⟩
  .obtain ⟨rfl,_,_⟩:=h3;have hs:o6 H1 [.val .jY,.val .jY] [.own id (ny re im n).1.length,.int .i64 (ny re im n).2]=some ([.dH (.int .u8) (ny re im n).1,.int .i64 (ny re im n).2],H1.put id (.list 5 (.int .u8) (ny re im n).1 gw ex true)):=by
    unfold o6;have e:jq H1 [.own id (ny re im n).1.length]=some ([.dH (.int .u8) (ny re im n).1],H1.put id (.list 5 (.int .u8) (ny re im n).1 gw ex true)):=by
     unfold jq;have hg:H1.get id=some (.list 5 (.int .u8) (ny re im n).1 gw ex false):=hg;rw[hg];rfl
    simp only[e];rfl
   exact⟨_,_,hrun.Ww hs,rfl,rfl,rfl,rfl,trivial⟩
  obtain⟨rfl,_,_⟩:=h3;refine⟨[.dH (.int .u8) (ny re im n).1,.int .i64 (ny re im n).2],H1,λS E bK hr hgl hl'=>?_,rfl,rfl,rfl,rfl,trivial⟩;obtain⟨S',vE,E',a1,⟨xs,rfl,a2⟩,a3,a4⟩:=hrun S E bK hr hgl hl';obtain⟨x,m,rfl,k1,k2⟩:=a2.cons_inv;have hl:(ny re im n).1=[]:=hl;rw[hl];exact⟨S',_,E',a1,⟨_,rfl,LV.cons (Js (some (.int .u8)) k1) k2⟩,a3,a4⟩
def pDa:List Bool:=[true,true,true,false,true,false]
def abS:ez:=⟨gZ [3,4,7,2,8,16,17,18] pDa,.none,[]⟩
def mDa (s:SS)(x:RS)(c:List UInt8):aG:=eT 2 [.cells 70 (Y9 1 5 6 s.aH.length s.av.length s),.mp 68 s.aI,PE 0,ML x,scR c,.list 59 iz s.aH 0 false false,.list 52 rO s.av 0 false false]
def Yl (s:SS)(x:RS)(c:List UInt8)(ai:Int)(r m:Nat)(by' len i:Int):OG:=iH X0 (cV S1 N2 G4 _) abS r 47 pDa gy m (lq 56 [(3,.ptr 2 0),(4,.ptr 3 0),(7,.ptr 4 0),(2,.int .i64 ai),(8,.int .i64 by'),(16,.dH Fc x.data),(17,.int .i64 len),(18,.int .i64 i)]) (mDa s x c)
def stepDa' (s:SS)(x:RS)(c:List UInt8)(ai by' len i:Int)(J:Int->OG):OG :=
 ah (bB i len) (s6 x.data i λy=>ah (bI (y.2.length:Int) 0) (ah (bI x.sz 0) none (J (IntKind.wrap .i64 (by'+X6 y.1.length x.sz))))
  (ah (Nat.ble c.length 2000000&&ep y.2) (ah (!(dc c y.2).2) (jc [] s 3) (J (IntKind.wrap .i64 (by'+x.sz)))) none))
  (TI s (Nat.ble c.length 2000000&&(CC x.sz&&(Kb x.data&&Nat.ble 1 x.data.length))) x.data.length x.data.length by' ai (it3 s.az x c))
theorem Ym (a0:Int)(iF:List UInt8)(aF sz op aM:Int)(args:List Raw)(data:List Dt)(xx dO:List Nd)(e0 f0:Int)(c:List UInt8)(fJ:Int)(aH:List Sy)(av:List It)(aI:List (List UInt8×Int))(lab:List UInt8)(opn:Bool)(bp:List UInt8)(aN:Int)(aR:Bool)(aD az:Int)(ai:Int)(r m:Nat)(by' len i:Int) :
 Yl ⟨fJ,aH,av,aI,lab,opn,bp,aN,aR,aD,az⟩ ⟨a0,iF,aF,sz,op,aM,args,data,xx,dO,e0,f0⟩ c ai r (m+1) by' len i =
 stepDa' ⟨fJ,aH,av,aI,lab,opn,bp,aN,aR,aD,az⟩ ⟨a0,iF,aF,sz,op,aM,args,data,xx,dO,e0,f0⟩ c ai by' len i λb=>Yl ⟨fJ,aH,av,aI,lab,opn,bp,aN,aR,aD,az⟩ ⟨a0,iF,aF,sz,op,aM,args,data,xx,dO,e0,f0⟩ c ai r m b len (IntKind.wrap .i64 (i+1)):=by kernel_rfl
theorem abT (a0:Int)(iF:List UInt8)(aF sz op aM:Int)(args:List Raw)(data:List Dt)(xx dO:List Nd)(e0 f0:Int)(fJ:Int)(aH:List Sy)(av:List It)(aI:List (List UInt8×Int))(lab:List UInt8)(opn:Bool)(bp:List UInt8)(aN:Int)(aR:Bool)(aD az:Int)(ai:Int)(r:Nat) :
 aT X0 (cV S1 N2 G4 _) abS r 47 [.ptr 0 0,.agg (Jj ⟨a0,iF,aF,sz,op,aM,args,data,xx,dO,e0,f0⟩),.int .i64 ai] (eT 2 (vA ⟨fJ,aH,av,aI,lab,opn,bp,aN,aR,aD,az⟩ [])) gy =
 Tk ⟨fJ,aH,av,aI,lab,opn,bp,aN,aR,aD,az⟩ λc=>Yl ⟨fJ,aH,av,aI,lab,opn,bp,aN,aR,aD,az⟩ ⟨a0,iF,aF,sz,op,aM,args,data,xx,dO,e0,f0⟩ c ai r r 0 data.length 0:=by kernel_rfl
def N3:List pI:=(94,⟨none,[none,none,none],gV fPw⟩)::N2
theorem adM:gR X0 fR N3:=.cons PF uB
def pDx:List Bool:=[true,true,false,true,false]
def abU:ez:=⟨gZ [3,4,7,2,16,17,18] pDx,.none,[]⟩
def mDx (s:SS)(x:RS)(v0 v1 v2:Int):aG:=eT 2 [.cells 70 (Y9 1 5 6 s.aH.length s.av.length s),.mp 68 s.aI,PE 0,ML x,.cells 126 [.int .i64 v0,.int .i64 v1,.int .i64 v2],.list 59 iz s.aH 0 false false,.list 52 rO s.av 0 false false]
def Rw (s:SS)(x:RS)(ai:Int)(r m:Nat)(v0 v1 v2 len i:Int):OG:=iH X0 (cV S1 N3 G4 _) abU r 55 pDx gy m (lq 56 [(3,.ptr 2 0),(4,.ptr 3 0),(7,.ptr 4 0),(2,.int .i64 ai),(16,.dH Fc x.data),(17,.int .i64 len),(18,.int .i64 i)]) (mDx s x v0 v1 v2)
def MP (s:SS)(ai:Int)(q:List Int×Int):OG:=ah (!bI q.2 0) (jc [] s q.2) (TI s (Nat.ble q.1.length 2000000) 1 1 q.1.length ai (it6 s.az q.1))
def MQ (s:SS)(x:RS)(ai:Int)(v0 v1 v2 len i:Int)(J:Int->Int->Int->OG):OG :=
 ah (bB i len) (s6 x.data i λy=>ah (Yc s.aH.length s.av.length&&(zq s&&ep y.2)) (ah (!bI (cS gJ fS s y.2).2 0) (jc [] s (cS gJ fS s y.2).2)
  (ah (bI i 0) (J (cS gJ fS s y.2).1 v1 v2) (ah (bI i 1) (J v0 (cS gJ fS s y.2).1 v2) (ah (bI i 2) (J v0 v1 (cS gJ fS s y.2).1) none)))) none)
  (MP s ai (ny v0 v1 v2))
theorem ahE (a0:Int)(iF:List UInt8)(aF sz op aM:Int)(args:List Raw)(data:List Dt)(xx dO:List Nd)(e0 f0:Int)(fJ:Int)(aH:List Sy)(av:List It)(aI:List (List UInt8×Int))(lab:List UInt8)(opn:Bool)(bp:List UInt8)(aN:Int)(aR:Bool)(aD az:Int)(ai:Int)(r m:Nat)(v0 v1 v2 len i:Int) :
 Rw ⟨fJ,aH,av,aI,lab,opn,bp,aN,aR,aD,az⟩ ⟨a0,iF,aF,sz,op,aM,args,data,xx,dO,e0,f0⟩ ai r (m+1) v0 v1 v2 len i =
 MQ ⟨fJ,aH,av,aI,lab,opn,bp,aN,aR,aD,az⟩ ⟨a0,iF,aF,sz,op,aM,args,data,xx,dO,e0,f0⟩ ai v0 v1 v2 len i λa b c=>Rw ⟨fJ,aH,av,aI,lab,opn,bp,aN,aR,aD,az⟩ ⟨a0,iF,aF,sz,op,aM,args,data,xx,dO,e0,f0⟩ ai r m a b c len (IntKind.wrap .i64 (i+1)):=by kernel_rfl
theorem abV (a0:Int)(iF:List UInt8)(aF sz op aM:Int)(args:List Raw)(data:List Dt)(xx dO:List Nd)(e0 f0:Int)(fJ:Int)(aH:List Sy)(av:List It)(aI:List (List UInt8×Int))(lab:List UInt8)(opn:Bool)(bp:List UInt8)(aN:Int)(aR:Bool)(aD az:Int)(ai:Int)(r:Nat) :
 aT X0 (cV S1 N3 G4 _) abU r 55 [.ptr 0 0,.agg (Jj ⟨a0,iF,aF,sz,op,aM,args,data,xx,dO,e0,f0⟩),.int .i64 ai] (eT 2 (vA ⟨fJ,aH,av,aI,lab,opn,bp,aN,aR,aD,az⟩ [])) gy =
 Rw ⟨fJ,aH,av,aI,lab,opn,bp,aN,aR,aD,az⟩ ⟨a0,iF,aF,sz,op,aM,args,data,xx,dO,e0,f0⟩ ai r r 0 0 1 data.length 0:=by kernel_rfl
theorem zm {β:Type}(s:SS)(go:List UInt8->Option β):Tk s go=go (cn s):=by
 unfold Tk cn;cases s.opn<;>rfl
theorem J1 {s:SS}(h:knB s=true)(w:List UInt8){n:Int}{m:Nat}(hm:s.aH.length<=m)(hn:n.toNat<=m):((ia s.aI w n).all λq=>Nat.ble q.2.toNat m)=true:=by
 have:∀l:List (List UInt8×Int),(l.all λq=>Nat.ble q.2.toNat s.aH.length)=true->((ia l w n).all λq=>Nat.ble q.2.toNat m)=true:=by
  intro l;induction l with
  |nil=>intro _;show (Nat.ble n.toNat m&&true)=true;rw[dS hn];rfl
  |cons q l ih =>
   intro hl;rw[bW,ak]at hl;rw[ia,au];have hr:(l.all λq=>Nat.ble q.2.toNat m)=true:=aK.2 λq' hq'=>dS (br (ay (aK.1 hl.2 q' hq')) hm)
   split
   .rw[bW,hr];show (Nat.ble n.toNat m&&true)=true;rw[dS hn];rfl
   rw[bW,ih hl.2,dS (br (ay hl.1) hm)];rfl
 exact this s.aI h
theorem Yn {s:SS}(h1:knB s=true)(h2:s.lab.length<=1000000)(h3:s.bp.length<=1000000)(h4:s.aH.length<=1000000)(h5:s.av.length<=20000):zq s=true:=by
 unfold zq ag8;rw[h1,dS h2,dS h3,dS h4,dS h5];rfl
theorem B5 {s:SS}{a q b ai:Int}(h1:zq s=true)(h2:okB s=true)(h3:q=a)(h4:0<=b)(h5:b<=1000000000000)(h6:0<=ai):HS s a q b ai=true:=by
 unfold HS;rw[h1,h2,h3,fH (a:=b) (b:=0) (by omega),fH (a:=1000000000000) (by omega),fH (a:=ai) (b:=0) (by omega),eF];simp
theorem Ds {s:SS}{g:Bool}(hg:g=true){a q b ai:Int}(h:HS s a q b ai=true)(l:List It):TI s g a q b ai l=eH [] (ko s q b ai l):=by
 unfold TI;rw[qN,hg,h];rfl
theorem MR {s:SS}{a q b ai:Int}(h:HS s a q b ai=true)(l:List It):MO s a q b ai l=eH [] (ko s q b ai l):=by
 unfold MO;rw[qN,h];rfl
theorem PJ (s:SS)(w:List UInt8){go:OG}{K:SR'}(h:go=eH [] K):frT s w go=eH [] (pL s w K):=by
 unfold frT pL;rw[au,cF,h];by_cases h1:qQ s.aI w=true
 .have e:xm s w=7:=by unfold xm;rw[ag h1]
  rw[ag h1,e,ag (by decide)];rfl
 by_cases h2:60<w.length
 .have e:xm s w=3:=by unfold xm;rw[aa h1,ag h2]
  rw[aa h1,ag (by omega),e,ag (by decide)];rfl
 have e:xm s w=0:=by unfold xm;rw[aa h1,aa h2]
 rw[aa h1,aa (by omega),e,aa (by decide)]
theorem Yo {s:SS}(h:s.aH.length<=1000000)(w:List UInt8)(n:Int):syT s w n=eH [] (JO s w n,0):=sV h _
theorem Rx {s:SS}(hs:zq s=true){x:List Nd}(hx:ep x=true){go:Int->OG}{K:Int->SR'}(h:∀n,go n=eH [] (K n)):kT s x go=eH [] (nY gJ fS s x K):=by
 unfold kT nY;rw[qN,hs,hx];show ah _ _ _=_;rw[cw];by_cases h0:(cS gJ fS s x).2=0
 .rw[ag h0,aa (by simp[h0]),h];rfl
 rw[aa h0,ag h0];rfl
def okG (s:SS):Bool := !bB s.aN 0 && !bB 1000000000000000 s.aN
theorem MS {s:SS}(h:okG s=true):0<=s.aN/\s.aN<=1000000000000000:=by
 unfold okG at h;rw[cA,cA]at h;simp at h;omega
theorem ahF {c w:List UInt8}:(gx c w).length<=c.length+w.length:=by
 unfold gx;split
 .rw[aA];exact aC _
 omega
theorem ahG {s:SS}(hs:zq s=true)(hb:okB s=true){w:List UInt8}(hw:w.length<=1000000):labT' s w=eH [] (yf s w):=by
 have hsc:=rZ hs;obtain⟨k1,⟨k2,k3⟩,k4,k5⟩:=sR hs;unfold labT' yf;rw[zm,JX (by omega)];refine PJ s _ ?_;rw[au];by_cases ho:s.opn=true
 .rw[ag ho,ag ho];exact Yo k4 _ _
 rw[aa ho,aa ho];have key:∀L:List UInt8,L.length<=1000000->MO { s with lab:=L,aI:=ia s.aI (gx (cn s) w) 0 } 1 1 0 1 (it1 s.az (gx (cn s) w))=eH [] (ko { s with lab:=L,aI:=ia s.aI (gx (cn s) w) 0 } 1 0 1 [itL s (gx (cn s) w)]):=λL hL =>
  MR (a:=1) (q:=1) (b:=0) (ai:=1) (B5 (Yn (s:={ s with lab:=L,aI:=ia s.aI (gx (cn s) w) 0 }) (J1 k1 (gx (cn s) w) (n:=0) (aC _) (ck _)) hL k3 k4 k5) hb rfl (by decide) (by decide) (by decide)) _
 unfold lt.preB;by_cases hp:w.take 1=[46]
 .rw[ag hp,show (decide (w.take ([46]:List UInt8).length=[46]))=true from aX hp];exact key _ k2
 rw[aa hp,show (decide (w.take ([46]:List UInt8).length=[46]))=false from aU hp];exact key _ hw
theorem abW {s:SS}(hs:zq s=true)(hb:okB s=true){x:RS}(hx:nZ x.args=true){ai:Int}(ht:0<=ai):Rs s x.op x.aM x.args ai=eH [] (AA s x ai):=by
 have hsc:=rZ hs;unfold Rs AA;rw[zm,dS (by omega),hx];show ah _ _ _=_;cases hn:(JN (cn s) x.args).2 with
 |false=>rw[ag rfl];rfl
 |true =>
  rw[aa (by decide)];exact Ds rfl (B5 hs hb rfl (by decide) (by decide) ht) _
theorem ahH {s:SS}(hs:zq s=true){x:RS}(hw:x.lab.length<=1000000)(hx:ep x.x=true):abJ s x=eH [] (Xt gJ fS s x):=by
 have hsc:=rZ hs;obtain⟨_,_,k4,_⟩:=sR hs;unfold abJ Xt;rw[zm,JX (by omega)];exact PJ s _ (Rx hs hx λn=>Yo k4 _ _)
theorem ahI {s:SS}(hs:zq s=true):endT' s=eH [] (Xu s):=by
 obtain⟨_,⟨_,k3⟩,k4,_⟩:=sR hs;unfold endT' Xu;have e:s.bp.length+Cz.length<=9223372036854775807:=by
  have:Cz.length=5:=rfl;omega
 rw[dS e];exact PJ s _ (sV k4 _)
theorem ahJ {s:SS}(hs:zq s=true){x:RS}(hx:ep x.x=true):abK s x=eH [] (Xv gJ fS s x):=by
 unfold abK Xv;refine Rx hs hx λn=>?_
 show ah s.aR _ (ah _ _ (ah _ _ (ah _ _ _)))=_;rw[au,cF,cF,cF];by_cases h1:s.aR=true
 .rw[ag h1,ag (.inl h1)];rfl
 rw[aa h1];by_cases h2:(0:Int)<(s.av.length:Int)
 .rw[ag h2,ag (.inr λe=>by rw[e]at h2;exact absurd h2 (by decide))];rfl
 have h3:s.av=[]:=aQ.1 (by omega);have e1:¬(s.aR=true\/s.av≠[]):=λq=>q.elim h1 λq=>q h3
 rw[aa h2,aa e1];by_cases h4:n<0
 .rw[ag h4,ag (.inl h4)];rfl
 rw[aa h4];by_cases h5:140737488355328<n
 .have e2:n<0\/140737488355328<n:=.inr h5;rw[ag h5,ag e2];rfl
 have e2:¬(n<0\/140737488355328<n):=λq=>q.elim h4 h5
 rw[aa h5,aa e2];rfl
def apS:Bool:=(List.range 4096).all λk=>(bI (ahv ((k+1:Nat):Int)) 0)==pow2 ((k+1:Nat):Int)
theorem TN:apS=true:=by kernel_rfl
theorem pow_eq {n:Int}(h1:1<=n)(h2:n<=4096):bI (ahv n) 0=pow2 n:=by
 obtain⟨k,rfl⟩:∃k:Nat,n=((k+1:Nat):Int):=⟨n.toNat-1,by omega⟩;have:=aK.1 TN k (by rw[List.mem_range];omega);exact eq_of_beq this
theorem ahK {s:SS}(hs:zq s=true)(hb:okB s=true){x:RS}(hx:ep x.x=true):abL s x=eH [] (Fm gJ fS s x):=by
 unfold abL Fm;refine Rx hs hx λn=>?_
 rw[cF,cF];by_cases h1:n<1
 .rw[ag h1,ag (by unfold pow2;exact aU (by omega))];rfl
 rw[aa h1];by_cases h2:4096<n
 .rw[ag h2,ag (by unfold pow2;exact aU (by omega))];rfl
 rw[aa h2,pow_eq (by omega) (by omega)];cases hp:pow2 n with
 |false=>rw[ag rfl];rfl
 |true =>
  rw[aa (by decide)];exact MR (B5 hs hb rfl (by decide) (by decide) (by decide)) _
theorem ahL {s:SS}(hs:zq s=true)(hb:okB s=true)(hg:okG s=true){x:RS}(hx:ep x.x=true)(hz:CC x.sz=true){ai:Int}(ht:0<=ai):abM s x ai=eH [] (Xw gJ fS s x ai):=by
 have hz:=sS hz;obtain⟨g0,g1⟩:=MS hg;unfold abM Xw;refine Rx hs hx λn=>?_
 rw[cF];by_cases h1:n<0
 .rw[ag h1,ag h1];rfl
 rw[aa h1,aa h1,xT (by omega)];have hd:Int.tdiv 1048576 x.sz=1048576\/Int.tdiv 1048576 x.sz=524288\/Int.tdiv 1048576 x.sz=262144\/Int.tdiv 1048576 x.sz=131072:=by
  rcases hz with e|e|e|e<;>rw[e]<;>decide
 rw[i64_in (n:=Int.tdiv 1048576 x.sz) (by omega) (by omega)];show ah _ _ _=_;rw[cF];by_cases h2:Int.tdiv 1048576 x.sz<n
 .rw[ag h2,ag h2];rfl
 have h3:0<=n*x.sz/\n*x.sz<=1048576:=by
  rcases hz with e|e|e|e<;>rw[e]at h2 ⊢
  .have:Int.tdiv 1048576 1=1048576:=by decide
   omega
  .have:Int.tdiv 1048576 2=524288:=by decide
   omega
  .have:Int.tdiv 1048576 4=262144:=by decide
   omega
  have:Int.tdiv 1048576 8=131072:=by decide
  omega
 rw[aa h2,aa h2,i64_in (n:=n*x.sz) (by omega) (by omega),i64_in (n:=s.aN+n*x.sz) (by omega) (by omega),au];by_cases ho:s.opn=true
 .rw[ag ho,ag ho];rfl
 rw[aa ho,aa ho];refine(Ds (by rw[fH (a:=n*x.sz) (b:=0) (by omega),fH (a:=2000000) (by omega)];rfl) (B5 hs hb rfl h3.1 (by omega) ht) _).trans ?_;unfold it5 itB;rw[abC]
theorem Yp {sz:Int}(hz:sz=1\/sz=2\/sz=4\/sz=8){d:Dt}(hd:d.1.length<=1000000):0<=Q8 sz d/\Q8 sz d<=1000007:=by
 unfold Q8;split
 .have:=AK (n:=d.1.length) hz;omega
 omega
theorem ahM {s:SS}(hs:zq s=true)(hb:okB s=true){x:RS}(hz:CC x.sz=true)(hd:Kb x.data=true)(h1:1<=x.data.length){ai:Int}(ht:0<=ai)(r:Nat):∀(rest pre:List Dt) (m:Nat) (b:Int),x.data=pre++rest->rest.length<m->0<=b->b<=1000007*(pre.length:Int) ->
 Yl s x (cn s) ai r m b x.data.length pre.length=eH [] (if rest.all (λd=>decide (d.2=[])||(dc (cn s) d.2).2)=false then (s,3) else ko s x.data.length (rest.foldl (λn d=>n+Q8 x.sz d) b) ai (x.data.map (dtC s x.sz))):=by
 have hsc:=rZ hs;have hz':=sS hz;obtain⟨d1,d2⟩:=sU hd;intro rest;induction rest with
 |nil =>
  intro pre m b he hm hb0 x9;obtain⟨m,rfl⟩:∃m',m=m'+1:=⟨m-1,by simp at hm;omega⟩;have hp:x.data.length=pre.length:=by rw[he];simp
  have e:Yl s x (cn s) ai r (m+1) b x.data.length pre.length=stepDa' s x (cn s) ai b x.data.length pre.length λb=>Yl s x (cn s) ai r m b x.data.length (IntKind.wrap .i64 ((pre.length:Int)+1)):=by
   cases s;cases x;exact Ym ..
  rw[e];unfold stepDa';rw[fH (by omega),aa (by simp)];exact Ds (by rw[dS (by omega),hz,hd,dS h1];rfl) (B5 hs hb rfl hb0 (by omega) ht) _
 |cons y rest ih =>
  intro pre m b he hm hb0 x9;obtain⟨m,rfl⟩:∃m',m=m'+1:=⟨m-1,by simp at hm;omega⟩;have hl:x.data.length=pre.length+(rest.length+1):=by rw[he];simp
  obtain⟨y1,y2⟩:=d2 y (by rw[he];simp);have hN:=Yp hz' y1;have e:Yl s x (cn s) ai r (m+1) b x.data.length pre.length=stepDa' s x (cn s) ai b x.data.length pre.length λb=>Yl s x (cn s) ai r m b x.data.length (IntKind.wrap .i64 ((pre.length:Int)+1)):=by
   cases s;cases x;exact Ym ..
  have go:((decide (y.2=[])||(dc (cn s) y.2).2)=true)->Yl s x (cn s) ai r m (IntKind.wrap .i64 (b+Q8 x.sz y)) x.data.length (IntKind.wrap .i64 ((pre.length:Int)+1))=eH [] (if (y::rest).all (λd=>decide (d.2=[])||(dc (cn s) d.2).2)=false then (s,3) else ko s x.data.length ((y::rest).foldl (λn d=>n+Q8 x.sz d) b) ai (x.data.map (dtC s x.sz))):=λhy=>by
   rw[i64_in (n:=(pre.length:Int)+1) (by omega) (by omega),i64_in (n:=b+Q8 x.sz y) (by omega) (by omega),bW,hy,dM,gm];have:=ih (pre++[y]) m (b+Q8 x.sz y) (by rw[he];simp) (by simp at hm;omega) (by omega) (by rw[aA];show _<=1000007*(((pre.length+1:Nat)):Int);omega);rw[aA]at this;exact this
  rw[e];unfold stepDa';rw[qG (by omega)];show s6 _ _ _=_;rw[qt he,cq];by_cases h0:(y.2.length:Int)=0
  .have h2:y.2=[]:=aQ.1 (by omega);rw[ag h0,xT (by omega),Rq hz' y1];have hg:=go (by rw[aX h2];rfl);have hD:Q8 x.sz y=AB y.1.length x.sz:=by unfold Q8;rw[ag h2]
   rw[hD]at hg;exact hg
  have h2:y.2≠[]:=λq=>h0 (by rw[q];rfl)
  rw[aa h0,dS (by omega),y2];show ah _ _ _=_;have hD:Q8 x.sz y=x.sz:=by unfold Q8;rw[aa h2]
  cases hn:(dc (cn s) y.2).2 with
  |false =>
   have ea:((y::rest).all λd=>decide (d.2=[])||(dc (cn s) d.2).2)=false:=by rw[bW,hn,aU h2];rfl
   rw[ag ea];rfl
  |true =>
   have hg:=go (by rw[hn,Bool.or_true]);rw[hD]at hg;exact hg
theorem xY {s:SS}(y:Dt)(l:List Dt):vM gJ fS s (y::l)=if (cS gJ fS s y.2).2≠0 then ([],(cS gJ fS s y.2).2) else if (vM gJ fS s l).2≠0 then ([],(vM gJ fS s l).2) else ((cS gJ fS s y.2).1::(vM gJ fS s l).1,0):=rfl
theorem abX {s:SS}(hs:zq s=true)(hb:okB s=true){ai:Int}(ht:0<=ai)(q:List Int×Int)(hq:q.1.length<=2000000):MP s ai q=eH [] (powC s ai q):=by
 unfold MP powC;rw[cw];by_cases h0:q.2=0
 .rw[ag h0,aa (by simp[h0])];exact Ds (dS hq) (B5 hs hb rfl (by omega) (by omega) ht) _
 rw[aa h0,ag h0];rfl
theorem Yq (a b c:Int):(ny a b c).1.length<=2000:=by
 unfold ny sp.pwF;by_cases h:sp.JZ a b c=true
 .rw[ag h];simp
 rw[aa h,sp.Rv];unfold sp.JZ at h;simp only[cI,aV,kL]at h;omega
theorem uF {s:SS}(hs:zq s=true){x:RS}{ai v0 v1 v2:Int}{pre rest:List Dt}{y:Dt}(he:x.data=pre++y::rest)(hy:ep y.2=true)(J:Int->Int->Int->OG):MQ s x ai v0 v1 v2 x.data.length pre.length J =
 if (cS gJ fS s y.2).2≠0 then eH [] (s,(cS gJ fS s y.2).2) else ah (bI pre.length 0) (J (cS gJ fS s y.2).1 v1 v2) (ah (bI pre.length 1) (J v0 (cS gJ fS s y.2).1 v2) (ah (bI pre.length 2) (J v0 v1 (cS gJ fS s y.2).1) none)):=by
 have hl:x.data.length=pre.length+(rest.length+1):=by rw[he];simp
 unfold MQ;rw[qG (by omega)];show s6 _ _ _=_;rw[qt he,qN,hs,hy];show ah _ _ _=_;rw[cw];by_cases h0:(cS gJ fS s y.2).2=0
 .rw[ag h0,aa (by simp[h0])];rfl
 rw[aa h0,ag h0];rfl
theorem sX (s:SS)(x:RS)(ai:Int)(r m:Nat)(v0 v1 v2 len i:Int):Rw s x ai r (m+1) v0 v1 v2 len i=MQ s x ai v0 v1 v2 len i λa b c=>Rw s x ai r m a b c len (IntKind.wrap .i64 (i+1)):=by
 cases s;cases x;exact ahE ..
theorem Du (s:SS)(x:RS)(ai:Int)(r m:Nat)(v0 v1 v2:Int):Rw s x ai r (m+1) v0 v1 v2 x.data.length x.data.length=MP s ai (ny v0 v1 v2):=by
 rw[sX];unfold MQ;rw[fH (by omega)]
theorem ahN {s:SS}(hs:zq s=true)(hb:okB s=true){x:RS}(hd:Kb x.data=true)(hn:x.data.length<=3){ai:Int}(ht:0<=ai):Rw s x ai 5 5 0 0 1 x.data.length 0=eH [] (JP gJ fS ny s x ai):=by
 obtain⟨_,d2⟩:=sU hd;have fin:∀a b c,MP s ai (ny a b c)=eH [] (powC s ai (ny a b c)):=λa b c=>abX hs hb ht _ (by have:=Yq a b c;omega)
 have w0:IntKind.wrap .i64 (((([]:List Dt).length:Nat):Int)+1)=1:=by decide
 unfold JP
 match he:x.data,hn with
 |[],_ =>
  have:=Du s x ai 5 4 0 0 1;rw[he]at this;refine this.trans ((fin 0 0 1).trans ?_);rfl
 |[a],_ =>
  have ha:=(d2 a (by rw[he];simp)).2;rw[<-he];have e1:=sX s x ai 5 4 0 0 1 x.data.length 0;have e2:=uF (ai:=ai) (v0:=0) (v1:=0) (v2:=1) hs (pre:=[]) (rest:=[]) he ha λa b c=>Rw s x ai 5 4 a b c x.data.length (IntKind.wrap .i64 (0+1))
  refine(e1.trans e2).trans ?_;rw[he,xY];by_cases h0:(cS gJ fS s a.2).2≠0
  .rw[ag h0,ag h0,ag h0]
  rw[aa h0,aa h0];have e3:=Du s x ai 5 3 (cS gJ fS s a.2).1 0 1;rw[he]at e3;exact e3.trans (fin _ 0 1)
 |[a,b],_ =>
  have ha:=(d2 a (by rw[he];simp)).2;have hb':=(d2 b (by rw[he];simp)).2;rw[<-he];have e1:=sX s x ai 5 4 0 0 1 x.data.length 0;have e2:=uF (ai:=ai) (v0:=0) (v1:=0) (v2:=1) hs (pre:=[]) (rest:=[b]) he ha λa b c=>Rw s x ai 5 4 a b c x.data.length (IntKind.wrap .i64 (0+1))
  refine(e1.trans e2).trans ?_;rw[he,xY,xY];by_cases h0:(cS gJ fS s a.2).2≠0
  .rw[ag h0,ag h0,ag h0]
  rw[aa h0,aa h0];have e3:=sX s x ai 5 3 (cS gJ fS s a.2).1 0 1 x.data.length 1;have e4:=uF (ai:=ai) (v0:=(cS gJ fS s a.2).1) (v1:=0) (v2:=1) hs (pre:=[a]) (rest:=[]) he hb' λa b c=>Rw s x ai 5 3 a b c x.data.length (IntKind.wrap .i64 (1+1))
  rw[he]at e3 e4;refine(e3.trans e4).trans ?_;by_cases h1:(cS gJ fS s b.2).2≠0
  .rw[ag h1,ag h1,ag h1,ag h1]
  rw[aa h1,aa h1];have e5:=Du s x ai 5 2 (cS gJ fS s a.2).1 (cS gJ fS s b.2).1 1;rw[he]at e5;exact e5.trans (fin _ _ 1)
 |[a,b,c],_ =>
  have ha:=(d2 a (by rw[he];simp)).2;have hb':=(d2 b (by rw[he];simp)).2;have hc:=(d2 c (by rw[he];simp)).2;rw[<-he];have e1:=sX s x ai 5 4 0 0 1 x.data.length 0;have e2:=uF (ai:=ai) (v0:=0) (v1:=0) (v2:=1) hs (pre:=[]) (rest:=[b,c]) he ha λa b c=>Rw s x ai 5 4 a b c x.data.length (IntKind.wrap .i64 (0+1))
  refine(e1.trans e2).trans ?_;rw[he,xY,xY,xY];by_cases h0:(cS gJ fS s a.2).2≠0
  .rw[ag h0,ag h0,ag h0]
  rw[aa h0,aa h0];have e3:=sX s x ai 5 3 (cS gJ fS s a.2).1 0 1 x.data.length 1;have e4:=uF (ai:=ai) (v0:=(cS gJ fS s a.2).1) (v1:=0) (v2:=1) hs (pre:=[a]) (rest:=[c]) he hb' λa b c=>Rw s x ai 5 3 a b c x.data.length (IntKind.wrap .i64 (1+1))
  rw[he]at e3 e4;refine(e3.trans e4).trans ?_;by_cases h1:(cS gJ fS s b.2).2≠0
  .rw[ag h1,ag h1,ag h1,ag h1]
  rw[aa h1,aa h1];have e5:=sX s x ai 5 2 (cS gJ fS s a.2).1 (cS gJ fS s b.2).1 1 x.data.length 2;have e6:=uF (ai:=ai) (v0:=(cS gJ fS s a.2).1) (v1:=(cS gJ fS s b.2).1) (v2:=1) hs (pre:=[a,b]) (rest:=[]) he hc λa b c=>Rw s x ai 5 2 a b c x.data.length (IntKind.wrap .i64 (2+1))
  rw[he]at e5 e6;refine(e5.trans e6).trans ?_;by_cases h2:(cS gJ fS s c.2).2≠0
  .rw[ag h2,ag h2,ag h2,ag h2,ag h2]
  rw[aa h2,aa h2];have e7:=Du s x ai 5 1 (cS gJ fS s a.2).1 (cS gJ fS s b.2).1 (cS gJ fS s c.2).1;rw[he]at e7;exact e7.trans (fin _ _ _)
 |_::_::_::_::_,hn=>simp at hn
def FE (s:SS):Bool:=zq s&&(okB s&&okG s)
theorem mw {s:SS}(h:FE s=true):zq s=true/\okB s=true/\okG s=true:=by
 unfold FE at h;simp only[ak]at h;exact⟨h.1,h.2.1,h.2.2⟩
theorem abY {s:SS}(hs:zq s=true)(hb:okB s=true){x:RS}(hz:CC x.sz=true)(hd:Kb x.data=true)(h1:1<=x.data.length){ai:Int}(ht:0<=ai):Tk s (λc=>Yl s x c ai 100001 100001 0 x.data.length 0)=eH [] (Cy s x ai):=by
 rw[zm];have:=(sU hd).1;exact ahM hs hb hz hd h1 ht 100001 x.data [] 100001 0 rfl (by omega) (by decide) (by simp)
def ahO (args:List AV)(rows:List Row):OP :=
 match args,rows with
 |[.ptr 0 0,.str w],c::l=>match uC 0 c l with
  |some (b,s)=>some (b&&(FE s&&(Nat.ble w.length 1000000)),oq [] (yf s w))
  |_=>none
 |_,_=>none
theorem abZ:j3 X0 fR 43 ahO :=
 nI (λargs=>lt.bR rfl args) (qM nv uB yD) λargs rows v outs hg=>by
  unfold ahO at hg;split at hg;case h_2=>cases hg
  rename_i w c l;split at hg;case h_2=>cases hg
  rename_i b s hr;simp only[oq,aq,ax,ak]at hg;obtain⟨⟨rfl,h0,h4⟩,rfl,rfl⟩:=hg;obtain⟨h1,h2,h3⟩:=mw h0;obtain⟨rfl,rfl⟩:=fV hr;refine⟨gG,5,?_⟩;have e:aT X0 (cV S1 N2 G4 _) gG 5 43 [.ptr 0 0,.str w] (eT 2 (vA s [])) gy=labT' s w:=by
   cases s;exact Yd ..
  exact e.trans (ahG h1 h2 (ay h4))
def ahP (args:List AV)(rows:List Row):OP :=
 match args,rows with
 |[.ptr 0 0],c::l=>match uC 0 c l with
  |some (b,s)=>some (b&&(FE s&&(true)),oq [] (Xu s))
  |_=>none
 |_,_=>none
theorem ab0:j3 X0 fR 53 ahP :=
 nI (λargs=>lt.bR rfl args) (qM nv uB yD) λargs rows v outs hg=>by
  unfold ahP at hg;split at hg;case h_2=>cases hg
  rename_i c l;split at hg;case h_2=>cases hg
  rename_i b s hr;simp only[oq,aq,ax,ak]at hg;obtain⟨⟨rfl,h0,h4⟩,rfl,rfl⟩:=hg;obtain⟨h1,h2,h3⟩:=mw h0;obtain⟨rfl,rfl⟩:=fV hr;refine⟨gG,5,?_⟩;have e:aT X0 (cV S1 N2 G4 _) gG 5 53 [.ptr 0 0] (eT 2 (vA s [])) gy=endT' s:=by
   cases s;exact Yf ..
  exact e.trans (ahI h1)
def Yr (args:List AV)(rows:List Row):OP :=
 match args,rows with
 |[.ptr 0 0,.agg [.int .i64 op,.int .i64 aM,.dH e x],.int .i64 ai],c::l=>match iu e jV x,uC 0 c l with
  |some x,some (b,s)=>some (b&&(FE s&&(nZ x && !bB ai 0)),oq [] (AA s ⟨0,[],0,0,op,aM,x,[],[],[],0,0⟩ ai))
  |_,_=>none
 |_,_=>none
theorem Ys:j3 X0 fR 46 Yr :=
 nI (λargs=>lt.bR rfl args) (qM nv uB yD) λargs rows v outs hg=>by
  unfold Yr at hg;split at hg;case h_2=>cases hg
  rename_i op aM e x ai c l;split at hg;case h_2=>cases hg
  rename_i x' b s hx hr;simp only[oq,aq,ax,ak]at hg;obtain⟨⟨rfl,h0,h4⟩,rfl,rfl⟩:=hg;obtain⟨h1,h2,h3⟩:=mw h0;obtain⟨rfl,hx⟩:=bS hx;have hx:x=x':=hx;subst hx;obtain⟨rfl,rfl⟩:=fV hr;refine⟨gG,5,?_⟩;have e:aT X0 (cV S1 N2 G4 _) gG 5 46 [.ptr 0 0,.agg [.int .i64 op,.int .i64 aM,.dH jV x],.int .i64 ai] (eT 2 (vA s [])) gy=Rs s op aM x ai:=by
   cases s;exact TJ ..
  exact e.trans (abW (x:=⟨0,[],0,0,op,aM,x,[],[],[],0,0⟩) h1 h2 h4.1 (by have:=h4.2;rw[cA]at this;simpa using this))
def ahQ (args:List AV)(rows:List Row):OP :=
 match args,rows with
 |[.ptr 0 0,.agg cs],c::l=>match FD (.cells 40 cs),uC 0 c l with
  |some (b0,x),some (b,s)=>some (b&&(FE s&&(b0&&(Nat.ble x.lab.length 1000000&&ep x.x))),oq [] (Xt gJ fS s x))
  |_,_=>none
 |_,_=>none
theorem ab1:j3 X0 fR 48 ahQ :=
 nI (λargs=>lt.bR rfl args) (qM nv uB yD) λargs rows v outs hg=>by
  unfold ahQ at hg;split at hg;case h_2=>cases hg
  rename_i cs c l;split at hg;case h_2=>cases hg
  rename_i b0 x b s hx hr;simp only[oq,aq,ax,ak]at hg;obtain⟨⟨rfl,h0,h4⟩,rfl,rfl⟩:=hg;obtain⟨h1,h2,h3⟩:=mw h0;obtain⟨hb0,h4⟩:=h4;subst hb0;have hx:=nJ hx;simp only[ML,Row.cells.injEq,jw]at hx;subst hx;obtain⟨rfl,rfl⟩:=fV hr;refine⟨gG,5,?_⟩;have e:aT X0 (cV S1 N2 G4 _) gG 5 48 [.ptr 0 0,.agg (Jj x)] (eT 2 (vA s [])) gy=abJ s x:=by
   cases s;cases x;exact Ye ..
  exact e.trans (ahH h1 (ay h4.1) h4.2)
def ahR (args:List AV)(rows:List Row):OP :=
 match args,rows with
 |[.ptr 0 0,.agg cs],c::l=>match FD (.cells 40 cs),uC 0 c l with
  |some (b0,x),some (b,s)=>some (b&&(FE s&&(b0&&(ep x.x))),oq [] (Fm gJ fS s x))
  |_,_=>none
 |_,_=>none
theorem ab2:j3 X0 fR 49 ahR :=
 nI (λargs=>lt.bR rfl args) (qM nv uB yD) λargs rows v outs hg=>by
  unfold ahR at hg;split at hg;case h_2=>cases hg
  rename_i cs c l;split at hg;case h_2=>cases hg
  rename_i b0 x b s hx hr;simp only[oq,aq,ax,ak]at hg;obtain⟨⟨rfl,h0,h4⟩,rfl,rfl⟩:=hg;obtain⟨h1,h2,h3⟩:=mw h0;obtain⟨hb0,h4⟩:=h4;subst hb0;have hx:=nJ hx;simp only[ML,Row.cells.injEq,jw]at hx;subst hx;obtain⟨rfl,rfl⟩:=fV hr;refine⟨gG,5,?_⟩;have e:aT X0 (cV S1 N2 G4 _) gG 5 49 [.ptr 0 0,.agg (Jj x)] (eT 2 (vA s [])) gy=abL s x:=by
   cases s;cases x;exact Yh ..
  exact e.trans (ahK h1 h2 h4)
def ahS (args:List AV)(rows:List Row):OP :=
 match args,rows with
 |[.ptr 0 0,.agg cs],c::l=>match FD (.cells 40 cs),uC 0 c l with
  |some (b0,x),some (b,s)=>some (b&&(FE s&&(b0&&(ep x.x))),oq [] (Xv gJ fS s x))
  |_,_=>none
 |_,_=>none
theorem ab3:j3 X0 fR 50 ahS :=
 nI (λargs=>lt.bR rfl args) (qM nv uB yD) λargs rows v outs hg=>by
  unfold ahS at hg;split at hg;case h_2=>cases hg
  rename_i cs c l;split at hg;case h_2=>cases hg
  rename_i b0 x b s hx hr;simp only[oq,aq,ax,ak]at hg;obtain⟨⟨rfl,h0,h4⟩,rfl,rfl⟩:=hg;obtain⟨h1,h2,h3⟩:=mw h0;obtain⟨hb0,h4⟩:=h4;subst hb0;have hx:=nJ hx;simp only[ML,Row.cells.injEq,jw]at hx;subst hx;obtain⟨rfl,rfl⟩:=fV hr;refine⟨gG,5,?_⟩;have e:aT X0 (cV S1 N2 G4 _) gG 5 50 [.ptr 0 0,.agg (Jj x)] (eT 2 (vA s [])) gy=abK s x:=by
   cases s;cases x;exact Yg ..
  exact e.trans (ahJ h1 h4)
def OO (args:List AV)(rows:List Row):OP :=
 match args,rows with
 |[.ptr 0 0,.agg cs,.int .i64 ai],c::l=>match FD (.cells 40 cs),uC 0 c l with
  |some (b0,x),some (b,s)=>some (b&&(FE s&&(b0&&((ep x.x&&CC x.sz) && !bB ai 0))),oq [] (Xw gJ fS s x ai))
  |_,_=>none
 |_,_=>none
theorem ab4:j3 X0 fR 54 OO :=
 nI (λargs=>lt.bR rfl args) (qM nv uB yD) λargs rows v outs hg=>by
  unfold OO at hg;split at hg;case h_2=>cases hg
  rename_i cs ai c l;split at hg;case h_2=>cases hg
  rename_i b0 x b s hx hr;simp only[oq,aq,ax,ak]at hg;obtain⟨⟨rfl,h0,h4⟩,rfl,rfl⟩:=hg;obtain⟨h1,h2,h3⟩:=mw h0;obtain⟨hb0,h4⟩:=h4;subst hb0;have hx:=nJ hx;simp only[ML,Row.cells.injEq,jw]at hx;subst hx;obtain⟨rfl,rfl⟩:=fV hr;refine⟨gG,5,?_⟩;have e:aT X0 (cV S1 N2 G4 _) gG 5 54 [.ptr 0 0,.agg (Jj x),.int .i64 ai] (eT 2 (vA s [])) gy=abM s x ai:=by
   cases s;cases x;exact Yi ..
  exact e.trans (ahL h1 h2 h3 h4.1.1 h4.1.2 (by have:=h4.2;rw[cA]at this;simpa using this))
def Yt (args:List AV)(rows:List Row):OP :=
 match args,rows with
 |[.ptr 0 0,.agg cs,.int .i64 ai],c::l=>match FD (.cells 40 cs),uC 0 c l with
  |some (b0,x),some (b,s)=>some (b&&(FE s&&(b0&&((CC x.sz&&(Kb x.data&&Nat.ble 1 x.data.length)) && !bB ai 0))),oq [] (Cy s x ai))
  |_,_=>none
 |_,_=>none
theorem Yu:j3 X0 fR 47 Yt :=
 nI (λargs=>lt.bR rfl args) (qM nv uB yD) λargs rows v outs hg=>by
  unfold Yt at hg;split at hg;case h_2=>cases hg
  rename_i cs ai c l;split at hg;case h_2=>cases hg
  rename_i b0 x b s hx hr;simp only[oq,aq,ax,ak]at hg;obtain⟨⟨rfl,h0,h4⟩,rfl,rfl⟩:=hg;obtain⟨h1,h2,h3⟩:=mw h0;obtain⟨hb0,h4⟩:=h4;subst hb0;have hx:=nJ hx;simp only[ML,Row.cells.injEq,jw]at hx;subst hx;obtain⟨rfl,rfl⟩:=fV hr;refine⟨abS,100001,?_⟩;have e:aT X0 (cV S1 N2 G4 _) abS 100001 47 [.ptr 0 0,.agg (Jj x),.int .i64 ai] (eT 2 (vA s [])) gy=Tk s (λc=>Yl s x c ai 100001 100001 0 x.data.length 0):=by
   cases s;cases x;exact abT ..
  exact e.trans (abY h1 h2 h4.1.1 h4.1.2.1 (ay h4.1.2.2) (by have:=h4.2;rw[cA]at this;simpa using this))
def ahU (args:List AV)(rows:List Row):OP :=
 match args,rows with
 |[.ptr 0 0,.agg cs,.int .i64 ai],c::l=>match FD (.cells 40 cs),uC 0 c l with
  |some (b0,x),some (b,s)=>some (b&&(FE s&&(b0&&((Kb x.data&&Nat.ble x.data.length 3) && !bB ai 0))),oq [] (JP gJ fS ny s x ai))
  |_,_=>none
 |_,_=>none
theorem ab5:j3 X0 fR 55 ahU :=
 nI (λargs=>lt.bR rfl args) (qM nv adM yD) λargs rows v outs hg=>by
  unfold ahU at hg;split at hg;case h_2=>cases hg
  rename_i cs ai c l;split at hg;case h_2=>cases hg
  rename_i b0 x b s hx hr;simp only[oq,aq,ax,ak]at hg;obtain⟨⟨rfl,h0,h4⟩,rfl,rfl⟩:=hg;obtain⟨h1,h2,h3⟩:=mw h0;obtain⟨hb0,h4⟩:=h4;subst hb0;have hx:=nJ hx;simp only[ML,Row.cells.injEq,jw]at hx;subst hx;obtain⟨rfl,rfl⟩:=fV hr;refine⟨abU,5,?_⟩;have e:aT X0 (cV S1 N3 G4 _) abU 5 55 [.ptr 0 0,.agg (Jj x),.int .i64 ai] (eT 2 (vA s [])) gy=Rw s x ai 5 5 0 0 1 x.data.length 0:=by
   cases s;cases x;exact abV ..
  exact e.trans (ahN h1 h2 h4.1.1 (ay h4.1.2) (by have:=h4.2;rw[cA]at this;simpa using this))
def G5:List AJ:=(43,⟨70,vV,ahO⟩)::(46,⟨70,vV,Yr⟩)::(47,⟨70,vV,Yt⟩)::(48,⟨70,vV,ahQ⟩)::(49,⟨70,vV,ahR⟩)::(50,⟨70,vV,ahS⟩)::(53,⟨70,vV,ahP⟩)::(54,⟨70,vV,OO⟩)::(55,⟨70,vV,ahU⟩)::G4
theorem adO:pN X0 fR G5:=.cons abZ (.cons Ys (.cons Yu (.cons ab1 (.cons ab2 (.cons ab3 (.cons ab0 (.cons ab4 (.cons ab5 (yD)))))))))
def q1:List Bool:=[true,true]
def q2:List Bool:=[true,true,true,true]
def q3:List Bool:=[true,true,true,true,true]
def T7:ez:=⟨vp (gZ [0,3] q1) (vp (gZ [0,3,6] q2) (gZ [0,3,6] q3)),.none,[]⟩
abbrev c5:cH (AV×List Row):=cV S1 N2 G5 _
def fr1:fM:=lq 116 [(0,.ptr 0 0),(3,.ptr 2 0)]
def fr2 (n:Int):fM:=lq 116 [(0,.ptr 0 0),(3,.ptr 2 0),(6,.int .i64 n)]
def mR (s:SS)(x:RS):aG:=eT 2 [.cells 70 (Y9 1 3 4 s.aH.length s.av.length s),.mp 68 s.aI,ML x,.list 59 iz s.aH 0 false false,.list 52 rO s.av 0 false false]
def Yv (s:SS)(g:Bool)(r:SR')(k:SS->Int->OG):OG:=ah (Yc s.aH.length s.av.length&&(FE s&&g)) (k r.1 r.2) none
def uG (s:SS)(e:Int):OG:=jc [] s e
def ahW (s:SS)(x:RS)(k:SS->OG):OG :=
 ah (!decide (x.lab=[])) (ah (!bI x.aF 3) (ah (!bI x.aF 6) (Yv s (Nat.ble x.lab.length 1000000) (yf s x.lab) λs' e=>ah (!bI e 0) (uG s' e) (k s')) (k s)) (k s)) (k s)
def cnT (s:SS)(x:List Nd)(k:Int->Int->OG):OG:=ah (Yc s.aH.length s.av.length&&(zq s&&ep x)) (k (cS gJ fS s x).1 (cS gJ fS s x).2) none
def MT (s:SS)(x:RS)(k:Int->OG):OG :=
 ah (bB 0 (x.ai.length:Int)) (cnT s x.ai λn e=>ah (bI e 0) (ah (bB n 0) (uG s 5) (ah (!bI e 0) (uG s e) (k n))) (ah (!bI e 0) (uG s e) (k n))) (k 1)
def ahX (s:SS)(x:RS)(k:OG):OG:=ah (!bI (x.ai.length:Int) 0) (uG s 8) k
def PK (s:SS)(x:RS)(q:Int)(k next:OG):OG:=ah (bI x.aF q) (ah (bI x.aF q) (uG s 8) (ahX s x k)) next
def xy (s:SS)(x:RS)(k:OG):OG :=
 ah (!s.opn) (ah (!(!bI x.aF 7)) (uG s 8) k) (PK s x 1 k (PK s x 2 k (PK s x 4 k (PK s x 5 k (PK s x 9 k (ah (bI x.aF 6) (uG s 8) (ahX s x k)))))))
def CY (s:SS)(x:RS)(n:Int):OG :=
 ah (bI x.aF 1) (Yv s (nZ x.args && !bB n 0) (AA s ⟨0,[],0,0,x.op,x.aM,x.args,[],[],[],0,0⟩ n) uG)
 (ah (bI x.aF 2) (Yv s ((CC x.sz&&(Kb x.data&&Nat.ble 1 x.data.length)) && !bB n 0) (Cy s ⟨0,x.lab,x.aF,x.sz,x.op,x.aM,x.args,x.data,x.x,x.ai,0,0⟩ n) uG)
 (ah (bI x.aF 3) (Yv s (Nat.ble x.lab.length 1000000&&ep x.x) (Xt gJ fS s ⟨0,x.lab,x.aF,x.sz,x.op,x.aM,x.args,x.data,x.x,x.ai,0,0⟩) uG)
 (ah (bI x.aF 4) (Yv s (ep x.x) (Fm gJ fS s ⟨0,x.lab,x.aF,x.sz,x.op,x.aM,x.args,x.data,x.x,x.ai,0,0⟩) uG)
 (ah (bI x.aF 5) (Yv s (ep x.x) (Xv gJ fS s ⟨0,x.lab,x.aF,x.sz,x.op,x.aM,x.args,x.data,x.x,x.ai,0,0⟩) uG)
 (ah (bI x.aF 6) (Tk s λc=>nmT c x.lab λw=>uG { s with bp:=w,aN:=0,opn:=true } 0)
 (ah (bI x.aF 7) (Yv s true (Xu s) uG)
 (ah (bI x.aF 8) (Yv s ((ep x.x&&CC x.sz) && !bB n 0) (Xw gJ fS s ⟨0,x.lab,x.aF,x.sz,x.op,x.aM,x.args,x.data,x.x,x.ai,0,0⟩ n) uG)
 (ah (bI x.aF 9) (Yv s ((Kb x.data&&Nat.ble x.data.length 3) && !bB n 0) (JP gJ fS ny s ⟨0,x.lab,x.aF,x.sz,x.op,x.aM,x.args,x.data,x.x,x.ai,0,0⟩ n) uG) (uG s 0)))))))))
theorem al2 (fJ:Int)(aH:List Sy)(av:List It)(aI:List (List UInt8×Int))(lab:List UInt8)(opn:Bool)(bp:List UInt8)(aN:Int)(aR:Bool)(aD az:Int)(a0:Int)(iF:List UInt8)(aF sz op aM:Int)(args:List Raw)(data:List Dt)(xx dO:List Nd)(e0 f0:Int)(r:Nat)(K:fM->aG->OG):aag X0 c5 T7 r 21 q1 [.ptr 0 0,.agg (Jj ⟨a0,iF,aF,sz,op,aM,args,data,xx,dO,e0,f0⟩)] (eT 2 (vA ⟨fJ,aH,av,aI,lab,opn,bp,aN,aR,aD,az⟩ [])) gy K=ahW ⟨fJ,aH,av,aI,lab,opn,bp,aN,aR,aD,az⟩ ⟨a0,iF,aF,sz,op,aM,args,data,xx,dO,e0,f0⟩ λs'=>K fr1 (mR s' ⟨a0,iF,aF,sz,op,aM,args,data,xx,dO,e0,f0⟩):=by kernel_rfl
theorem al3 (fJ:Int)(aH:List Sy)(av:List It)(aI:List (List UInt8×Int))(lab:List UInt8)(opn:Bool)(bp:List UInt8)(aN:Int)(aR:Bool)(aD az:Int)(a0:Int)(iF:List UInt8)(aF sz op aM:Int)(args:List Raw)(data:List Dt)(xx dO:List Nd)(e0 f0:Int)(r:Nat)(K:fM->aG->OG):Pm X0 c5 T7 r 21 q1 [true,true] gy K fr1 (mR ⟨fJ,aH,av,aI,lab,opn,bp,aN,aR,aD,az⟩ ⟨a0,iF,aF,sz,op,aM,args,data,xx,dO,e0,f0⟩)=MT ⟨fJ,aH,av,aI,lab,opn,bp,aN,aR,aD,az⟩ ⟨a0,iF,aF,sz,op,aM,args,data,xx,dO,e0,f0⟩ λn=>K (fr2 n) (mR ⟨fJ,aH,av,aI,lab,opn,bp,aN,aR,aD,az⟩ ⟨a0,iF,aF,sz,op,aM,args,data,xx,dO,e0,f0⟩):=by kernel_rfl
theorem al4 (fJ:Int)(aH:List Sy)(av:List It)(aI:List (List UInt8×Int))(lab:List UInt8)(opn:Bool)(bp:List UInt8)(aN:Int)(aR:Bool)(aD az:Int)(a0:Int)(iF:List UInt8)(aF sz op aM:Int)(args:List Raw)(data:List Dt)(xx dO:List Nd)(e0 f0:Int)(n:Int)(r:Nat)(K:fM->aG->OG):Pm X0 c5 T7 r 21 q2 [true] gy K (fr2 n) (mR ⟨fJ,aH,av,aI,lab,opn,bp,aN,aR,aD,az⟩ ⟨a0,iF,aF,sz,op,aM,args,data,xx,dO,e0,f0⟩)=xy ⟨fJ,aH,av,aI,lab,opn,bp,aN,aR,aD,az⟩ ⟨a0,iF,aF,sz,op,aM,args,data,xx,dO,e0,f0⟩ (K (fr2 n) (mR ⟨fJ,aH,av,aI,lab,opn,bp,aN,aR,aD,az⟩ ⟨a0,iF,aF,sz,op,aM,args,data,xx,dO,e0,f0⟩)):=by kernel_rfl
theorem EE (fJ:Int)(aH:List Sy)(av:List It)(aI:List (List UInt8×Int))(lab:List UInt8)(opn:Bool)(bp:List UInt8)(aN:Int)(aR:Bool)(aD az:Int)(a0:Int)(iF:List UInt8)(aF sz op aM:Int)(args:List Raw)(data:List Dt)(xx dO:List Nd)(e0 f0:Int)(n:Int)(r:Nat):codeFrom X0 c5 T7 r 21 q3 gy (fr2 n) (mR ⟨fJ,aH,av,aI,lab,opn,bp,aN,aR,aD,az⟩ ⟨a0,iF,aF,sz,op,aM,args,data,xx,dO,e0,f0⟩)=CY ⟨fJ,aH,av,aI,lab,opn,bp,aN,aR,aD,az⟩ ⟨a0,iF,aF,sz,op,aM,args,data,xx,dO,e0,f0⟩ n:=by kernel_rfl
def okX (x:RS):Bool:=Nat.ble x.lab.length 1000000&&(ep x.x&&(ep x.ai&&(nZ x.args&&(Kb x.data&&((!bI x.aF 2||(CC x.sz&&Nat.ble 1 x.data.length))&&((!bI x.aF 8||CC x.sz)&&(!bI x.aF 9||Nat.ble x.data.length 3)))))))
structure MU (x:RS):Prop where
 lab:x.lab.length<=1000000
 ex:ep x.x=true
 ai:ep x.ai=true
 args:nZ x.args=true
 data:Kb x.data=true
 k2:x.aF=2->CC x.sz=true/\1<=x.data.length
 k8:x.aF=8->CC x.sz=true
 k9:x.aF=9->x.data.length<=3
theorem Yw {x:RS}(h:okX x=true):MU x:=by
 unfold okX at h;simp only[ak,cI,aS]at h;obtain⟨h1,h2,h3,h4,h5,h6,h7,h8⟩:=h;have ne:∀k:Int,x.aF=k->bI x.aF k=true:=λk hk=>by rw[eF];simp[hk]
 refine⟨ay h1,h2,h3,h4,h5,λhk=>?_,λhk=>?_,λhk=>?_⟩
 .rcases h6 with h6|h6
  .rw[ne 2 hk]at h6;cases h6
  exact⟨h6.1,ay h6.2⟩
 .rcases h7 with h7|h7
  .rw[ne 8 hk]at h7;cases h7
  exact h7
 rcases h8 with h8|h8
 .rw[ne 9 hk]at h8;cases h8
 exact ay h8
theorem MU.b {x:RS}(h:MU x):okX x=true:=by
 unfold okX;rw[dS h.lab,h.ex,h.ai,h.args,h.data];have e2:(!bI x.aF 2||(CC x.sz&&Nat.ble 1 x.data.length))=true:=by
  by_cases hk:x.aF=2
  .obtain ⟨a,b⟩:=h.k2 hk;rw[a,dS b];simp
  rw[xT hk];rfl
 have e8:(!bI x.aF 8||CC x.sz)=true:=by
  by_cases hk:x.aF=8
  .rw[h.k8 hk];simp
  rw[xT hk];rfl
 have e9:(!bI x.aF 9||Nat.ble x.data.length 3)=true:=by
  by_cases hk:x.aF=9
  .rw[dS (h.k9 hk)];simp
  rw[xT hk];rfl
 rw[e2,e8,e9];rfl
theorem vB {s:SS}(h:FE s=true){g:Bool}(hg:g=true)(r:SR')(k:SS->Int->OG):Yv s g r k=k r.1 r.2:=by
 unfold Yv;rw[qN,h,hg];rfl
theorem ge0 {n:Int}(h:0<=n):(!bB n 0)=true:=by rw[fH (by omega)];rfl
theorem ahY {s:SS}(hs:FE s=true){x:RS}(hx:MU x){n:Int}(hn:0<=n):CY s x n=eH [] (vN gJ fS ny s x n):=by
 have hsc:=rZ (mw hs).1;have hl:=hx.lab;unfold CY vN;simp only[cq];by_cases h1:x.aF=1
 .rw[ag h1,ag h1,vB hs (by rw[hx.args,ge0 hn];rfl)];rfl
 rw[aa h1,aa h1];by_cases h2:x.aF=2
 .obtain ⟨a,b⟩:=hx.k2 h2;rw[ag h2,ag h2,vB hs (by rw[a,hx.data,dS b,ge0 hn];rfl)];rfl
 rw[aa h2,aa h2];by_cases h3:x.aF=3
 .rw[ag h3,ag h3,vB hs (by rw[dS hx.lab,hx.ex];rfl)];rfl
 rw[aa h3,aa h3];by_cases h4:x.aF=4
 .rw[ag h4,ag h4,vB hs hx.ex];rfl
 rw[aa h4,aa h4];by_cases h5:x.aF=5
 .rw[ag h5,ag h5,vB hs hx.ex];rfl
 rw[aa h5,aa h5];by_cases h6:x.aF=6
 .rw[ag h6,ag h6,zm,JX (by omega)];rfl
 rw[aa h6,aa h6];by_cases h7:x.aF=7
 .rw[ag h7,ag h7,vB hs rfl];rfl
 rw[aa h7,aa h7];by_cases h8:x.aF=8
 .rw[ag h8,ag h8,vB hs (by rw[hx.ex,hx.k8 h8,ge0 hn];rfl)];rfl
 rw[aa h8,aa h8];by_cases h9:x.aF=9
 .rw[ag h9,ag h9,vB hs (by rw[hx.data,dS (hx.k9 h9),ge0 hn];rfl)];rfl
 rw[aa h9,aa h9];rfl
theorem ab6 {s:SS}{x:RS}{q:Int}{k next:OG}:PK s x q k next=if x.aF=q then uG s 8 else next:=by
 unfold PK;rw[cq,cq];split<;>rfl
theorem ahZ {s:SS}{x:RS}{k:OG}:xy s x k=if aa2 s x=false then uG s 8 else k:=by
 unfold xy aa2 ahX;rw[au];simp only[ab6,cq,cw];cases ho:s.opn with
 |false =>
  show ah (!(!bI x.aF 7)) _ _=_;rw[Bool.not_not,cq];by_cases h7:x.aF=7
  .rw[ag h7,aX h7];rfl
  rw[aa h7,aU h7];rfl
 |true =>
  show (if x.aF=1 then _ else _)=_;by_cases h1:x.aF=1
  .simp[h1]
  by_cases h2:x.aF=2
  .simp[h2]
  by_cases h4:x.aF=4
  .simp[h4]
  by_cases h5:x.aF=5
  .simp[h5]
  by_cases h9:x.aF=9
  .simp[h9]
  by_cases h6:x.aF=6
  .simp[h6]
  simp only[h1,h2,h4,h5,h9,h6,or_false,ee];by_cases ht:x.ai=[]
  .rw[ag (by rw[ht];rfl)];simp[ht]
  have:¬(x.ai.length:Int)=0:=λq=>ht (aQ.1 (by omega))
  rw[aa this];simp[ht]
theorem ab7 {s:SS}(hs:FE s=true){x:RS}(hx:MU x){n:Int}(hn:0<=n):xy s x (CY s x n)=eH [] (ux gJ fS ny s x n):=by
 rw[ahZ,ahY hs hx hn];unfold ux;split<;>rfl
theorem ah0 {s:SS}(hs:FE s=true){x:RS}(hx:MU x){k:Int->OG}(hk:∀n,0<=n->k n=eH [] (ux gJ fS ny s x n)):MT s x k=eH [] (pM gJ fS ny s x):=by
 unfold MT pM nY cnT;rw[cF];by_cases ht:x.ai=[]
 .rw[aa (by rw[ht];decide),ag ht];exact hk 1 (by decide)
 have h0:¬(x.ai.length:Int)=0:=λq=>ht (aQ.1 (by omega))
 rw[ag (by omega),aa ht,qN,(mw hs).1,hx.ai];show ah (bI (cS gJ fS s x.ai).2 0) _ _=_;rw[cq,cF,cw];by_cases h1:(cS gJ fS s x.ai).2=0
 .rw[ag h1,ag h1,aa (show ¬(cS gJ fS s x.ai).2≠0 from λq=>q h1)];by_cases h2:(cS gJ fS s x.ai).1<0
  .rw[ag h2];show _=eH [] (if _ then _ else _);rw[ag h2];rfl
  rw[aa h2];show _=eH [] (if _ then _ else _);rw[aa h2];exact hk _ (by omega)
 rw[aa h1,aa h1,ag h1];rfl
theorem TP {s:SS}(hs:s.av.length<=20000){q b t:Int}{l:List It}(hl:(l.length:Int)=q)(h1:1<=q)(t0:0<=t):(ko s q b t l).1.av.length<=20000:=by
 unfold ko;by_cases ht:Int.tdiv (20000-(s.av.length:Int)) q<t
 .rw[ag ⟨by omega,ht⟩];exact hs
 rw[aa (λh=>ht h.2)];split
 .exact hs
 have h3:=dz (show t<=Int.tdiv (20000-(s.av.length:Int)) q by omega) (show (0:Int)<=q by omega);rw[dg (by omega)]at h3;have h4:=iT (x:=20000-(s.av.length:Int)) (k:=q) (by omega);have h5:(((List.replicate t.toNat l).flatten.length:Nat):Int)=t*q:=by
  rw[List.length_flatten,List.map_replicate,List.sum_replicate_nat,jF,hl,Int.toNat_of_nonneg t0]
 have h6:t*q=q*t:=ot _ _;show (s.av++(List.replicate t.toNat l).flatten).length<=20000;rw[aA];omega
theorem TQ {s:SS}(h0:0<=s.aD)(h1:s.aD<=1048576){q b t:Int}{l:List It}(b0:0<=b)(t0:0<=t):0<=(ko s q b t l).1.aD/\(ko s q b t l).1.aD<=1048576:=by
 unfold ko;split
 .exact ⟨h0,h1⟩
 by_cases ht:0<b/\Int.tdiv (1048576-s.aD) b<t
 .rw[ag ht];exact⟨h0,h1⟩
 rw[aa ht];show 0<=s.aD+b*t/\s.aD+b*t<=1048576;have hm:=mI b0 t0;by_cases hb:0<b
 .have ht':t<=Int.tdiv (1048576-s.aD) b:=Int.not_lt.1 λq=>ht ⟨hb,q⟩
  have h3:=dz ht' b0;rw[dg (by omega)]at h3;have h4:=iT (x:=1048576-s.aD) (k:=b) (by omega);omega
 have:b=0:=by omega
 rw[this,Int.zero_mul];omega
theorem ah1 {s:SS}(h0:0<=s.aD)(h1:s.aD<=1048576):okB s=true:=by
 unfold okB;rw[fH (a:=s.aD) (b:=0) (by omega),fH (a:=1048576) (by omega)];rfl
theorem ah2 {s:SS}(h0:0<=s.aN)(h1:s.aN<=1000000000000000):okG s=true:=by
 unfold okG;rw[fH (a:=s.aN) (b:=0) (by omega),fH (a:=1000000000000000) (by omega)];rfl
theorem ah3 {s:SS}(h1:zq s=true)(h2:okB s=true)(h3:okG s=true):FE s=true:=by
 unfold FE;rw[h1,h2,h3];rfl
structure uK (s:SS)(n:Nat)(g:Int)(w:Nat):Prop where
 kn:knB s=true
 lab:s.lab.length<=w
 bp:s.bp.length<=2*w
 aH:s.aH.length<=n
 av:s.av.length<=20000
 b0:0<=s.aD
 b1:s.aD<=1048576
 g0:0<=s.aN
 g1:s.aN<=g
theorem uK.a {s:SS}{n:Nat}{g:Int}{w:Nat}(h:uK s n g w)(hn:n<=1000000)(hg:g<=1000000000000000)(hw:w<=500000):FE s=true:=by
 have h1:=h.lab;have h2:=h.bp;have h3:=h.aH;have h4:=h.g1;exact ah3 (Yn h.kn (by omega) (by omega) (by omega) h.av) (ah1 h.b0 h.b1) (ah2 h.g0 (by omega))
theorem PL {s:SS}{n:Nat}{g:Int}{w:Nat}(h:uK s n g w)(v:List UInt8)(k:Int):uK (JO s v k) (n+1) g w:=by
 have h3:=h.aH;refine⟨?_,h.lab,h.bp,by show (s.aH++_).length<=_;rw[aA];show _+1<=_;omega,h.av,h.b0,h.b1,h.g0,h.g1⟩;show ((ia s.aI v ((s.aH.length+1:Nat):Int)).all λq=>Nat.ble q.2.toNat (s.aH++[(v,k,false)]).length)=true;exact J1 h.kn v (by rw[aA];omega) (by rw[aA];show _<=s.aH.length+1;omega)
theorem B6 {s:SS}{n:Nat}{g:Int}{w:Nat}(h:uK s n g w){q b t:Int}{l:List It}(hl:(l.length:Int)=q)(h1:1<=q)(b0:0<=b)(t0:0<=t):uK (ko s q b t l).1 n g w:=by
 have hi:=TP h.av (b:=b) hl h1 t0;obtain⟨hb,hb'⟩:=TQ h.b0 h.b1 (q:=q) (l:=l) b0 t0;have e:(ko s q b t l).1={ s with aD:=(ko s q b t l).1.aD,av:=(ko s q b t l).1.av }:=by
  unfold ko;split
  .rfl
  split<;>rfl
 rw[e];exact⟨h.kn,h.lab,h.bp,h.aH,hi,hb,hb',h.g0,h.g1⟩
theorem FF {s:SS}{n m:Nat}{g g':Int}{w:Nat}{v:List UInt8}{K:SR'}(h:uK s m g' w)(hK:uK K.1 m g' w):uK (pL s v K).1 m g' w:=by
 unfold pL;split
 .exact h
 exact hK
theorem uK.up {s:SS}{n m:Nat}{g g':Int}{w:Nat}(h:uK s n g w)(h1:n<=m)(h2:g<=g'):uK s m g' w:=by
 have h3:=h.aH;have h4:=h.g1;exact⟨h.kn,h.lab,h.bp,by omega,h.av,h.b0,h.b1,h.g0,by omega⟩
theorem Yx {s:SS}{n:Nat}{g:Int}{w:Nat}(h:uK s n g w){v:List UInt8}(hv:v.length<=w):uK (yf s v).1 (n+1) g w:=by
 unfold yf;refine FF (n:=n) (g:=g) (h.up (fD _) (bE _)) ?_;split
 .exact PL h _ _
 refine(B6 (n:=n) (q:=1) (b:=0) (t:=1) ?_ rfl (by decide) (by decide) (by decide)).up (fD _) (bE _);refine⟨J1 h.kn _ (aC _) (ck _),?_,h.bp,h.aH,h.av,h.b0,h.b1,h.g0,h.g1⟩;show (if v.take 1=[46] then s.lab else v).length<=w;split
 .exact h.lab
 exact hv
theorem ab8 {s:SS}{n:Nat}{g:Int}{w:Nat}(h:uK s n g w)(hn:n<1000000)(hg:g<=1000000000000000)(hw:w<=500000){x:RS}(hx:MU x)(hv:x.lab.length<=w) :
 aT X0 c5 T7 5 21 [.ptr 0 0,.agg (Jj x)] (eT 2 (vA s [])) gy=eH [] (jW gJ fS ny s x):=by
 have kd:∀s n,codeFrom X0 c5 T7 5 21 q3 gy (fr2 n) (mR s x)=CY s x n:=λs n=>by cases s;cases x;exact EE ..
 have kc:∀s n,codeFrom X0 c5 T7 5 21 q2 gy (fr2 n) (mR s x)=xy s x (CY s x n):=λs n=>by
  rw[uv (q:=[]) (by kernel_rfl),<-kd];cases s;cases x;exact al4 ..
 have kb:∀s,codeFrom X0 c5 T7 5 21 q1 gy fr1 (mR s x)=MT s x λn=>xy s x (CY s x n):=λs=>by
  rw[uv (q:=[true]) (by kernel_rfl)];have e:(λn=>xy s x (CY s x n))=λn=>codeFrom X0 c5 T7 5 21 q2 gy (fr2 n) (mR s x):=funext λn=>(kc s n).symm
  rw[e];cases s;cases x;exact al3 ..
 have ka:aT X0 c5 T7 5 21 [.ptr 0 0,.agg (Jj x)] (eT 2 (vA s [])) gy=ahW s x λs'=>MT s' x λn=>xy s' x (CY s' x n):=by
  rw[EJ (p:=q1) (by kernel_rfl)];have e:(λs'=>MT s' x λn=>xy s' x (CY s' x n))=λs'=>codeFrom X0 c5 T7 5 21 q1 gy fr1 (mR s' x):=funext λs'=>(kb s').symm
  rw[e];cases s;cases x;exact al2 ..
 have ha:=h.a (by omega) hg hw;have ht:∀s',FE s'=true->MT s' x (λn=>xy s' x (CY s' x n))=eH [] (pM gJ fS ny s' x):=λs' hs'=>ah0 hs' hx λn hn=>ab7 hs' hx hn
 rw[ka];unfold ahW jW;rw[vB ha (dS hx.lab)];have h0':(λs'=>MT s' x λn=>xy s' x (CY s' x n)) s=eH [] (pM gJ fS ny s x):=ht s ha;rw[h0'];by_cases h1:x.lab=[]
 .rw[aX h1,aa (λq=>q.1 h1)];rfl
 rw[aU h1];show ah (!bI x.aF 3) _ _=_;rw[cw,cw];by_cases h3:x.aF=3
 .rw[ag h3,aa (λq=>q.2.1 h3)]
 rw[aa h3];by_cases h6:x.aF=6
 .rw[ag h6,aa (λq=>q.2.2 h6)]
 rw[aa h6,ag ⟨h1,h3,h6⟩,cw];by_cases h0:(yf s x.lab).2=0
 .rw[ag h0,aa (λq=>q h0)];exact ht _ ((Yx h hv).a (by omega) hg hw)
 rw[aa h0,ag h0];rfl
end
end Go.Proofs.YtbeckacfibledaaGreatDoor.ps.sr

/- Tokens, written, joined. What is written is read as it. What is read may be; faults are in the text. -/
import Derived.Test.YtpaddkkfefgkfaaGreatDoorGrb
import Derived.Test.YtpaddkkfefgkfaaGreatDoorLyg

namespace Go.Proofs.YtpaddkkfefgkfaaGreatDoor.lt
open Go.Tv Go.Ev
set_option maxRecDepth 100000
noncomputable def atK (s:List UInt8) (i:Int) (k:UInt8->Option AV):Option AV:=Option.rec (motive:=λ_=>Option AV) none k (aS s i)
def wP:List UInt8:=[48,49,50,51,52,53,54,55,56,57,97,98,99,100,101,102,103,104,105,106,107,108,109,110,111,112,113,114,115,116,117,118,119,120,121,122]
def qU:List UInt8:=[48,49,50,51,52,53,54,55,56,57,97,98,99,100,101,102]
noncomputable def xH:Nat->Int->List Int->(List Int->Option AV)->Option AV
 |0,_,_,_=>none
 |f+1,u,acc,k=>pick2 (!ltI u 16) (atK wP (IntKind.wrap .u64 ↑(BitVec.toNat (BitVec.ofInt 64 u &&& BitVec.ofInt 64 15))) λc=>xH f (Int.fdiv u 16) (aA c::acc) k) (atK wP u λc=>k (aA c::acc))
noncomputable def ch (gv:Nat->List AV) (β:Type):aY β:=kV (Xg gv) K0 inl 17 β 20
theorem ad8 (gv:Nat->List AV) (β:Type):aQ (Xg gv) (bg (Xg gv) kn) (ch gv β):=dZ (by intro id s g h;cases h) (λf h args=>aX h args) 17 20 β
theorem Si (n:Int):ag (Xg gJ) (ch gJ AV) dc 17 26 [.int .i64 n] aa.empty (λv _=>some v) =
 pick2 (ltI n 0) (xH 17 (IntKind.wrap .u64 (0-IntKind.wrap .u64 n)) [] λl=>some (.str ([45,48,120]++l.map EH))) (xH 17 (IntKind.wrap .u64 n) [] λl=>some (.str ([48,120]++l.map EH))):=by kernel_rfl
def qV (d:Nat):UInt8:=UInt8.ofNat (if d<10 then 48+d else 87+d)
def eJ (b:Nat):Nat->Nat->List UInt8->List UInt8
 |0,_,acc=>acc
 |f+1,u,acc=>if u<b then qV u::acc else eJ b f (u/b) (qV (u%b)::acc)
theorem Ns:((List.range 16).all λd=>decide (wP[d]? = some (qV d))&&decide (qU[d]? = some (qV d)))=true:=by decide +kernel
theorem Sj {d:Nat} (h:d<16):aS wP (d:Int)=some (qV d)/\qU[d]? = some (qV d):=by
 have:=List.all_eq_true.1 Ns d (List.mem_range.2 h)
 simp only[Bool.and_eq_true,decide_eq_true_eq] at this
 exact this
theorem G9:∀(f u:Nat) (acc:List UInt8) (k:List Int->Option AV),u<16 ^ f->u<18446744073709551616->0<f->xH f u (acc.map aA) k=k ((eJ 16 f u acc).map aA)
 |0,u,acc,k,_,_,h=>by omega
 |
  f+1,u,acc,k,h,h64,_=>by
  have hand:((BitVec.ofInt 64 (u:Int) &&& BitVec.ofInt 64 15).toNat:Int)=(u:Int)%16:=D6 (by omega) (by omega) 4 (by omega)
  show pick2 (!ltI (u:Int) 16) (atK wP (IntKind.wrap .u64 ↑(BitVec.toNat (BitVec.ofInt 64 (u:Int) &&& BitVec.ofInt 64 15))) λc=>xH f (Int.fdiv u 16) (aA c::acc.map aA) k) (atK wP u λc=>k (aA c::acc.map aA))=_
  rw[gG,hand,u64_in (by omega) (by omega),eJ]
  unfold atK;by_cases hu:u<16
  .
   rw[if_neg (by omega),if_pos hu,(Sj hu).1];rfl
  rw[if_pos (by omega),if_neg hu]
  have e1:((u:Int)%16)=((u%16:Nat):Int):=by omega
  have e2:Int.fdiv (u:Int) 16=((u/16:Nat):Int):=by rw[Int.fdiv_eq_ediv_of_nonneg _ (by omega)];rfl
  have hf:0<f:=by
   cases f with
   |zero=>simp at h;omega
   |succ f=>omega
  rw[e1,(Sj (Nat.mod_lt u (by omega))).1,e2]
  have:=G9 f (u/16) (qV (u%16)::acc) k (by rw[Nat.pow_succ] at h;omega) (by omega) hf
  exact this
def o9 (b:Nat) (ah:List UInt8) (n:Int):List UInt8:=(if n<0 then [45] else [])++ah++eJ b 64 n.natAbs []
theorem abs_neg {n:Int} (h0 : -9223372036854775808<=n) (h:n<0):IntKind.wrap .u64 (0-IntKind.wrap .u64 n)=((n.natAbs:Nat):Int):=by rw[o4,o4];omega
theorem Vs {n:Int} (h1:n<9223372036854775808) (h:¬n<0):IntKind.wrap .u64 n=((n.natAbs:Nat):Int):=by rw[o4];omega
theorem wQ {b:Nat} (hb:2<=b):∀(f g u:Nat) (acc:List UInt8),u<b ^ f->0<f->f<=g->eJ b g u acc=eJ b f u acc
 |0,_,_,_,_,h,_=>by omega
 |f+1,0,_,_,_,_,h=>by omega
 |
  f+1,g+1,u,acc,h,_,hfg=>by
  rw[eJ,eJ];by_cases hu:u<b
  .
   rw[if_pos hu,if_pos hu]
  rw[if_neg hu,if_neg hu]
  have hf:0<f:=by
   cases f with
   |zero=>simp at h;omega
   |succ f=>omega
  exact wQ hb f g (u/b) _ (by rw[Nat.pow_succ] at h;exact Nat.div_lt_of_lt_mul (by rw[Nat.mul_comm];exact h)) hf (by omega)
theorem Lt {u:Nat} (h:u<18446744073709551616) (k:List Int->Option AV):xH 17 u [] k=k ((eJ 16 64 u []).map aA):=by
 have hp:u<16 ^ 17:=by omega
 have:=G9 17 u [] k hp h (by omega)
 rw[wQ (by omega) 17 64 u [] hp (by omega) (by omega)]
 exact this
theorem Vt {n:Int} (h0 : -9223372036854775808<=n) (h1:n<9223372036854775808) :
 pick2 (ltI n 0) (xH 17 (IntKind.wrap .u64 (0-IntKind.wrap .u64 n)) [] λl=>some (.str ([45,48,120]++l.map EH))) (xH 17 (IntKind.wrap .u64 n) [] λl=>some (.str ([48,120]++l.map EH)))=some (.str (o9 16 [48,120] n)):=by
 rw[aV]
 unfold o9
 split
 .
  rename_i h;rw[abs_neg h0 h,Lt (by omega),D5];rfl
 rename_i h;rw[Vs h1 h,Lt (by omega),D5];rfl
noncomputable def Vu (args:List AV):Option (Bool×List bL) :=
 match args with
 |[.int .i64 n]=>some (!ltI n (-9223372036854775808)&&ltI n 9223372036854775808,[.val (.str (o9 16 [48,120] n))])
 |_=>none
theorem Sk:aT (Xg gJ) (bg (Xg gJ) kn) 26 Vu :=
 aU (λargs=>aX rfl args) (ad8 gJ) λargs rs hg=>by
  unfold Vu at hg;split at hg
  .
   rename_i n;simp only[Option.some.injEq,Prod.mk.injEq,Bool.and_eq_true,ltI_spec,Bool.not_eq_true',decide_eq_false_iff_not,decide_eq_true_eq] at hg;obtain ⟨h1,rfl⟩:=hg;exact ⟨[.str (o9 16 [48,120] n)],dc,17,(Si n).trans (Vt (by omega) (by omega)),rfl,rfl⟩
  cases hg
def AO:List (List UInt8):=[[36,36],[60,60],[62,62],[43],[45],[42],[47],[37],[38],[124],[94],[126],[40],[41],[91],[93],[44],[58],[36]]
noncomputable def Kb {α:Type} (L:List α) (i:Int) (k:α->Option AV):Option AV:=Option.rec (motive:=λ_=>Option AV) none k (aS L i)
noncomputable def M6':List qB:=(15,[none],gNm)::M3
theorem M6'_ok (gv:Nat->List AV):cU (Xg gv) (bg (Xg gv) kn) M6':=.cons (Wf gv) (Gr gv)
noncomputable def d6' (gv:Nat->List AV) (β:Type):aY β:=kV (Xg gv) (My M6') inl 200 β 20
theorem d6'_ok (gv:Nat->List AV) (β:Type):aQ (Xg gv) (bg (Xg gv) kn) (d6' gv β):=dZ (M6'_ok gv) (λf h args=>aX h args) 200 20 β
def pV1:List Bool:=[true,false,true,false,true,true,true,true,true,false,false,true,false]
noncomputable def Z8:bO:=⟨eX [1,27,28] pV1,.none,[]⟩
noncomputable def QJ (y:Piece):AV:=.agg [.int .i64 y.1,.int .i64 y.2.1,.str y.2.2.1,.int .i64 y.2.2.2]
noncomputable def ahq (y:Piece):aa:=ot [.cells 106 [.int .i64 y.1,.int .i64 y.2.1,.str y.2.2.1,.int .i64 y.2.2.2]]
noncomputable def jV1 (gv:Nat->List AV) (y:Piece) (r m:Nat) (i:Int):Option AV:=fJ (Xg gv) (d6' gv AV) Z8 r 59 pV1 (λv _=>some v) m (j8 62 [(1,.ptr 0 0),(27,.int .i64 y.2.2.1.length),(28,.int .i64 i)]) (ahq y)
def ko (c:UInt8):Bool:=iu (aA c) && !eqI (aA c) 34
noncomputable def fV:Option AV:=some (.bool false)
theorem Z9 (gv:Nat->List AV) (y:Piece) (r m:Nat) (i:Int):jV1 gv y r (m+1) i =
 pick2 (ltI i ↑y.2.2.1.length) (Option.rec (motive:=λ_=>Option AV) none (λc=>pick2 (eqI (aA c) 34) fV (Option.rec (motive:=λ_=>Option AV) none (λc=>pick2 (!iu (aA c)) fV (jV1 gv y r m (IntKind.wrap .i64 (i+1)))) (aS y.2.2.1 i))) (aS y.2.2.1 i))
  (some (.bool (eqI y.2.1 0))):=by kernel_rfl
theorem ad9 (n:Int):iu n=(!ltI n 32 && !ltI 126 n):=by
 unfold iu
 rw[ltI_spec,ltI_spec,Bool.eq_iff_iff]
 simp
theorem stepV1' (gv:Nat->List AV) (y:Piece) (r m:Nat) (i:Int):jV1 gv y r (m+1) i =
 pick2 (ltI i ↑y.2.2.1.length) (Option.rec (motive:=λ_=>Option AV) none (λc=>pick2 (!ko c) fV (jV1 gv y r m (IntKind.wrap .i64 (i+1)))) (aS y.2.2.1 i)) (some (.bool (eqI y.2.1 0))):=by
 rw[Z9]
 cases aS y.2.2.1 i with
 |none=>rfl
 |
  some c =>
  show pick2 _ (pick2 (eqI (aA c) 34) fV (pick2 (!iu (aA c)) fV _)) _=pick2 _ (pick2 (!ko c) fV _) _;unfold ko;cases eqI (aA c) 34<;>cases iu (aA c)<;>rfl
noncomputable def bI (y:Piece):Bool:=pick2 (eqI y.1 1) (eqI y.2.1 0&&bf y.2.2.1) (pick2 (eqI y.1 2) (decide (y.2.2.1=[])) (pick2 (eqI y.1 3) (y.2.2.1.all ko&&eqI y.2.1 0) (pick2 (eqI y.1 4) (AO.any (λp=>decide (y.2.2.1=p))&&eqI y.2.1 0) false)))
noncomputable def sgV (s:List UInt8) (n:Int) (l:List (List UInt8)):Option AV:=List.rec (motive:=λ_=>Option AV) fV (λp _ r=>pick2 (decide (s=p)) (some (.bool (eqI n 0))) r) l
theorem Sl (s:List UInt8) (n:Int):∀l,sgV s n l=some (.bool (l.any (λp=>decide (s=p))&&eqI n 0))
 |[]=>rfl
 |
  p::l=>by
  show pick2 (decide (s=p)) (some (AV.bool (eqI n 0))) (sgV s n l)=_;rw[Sl s n l,List.any_cons];cases decide (s=p)<;>rfl
noncomputable def WJ (y:Piece) (a b:Option AV):Option AV :=
 pick2 (eqI y.1 1) (pick2 (eqI y.2.1 0) (some (.bool (bf y.2.2.1))) fV) (pick2 (eqI y.1 2) (some (.bool (decide (y.2.2.1=[])))) (pick2 (eqI y.1 3) a (pick2 (eqI y.1 4) b fV)))
theorem Vv (y:Piece) (k:Nat):ag (Xg gJ) (d6' gJ AV) Z8 (k+21) 59 [QJ y] aa.empty (λv _=>some v)=WJ y (jV1 gJ y (k+21) (k+21) 0) (sgV y.2.2.1 y.2.1 AO):=by kernel_rfl
theorem aea (y:Piece) (k:Nat) (hs:y.2.2.1.length<=k) (hk:k<=100000):ag (Xg gJ) (d6' gJ AV) Z8 (k+21) 59 [QJ y] aa.empty (λv _=>some v)=some (.bool (bI y)):=by
 have hl:=Gv (s:=y.2.2.1) (by omega) (stepV1' gJ y (k+21)) y.2.2.1 [] (k+21) rfl (by omega)
 have hl:jV1 gJ y (k+21) (k+21) 0=_:=hl
 rw[Vv,hl,Sl]
 unfold WJ bI fV
 cases eqI y.1 1<;>cases eqI y.1 2<;>cases eqI y.1 3<;>cases eqI y.1 4<;>cases eqI y.2.1 0<;>cases y.2.2.1.all ko<;>rfl
noncomputable def Vw (args:List AV):Option (Bool×List bL) :=
 match args with
 |[.agg [.int .i64 k,.int .i64 n,.str s,.int .i64 a]]=>some (Nat.ble s.length 1100,[.val (.bool (bI (k,n,s,a)))])
 |_=>none
theorem Vx {gv:Nat->List AV} {an:bO} {f:FuncId} (hk:inl f=true) (h:∀(y:Piece) (k:Nat),y.2.2.1.length<=k->k<=100000->ag (Xg gv) (d6' gv AV) an (k+21) f [QJ y] aa.empty (λv _=>some v)=some (.bool (bI y))):aT (Xg gv) (bg (Xg gv) kn) f Vw :=
 aU (λargs=>aX hk args) (d6'_ok gv) λargs rs hg=>by
  unfold Vw at hg;split at hg
  .
   rename_i k n s a;simp only[Option.some.injEq,Prod.mk.injEq,Nat.ble_eq] at hg;obtain ⟨h1,rfl⟩:=hg;exact ⟨[.bool (bI (k,n,s,a))],an,1100+21,h (k,n,s,a) 1100 h1 (by omega),rfl,rfl⟩
  cases hg
theorem aeb:aT (Xg gJ) (bg (Xg gJ) kn) 59 Vw:=Vx rfl aea
noncomputable def Sm (a:Int):Int:=((BitVec.ofInt 64 a &&& BitVec.ofInt 64 15).toNat:Int)
theorem Sn (a:Int):Sm a=a%16:=by
 unfold Sm
 have e:BitVec.ofInt 64 a=BitVec.ofInt 64 (a%18446744073709551616):=by
  apply BitVec.eq_of_toNat_eq;simp only[BitVec.toNat_ofInt]
  congr 1
  omega
 rw[e]
 have:=D6 (a:=a%18446744073709551616) (by omega) (by omega) 4 (by omega)
 have h2:((2 ^ 4-1:Nat):Int)=15:=rfl
 rw[h2] at this
 rw[this]
 show a%18446744073709551616%16=a%16
 omega
def yB (d:Int):UInt8:=qU.getD d.toNat 0
theorem Vy {d:Int} (h0:0<=d) (h1:d<16):aS qU d=some (yB d):=by
 obtain ⟨k,rfl⟩:∃k:Nat,d=k:=⟨d.toNat,by omega⟩
 rw[ou]
 unfold yB
 have:k<qU.length:=by show k<16;omega
 rw[Int.toNat_natCast,List.getElem?_eq_getElem this,List.getD_eq_getElem?_getD,List.getElem?_eq_getElem this];rfl
theorem ahs {d:Int} (h0:0<=d) (h1:d<16):aI qU d (d+1)=[yB d]:=by
 obtain ⟨k,rfl⟩:∃k:Nat,d=k:=⟨d.toNat,by omega⟩
 unfold aI yB
 have:k<qU.length:=by show k<16;omega
 have e:((k:Int)+1).toNat-(k:Int).toNat=1:=by omega
 rw[e,Int.toNat_natCast,List.drop_eq_getElem_cons this,List.getD_eq_getElem?_getD,List.getElem?_eq_getElem this];rfl
noncomputable def He:Nat->Int->List Int->Nat->Option AV
 |0,_,L,_=>some (.str (L.map EH))
 |f+1,u,L,i=>Option.rec (motive:=λ_=>Option AV) none (λc=>He f (Int.fdiv u 16) (L.set i (aA c)) (i-1)) (aS qU (IntKind.wrap .u64 (Sm u)))
theorem I1 (u:Int):ag (Xg gJ) (c0 gJ AV) dc 20 102 [.int .u64 u] aa.empty (λv _=>some v)=He 16 u [48,120,48,48,48,48,48,48,48,48,48,48,48,48,48,48,48,48] 17:=by kernel_rfl
def JX:Nat->Int->List Int->Nat->List Int
 |0,_,L,_=>L
 |f+1,u,L,i=>JX f (u/16) (L.set i (aA (yB (u%16)))) (i-1)
theorem Hg:∀(f:Nat) (u:Int) (L:List Int) (i:Nat),0<=u->He f u L i=some (.str ((JX f u L i).map EH))
 |0,_,_,_,_=>rfl
 |
  f+1,u,L,i,h=>by
  rw[He,Sn,u64_in (by omega) (by omega),Vy (by omega) (by omega)]
  show He f (Int.fdiv u 16) (L.set i (aA (yB (u%16)))) (i-1)=_;have e:Int.fdiv u 16=u/16:=Int.fdiv_eq_ediv_of_nonneg _ (by omega)
  rw[e,Hg f (u/16) _ _ (by omega),JX]
def BC (u:Int):List UInt8:=(JX 16 u [48,120,48,48,48,48,48,48,48,48,48,48,48,48,48,48,48,48] 17).map EH
noncomputable def aaa (args:List AV):Option (Bool×List bL) :=
 match args with
 |[.int .u64 u]=>some (!ltI u 0,[.val (.str (BC u))])
 |_=>none
theorem aec:aT (Xg gJ) (bg (Xg gJ) kn) 102 aaa :=
 aU (λargs=>aX rfl args) (su gJ) λargs rs hg=>by
  unfold aaa at hg;split at hg
  .
   rename_i u;simp only[Option.some.injEq,Prod.mk.injEq,ltI_spec,Bool.not_eq_true',decide_eq_false_iff_not] at hg;obtain ⟨h1,rfl⟩:=hg;exact ⟨[.str (BC u)],dc,20,(I1 u).trans (Hg 16 u _ _ (by omega)),rfl,rfl⟩
  cases hg
noncomputable def M7':List qB:=(26,[none],Vu)::(59,[none],Vw)::(102,[none],aaa)::M6'
theorem M7'_ok:cU (Xg gJ) (bg (Xg gJ) kn) M7':=.cons Sk (.cons aeb (.cons aec (M6'_ok gJ)))
noncomputable def d7' (β:Type):aY β:=kV (Xg gJ) (My M7') inl 200 β 20
theorem d7'_ok (β:Type):aQ (Xg gJ) (bg (Xg gJ) kn) (d7' β):=dZ M7'_ok (λf h args=>aX h args) 200 20 β
def ax (y:Piece):List UInt8:=if y.1=2 then (if y.2.1<0 then BC (IntKind.wrap .u64 y.2.1) else o9 16 [48,120] y.2.1) else if y.1=3 then [34]++y.2.2.1++[34] else y.2.2.1
noncomputable def Sq (y:Piece):Option AV :=
 pick2 (eqI y.1 2) (pick2 (ltI y.2.1 0) (pick2 (!ltI (IntKind.wrap .u64 y.2.1) 0) (some (.str (BC (IntKind.wrap .u64 y.2.1)))) none) (pick2 (!ltI y.2.1 (-9223372036854775808)&&ltI y.2.1 9223372036854775808) (some (.str (o9 16 [48,120] y.2.1))) none))
  (pick2 (eqI y.1 3) (pick2 (Nat.ble (1+y.2.2.1.length) 9223372036854775807) (pick2 (Nat.ble (([34]++y.2.2.1).length+1) 9223372036854775807) (some (.str ([34]++y.2.2.1++[34]))) none) none) (some (.str y.2.2.1)))
theorem aab (y:Piece):ag (Xg gJ) (d7' AV) dc 20 62 [QJ y] aa.empty (λv _=>some v)=Sq y:=by kernel_rfl
theorem aac (n:Int):0<=IntKind.wrap .u64 n:=by rw[o4];omega
theorem Sr (y:Piece) (h0 : -9223372036854775808<=y.2.1) (h1:y.2.1<9223372036854775808) (hs:y.2.2.1.length<=1100):Sq y=some (.str (ax y)):=by
 unfold Sq ax
 rw[aH,aV,cz (aac _),cz h0,lQ h1,aH,cP (by omega),cP (by simp;omega)]
 split
 .
  split<;>rfl
 split<;>rfl
noncomputable def gWr (args:List AV):Option (Bool×List bL) :=
 match args with
 |[.agg [.int .i64 k,.int .i64 n,.str s,.int .i64 a]]=>some (!ltI n (-9223372036854775808)&&ltI n 9223372036854775808&&Nat.ble s.length 1100,[.val (.str (ax (k,n,s,a)))])
 |_=>none
theorem aed:aT (Xg gJ) (bg (Xg gJ) kn) 62 gWr :=
 aU (λargs=>aX rfl args) d7'_ok λargs rs hg=>by
  unfold gWr at hg;split at hg
  .
   rename_i k n s a;simp only[Option.some.injEq,Prod.mk.injEq,Bool.and_eq_true,ltI_spec,Bool.not_eq_true',decide_eq_false_iff_not,decide_eq_true_eq,Nat.ble_eq] at hg;obtain ⟨⟨⟨h1,h2⟩,h3⟩,rfl⟩:=hg;exact ⟨[.str (ax (k,n,s,a))],dc,20,(aab (k,n,s,a)).trans (Sr (k,n,s,a) (by show -9223372036854775808<=n;omega) h2 h3),rfl,rfl⟩
  cases hg
def aad (n:Int):List UInt8:=if n<0 then BC (IntKind.wrap .u64 n) else o9 16 [48,120] n
noncomputable def M8':List qB:=(62,[none],gWr)::M7'
theorem M8'_ok:cU (Xg gJ) (bg (Xg gJ) kn) M8':=.cons aed M7'_ok
noncomputable def d8' (β:Type):aY β:=kV (Xg gJ) (My M8') inl 200 β 20
theorem d8'_ok (β:Type):aQ (Xg gJ) (bg (Xg gJ) kn) (d8' β):=dZ M8'_ok (λf h args=>aX h args) 200 20 β
def pJ1:List Bool:=[true,false,true,false]
def pJr:List Bool:=[true,true]
def pJ2:List Bool:=[true,true,true,false,true,false]
noncomputable def anJ:bO:=⟨o5 (eX [0,9,10,11] pJ1) (o5 (eX [0] pJr) (eX [6,19,20,21] pJ2)),.none,[]⟩
noncomputable def jJ1 (l:List Piece) (r m:Nat) (i:Int):Option AV:=fJ (Xg gJ) (d8' AV) anJ r 28 pJ1 (λv _=>some v) m (j8 36 [(0,.bQ aL l),(9,.bQ aL l),(10,.int .i64 l.length),(11,.int .i64 i)]) aa.empty
noncomputable def Ss (l:List Piece) (r:Nat):Option AV:=codeFrom (Xg gJ) (d8' AV) anJ r 28 pJr (λv _=>some v) (j8 36 [(0,.bQ aL l)]) aa.empty
noncomputable def WK (l:List Piece) (r m:Nat) (i:Int) (H:aa):Option AV:=fJ (Xg gJ) (d8' AV) anJ r 28 pJ2 (λv _=>some v) m (j8 36 [(6,.ptr 0 0),(19,.bQ aL l),(20,.int .i64 l.length),(21,.int .i64 i)]) H
noncomputable def mJ0:aa:=ot [.cells 115 [.jt,.bR]]
noncomputable def mJ (L:List Int) (n:Nat):aa:=ot [.cells 115 [.ptr 0 0,.own 1 n],.list 5 (.int .u8) L 0 false false]
noncomputable def Nt (e:Int):Option AV:=some (.cO [.str [],.int .i64 e])
noncomputable def dV (y:Piece):Bool := !ltI y.2.1 (-9223372036854775808)&&ltI y.2.1 9223372036854775808&&Nat.ble y.2.2.1.length 1100
def wI (y:Piece):List Int:=(ax y).map aA
theorem Su (l:List Piece) (r m:Nat) (i:Int):jJ1 l r (m+1) i=pick2 (ltI i ↑l.length) (Kb l i λy=>pick2 (Nat.ble y.2.2.1.length 1100) (pick2 (!bI y) (Nt 2) (jJ1 l r m (IntKind.wrap .i64 (i+1)))) none) (Ss l r):=by kernel_rfl
theorem aae (l:List Piece) (r:Nat):ag (Xg gJ) (d8' AV) anJ r 28 [.bQ aL l] aa.empty (λv _=>some v)=jJ1 l r r 0:=by kernel_rfl
theorem Sv (l:List Piece) (r:Nat):Ss l r=WK l r r 0 mJ0:=by kernel_rfl
theorem aaf (l:List Piece) (r m:Nat):WK l r (m+1) 0 mJ0=pick2 (ltI 0 ↑l.length) (Kb l 0 λy=>pick2 (dV y) (pick2 (Nat.ble (0+(wI y).length) 1000000) (pick2 (ltI 1000 ↑(0+(wI y).length)) (Nt 3) (WK l r m 1 (mJ (wI y) (0+(wI y).length)))) none) none) (some (.cO [.str [],.int .i64 0])):=by kernel_rfl
noncomputable def wrJ (l:List Piece) (r m:Nat) (i:Int) (y:Piece) (L:List Int):Option AV :=
 pick2 (dV y) (pick2 (Nat.ble (L.length+(wI y).length) 1000000) (pick2 (ltI 1000 ↑(L.length+(wI y).length)) (Nt 3) (WK l r m (IntKind.wrap .i64 (i+1)) (mJ (L++wI y) (L.length+(wI y).length)))) none) none
noncomputable def aeg (L:List Int) (n:Nat):Option AV:=pick2 (Nat.ble 1 n) (pick2 (Nat.ble 1 L.length&&Nat.ble L.length 1000000&&eqI ↑n ↑L.length&&L.all FD) (some (.cO [.str (L.map EH),.int .i64 0])) none) none
theorem Sw (l:List Piece) (r m:Nat) (i:Int) (L:List Int) (n:Nat):WK l r (m+1) i (mJ L n) =
 pick2 (ltI i ↑l.length) (Kb l i λy=>pick2 (ltI 0 i) (pick2 (Nat.ble (L.length+1) 1000000) (wrJ l r m i y (L++[32])) none) (wrJ l r m i y L)) (aeg L n):=by kernel_rfl
def jq:List Piece->List UInt8->List UInt8×Int
 |[],b=>(b,0)
 |y::l,b=>if 1000<(b++[32]++ax y).length then ([],3) else jq l (b++[32]++ax y)
noncomputable def dW (l:List Piece):List UInt8×Int:=if l.all bI=true then (match l with | []=>([],0)|y::l=>if 1000<(ax y).length then ([],3) else jq l (ax y)) else ([],2)
noncomputable def Vz (r:List UInt8×Int):Option AV:=some (.cO [.str r.1,.int .i64 r.2])
theorem Hh:∀b:List UInt8,(b.map aA).all FD=true
 |[]=>rfl
 |
  c::b=>by
  rw[List.map_cons,List.all_cons,Hh b,Bool.and_true];show Nat.ble c.toNat 255=true;have:=c.toNat_lt;exact cP (by omega)
theorem AP {b:Nat}:∀(f u:Nat) (acc:List UInt8),(eJ b f u acc).length<=f+acc.length
 |0,_,acc=>by simp[eJ]
 |
  f+1,u,acc=>by
  rw[eJ];split
  .
   simp;omega
  have:=AP (b:=b) f (u/b) (qV (u%b)::acc);simp at this;omega
theorem u9:∀(f:Nat) (u:Int) (L:List Int) (i:Nat),(JX f u L i).length=L.length
 |0,_,_,_=>rfl
 |f+1,u,L,i=>by rw[JX,u9];simp
theorem Hi {y:Piece} (h:y.2.2.1.length<=1100):(ax y).length<=1200:=by
 unfold ax
 split
 .
  split
  .
   unfold BC;rw[List.length_map,u9];simp
  unfold o9;have:=AP (b:=16) 64 y.2.1.natAbs [];simp only[List.length_append,List.length_nil] at this ⊢;split<;>simp<;>omega
 split
 .
  simp;omega
 omega
theorem Nu {y:Piece} (h:bI y=true):1<=(ax y).length:=by
 unfold ax
 by_cases h2:y.1=2
 .
  rw[if_pos h2];split
  .
   unfold BC;rw[List.length_map,u9];simp
  unfold o9;simp;omega
 rw[if_neg h2]
 by_cases h3:y.1=3
 .
  rw[if_pos h3];simp
 rw[if_neg h3]
 cases hs:y.2.2.1 with
 |cons c r=>simp
 |
  nil =>
  exfalso;unfold bI at h;rw[hs,aH,aH,aH,aH,if_neg h2,if_neg h3] at h;split at h
  .
   simp[bf] at h
  split at h
  .
   simp[AO] at h
  cases h
theorem aag (l:List Piece) (hl:l.length<=1000) (r:Nat):∀(rest pre:List Piece) (m:Nat) (b:List UInt8) (n:Nat),l=pre++rest->rest.length<m->1<=pre.length->1<=b.length->b.length<=1000->n=b.length->(∀y∈rest,dV y=true) ->
 WK l r m pre.length (mJ (b.map aA) n)=Vz (jq rest b):=by
 intro rest
 induction rest with
 |
  nil =>
  intro pre m b n he hm hp Bh yY hn _;obtain ⟨m,rfl⟩:∃m',m=m'+1:=⟨m-1,by simp at hm;omega⟩
  have e1:l.length=pre.length:=by rw[he];simp
  rw[Sw,cz (by omega)]
  unfold aeg;rw[cP (show 1<=n by omega),Hh,cP (show 1<=(b.map aA).length by simp;omega),cP (show (b.map aA).length<=1000000 by simp;omega),zU (by simp;omega),D5]
  rfl
 |
  cons y rest ih =>
  intro pre m b n he hm hp Bh yY hn hc;obtain ⟨m,rfl⟩:∃m',m=m'+1:=⟨m-1,by simp at hm;omega⟩
  have e1:l.length=pre.length+(rest.length+1):=by rw[he];simp
  have hg:aS l (pre.length:Int)=some y:=by rw[he];exact gb pre rest y
  have Nv:=hc y (by simp)
  have hw:(ax y).length<=1200:=by
   refine Hi ?_;unfold dV at Nv;simp only[Bool.and_eq_true,Nat.ble_eq] at Nv;exact Nv.2
  have e2:b.map aA++[32]++wI y=(b++[32]++ax y).map aA:=by unfold wI;simp;rfl
  have e3:(b.map aA++[32]).length+(wI y).length=(b++[32]++ax y).length:=by unfold wI;simp only[List.length_append,List.length_map,List.length_cons,List.length_nil]
  rw[Sw,jq];unfold Kb;rw[lQ (a:=(pre.length:Int)) (by omega),hg]
  show pick2 (ltI 0 ↑pre.length) (pick2 (Nat.ble ((b.map aA).length+1) 1000000) (wrJ l r m ↑pre.length y (b.map aA++[32])) none) (wrJ l r m ↑pre.length y (b.map aA))=_;rw[lQ (by omega),cP (by simp;omega)]
  show wrJ l r m ↑pre.length y (b.map aA++[32])=_;unfold wrJ;rw[Nv,e2,e3,cP (by simp;omega),i64_in (n:=(pre.length:Int)+1) (by omega) (by omega)]
  show pick2 (ltI 1000 ↑((b++[32]++ax y).length)) (Nt 3) (WK l r m (↑pre.length+1) (mJ ((b++[32]++ax y).map aA) (b++[32]++ax y).length))=_;rw[aV];by_cases hlt:1000<(b++[32]++ax y).length
  .
   rw[if_pos (by omega),if_pos hlt];rfl
  rw[if_neg (by omega),if_neg hlt]
  have hin:=ih (pre++[y]) m (b++[32]++ax y) _ (by rw[he];simp) (by simp at hm;omega) (by simp) (by simp;omega) (by omega) rfl (λx hx=>hc x (by simp[hx]))
  rw[List.length_append] at hin;exact hin
theorem Nw (l:List Piece) (hl:l.length<=1000) (r:Nat) (hr:l.length<r) (hc:∀y∈l,dV y=true) (hv:l.all bI=true):Ss l r=Vz (dW l):=by
 rw[Sv]
 unfold dW
 rw[if_pos hv]
 obtain ⟨m,rfl⟩:∃m,r=m+1:=⟨r-1,by omega⟩
 rw[aaf]
 cases l with
 |nil=>rfl
 |
  cons y l =>
  have Nv:=hc y (by simp)
  have hw:(ax y).length<=1200:=by
   refine Hi ?_;unfold dV at Nv;simp only[Bool.and_eq_true,Nat.ble_eq] at Nv;exact Nv.2
  have h1:=Nu (y:=y) (by rw[List.all_cons,Bool.and_eq_true] at hv;exact hv.1)
  have e0:0+(wI y).length=(ax y).length:=by unfold wI;simp
  unfold Kb;rw[lQ (a:=(0:Int)) (b:=((y::l).length:Int)) (by simp only[List.length_cons];omega)]
  show pick2 (dV y) (pick2 (Nat.ble (0+(wI y).length) 1000000) (pick2 (ltI 1000 ↑(0+(wI y).length)) (Nt 3) (WK (y::l) (m+1) m 1 (mJ (wI y) (0+(wI y).length)))) none) none=Vz (if 1000<(ax y).length then ([],3) else jq l (ax y));rw[e0,Nv,cP (by omega),aV]
  by_cases hlt:1000<(ax y).length
  .
   rw[if_pos (by omega),if_pos hlt];rfl
  rw[if_neg (by omega),if_neg hlt]
  exact aag (y::l) hl (m+1) l [y] m (ax y) _ rfl (by simp at hr;omega) (by simp) h1 (by omega) rfl (λx hx=>hc x (by simp[hx]))
theorem aah (l:List Piece) (hl:l.length<=1000) (r:Nat) (hr:l.length<r) (hc:∀y∈l,dV y=true):∀(rest pre:List Piece) (m:Nat),l=pre++rest->rest.length<m->pre.all bI=true->jJ1 l r m pre.length=Vz (dW l):=by
 intro rest
 induction rest with
 |
  nil =>
  intro pre m he hm hp;obtain ⟨m,rfl⟩:∃m',m=m'+1:=⟨m-1,by simp at hm;omega⟩
  have e0:l=pre:=by rw[he];simp
  rw[Su,cz (by rw[e0];omega)]
  exact Nw l hl r hr hc (by rw[e0];exact hp)
 |
  cons y rest ih =>
  intro pre m he hm hp;obtain ⟨m,rfl⟩:∃m',m=m'+1:=⟨m-1,by simp at hm;omega⟩
  have e1:l.length=pre.length+(rest.length+1):=by rw[he];simp
  have hg:aS l (pre.length:Int)=some y:=by rw[he];exact gb pre rest y
  have Nv:=hc y (by rw[he];simp)
  have hs:y.2.2.1.length<=1100:=by
   unfold dV at Nv;simp only[Bool.and_eq_true,Nat.ble_eq] at Nv;exact Nv.2
  rw[Su];unfold Kb;rw[lQ (by omega),hg,i64_in (n:=(pre.length:Int)+1) (by omega) (by omega)]
  show pick2 (Nat.ble y.2.2.1.length 1100) (pick2 (!bI y) (Nt 2) (jJ1 l r m (↑pre.length+1))) none=_;rw[cP hs];cases hv:bI y with
  |
   true =>
   have hin:=ih (pre++[y]) m (by rw[he];simp) (by simp at hm;omega) (by rw[List.all_append,hp];simp[hv])
   rw[List.length_append] at hin;exact hin
  |
   false =>
   have:l.all bI=false:=by rw[he,List.all_append,List.all_cons,hv];simp
   unfold dW;rw[this];rfl
theorem ahu (l:List Piece) (hl:l.length<=1000) (hc:∀y∈l,dV y=true):ag (Xg gJ) (d8' AV) anJ (l.length+1) 28 [.bQ aL l] aa.empty (λv _=>some v)=some (.cO [.str (dW l).1,.int .i64 (dW l).2]):=by
 rw[aae]
 exact aah l hl (l.length+1) (by omega) hc l [] (l.length+1) rfl (by omega) rfl
noncomputable def Hl (args:List AV):Option (Bool×List bL) :=
 match args with
 |
  [a]=>match EK aL a with
  |some l=>some (Nat.ble l.length 1000&&l.all dV,[.val (.str (dW l).1),.val (.int .i64 (dW l).2)])
  |none=>none
 |_=>none
theorem JY {f:FuncId} (hk:inl f=true) {call:∀ β,aY β} (hcall:∀ β,aQ (Xg gJ) (bg (Xg gJ) kn) (call β)) {an:bO} (h:∀l:List Piece,l.length<=1000->(∀y∈l,dV y=true)->∃r,ag (Xg gJ) (call AV) an r f [.bQ aL l] aa.empty (λv _=>some v)=some (.cO [.str (dW l).1,.int .i64 (dW l).2])):aT (Xg gJ) (bg (Xg gJ) kn) f Hl :=
 aU (λargs=>aX hk args) hcall λargs rs hg=>by
  unfold Hl at hg;split at hg
  .
   rename_i a;split at hg
   .
    rename_i l hl;obtain rfl:=dI hl;simp only[Option.some.injEq,Prod.mk.injEq,Bool.and_eq_true,Nat.ble_eq,List.all_eq_true] at hg;obtain ⟨⟨h1,h2⟩,rfl⟩:=hg;obtain ⟨r,hr⟩:=h l h1 h2;exact ⟨[.str (dW l).1,.int .i64 (dW l).2],an,r,hr,rfl,rfl⟩
   cases hg
  cases hg
theorem WL:aT (Xg gJ) (bg (Xg gJ) kn) 28 Hl:=JY rfl d8'_ok λl h1 h2=>⟨_,ahu l h1 h2⟩
end Go.Proofs.YtpaddkkfefgkfaaGreatDoor.lt

namespace Go.Proofs.YtpaddkkfefgkfaaGreatDoor.lt
open Go.Tv Go.Ev
set_option maxRecDepth 100000
theorem AQ (b:Int):∀(l:List UInt8) (f p:Bool) (i:Nat),(f=true->l≠[])->(∀c∈l,aA c≠95/\0<=fe (aA c)/\fe (aA c)<b)->cJ b f p l i=none
 |
  [],f,p,i,h,_=>by
  rw[cJ,if_neg (λhf=>h hf rfl)]
 |
  c::r,f,p,i,h,hg=>by
  obtain ⟨h1,h2,h3⟩:=hg c (by simp)
  rw[cJ,if_neg h1,if_neg (by omega)]
  exact AQ b r false false (i+1) (λh=>by cases h) (λx hx=>hg x (by simp[hx]))
theorem Sx (w:List UInt8) (s2:Int) (h:(if 2<w.length/\w.head? = some 48 then uH (w.getD 1 0) else 0)=s2):aC w=if s2=120 then (2,0,16) else if uH (w.getD (w.length-1) 0)=104 then (0,1,16) else if s2=98 then (2,0,2) else if s2=111 then (2,0,8) else (0,0,10):=by
 unfold aC
 simp only[h]
theorem Ho:((List.range 16).all λd=>decide (fe (aA (qV d))=d)&&cK (aA (qV d))&&decide (aA (qV d)≠95)&&(decide (10<=d)||decide (aA (qV d)=48+d)))=true:=by decide +kernel
theorem yC {d:Nat} (h:d<16):fe (aA (qV d))=d/\cK (aA (qV d))=true/\aA (qV d)≠95/\(d<10->aA (qV d)=48+d):=by
 have:=List.all_eq_true.1 Ho d (List.mem_range.2 h)
 simp only[Bool.and_eq_true,Bool.or_eq_true,decide_eq_true_eq] at this
 exact ⟨this.1.1.1,this.1.1.2,this.1.2,λh=>by rcases this.2 with h2|h2;omega;exact h2⟩
def aai (b:Nat) (l:List UInt8):Prop:=∀c∈l,∃d,d<b/\c=qV d
theorem AU {b:Nat} (hb:2<=b):∀(f u:Nat) (acc:List UInt8),u<b ^ f->aai b acc->aai b (eJ b f u acc)
 |0,_,_,_,h=>h
 |
  f+1,u,acc,hu,h=>by
  rw[eJ];split
  .
   rename_i hlt;intro c hc;rcases List.mem_cons.1 hc with rfl|hc
   .
    exact ⟨u,hlt,rfl⟩
   exact h c hc
  refine AU hb f (u/b) _ (by rw[Nat.pow_succ] at hu;exact Nat.div_lt_of_lt_mul (by rw[Nat.mul_comm];exact hu)) λc hc=>?_
  rcases List.mem_cons.1 hc with rfl|hc
  .
   exact ⟨u%b,Nat.mod_lt u (by omega),rfl⟩
  exact h c hc
theorem Lu {b:Nat} (yY:2<=b) (hb:b<=16):∀(f u:Nat) (acc:List UInt8),u<b ^ f->0<f->nK b (eJ b f u acc) 0=nK b acc u
 |0,_,_,_,h=>by omega
 |
  f+1,u,acc,hu,_=>by
  rw[eJ];split
  .
   rename_i hlt;have:=yC (d:=u) (by omega)
   rw[nK,if_neg this.2.2.1,this.1];simp
  rename_i hge
  have hf:0<f:=by
   cases f with
   |zero=>simp at hu;omega
   |succ f=>omega
  have hm:u%b<b:=Nat.mod_lt u (by omega)
  have:=yC (d:=u%b) (by omega)
  rw[Lu yY hb f (u/b) _ (by rw[Nat.pow_succ] at hu;exact Nat.div_lt_of_lt_mul (by rw[Nat.mul_comm];exact hu)) hf,nK,if_neg this.2.2.1,this.1,Int.toNat_natCast]
  congr 1
  rw[Nat.mul_comm];exact Nat.div_add_mod u b
theorem JZ {b:Nat}:∀(f u:Nat) (acc:List UInt8),0<f\/acc≠[]->eJ b f u acc≠[]
 |0,_,_,h=>by rcases h with h|h;omega;exact h
 |
  f+1,u,acc,_=>by
  rw[eJ];split
  .
   simp
  exact JZ f _ _ (.inr (by simp))
theorem Nx {b:Nat} (hb:b<=16) {d:List UInt8} (hd:aai b d) (hne:d≠[]):cJ b true false d 0=none :=
 AQ b d true false 0 (λ_=>hne) λc hc=>by
  obtain ⟨x,hx,rfl⟩:=hd c hc;have:=yC (d:=x) (by omega)
  exact ⟨this.2.2.1,by rw[this.1];omega,by rw[this.1];omega⟩
theorem Sy {b u:Nat} (yY:2<=b) (hb:b<=16) (hu:u<18446744073709551616):iZ b (eJ b 64 u [])=((u:Int),-1,false):=by
 have hp:u<b ^ 64:=Nat.lt_of_lt_of_le (show u<2 ^ 64 from hu) (Nat.pow_le_pow_left yY 64)
 unfold iZ
 rw[Nx hb (AU yY 64 u [] hp (λc hc=>by simp at hc)) (JZ 64 u [] (.inl (by omega))),Lu yY hb 64 u [] hp (by omega)]
 show (((u%18446744073709551616:Nat):Int),(-1:Int),decide (18446744073709551616<=u))=_
 rw[Nat.mod_eq_of_lt hu,decide_eq_false (by omega)]
theorem Ny (d:List UInt8) (h:d≠[]):aC (48::120::d)=(2,0,16):=by
 have hl:2<(48::120::d:List UInt8).length:=by
  have:=List.length_pos_iff.2 h;simp;omega
 rw[Sx _ 120 (by rw[if_pos ⟨hl,rfl⟩];show uH 120=120;decide),if_pos rfl]
theorem Hp {u:Nat} (hu:u<18446744073709551616) (a:Nat):iH ([48,120]++eJ 16 64 u []) a=(IntKind.wrap .i64 (u:Int),(a:Int)+(([48,120]++eJ 16 64 u []:List UInt8).length:Int),0,0):=by
 have hne:=JZ (b:=16) 64 u [] (.inl (by omega))
 have hp:aC ([48,120]++eJ 16 64 u [])=(2,0,16):=Ny _ hne
 have hd:(([48,120]++eJ 16 64 u []:List UInt8).take (([48,120]++eJ 16 64 u []:List UInt8).length-0)).drop 2=eJ 16 64 u []:=by
  rw[Nat.sub_zero,List.take_length];rfl
 unfold iH
 rw[hp]
 simp only[hd]
 rw[Sy (by omega) (by omega) hu,if_neg (by show ¬(0:Int) <= -1;omega),if_neg (by simp)]
theorem iw {d:Nat} (h:d<16):yB (d:Int)=qV d:=by
 unfold yB
 rw[Int.toNat_natCast,List.getD_eq_getElem?_getD,(Sj h).2];rfl
theorem ee {f u:Nat} {acc:List UInt8} (h:¬u<16):eJ 16 (f+1) u acc=eJ 16 f (u/16) (qV (u%16)::acc):=by rw[eJ,if_neg h]
theorem VA {u:Nat} (h:1152921504606846976<=u) (h2:u<18446744073709551616):BC (u:Int)=[48,120]++eJ 16 64 u []:=by
 rw[ee (f:=63) (u:=u) (by omega)]
 rw[ee (f:=62) (u:=u/16) (by omega)]
 rw[ee (f:=61) (u:=u/16/16) (by omega)]
 rw[ee (f:=60) (u:=u/16/16/16) (by omega)]
 rw[ee (f:=59) (u:=u/16/16/16/16) (by omega)]
 rw[ee (f:=58) (u:=u/16/16/16/16/16) (by omega)]
 rw[ee (f:=57) (u:=u/16/16/16/16/16/16) (by omega)]
 rw[ee (f:=56) (u:=u/16/16/16/16/16/16/16) (by omega)]
 rw[ee (f:=55) (u:=u/16/16/16/16/16/16/16/16) (by omega)]
 rw[ee (f:=54) (u:=u/16/16/16/16/16/16/16/16/16) (by omega)]
 rw[ee (f:=53) (u:=u/16/16/16/16/16/16/16/16/16/16) (by omega)]
 rw[ee (f:=52) (u:=u/16/16/16/16/16/16/16/16/16/16/16) (by omega)]
 rw[ee (f:=51) (u:=u/16/16/16/16/16/16/16/16/16/16/16/16) (by omega)]
 rw[ee (f:=50) (u:=u/16/16/16/16/16/16/16/16/16/16/16/16/16) (by omega)]
 rw[ee (f:=49) (u:=u/16/16/16/16/16/16/16/16/16/16/16/16/16/16) (by omega)]
 rw[eJ,if_pos (by omega)]
 unfold BC
 simp only[JX,List.set,List.map,yh,Nat.reduceSub,List.cons_append,List.nil_append]
 have k0:yB ((u:Int)%16)=qV (u%16):=by rw[<-iw (by omega)];congr 1
 have k1:yB ((u:Int)/16%16)=qV (u/16%16):=by rw[<-iw (by omega)];congr 1
 have k2:yB ((u:Int)/16/16%16)=qV (u/16/16%16):=by rw[<-iw (by omega)];congr 1
 have k3:yB ((u:Int)/16/16/16%16)=qV (u/16/16/16%16):=by rw[<-iw (by omega)];congr 1
 have k4:yB ((u:Int)/16/16/16/16%16)=qV (u/16/16/16/16%16):=by rw[<-iw (by omega)];congr 1
 have k5:yB ((u:Int)/16/16/16/16/16%16)=qV (u/16/16/16/16/16%16):=by rw[<-iw (by omega)];congr 1
 have k6:yB ((u:Int)/16/16/16/16/16/16%16)=qV (u/16/16/16/16/16/16%16):=by rw[<-iw (by omega)];congr 1
 have k7:yB ((u:Int)/16/16/16/16/16/16/16%16)=qV (u/16/16/16/16/16/16/16%16):=by rw[<-iw (by omega)];congr 1
 have k8:yB ((u:Int)/16/16/16/16/16/16/16/16%16)=qV (u/16/16/16/16/16/16/16/16%16):=by rw[<-iw (by omega)];congr 1
 have k9:yB ((u:Int)/16/16/16/16/16/16/16/16/16%16)=qV (u/16/16/16/16/16/16/16/16/16%16):=by rw[<-iw (by omega)];congr 1
 have k10:yB ((u:Int)/16/16/16/16/16/16/16/16/16/16%16)=qV (u/16/16/16/16/16/16/16/16/16/16%16):=by rw[<-iw (by omega)];congr 1
 have k11:yB ((u:Int)/16/16/16/16/16/16/16/16/16/16/16%16)=qV (u/16/16/16/16/16/16/16/16/16/16/16%16):=by rw[<-iw (by omega)];congr 1
 have k12:yB ((u:Int)/16/16/16/16/16/16/16/16/16/16/16/16%16)=qV (u/16/16/16/16/16/16/16/16/16/16/16/16%16):=by rw[<-iw (by omega)];congr 1
 have k13:yB ((u:Int)/16/16/16/16/16/16/16/16/16/16/16/16/16%16)=qV (u/16/16/16/16/16/16/16/16/16/16/16/16/16%16):=by rw[<-iw (by omega)];congr 1
 have k14:yB ((u:Int)/16/16/16/16/16/16/16/16/16/16/16/16/16/16%16)=qV (u/16/16/16/16/16/16/16/16/16/16/16/16/16/16%16):=by rw[<-iw (by omega)];congr 1
 have k15:yB ((u:Int)/16/16/16/16/16/16/16/16/16/16/16/16/16/16/16%16)=qV (u/16/16/16/16/16/16/16/16/16/16/16/16/16/16/16%16):=by rw[<-iw (by omega)];congr 1
 have k15':u/16/16/16/16/16/16/16/16/16/16/16/16/16/16/16%16=u/16/16/16/16/16/16/16/16/16/16/16/16/16/16/16:=by omega
 rw[k0,k1,k2,k3,k4,k5,k6,k7,k8,k9,k10,k11,k12,k13,k14,k15,k15']
 rfl
theorem Sz {n:Int} (h0 : -9223372036854775808<=n) (h1:n<9223372036854775808):∃u:Nat,u<18446744073709551616/\IntKind.wrap .i64 (u:Int)=n/\aad n=[48,120]++eJ 16 64 u []:=by
 unfold aad
 by_cases h:n<0
 .
  rw[if_pos h,o4];refine ⟨(n+18446744073709551616).toNat,by omega,?_,?_⟩
  .
   rw[IZ];split<;>omega
  have e:n%18446744073709551616=(((n+18446744073709551616).toNat:Nat):Int):=by omega
  rw[e];exact VA (by omega) (by omega)
 rw[if_neg h]
 refine ⟨n.natAbs,by omega,by rw[i64_in (by omega) (by omega)];omega,?_⟩
 unfold o9
 rw[if_neg h];rfl
theorem Hq {y:Piece} (h:bI y=true):(y.1=1/\y.2.1=0/\bf y.2.2.1=true)\/(y.1=2/\y.2.2.1=[])\/(y.1=3/\y.2.2.1.all ko=true/\y.2.1=0)\/(y.1=4/\y.2.2.1∈AO/\y.2.1=0):=by
 unfold bI at h
 rw[aH,aH,aH,aH] at h
 split at h
 .
  rename_i k;rw[Bool.and_eq_true,eqI_spec,beq_iff_eq] at h;exact .inl ⟨k,h.1,h.2⟩
 split at h
 .
  rename_i k;exact .inr (.inl ⟨k,of_decide_eq_true h⟩)
 split at h
 .
  rename_i k;rw[Bool.and_eq_true,eqI_spec,beq_iff_eq] at h;exact .inr (.inr (.inl ⟨k,h.1,h.2⟩))
 split at h
 .
  rename_i k;rw[Bool.and_eq_true,eqI_spec,beq_iff_eq,List.any_eq_true] at h;obtain ⟨⟨p,hp,hpe⟩,hn⟩:=h;have:y.2.2.1=p:=of_decide_eq_true hpe;exact .inr (.inr (.inr ⟨k,by rw[this];exact hp,hn⟩))
 cases h
def Behind (e:List UInt8):Prop:=e=[]\/∃q,e=32::q
theorem yA (p S e:List UInt8):aI (p++S++e) (p.length:Int) ((p.length+S.length:Nat):Int)=S:=by
 unfold aI
 rw[List.append_assoc,Int.toNat_natCast,Int.toNat_natCast,List.drop_left,Nat.add_sub_cancel_left,List.take_left]
theorem C7 (T:List UInt8) (a:Nat) {e:List UInt8} (he:Behind e):∀(S2:List UInt8) (k:Nat),S2.all ox=true->k+S2.length<=60->dU T a (S2++e) (a+k)=(aI T a ((a+(k+S2.length):Nat):Int),((a+(k+S2.length):Nat):Int),0,0)
 |
  [],k,_,_=>by
  rcases he with rfl|⟨q,rfl⟩
  .
   rfl
  show dU T a (32::q) (a+k)=_;rw[dU,if_neg (by decide)];rfl
 |
  c::S2,k,h,hl=>by
  simp only[List.all_cons,Bool.and_eq_true,List.length_cons] at h hl;have hm:gh (aA c)=true:=h.1;rw[List.cons_append,dU,if_pos hm,if_neg (by omega)]
  have:=C7 T a he S2 (k+1) h.2 (by omega)
  rw[show k+1+S2.length=k+(c::S2).length by simp;omega] at this
  exact this
theorem AW (T:List UInt8) (a:Nat) (e:List UInt8):∀(S2:List UInt8) (k:Nat),S2.all ko=true->bW T a (S2++34::e) (a+1+k)=(aI T (a+1) ((a+1+(k+S2.length):Nat):Int),((a+1+(k+S2.length):Nat):Int)+1,0,0)
 |
  [],k,_=>by
  show bW T a (34::e) (a+1+k)=_;rw[bW,if_pos (by decide)];rfl
 |
  c::S2,k,h=>by
  simp only[List.all_cons,Bool.and_eq_true] at h
  have hp:iu (aA c)=true/\¬aA c=34:=by
   have:=h.1;unfold ko at this;simp only[Bool.and_eq_true,Bool.not_eq_true',eqI_spec,beq_eq_false_iff_ne] at this;exact this
  rw[List.cons_append,bW,if_neg hp.2,if_pos hp.1];have:=AW T a e S2 (k+1) h.2;rw[show k+1+S2.length=k+(c::S2).length by simp;omega] at this
  exact this
def sg2 (X:List UInt8) (a:Nat):List (List UInt8)->Cut
 |[]=>([],0,4,a)
 |g::r=>if preB X g then (g,a+g.length,0,0) else sg2 X a r
theorem AX (T:List UInt8) (a:Nat):∀l,gi T a l=sg2 (T.drop a) a l
 |[]=>rfl
 |g::r=>by rw[gi,sg2,AX T a r]
theorem SA {S e:List UInt8} (hS:S∈AO) (he:Behind e) (a:Nat):sg2 (S++e) a ke=(S,(a:Int)+S.length,0,0)/\∃d r,S=d::r/\dB (aA d)=false/\¬(48<=aA d/\aA d<=57\/aA d=39)/\aA d≠34/\¬(aA d=32\/aA d=9)/\aA d≠59:=by
 simp only[AO,List.mem_cons,List.not_mem_nil,or_false] at hS
 rcases he with rfl|⟨q,rfl⟩
 all_goals rcases hS with rfl|rfl|rfl|rfl|rfl|rfl|rfl|rfl|rfl|rfl|rfl|rfl|rfl|rfl|rfl|rfl|rfl|rfl|rfl
 all_goals refine ⟨rfl,_,_,rfl,?_⟩
 all_goals decide
theorem EC {w e:List UInt8} (hw:∀c∈w,cK (aA c)=true) (he:Behind e):(w++e).takeWhile (λc=>cK (aA c))=w:=by
 induction w with
 |
  nil =>
  rcases he with rfl|⟨q,rfl⟩
  .
   rfl
  rw[List.nil_append,List.takeWhile_cons,if_neg (by decide)]
 |cons c w ih=>rw[List.cons_append,List.takeWhile_cons,if_pos (hw c (by simp)),ih λx hx=>hw x (by simp[hx])]
theorem oH {s:List UInt8} {a:Nat} {d:UInt8} {r:List UInt8} (hd:s.drop a=d::r) :
 cV s (a:Int)=if aA d=39 then jo s a else if 48<=aA d/\aA d<=57 then iH ((s.drop a).takeWhile λc=>cK (aA c)) a else (0,0,6,(a:Int)):=by
 have hl:s.length-a=r.length+1:=by have:=congrArg List.length hd;simpa using this
 have hgd:s.getD a 0=d:=by
  have h0:(s.drop a).getD 0 0=d:=by rw[hd];rfl
  rw[<-h0];simp[List.getD]
 unfold cV
 rw[if_neg (by omega),if_neg (by omega),Int.toNat_natCast,hgd]
theorem C8 {u:Nat} (hu:u<18446744073709551616):∀c∈([48,120]++eJ 16 64 u []:List UInt8),cK (aA c)=true:=by
 intro c hc
 have hp:u<16 ^ 64:=Nat.lt_of_lt_of_le (show u<2 ^ 64 from hu) (Nat.pow_le_pow_left (by omega) 64)
 simp only[List.cons_append,List.nil_append,List.mem_cons] at hc
 rcases hc with rfl|rfl|hc
 .
  decide
 .
  decide
 obtain ⟨d,d1,d2⟩:=AU (b:=16) (by omega) 64 u [] hp (λc hc=>by simp at hc) c hc
 rw[d2];exact (yC d1).2.1
theorem AY {y:Piece} (hv:bI y=true) (hc:dV y=true) (p:List UInt8) {e:List UInt8} (he:Behind e) :
 ∃d r,ax y=d::r/\bw (p++ax y++e) d p.length=((y.1,y.2.1,y.2.2.1,(p.length:Int)),(p.length:Int)+(ax y).length,0,0)/\¬(aA d=32\/aA d=9)/\aA d≠59:=by
 obtain ⟨k,n,S,at'⟩:=y
 unfold dV at hc
 simp only[Bool.and_eq_true,Nat.ble_eq,Bool.not_eq_true',ltI_spec,decide_eq_false_iff_not,decide_eq_true_eq] at hc
 obtain ⟨⟨hn0,XO⟩,hlen⟩:=hc
 have hD:(p++ax (k,n,S,at')++e).drop p.length=ax (k,n,S,at')++e:=by rw[List.append_assoc,List.drop_left]
 rcases Hq hv with ⟨h1,h2,h3⟩|⟨h1,h2⟩|⟨h1,h2,h3⟩|⟨h1,h2,h3⟩
 .
  simp only at h1 h2 h3;subst h1 h2;have hw:ax (1,0,S,at')=S:=by unfold ax;rw[if_neg (by simp),if_neg (by simp)]
  rw[hw] at hD ⊢;cases S with
  |nil=>cases h3
  |
   cons d r =>
   have h3:(decide (r.length<60)&&dB (aA d)&&(d::r).all ox)=true:=h3;simp only[Bool.and_eq_true,decide_eq_true_eq] at h3;obtain ⟨⟨h4,h5⟩,h6⟩:=h3;refine ⟨d,r,rfl,?_,?_⟩
   .
    unfold bw ow;rw[if_pos h5,hD];have:=C7 (p++d::r++e) p.length he (d::r) 0 h6 (by simp;omega)
    rw[Nat.add_zero,Nat.zero_add,yA] at this;rw[this];simp
   unfold dB at h5;simp only[decide_eq_true_eq] at h5;omega
 .
  simp only at h1 h2;subst h1 h2;obtain ⟨u,hu,hwr,hh⟩:=Sz (n:=n) (by omega) XO
  have hw:ax (2,n,[],at')=[48,120]++eJ 16 64 u []:=by
   rw[<-hh];unfold ax aad;rw[if_pos rfl]
  rw[hw] at hD ⊢;refine ⟨48,120::eJ 16 64 u [],rfl,?_,by decide,by decide⟩
  have hsc:cV (p++([48,120]++eJ 16 64 u [])++e) (p.length:Int)=iH ([48,120]++eJ 16 64 u []) p.length:=by
   rw[oH (d:=48) (r:=120::eJ 16 64 u []++e) (by rw[hD];rfl),if_neg (by decide),if_pos (by decide),hD,EC (C8 hu) he]
  unfold bw;rw[if_neg (by decide),if_pos (by decide),hsc,Hp hu,hwr]
 .
  simp only at h1 h2 h3;subst h1 h3;have hw:ax (3,0,S,at')=34::(S++[34]):=by unfold ax;rw[if_neg (by simp),if_pos rfl];simp
  rw[hw] at hD ⊢;refine ⟨34,S++[34],rfl,?_,by decide,by decide⟩
  have hD1:(p++34::(S++[34])++e).drop (p.length+1)=S++34::e:=by
   rw[<-List.drop_drop,hD];simp
  unfold bw lp;rw[if_neg (by decide),if_neg (by decide),if_pos (by decide),hD1]
  have:=AW (p++34::(S++[34])++e) p.length e S 0 h2;rw[Nat.add_zero,Nat.zero_add] at this;rw[this]
  have Gp:aI (p++34::(S++[34])++e) ((p.length:Int)+1) ((p.length+1+S.length:Nat):Int)=S:=by
   have:=yA (p++[34]) S ([34]++e);simp only[List.length_append,List.length_cons,List.length_nil] at this;have e1:p++[34]++S++([34]++e)=p++34::(S++[34])++e:=by simp
   rw[e1] at this;have e2:((p.length+(0+1):Nat):Int)=(p.length:Int)+1:=by omega
   rw[e2] at this;exact this
  rw[Gp];simp only[List.length_cons,List.length_append,List.length_nil,Prod.mk.injEq,true_and,and_true];omega
 simp only at h1 h2 h3;subst h1 h3
 have hw:ax (4,0,S,at')=S:=by unfold ax;rw[if_neg (by simp),if_neg (by simp)]
 rw[hw] at hD ⊢
 obtain ⟨s1,d,r,s2,s3,s4,s5,s6,s7⟩:=SA h2 he p.length
 refine ⟨d,r,s2,?_,s6,s7⟩
 unfold bw jQ
 rw[if_neg (by rw[s3];simp),if_neg s4,if_neg s5,AX,hD,s1]
def kZ:List Piece->List UInt8
 |[]=>[]
 |[y]=>ax y
 |y::z::l=>ax y++32::kZ (z::l)
theorem J0 (y:Piece) (l:List Piece):∃e,Behind e/\kZ (y::l)=ax y++e/\(l=[]/\e=[]\/l≠[]/\e=32::kZ l):=by
 cases l with
 |nil=>exact ⟨[],.inl rfl,by simp[kZ],.inl ⟨rfl,rfl⟩⟩
 |cons z l=>exact ⟨32::kZ (z::l),.inr ⟨_,rfl⟩,rfl,.inr ⟨by simp,rfl⟩⟩
theorem Hr:∀(l:List Piece) (b:List UInt8),(jq l b).2=0->b.length<=1000->(jq l b).1=(if l=[] then b else b++32::kZ l)/\(jq l b).1.length<=1000
 |[],b,_,hb=>by rw[if_pos rfl];exact ⟨rfl,hb⟩
 |
  y::l,b,h,hb=>by
  rw[jq] at h ⊢;by_cases hl:1000<(b++[32]++ax y).length
  .
   rw[if_pos hl] at h;cases h
  rw[if_neg hl] at h ⊢;obtain ⟨h1,h2⟩:=Hr l _ h (by omega)
  refine ⟨?_,h2⟩;have e:(if y::l=[] then b else b++32::kZ (y::l))=b++32::kZ (y::l):=if_neg (by simp)
  rw[h1,e];cases l with
  |nil=>simp[kZ]
  |cons z l=>simp[kZ]
theorem SB {l:List Piece} (h:(dW l).2=0):l.all bI=true/\(dW l).1=kZ l/\(dW l).1.length<=1000:=by
 unfold dW at h ⊢
 by_cases hv:l.all bI=true
 .
  rw[if_pos hv] at h ⊢;refine ⟨hv,?_⟩;cases l with
  |nil=>exact ⟨rfl,by simp⟩
  |
   cons y l =>
   show (if 1000<(ax y).length then (([],3):List UInt8×Int) else jq l (ax y)).1=_/\_;have h:(if 1000<(ax y).length then (([],3):List UInt8×Int) else jq l (ax y)).2=0:=h;by_cases hl:1000<(ax y).length
   .
    rw[if_pos hl] at h;cases h
   rw[if_neg hl] at h;obtain ⟨h1,h2⟩:=Hr l _ h (by omega)
   have e:(if 1000<(ax y).length then (([],3):List UInt8×Int) else jq l (ax y))=jq l (ax y):=if_neg hl;refine ⟨?_,?_⟩
   .
    rw[e,h1];cases l with
    |nil=>rfl
    |cons z l=>rfl
   show (if 1000<(ax y).length then (([],3):List UInt8×Int) else jq l (ax y)).1.length<=1000;rw[e];exact h2
 rw[if_neg hv] at h;cases h
theorem C9:∀(l:List Piece) (b:List UInt8),(jq l b).2=0\/(jq l b).2=3
 |[],b=>.inl rfl
 |
  y::l,b=>by
  rw[jq];split
  .
   exact .inr rfl
  exact C9 l _
theorem aa1 {l:List Piece} (hv:l.all bI=true):(dW l).2=0\/(dW l).2=3:=by
 unfold dW
 rw[if_pos hv]
 cases l with
 |nil=>exact .inl rfl
 |
  cons y l =>
  show (if 1000<(ax y).length then (([],3):List UInt8×Int) else jq l (ax y)).2=0\/(if 1000<(ax y).length then (([],3):List UInt8×Int) else jq l (ax y)).2=3;split
  .
   exact .inr rfl
  exact C9 l _
end Go.Proofs.YtpaddkkfefgkfaaGreatDoor.lt

namespace Go.Proofs.YtpaddkkfefgkfaaGreatDoor.lt
open Go.Tv Go.Ev
set_option maxRecDepth 100000
def alike:List Piece->List Piece->Bool
 |[],[]=>true
 |x::a,y::b=>decide (x.1=y.1)&&decide (x.2.1=y.2.1)&&decide (x.2.2.1=y.2.2.1)&&alike a b
 |_,_=>false
theorem Hs (T:List UInt8):∀(l:List Piece) (p:List UInt8) (m:Nat),T=p++kZ l->(kZ l).length<=m->(∀y∈l,bI y=true/\dV y=true)->(bp T m (kZ l)).2=(0,0)/\alike (bp T m (kZ l)).1 l=true
 |[],p,m,_,_,_=>by cases m<;>exact ⟨rfl,rfl⟩
 |
  y::l,p,m,hT,hm,hl=>by
  obtain ⟨hv,hc⟩:=hl y (by simp)
  obtain ⟨e,he,hj,aei⟩:=J0 y l;obtain ⟨d,r,hd,hp,hb,hs⟩:=AY hv hc p he;rw[hj] at hT hm ⊢;have hT':p++ax y++e=T:=by rw[hT];simp
  rw[hT'] at hp;have hw:(ax y).length=r.length+1:=by rw[hd];rfl
  have hlen:T.length=p.length+((ax y).length+e.length):=by rw[hT];simp
  have hX:ax y++e=d::(r++e):=by rw[hd];rfl
  have hm':(r++e).length+1<=m:=by rw[hX] at hm;simpa using hm
  rw[hX];obtain ⟨m,rfl⟩:∃m',m=m'+1:=⟨m-1,by omega⟩
  have hpos:T.length-((r++e).length+1)=p.length:=by rw[hlen,hw,List.length_append];omega
  rw[bp,if_neg hb,if_neg hs,hpos,hp,if_pos rfl]
  have zm:T.drop ((p.length:Int)+((ax y).length:Int)).toNat=e:=by
   have:((p.length:Int)+((ax y).length:Int)).toNat=p.length+(ax y).length:=by omega
   rw[this,<-hT',<-List.length_append,List.drop_left]
  simp only;rw[zm];rcases aei with ⟨rfl,rfl⟩|⟨hne,rfl⟩
  .
   cases m<;>exact ⟨rfl,by simp[alike,bp]⟩
  rw[List.length_append,List.length_cons] at hm';obtain ⟨m,rfl⟩:∃m',m=m'+1:=⟨m-1,by omega⟩
  rw[bp,if_pos (by decide)]
  obtain ⟨i1,i2⟩:=Hs T l (p++ax y++[32]) m (by rw[<-hT'];simp) (by omega) (λx hx=>hl x (by simp[hx]))
  exact ⟨i1,by rw[alike,i2];simp⟩
theorem WM {l:List Piece} (hc:∀y∈l,dV y=true) (h:(dW l).2=0):(aG (dW l).1).2=(0,0)/\alike (aG (dW l).1).1 l=true:=by
 obtain ⟨h1,h2,h3⟩:=SB h
 obtain ⟨i1,i2⟩:=Hs (kZ l) l [] (kZ l).length rfl (Nat.le_refl _) (λy hy=>⟨List.all_eq_true.1 h1 y hy,hc y hy⟩)
 rw[h2] at h3 ⊢
 unfold aG
 rw[if_neg (by omega),if_pos (by rw[i1])]
 exact ⟨rfl,i2⟩
theorem ve {s:List UInt8} {a e:Nat} (hae:a<=e) {c:UInt8} {r:List UInt8} (hd:s.drop e=c::r):aI s (a:Int) ((e+1:Nat):Int)=aI s (a:Int) (e:Int)++[c]:=by
 unfold aI
 simp only[Int.toNat_natCast]
 have e1:e+1-a=(e-a)+1:=by omega
 have e2:(s.drop a)[e-a]? = some c:=by
  rw[List.getElem?_drop,show a+(e-a)=e by omega]
  have:s[e]? = (s.drop e)[0]? := by simp
  rw[this,hd];rfl
 rw[e1,List.take_add_one,e2];rfl
theorem Lv {s:List UInt8} (a e:Nat):(aI s (a:Int) (e:Int)).length<=e-a:=by unfold aI;simp;omega
theorem SC {s:List UInt8} (a e:Int):(aI s a e).length<=s.length:=by unfold aI;simp;omega
theorem kq {s:List UInt8} {e:Nat} {c:UInt8} {r:List UInt8} (hd:s.drop e=c::r):s.drop (e+1)=r:=by rw[<-List.drop_drop,hd];rfl
theorem tL (s:List UInt8) (a:Nat):∀(rest:List UInt8) (e:Nat),s.drop e=rest->a<=e->e<=a+60->(aI s a e).all ox=true->(dU s a rest e).2.2.1=0->(dU s a rest e).1.all ox=true/\(dU s a rest e).1.length<=60
 |[],e,_,h2,h3,h4,_=>⟨h4,by show (aI s a e).length<=60;have:=Lv (s:=s) a e;omega⟩
 |
  c::r,e,h1,h2,h3,h4,h5=>by
  rw[dU] at h5 ⊢;split at h5
  .
   rename_i hm;rw[if_pos hm];split at h5
   .
    exact absurd h5 (by simp)
   rename_i Wc;rw[if_neg Wc];have hm:ox c=true:=hm;refine tL s a r (e+1) (kq h1) (by omega) (by omega) ?_ h5
   rw[ve h2 h1,List.all_append,h4];simp[hm]
  rename_i hm;rw[if_neg hm];exact ⟨h4,by show (aI s a e).length<=60;have:=Lv (s:=s) a e;omega⟩
theorem AZ (s:List UInt8) (a:Nat) {d:UInt8}:∀(rest:List UInt8) (e:Nat),s.drop e=rest->a<=e->(aI s a e).head? = some d->(dU s a rest e).2.2.1=0->(dU s a rest e).1.head? = some d
 |[],e,_,_,h4,_=>h4
 |
  c::r,e,h1,h2,h4,h5=>by
  rw[dU] at h5 ⊢;split at h5
  .
   rename_i hm;rw[if_pos hm];split at h5
   .
    exact absurd h5 (by simp)
   rename_i Wc;rw[if_neg Wc];refine AZ s a r (e+1) (kq h1) (by omega) ?_ h5
   rw[ve h2 h1,List.head?_append,h4];rfl
  rename_i hm;rw[if_neg hm];exact h4
theorem vg (s:List UInt8) (a:Nat):∀(rest:List UInt8) (e:Nat),s.drop e=rest->a+1<=e->(aI s ((a+1:Nat):Int) e).all ko=true->(bW s a rest e).2.2.1=0->(bW s a rest e).1.all ko=true
 |[],e,_,_,_,h=>by exact absurd h (by rw[bW];simp)
 |
  c::r,e,h1,h2,h4,h5=>by
  rw[bW] at h5 ⊢;split at h5
  .
   rename_i hq;rw[if_pos hq];exact h4
  rename_i hq;rw[if_neg hq];split at h5
  .
   rename_i hp;rw[if_pos hp];refine vg s a r (e+1) (kq h1) (by omega) ?_ h5
   have hb:ko c=true:=by unfold ko;rw[hp,xy hq];rfl
   rw[ve h2 h1,List.all_append,h4];simp[hb]
  exact absurd h5 (by simp)
theorem wR (s:List UInt8) (a:Nat):∀l:List (List UInt8),(gi s a l).2.2.1=0->(gi s a l).1∈l
 |[],h=>by exact absurd h (by rw[gi];simp)
 |
  g::l,h=>by
  rw[gi] at h ⊢;split at h
  .
   rename_i hp;rw[if_pos hp];exact List.mem_cons_self ..
  rename_i hp;rw[if_neg hp];exact List.mem_cons_of_mem _ (wR s a l h)
theorem quoteL_cut' (s:List UInt8) (a:Nat):∀(rest:List UInt8) (e:Nat),(bW s a rest e).2.2.1=0->(bW s a rest e).1=aI s (a+1) ((bW s a rest e).2.1-1):=by
 intro rest
 induction rest with
 |nil=>intro e h;exact absurd h (by simp[bW])
 |
  cons c r ih =>
  intro e h;rw[bW] at h ⊢;split at h
  .
   rename_i hm;rw[if_pos hm];show aI s (a+1) e=aI s (a+1) ((e:Int)+1-1);rw[show (e:Int)+1-1=e by omega]
  rename_i hm;rw[if_neg hm];split at h
  .
   rename_i hp;rw[if_pos hp];exact ih (e+1) h
  exact absurd h (by simp)
theorem SD (s:List UInt8):∀(n:Nat) (left:List UInt8),(bp s n left).1.length<=n:=by
 intro n
 induction n with
 |zero=>intro left;exact Nat.le_refl _
 |
  succ n ih =>
  intro left
  match left with
  |[]=>exact Nat.zero_le _
  |
   c::r =>
   rw[bp];split
   .
    exact Nat.le_succ_of_le (ih r)
   split
   .
    exact Nat.zero_le _
   split
   .
    exact Nat.succ_le_succ (ih _)
   exact Nat.zero_le _
def inN (n:Int):Prop := -9223372036854775808<=n/\n<9223372036854775808
theorem Ht (n:Int):inN (IntKind.wrap .i64 n):=by unfold inN;rw[IZ];split<;>omega
theorem pK:inN 0:=by unfold inN;omega
theorem Hu (len:Nat):∀(rest:List UInt8) (k N i:Nat),inN (jn len rest k N i).1
 |[],_,_,_=>pK
 |
  c::r,k,N,i=>by
  rw[jn];split
  .
   split
   .
    exact pK
   exact Ht _
  split
  .
   exact pK
  split
  .
   exact pK
  exact Hu len r _ _ _
theorem SE (s:List UInt8) (a:Int):inN (cV s a).1:=by
 unfold cV
 split
 .
  exact pK
 split
 .
  exact pK
 split
 .
  exact Hu _ _ _ _ _
 split
 .
  unfold iH;split
  .
   exact pK
  split
  .
   exact pK
  exact Ht _
 exact pK
theorem yD {k n a:Int} {S:List UInt8} (hn:inN n) (hS:S.length<=1100):dV (k,n,S,a)=true:=by
 unfold dV
 rw[cz hn.1,lQ hn.2,cP hS];rfl
theorem Hv {s:List UInt8} (hs:s.length<=1000) {a:Nat} {c:UInt8} {r:List UInt8} (hd:s.drop a=c::r) (h:(bw s c a).2.2.1=0):bI (bw s c a).1=true/\dV (bw s c a).1=true:=by
 have c0:aI s (a:Int) (a:Int)=[]:=by unfold aI;simp
 unfold bw at h ⊢
 split at h
 .
  rename_i hf;rw[if_pos hf];have h:(ow s a).2.2.1=0:=h;unfold ow at h ⊢;obtain ⟨m1,m2⟩:=tL s a (s.drop a) a rfl (Nat.le_refl _) (by omega) (by rw[c0];rfl) h
  refine ⟨?_,yD pK (by omega)⟩
  have hh:(dU s a (s.drop a) a).1.head? = some c:=by
   rw[hd] at h ⊢;rw[dU] at h ⊢;have hm:gh (aA c)=true:=Jl hf;rw[if_pos hm,if_neg (by omega)] at h ⊢
   refine AZ s a r (a+1) (kq hd) (by omega) ?_ h
   rw[ve (Nat.le_refl _) hd,c0];rfl
  show bf _=true;cases hS:(dU s a (s.drop a) a).1 with
  |nil=>rw[hS] at hh;cases hh
  |
   cons d q =>
   rw[hS] at hh m1 m2;have:d=c:=by simpa using hh
   subst this;show (decide (q.length<60)&&dB (aA d)&&(d::q).all ox)=true;simp only[List.length_cons] at m2;rw[decide_eq_true (by omega),hf,m1];rfl
 rename_i hf
 rw[if_neg hf]
 split at h
 .
  rename_i hq;rw[if_pos hq];exact ⟨rfl,yD (SE s a) (by simp)⟩
 rename_i hq
 rw[if_neg hq]
 split at h
 .
  rename_i KV;rw[if_pos KV];have h:(lp s a).2.2.1=0:=h;unfold lp at h ⊢;have hp:=vg s a (s.drop (a+1)) (a+1) rfl (Nat.le_refl _) (by unfold aI;simp) h
  have hl:(bW s a (s.drop (a+1)) (a+1)).1.length<=1100:=by
   rw[quoteL_cut' s a _ _ h];have:=SC (s:=s) ((a:Int)+1) ((bW s a (s.drop (a+1)) (a+1)).2.1-1);omega
  refine ⟨?_,yD pK hl⟩;show ((bW s a (s.drop (a+1)) (a+1)).1.all ko&&eqI 0 0)=true;rw[hp];rfl
 rename_i KV
 rw[if_neg KV]
 have h:(jQ s a).2.2.1=0:=h
 unfold jQ at h ⊢
 have hm:=wR s a ke h
 have hm:(gi s a ke).1∈AO:=hm
 have hl:∀S∈AO,S.length<=1100:=by decide
 refine ⟨?_,yD pK (hl _ hm)⟩
 show (AO.any (λp=>decide ((gi s a ke).1=p))&&eqI 0 0)=true
 rw[List.any_eq_true.2 ⟨_,hm,decide_eq_true rfl⟩];rfl
theorem Nz (s:List UInt8) (hs:s.length<=1000):∀(n:Nat) (left:List UInt8),left.length<=n->s.drop (s.length-left.length)=left->left.length<=s.length->∀y∈(bp s n left).1,bI y=true/\dV y=true:=by
 intro n
 induction n with
 |zero=>intro left _ _ _ y hy;cases hy
 |
  succ n ih =>
  intro left h1 h3 h4
  match left,h1,h3,h4 with
  |[],_,_,_=>intro y hy;cases hy
  |
   c::r,h1,h3,h4 =>
   rw[List.length_cons] at h1 h3 h4
   have hr:s.drop (s.length-r.length)=r:=by
    have:s.length-r.length=s.length-(r.length+1)+1:=by omega
    rw[this,<-List.drop_drop,h3];rfl
   rw[bp];split
   .
    exact ih r (by omega) hr (by omega)
   split
   .
    intro y hy;cases hy
   split
   .
    rename_i hp;have he:=lZ h3 hp;intro y hy;rcases List.mem_cons.1 hy with rfl|hy
    .
     exact Hv hs h3 hp
    exact ih _ (by simp only[List.length_drop];omega) (by rw[List.length_drop];congr 1;omega) (by simp only[List.length_drop];omega) y hy
   intro y hy;cases hy
theorem pg (s:List UInt8):(∀y∈(aG s).1,bI y=true/\dV y=true)/\(aG s).1.length<=1000:=by
 unfold aG
 split
 .
  exact ⟨λy hy=>(by cases hy),(by simp)⟩
 rename_i hl
 split
 .
  exact ⟨Nz s (by omega) s.length s (Nat.le_refl _) (by simp) (Nat.le_refl _),(by have:=SD s s.length s;show (bp s s.length s).1.length<=1000;omega)⟩
 exact ⟨λy hy=>(by cases hy),(by simp)⟩
def SF (s:List UInt8) (n:Int):Prop:=0<=n/\n<=s.length
theorem yE {s:List UInt8} {e:Nat} {c:UInt8} {r:List UInt8} (hd:s.drop e=c::r):e<s.length:=by
 have:=congrArg List.length hd;simp at this;omega
theorem xI (s:List UInt8) (a:Nat):∀(rest:List UInt8) (e:Nat),s.drop e=rest->SF s (dU s a rest e).2.2.2
 |[],e,_=>⟨Int.le_refl _,by show (0:Int)<=_;omega⟩
 |
  c::r,e,h1=>by
  rw[dU];split
  .
   split
   .
    have:=yE h1;exact ⟨by show (0:Int)<=e;omega,by show (e:Int)<=_;omega⟩
   exact xI s a r (e+1) (kq h1)
  exact ⟨Int.le_refl _,by show (0:Int)<=_;omega⟩
theorem vh (s:List UInt8) (a:Nat):∀(rest:List UInt8) (e:Nat),s.drop e=rest->SF s (bW s a rest e).2.2.2
 |[],e,_=>⟨by show (0:Int)<=s.length;omega,by show (s.length:Int)<=_;omega⟩
 |
  c::r,e,h1=>by
  rw[bW];split
  .
   exact ⟨Int.le_refl _,by show (0:Int)<=_;omega⟩
  split
  .
   exact vh s a r (e+1) (kq h1)
  have:=yE h1;exact ⟨by show (0:Int)<=e;omega,by show (e:Int)<=_;omega⟩
theorem xJ (s:List UInt8) (a:Nat) (ha:a<=s.length):∀l:List (List UInt8),SF s (gi s a l).2.2.2
 |[]=>⟨by show (0:Int)<=a;omega,by show (a:Int)<=_;omega⟩
 |
  g::l=>by
  rw[gi];split
  .
   exact ⟨Int.le_refl _,by show (0:Int)<=_;omega⟩
  exact xJ s a ha l
theorem xK (s:List UInt8):∀(rest:List UInt8) (k N i:Nat),s.drop i=rest->SF s (jn s.length rest k N i).2.2.2
 |[],_,_,i,_=>⟨by show (0:Int)<=s.length;omega,by show (s.length:Int)<=_;omega⟩
 |
  c::r,k,N,i,h1=>by
  have hi:=yE h1;have h0:SF s (0:Int):=⟨Int.le_refl _,by omega⟩
  have hI:SF s (i:Int):=⟨by omega,by omega⟩
  rw[jn];split
  .
   split
   .
    exact hI
   exact h0
  split
  .
   exact hI
  split
  .
   exact hI
  exact xK s r _ _ _ (kq h1)
theorem wS (b:Int):∀(d:List UInt8) (f q:Bool) (i j:Nat),cJ b f q d i=some j->j<=i+d.length
 |
  [],f,q,i,j,h=>by
  cases f
  .
   cases h
  cases h;omega
 |
  c::r,f,q,i,j,h=>by
  rw[cJ] at h;simp only[List.length_cons];split at h
  .
   split at h
   .
    cases h;omega
   have:=wS b r _ _ _ _ h;omega
  split at h
  .
   cases h;omega
  have:=wS b r _ _ _ _ h;omega
theorem VB (b:Nat) (d:List UInt8):(iZ b d).2.1<=d.length:=by
 unfold iZ
 split
 .
  rename_i i h;have:=wS b d _ _ _ _ h;show (i:Int)<=d.length;omega
 show (-1:Int)<=d.length
 omega
theorem Hw (w:List UInt8) (hw:w≠[]) (a:Nat):0<=(iH w a).2.2.2/\(iH w a).2.2.2<=(a:Int)+w.length:=by
 obtain ⟨h1,_,_⟩:=Gn w hw
 have h2:=VB (aC w).2.2 ((w.take (w.length-(aC w).2.1)).drop (aC w).1)
 have h3:((w.take (w.length-(aC w).2.1)).drop (aC w).1).length+(aC w).1<=w.length:=by simp only[List.length_drop,List.length_take];omega
 unfold iH
 split
 .
  rename_i h0;show 0<=(a:Int)+(aC w).1+(iZ (aC w).2.2 ((w.take (w.length-(aC w).2.1)).drop (aC w).1)).2.1/\(a:Int)+(aC w).1+(iZ (aC w).2.2 ((w.take (w.length-(aC w).2.1)).drop (aC w).1)).2.1<=_;omega
 split
 .
  show 0<=(a:Int)/\(a:Int)<=_;omega
 show (0:Int)<=0/\(0:Int)<=_
 omega
theorem Hx {s:List UInt8} {a:Nat} {c:UInt8} {r:List UInt8} (hd:s.drop a=c::r):SF s (bw s c a).2.2.2:=by
 have ha:=yE hd
 unfold bw
 split
 .
  exact xI s a _ a rfl
 split
 .
  rename_i hq;show SF s (cV s (a:Int)).2.2.2;rw[oH hd];split
  .
   exact xK s _ _ _ _ rfl
  split
  .
   rename_i h48;have hw:cK (aA c)=true:=by unfold cK;simp;omega
   have e:((s.drop a).takeWhile λc=>cK (aA c))=c::(r.takeWhile λc=>cK (aA c)):=by rw[hd,List.takeWhile_cons,if_pos hw]
   have hl:s.length-a=r.length+1:=by have:=congrArg List.length hd;simpa using this
   have h3:=(List.takeWhile_sublist (λc=>cK (aA c)) (l:=r)).length_le
   obtain ⟨f1,f2⟩:=Hw ((s.drop a).takeWhile λc=>cK (aA c)) (by rw[e];simp) a
   rw[e,List.length_cons] at f2;rw[e] at f1 ⊢;exact ⟨f1,by omega⟩
  exact ⟨by show (0:Int)<=a;omega,by show (a:Int)<=_;omega⟩
 split
 .
  exact vh s a _ (a+1) rfl
 exact xJ s a (by omega) _
theorem NB (s:List UInt8):∀(n:Nat) (left:List UInt8),left.length<=n->s.drop (s.length-left.length)=left->left.length<=s.length->SF s (bp s n left).2.2:=by
 have h0:SF s (0:Int):=⟨Int.le_refl _,by omega⟩
 intro n
 induction n with
 |zero=>intro left _ _ _;exact h0
 |
  succ n ih =>
  intro left h1 h3 h4
  match left,h1,h3,h4 with
  |[],_,_,_=>exact h0
  |
   c::r,h1,h3,h4 =>
   rw[List.length_cons] at h1 h3 h4
   have hr:s.drop (s.length-r.length)=r:=by
    have:s.length-r.length=s.length-(r.length+1)+1:=by omega
    rw[this,<-List.drop_drop,h3];rfl
   rw[bp];split
   .
    exact ih r (by omega) hr (by omega)
   split
   .
    exact h0
   split
   .
    rename_i hp;have he:=lZ h3 hp;exact ih _ (by simp only[List.length_drop];omega) (by rw[List.length_drop];congr 1;omega) (by simp only[List.length_drop];omega)
   exact Hx h3
theorem aak (s:List UInt8):SF s (aG s).2.2/\((aG s).2.1≠0->(aG s).1=[]):=by
 unfold aG
 split
 .
  exact ⟨⟨by show (0:Int)<=1000;omega,by show (1000:Int)<=_;omega⟩,λ_=>rfl⟩
 split
 .
  exact ⟨⟨Int.le_refl _,by show (0:Int)<=_;omega⟩,λh=>absurd rfl h⟩
 exact ⟨NB s s.length s (Nat.le_refl _) (by simp) (Nat.le_refl _),λ_=>rfl⟩
end Go.Proofs.YtpaddkkfefgkfaaGreatDoor.lt

/- Tokens, written, joined. What is written is read as it. What is read may be; faults are in the text. -/
import Derived.Test.YtpaddkkfefgkfaaGreatDoorGrb
import Derived.Test.YtpaddkkfefgkfaaGreatDoorLyg
set_option linter.unusedVariables false
set_option linter.unusedSimpArgs false

namespace Go.Proofs.YtpaddkkfefgkfaaGreatDoor.lt
open Go.Tv Go.Ev
set_option maxRecDepth 100000
noncomputable def atK (s:List UInt8) (i:Int) (k:UInt8->Option AV):Option AV:=Option.rec (motive:=λ_=>Option AV) none k (aI s i)
def wm:List UInt8:=[48,49,50,51,52,53,54,55,56,57,97,98,99,100,101,102,103,104,105,106,107,108,109,110,111,112,113,114,115,116,117,118,119,120,121,122]
def wo:List UInt8:=[48,49,50,51,52,53,54,55,56,57,97,98,99,100,101,102]
noncomputable def xq:Nat->Int->List Int->(List Int->Option AV)->Option AV
 |0,_,_,_=>none
 |f+1,u,acc,k=>pick2 (!ltI u 16) (atK wm (IntKind.wrap .u64 ↑(BitVec.toNat (BitVec.ofInt 64 u &&& BitVec.ofInt 64 15))) λc=>xq f (Int.fdiv u 16) (aF c::acc) k) (atK wm u λc=>k (aF c::acc))
noncomputable def ch (gv:Nat->List AV) (β:Type):aT β:=kB (Xg gv) K0 inl 17 β 20
theorem aeO (gv:Nat->List AV) (β:Type):aV (Xg gv) (aY (Xg gv) kn) (ch gv β):=dF (by intro id s g h;cases h) (λf h args=>aL h args) 17 20 β
theorem RP (n:Int):ag (Xg iE) (ch iE AV) bV 17 26 [.int .i64 n] aa.empty (λv _=>some v) =
 pick2 (ltI n 0) (xq 17 (IntKind.wrap .u64 (0-IntKind.wrap .u64 n)) [] λl=>some (.str ([45,48,120]++l.map Et))) (xq 17 (IntKind.wrap .u64 n) [] λl=>some (.str ([48,120]++l.map Et))):=by kernel_rfl
def Vo (d:Nat):UInt8:=UInt8.ofNat (if d<10 then 48+d else 87+d)
def xK (b:Nat):Nat->Nat->List UInt8->List UInt8
 |0,_,acc=>acc
 |f+1,u,acc=>if u<b then Vo u::acc else xK b f (u/b) (Vo (u%b)::acc)
theorem MT:((List.range 16).all λd=>decide (wm[d]? = some (Vo d))&&decide (wo[d]? = some (Vo d)))=true:=by decide +kernel
theorem WI {d:Nat} (h:d<16):aI wm (d:Int)=some (Vo d)/\wo[d]? = some (Vo d):=by
 have:=List.all_eq_true.1 MT d (List.mem_range.2 h)
 simp only[Bool.and_eq_true,decide_eq_true_eq] at this
 exact this
theorem GU:∀(f u:Nat) (acc:List UInt8) (k:List Int->Option AV),u<16 ^ f->u<18446744073709551616->0<f->xq f u (acc.map aF) k=k ((xK 16 f u acc).map aF)
 |0,u,acc,k,_,_,h=>by omega
 |
  f+1,u,acc,k,h,h64,_=>by
  have hand:((BitVec.ofInt 64 (u:Int) &&& BitVec.ofInt 64 15).toNat:Int)=(u:Int)%16:=DM (by omega) (by omega) 4 (by omega)
  show pick2 (!ltI (u:Int) 16) (atK wm (IntKind.wrap .u64 ↑(BitVec.toNat (BitVec.ofInt 64 (u:Int) &&& BitVec.ofInt 64 15))) λc=>xq f (Int.fdiv u 16) (aF c::acc.map aF) k) (atK wm u λc=>k (aF c::acc.map aF))=_
  rw[cR,hand,u64_in (by omega) (by omega),xK]
  unfold atK;by_cases hu:u<16
  .
   rw[if_neg (by omega),if_pos hu,(WI hu).1];rfl
  rw[if_pos (by omega),if_neg hu]
  have e1:((u:Int)%16)=((u%16:Nat):Int):=by omega
  have e2:Int.fdiv (u:Int) 16=((u/16:Nat):Int):=by rw[Int.fdiv_eq_ediv_of_nonneg _ (by omega)];rfl
  have hf:0<f:=by
   cases f with
   |zero=>simp at h;omega
   |succ f=>omega
  rw[e1,(WI (Nat.mod_lt u (by omega))).1,e2]
  have:=GU f (u/16) (Vo (u%16)::acc) k (by rw[Nat.pow_succ] at h;omega) (by omega) hf
  exact this
def Ej (b:Nat) (ah:List UInt8) (n:Int):List UInt8:=(if n<0 then [45] else [])++ah++xK b 64 n.natAbs []
theorem abs_neg {n:Int} (h0 : -9223372036854775808<=n) (h:n<0):IntKind.wrap .u64 (0-IntKind.wrap .u64 n)=((n.natAbs:Nat):Int):=by rw[qW,qW];omega
theorem Vp {n:Int} (h1:n<9223372036854775808) (h:¬n<0):IntKind.wrap .u64 n=((n.natAbs:Nat):Int):=by rw[qW];omega
theorem CI {b:Nat} (hb:2<=b):∀(f g u:Nat) (acc:List UInt8),u<b ^ f->0<f->f<=g->xK b g u acc=xK b f u acc
 |0,_,_,_,_,h,_=>by omega
 |f+1,0,_,_,_,_,h=>by omega
 |
  f+1,g+1,u,acc,h,_,hfg=>by
  rw[xK,xK];by_cases hu:u<b
  .
   rw[if_pos hu,if_pos hu]
  rw[if_neg hu,if_neg hu]
  have hf:0<f:=by
   cases f with
   |zero=>simp at h;omega
   |succ f=>omega
  exact CI hb f g (u/b) _ (by rw[Nat.pow_succ] at h;exact Nat.div_lt_of_lt_mul (by rw[Nat.mul_comm];exact h)) hf (by omega)
theorem K8 {u:Nat} (h:u<18446744073709551616) (k:List Int->Option AV):xq 17 u [] k=k ((xK 16 64 u []).map aF):=by
 have hp:u<16 ^ 17:=by omega
 have:=GU 17 u [] k hp h (by omega)
 rw[CI (by omega) 17 64 u [] hp (by omega) (by omega)]
 exact this
theorem Vq {n:Int} (h0 : -9223372036854775808<=n) (h1:n<9223372036854775808) :
 pick2 (ltI n 0) (xq 17 (IntKind.wrap .u64 (0-IntKind.wrap .u64 n)) [] λl=>some (.str ([45,48,120]++l.map Et))) (xq 17 (IntKind.wrap .u64 n) [] λl=>some (.str ([48,120]++l.map Et)))=some (.str (Ej 16 [48,120] n)):=by
 rw[aW]
 unfold Ej
 split
 .
  rename_i h;rw[abs_neg h0 h,K8 (by omega),DL];rfl
 rename_i h;rw[Vp h1 h,K8 (by omega),DL];rfl
noncomputable def aaE (args:List AV):Option (Bool×List bA) :=
 match args with
 |[.int .i64 n]=>some (!ltI n (-9223372036854775808)&&ltI n 9223372036854775808,[.val (.str (Ej 16 [48,120] n))])
 |_=>none
theorem aaF:aO (Xg iE) (aY (Xg iE) kn) 26 aaE :=
 aJ (λargs=>aL rfl args) (aeO iE) λargs rs hg=>by
  unfold aaE at hg;split at hg
  .
   rename_i n;simp only[Option.some.injEq,Prod.mk.injEq,Bool.and_eq_true,ltI_spec,Bool.not_eq_true',decide_eq_false_iff_not,decide_eq_true_eq] at hg;obtain ⟨h1,rfl⟩:=hg;exact ⟨[.str (Ej 16 [48,120] n)],bV,17,(RP n).trans (Vq (by omega) (by omega)),rfl,rfl⟩
  cases hg
def MU:List (List UInt8):=[[36,36],[60,60],[62,62],[43],[45],[42],[47],[37],[38],[124],[94],[126],[40],[41],[91],[93],[44],[58],[36]]
noncomputable def JU {α:Type} (L:List α) (i:Int) (k:α->Option AV):Option AV:=Option.rec (motive:=λ_=>Option AV) none k (aI L i)
noncomputable def M6':List nY:=(15,[none],gNm)::M3
theorem M6'_ok (gv:Nat->List AV):cr (Xg gv) (aY (Xg gv) kn) M6':=.cons (We gv) (Gh gv)
noncomputable def d6' (gv:Nat->List AV) (β:Type):aT β:=kB (Xg gv) (Me M6') inl 200 β 20
theorem d6'_ok (gv:Nat->List AV) (β:Type):aV (Xg gv) (aY (Xg gv) kn) (d6' gv β):=dF (M6'_ok gv) (λf h args=>aL h args) 200 20 β
def pV1:List Bool:=[true,false,true,false,true,true,true,true,true,false,false,true,false]
noncomputable def aaG:bG:=⟨dG [1,27,28] pV1,.none,[]⟩
noncomputable def Qf (y:Piece):AV:=.agg [.int .i64 y.1,.int .i64 y.2.1,.str y.2.2.1,.int .i64 y.2.2.2]
noncomputable def aii (y:Piece):aa:=kC [.cells 106 [.int .i64 y.1,.int .i64 y.2.1,.str y.2.2.1,.int .i64 y.2.2.2]]
noncomputable def jV1 (gv:Nat->List AV) (y:Piece) (r m:Nat) (i:Int):Option AV:=dH (Xg gv) (d6' gv AV) aaG r 59 pV1 (λv _=>some v) m (hU 62 [(1,.ptr 0 0),(27,.int .i64 y.2.2.1.length),(28,.int .i64 i)]) (aii y)
def nI (c:UInt8):Bool:=jN (aF c) && !eqI (aF c) 34
noncomputable def fV:Option AV:=some (.bool false)
theorem aaH (gv:Nat->List AV) (y:Piece) (r m:Nat) (i:Int):jV1 gv y r (m+1) i =
 pick2 (ltI i ↑y.2.2.1.length) (Option.rec (motive:=λ_=>Option AV) none (λc=>pick2 (eqI (aF c) 34) fV (Option.rec (motive:=λ_=>Option AV) none (λc=>pick2 (!jN (aF c)) fV (jV1 gv y r m (IntKind.wrap .i64 (i+1)))) (aI y.2.2.1 i))) (aI y.2.2.1 i))
  (some (.bool (eqI y.2.1 0))):=by kernel_rfl
theorem stepV1' (gv:Nat->List AV) (y:Piece) (r m:Nat) (i:Int):jV1 gv y r (m+1) i =
 pick2 (ltI i ↑y.2.2.1.length) (Option.rec (motive:=λ_=>Option AV) none (λc=>pick2 (!nI c) fV (jV1 gv y r m (IntKind.wrap .i64 (i+1)))) (aI y.2.2.1 i)) (some (.bool (eqI y.2.1 0))):=by
 rw[aaH]
 cases aI y.2.2.1 i with
 |none=>rfl
 |
  some c =>
  show pick2 _ (pick2 (eqI (aF c) 34) fV (pick2 (!jN (aF c)) fV _)) _=pick2 _ (pick2 (!nI c) fV _) _;unfold nI;cases eqI (aF c) 34<;>cases jN (aF c)<;>rfl
noncomputable def dJ (y:Piece):Bool:=pick2 (eqI y.1 1) (eqI y.2.1 0&&ay y.2.2.1) (pick2 (eqI y.1 2) (decide (y.2.2.1=[])) (pick2 (eqI y.1 3) (y.2.2.1.all nI&&eqI y.2.1 0) (pick2 (eqI y.1 4) (MU.any (λp=>decide (y.2.2.1=p))&&eqI y.2.1 0) false)))
noncomputable def sgV (s:List UInt8) (n:Int) (l:List (List UInt8)):Option AV:=List.rec (motive:=λ_=>Option AV) fV (λp _ r=>pick2 (decide (s=p)) (some (.bool (eqI n 0))) r) l
theorem RQ (s:List UInt8) (n:Int):∀l,sgV s n l=some (.bool (l.any (λp=>decide (s=p))&&eqI n 0))
 |[]=>rfl
 |
  p::l=>by
  show pick2 (decide (s=p)) (some (AV.bool (eqI n 0))) (sgV s n l)=_;rw[RQ s n l,List.any_cons];cases decide (s=p)<;>rfl
noncomputable def WJ (y:Piece) (a b:Option AV):Option AV :=
 pick2 (eqI y.1 1) (pick2 (eqI y.2.1 0) (some (.bool (ay y.2.2.1))) fV) (pick2 (eqI y.1 2) (some (.bool (decide (y.2.2.1=[])))) (pick2 (eqI y.1 3) a (pick2 (eqI y.1 4) b fV)))
theorem Vr (y:Piece) (k:Nat):ag (Xg iE) (d6' iE AV) aaG (k+21) 59 [Qf y] aa.empty (λv _=>some v)=WJ y (jV1 iE y (k+21) (k+21) 0) (sgV y.2.2.1 y.2.1 MU):=by kernel_rfl
theorem aeP (y:Piece) (k:Nat) (hs:y.2.2.1.length<=k) (hk:k<=100000):ag (Xg iE) (d6' iE AV) aaG (k+21) 59 [Qf y] aa.empty (λv _=>some v)=some (.bool (dJ y)):=by
 have hl:=Gm (s:=y.2.2.1) (by omega) (stepV1' iE y (k+21)) y.2.2.1 [] (k+21) rfl (by omega)
 have hl:jV1 iE y (k+21) (k+21) 0=_:=hl
 rw[Vr,hl,RQ]
 unfold WJ dJ fV
 cases eqI y.1 1<;>cases eqI y.1 2<;>cases eqI y.1 3<;>cases eqI y.1 4<;>cases eqI y.2.1 0<;>cases y.2.2.1.all nI<;>rfl
noncomputable def Vs (args:List AV):Option (Bool×List bA) :=
 match args with
 |[.agg [.int .i64 k,.int .i64 n,.str s,.int .i64 a]]=>some (Nat.ble s.length 1100,[.val (.bool (dJ (k,n,s,a)))])
 |_=>none
theorem Vt {gv:Nat->List AV} {an:bG} {f:FuncId} (hk:inl f=true) (h:∀(y:Piece) (k:Nat),y.2.2.1.length<=k->k<=100000->ag (Xg gv) (d6' gv AV) an (k+21) f [Qf y] aa.empty (λv _=>some v)=some (.bool (dJ y))):aO (Xg gv) (aY (Xg gv) kn) f Vs :=
 aJ (λargs=>aL hk args) (d6'_ok gv) λargs rs hg=>by
  unfold Vs at hg;split at hg
  .
   rename_i k n s a;simp only[Option.some.injEq,Prod.mk.injEq,Nat.ble_eq] at hg;obtain ⟨h1,rfl⟩:=hg;exact ⟨[.bool (dJ (k,n,s,a))],an,1100+21,h (k,n,s,a) 1100 h1 (by omega),rfl,rfl⟩
  cases hg
theorem aeQ:aO (Xg iE) (aY (Xg iE) kn) 59 Vs:=Vt rfl aeP
noncomputable def RR (a:Int):Int:=((BitVec.ofInt 64 a &&& BitVec.ofInt 64 15).toNat:Int)
theorem RU (a:Int):RR a=a%16:=by
 unfold RR
 have e:BitVec.ofInt 64 a=BitVec.ofInt 64 (a%18446744073709551616):=by
  apply BitVec.eq_of_toNat_eq;simp only[BitVec.toNat_ofInt]
  congr 1
  omega
 rw[e]
 have:=DM (a:=a%18446744073709551616) (by omega) (by omega) 4 (by omega)
 have h2:((2 ^ 4-1:Nat):Int)=15:=rfl
 rw[h2] at this
 rw[this]
 show a%18446744073709551616%16=a%16
 omega
def dgI (d:Int):UInt8:=wo.getD d.toNat 0
theorem Vu {d:Int} (h0:0<=d) (h1:d<16):aI wo d=some (dgI d):=by
 obtain ⟨k,rfl⟩:∃k:Nat,d=k:=⟨d.toNat,by omega⟩
 rw[mq]
 unfold dgI
 have:k<wo.length:=by show k<16;omega
 rw[Int.toNat_natCast,List.getElem?_eq_getElem this,List.getD_eq_getElem?_getD,List.getElem?_eq_getElem this];rfl
noncomputable def GV:Nat->Int->List Int->Nat->Option AV
 |0,_,L,_=>some (.str (L.map Et))
 |f+1,u,L,i=>Option.rec (motive:=λ_=>Option AV) none (λc=>GV f (Int.fdiv u 16) (L.set i (aF c)) (i-1)) (aI wo (IntKind.wrap .u64 (RR u)))
theorem Im (u:Int):ag (Xg iE) (c0 iE AV) bV 20 102 [.int .u64 u] aa.empty (λv _=>some v)=GV 16 u [48,120,48,48,48,48,48,48,48,48,48,48,48,48,48,48,48,48] 17:=by kernel_rfl
def MV:Nat->Int->List Int->Nat->List Int
 |0,_,L,_=>L
 |f+1,u,L,i=>MV f (u/16) (L.set i (aF (dgI (u%16)))) (i-1)
theorem GW:∀(f:Nat) (u:Int) (L:List Int) (i:Nat),0<=u->GV f u L i=some (.str ((MV f u L i).map Et))
 |0,_,_,_,_=>rfl
 |
  f+1,u,L,i,h=>by
  rw[GV,RU,u64_in (by omega) (by omega),Vu (by omega) (by omega)]
  show GV f (Int.fdiv u 16) (L.set i (aF (dgI (u%16)))) (i-1)=_;have e:Int.fdiv u 16=u/16:=Int.fdiv_eq_ediv_of_nonneg _ (by omega)
  rw[e,GW f (u/16) _ _ (by omega),MV]
def Jy (u:Int):List UInt8:=(MV 16 u [48,120,48,48,48,48,48,48,48,48,48,48,48,48,48,48,48,48] 17).map Et
noncomputable def aaI (args:List AV):Option (Bool×List bA) :=
 match args with
 |[.int .u64 u]=>some (!ltI u 0,[.val (.str (Jy u))])
 |_=>none
theorem aeR:aO (Xg iE) (aY (Xg iE) kn) 102 aaI :=
 aJ (λargs=>aL rfl args) (rS iE) λargs rs hg=>by
  unfold aaI at hg;split at hg
  .
   rename_i u;simp only[Option.some.injEq,Prod.mk.injEq,ltI_spec,Bool.not_eq_true',decide_eq_false_iff_not] at hg;obtain ⟨h1,rfl⟩:=hg;exact ⟨[.str (Jy u)],bV,20,(Im u).trans (GW 16 u _ _ (by omega)),rfl,rfl⟩
  cases hg
noncomputable def M7':List nY:=(26,[none],aaE)::(59,[none],Vs)::(102,[none],aaI)::M6'
theorem M7'_ok:cr (Xg iE) (aY (Xg iE) kn) M7':=.cons aaF (.cons aeQ (.cons aeR (M6'_ok iE)))
noncomputable def d7' (β:Type):aT β:=kB (Xg iE) (Me M7') inl 200 β 20
theorem d7'_ok (β:Type):aV (Xg iE) (aY (Xg iE) kn) (d7' β):=dF M7'_ok (λf h args=>aL h args) 200 20 β
def dS (y:Piece):List UInt8:=if y.1=2 then (if y.2.1<0 then Jy (IntKind.wrap .u64 y.2.1) else Ej 16 [48,120] y.2.1) else if y.1=3 then [34]++y.2.2.1++[34] else y.2.2.1
noncomputable def RV (y:Piece):Option AV :=
 pick2 (eqI y.1 2) (pick2 (ltI y.2.1 0) (pick2 (!ltI (IntKind.wrap .u64 y.2.1) 0) (some (.str (Jy (IntKind.wrap .u64 y.2.1)))) none) (pick2 (!ltI y.2.1 (-9223372036854775808)&&ltI y.2.1 9223372036854775808) (some (.str (Ej 16 [48,120] y.2.1))) none))
  (pick2 (eqI y.1 3) (pick2 (Nat.ble (1+y.2.2.1.length) 9223372036854775807) (pick2 (Nat.ble (([34]++y.2.2.1).length+1) 9223372036854775807) (some (.str ([34]++y.2.2.1++[34]))) none) none) (some (.str y.2.2.1)))
theorem aaJ (y:Piece):ag (Xg iE) (d7' AV) bV 20 62 [Qf y] aa.empty (λv _=>some v)=RV y:=by kernel_rfl
theorem aaK (n:Int):0<=IntKind.wrap .u64 n:=by rw[qW];omega
theorem RW (y:Piece) (h0 : -9223372036854775808<=y.2.1) (h1:y.2.1<9223372036854775808) (hs:y.2.2.1.length<=1100):RV y=some (.str (dS y)):=by
 unfold RV dS
 rw[aB,aW,cF (aaK _),cF h0,kW h1,aB,bO (by omega),bO (by simp;omega)]
 split
 .
  split<;>rfl
 split<;>rfl
noncomputable def gWr (args:List AV):Option (Bool×List bA) :=
 match args with
 |[.agg [.int .i64 k,.int .i64 n,.str s,.int .i64 a]]=>some (!ltI n (-9223372036854775808)&&ltI n 9223372036854775808&&Nat.ble s.length 1100,[.val (.str (dS (k,n,s,a)))])
 |_=>none
theorem aeS:aO (Xg iE) (aY (Xg iE) kn) 62 gWr :=
 aJ (λargs=>aL rfl args) d7'_ok λargs rs hg=>by
  unfold gWr at hg;split at hg
  .
   rename_i k n s a;simp only[Option.some.injEq,Prod.mk.injEq,Bool.and_eq_true,ltI_spec,Bool.not_eq_true',decide_eq_false_iff_not,decide_eq_true_eq,Nat.ble_eq] at hg;obtain ⟨⟨⟨h1,h2⟩,h3⟩,rfl⟩:=hg;exact ⟨[.str (dS (k,n,s,a))],bV,20,(aaJ (k,n,s,a)).trans (RW (k,n,s,a) (by show -9223372036854775808<=n;omega) h2 h3),rfl,rfl⟩
  cases hg
def alc (n:Int):List UInt8:=if n<0 then Jy (IntKind.wrap .u64 n) else Ej 16 [48,120] n
noncomputable def M8':List nY:=(62,[none],gWr)::M7'
theorem M8'_ok:cr (Xg iE) (aY (Xg iE) kn) M8':=.cons aeS M7'_ok
noncomputable def d8' (β:Type):aT β:=kB (Xg iE) (Me M8') inl 200 β 20
theorem d8'_ok (β:Type):aV (Xg iE) (aY (Xg iE) kn) (d8' β):=dF M8'_ok (λf h args=>aL h args) 200 20 β
def pJ1:List Bool:=[true,false,true,false]
def pJr:List Bool:=[true,true]
def pJ2:List Bool:=[true,true,true,false,true,false]
noncomputable def anJ:bG:=⟨oR (dG [0,9,10,11] pJ1) (oR (dG [0] pJr) (dG [6,19,20,21] pJ2)),.none,[]⟩
noncomputable def jJ1 (l:List Piece) (r m:Nat) (i:Int):Option AV:=dH (Xg iE) (d8' AV) anJ r 28 pJ1 (λv _=>some v) m (hU 36 [(0,.bF aC l),(9,.bF aC l),(10,.int .i64 l.length),(11,.int .i64 i)]) aa.empty
noncomputable def RX (l:List Piece) (r:Nat):Option AV:=codeFrom (Xg iE) (d8' AV) anJ r 28 pJr (λv _=>some v) (hU 36 [(0,.bF aC l)]) aa.empty
noncomputable def WK (l:List Piece) (r m:Nat) (i:Int) (H:aa):Option AV:=dH (Xg iE) (d8' AV) anJ r 28 pJ2 (λv _=>some v) m (hU 36 [(6,.ptr 0 0),(19,.bF aC l),(20,.int .i64 l.length),(21,.int .i64 i)]) H
noncomputable def mJ0:aa:=kC [.cells 115 [.je,.bK]]
noncomputable def mJ (L:List Int) (n:Nat):aa:=kC [.cells 115 [.ptr 0 0,.own 1 n],.list 5 (.int .u8) L 0 false false]
noncomputable def MW (e:Int):Option AV:=some (.cB [.str [],.int .i64 e])
noncomputable def fF (y:Piece):Bool := !ltI y.2.1 (-9223372036854775808)&&ltI y.2.1 9223372036854775808&&Nat.ble y.2.2.1.length 1100
def wI (y:Piece):List Int:=(dS y).map aF
theorem RY (l:List Piece) (r m:Nat) (i:Int):jJ1 l r (m+1) i=pick2 (ltI i ↑l.length) (JU l i λy=>pick2 (Nat.ble y.2.2.1.length 1100) (pick2 (!dJ y) (MW 2) (jJ1 l r m (IntKind.wrap .i64 (i+1)))) none) (RX l r):=by kernel_rfl
theorem aaL (l:List Piece) (r:Nat):ag (Xg iE) (d8' AV) anJ r 28 [.bF aC l] aa.empty (λv _=>some v)=jJ1 l r r 0:=by kernel_rfl
theorem RZ (l:List Piece) (r:Nat):RX l r=WK l r r 0 mJ0:=by kernel_rfl
theorem aaM (l:List Piece) (r m:Nat):WK l r (m+1) 0 mJ0=pick2 (ltI 0 ↑l.length) (JU l 0 λy=>pick2 (fF y) (pick2 (Nat.ble (0+(wI y).length) 1000000) (pick2 (ltI 1000 ↑(0+(wI y).length)) (MW 3) (WK l r m 1 (mJ (wI y) (0+(wI y).length)))) none) none) (some (.cB [.str [],.int .i64 0])):=by kernel_rfl
noncomputable def wrJ (l:List Piece) (r m:Nat) (i:Int) (y:Piece) (L:List Int):Option AV :=
 pick2 (fF y) (pick2 (Nat.ble (L.length+(wI y).length) 1000000) (pick2 (ltI 1000 ↑(L.length+(wI y).length)) (MW 3) (WK l r m (IntKind.wrap .i64 (i+1)) (mJ (L++wI y) (L.length+(wI y).length)))) none) none
noncomputable def aeV (L:List Int) (n:Nat):Option AV:=pick2 (Nat.ble 1 n) (pick2 (Nat.ble 1 L.length&&Nat.ble L.length 1000000&&eqI ↑n ↑L.length&&L.all Fq) (some (.cB [.str (L.map Et),.int .i64 0])) none) none
theorem R2 (l:List Piece) (r m:Nat) (i:Int) (L:List Int) (n:Nat):WK l r (m+1) i (mJ L n) =
 pick2 (ltI i ↑l.length) (JU l i λy=>pick2 (ltI 0 i) (pick2 (Nat.ble (L.length+1) 1000000) (wrJ l r m i y (L++[32])) none) (wrJ l r m i y L)) (aeV L n):=by kernel_rfl
def uH:List Piece->List UInt8->List UInt8×Int
 |[],b=>(b,0)
 |y::l,b=>if 1000<(b++[32]++dS y).length then ([],3) else uH l (b++[32]++dS y)
noncomputable def dL (l:List Piece):List UInt8×Int:=if l.all dJ=true then (match l with | []=>([],0)|y::l=>if 1000<(dS y).length then ([],3) else uH l (dS y)) else ([],2)
noncomputable def Vv (r:List UInt8×Int):Option AV:=some (.cB [.str r.1,.int .i64 r.2])
theorem GX:∀b:List UInt8,(b.map aF).all Fq=true
 |[]=>rfl
 |
  c::b=>by
  rw[List.map_cons,List.all_cons,GX b,Bool.and_true];show Nat.ble c.toNat 255=true;have:=c.toNat_lt;exact bO (by omega)
theorem R3 {b:Nat}:∀(f u:Nat) (acc:List UInt8),(xK b f u acc).length<=f+acc.length
 |0,_,acc=>by simp[xK]
 |
  f+1,u,acc=>by
  rw[xK];split
  .
   simp;omega
  have:=R3 (b:=b) f (u/b) (Vo (u%b)::acc);simp at this;omega
theorem Aq:∀(f:Nat) (u:Int) (L:List Int) (i:Nat),(MV f u L i).length=L.length
 |0,_,_,_=>rfl
 |f+1,u,L,i=>by rw[MV,Aq];simp
theorem GY {y:Piece} (h:y.2.2.1.length<=1100):(dS y).length<=1200:=by
 unfold dS
 split
 .
  split
  .
   unfold Jy;rw[List.length_map,Aq];simp
  unfold Ej;have:=R3 (b:=16) 64 y.2.1.natAbs [];simp only[List.length_append,List.length_nil] at this ⊢;split<;>simp<;>omega
 split
 .
  simp;omega
 omega
theorem MX {y:Piece} (h:dJ y=true):1<=(dS y).length:=by
 unfold dS
 by_cases h2:y.1=2
 .
  rw[if_pos h2];split
  .
   unfold Jy;rw[List.length_map,Aq];simp
  unfold Ej;simp;omega
 rw[if_neg h2]
 by_cases h3:y.1=3
 .
  rw[if_pos h3];simp
 rw[if_neg h3]
 cases hs:y.2.2.1 with
 |cons c r=>simp
 |
  nil =>
  exfalso;unfold dJ at h;rw[hs,aB,aB,aB,aB,if_neg h2,if_neg h3] at h;split at h
  .
   simp[ay] at h
  split at h
  .
   simp[MU] at h
  cases h
theorem aaN (l:List Piece) (hl:l.length<=300000) (r:Nat):∀(rest pre:List Piece) (m:Nat) (b:List UInt8) (n:Nat),l=pre++rest->rest.length<m->1<=pre.length->1<=b.length->b.length<=1000->n=b.length->(∀y∈rest,fF y=true) ->
 WK l r m pre.length (mJ (b.map aF) n)=Vv (uH rest b):=by
 intro rest
 induction rest with
 |
  nil =>
  intro pre m b n he hm hp AW EK hn _;obtain ⟨m,rfl⟩:∃m',m=m'+1:=⟨m-1,by simp at hm;omega⟩
  have e1:l.length=pre.length:=by rw[he];simp
  rw[R2,cF (by omega)]
  unfold aeV;rw[bO (show 1<=n by omega),GX,bO (show 1<=(b.map aF).length by simp;omega),bO (show (b.map aF).length<=1000000 by simp;omega),wW (by simp;omega),DL]
  rfl
 |
  cons y rest ih =>
  intro pre m b n he hm hp AW EK hn hc;obtain ⟨m,rfl⟩:∃m',m=m'+1:=⟨m-1,by simp at hm;omega⟩
  have e1:l.length=pre.length+(rest.length+1):=by rw[he];simp
  have hg:aI l (pre.length:Int)=some y:=by rw[he];exact ei pre rest y
  have MY:=hc y (by simp)
  have hw:(dS y).length<=1200:=by
   refine GY ?_;unfold fF at MY;simp only[Bool.and_eq_true,Nat.ble_eq] at MY;exact MY.2
  have e2:b.map aF++[32]++wI y=(b++[32]++dS y).map aF:=by unfold wI;simp;rfl
  have e3:(b.map aF++[32]).length+(wI y).length=(b++[32]++dS y).length:=by unfold wI;simp only[List.length_append,List.length_map,List.length_cons,List.length_nil]
  rw[R2,uH];unfold JU;rw[kW (a:=(pre.length:Int)) (by omega),hg]
  show pick2 (ltI 0 ↑pre.length) (pick2 (Nat.ble ((b.map aF).length+1) 1000000) (wrJ l r m ↑pre.length y (b.map aF++[32])) none) (wrJ l r m ↑pre.length y (b.map aF))=_;rw[kW (by omega),bO (by simp;omega)]
  show wrJ l r m ↑pre.length y (b.map aF++[32])=_;unfold wrJ;rw[MY,e2,e3,bO (by simp;omega),i64_in (n:=(pre.length:Int)+1) (by omega) (by omega)]
  show pick2 (ltI 1000 ↑((b++[32]++dS y).length)) (MW 3) (WK l r m (↑pre.length+1) (mJ ((b++[32]++dS y).map aF) (b++[32]++dS y).length))=_;rw[aW];by_cases hlt:1000<(b++[32]++dS y).length
  .
   rw[if_pos (by omega),if_pos hlt];rfl
  rw[if_neg (by omega),if_neg hlt]
  have hin:=ih (pre++[y]) m (b++[32]++dS y) _ (by rw[he];simp) (by simp at hm;omega) (by simp) (by simp;omega) (by omega) rfl (λx hx=>hc x (by simp[hx]))
  rw[List.length_append] at hin;exact hin
theorem MZ (l:List Piece) (hl:l.length<=300000) (r:Nat) (hr:l.length<r) (hc:∀y∈l,fF y=true) (hv:l.all dJ=true):RX l r=Vv (dL l):=by
 rw[RZ]
 unfold dL
 rw[if_pos hv]
 obtain ⟨m,rfl⟩:∃m,r=m+1:=⟨r-1,by omega⟩
 rw[aaM]
 cases l with
 |nil=>rfl
 |
  cons y l =>
  have MY:=hc y (by simp)
  have hw:(dS y).length<=1200:=by
   refine GY ?_;unfold fF at MY;simp only[Bool.and_eq_true,Nat.ble_eq] at MY;exact MY.2
  have h1:=MX (y:=y) (by rw[List.all_cons,Bool.and_eq_true] at hv;exact hv.1)
  have e0:0+(wI y).length=(dS y).length:=by unfold wI;simp
  unfold JU;rw[kW (a:=(0:Int)) (b:=((y::l).length:Int)) (by simp only[List.length_cons];omega)]
  show pick2 (fF y) (pick2 (Nat.ble (0+(wI y).length) 1000000) (pick2 (ltI 1000 ↑(0+(wI y).length)) (MW 3) (WK (y::l) (m+1) m 1 (mJ (wI y) (0+(wI y).length)))) none) none=Vv (if 1000<(dS y).length then ([],3) else uH l (dS y));rw[e0,MY,bO (by omega),aW]
  by_cases hlt:1000<(dS y).length
  .
   rw[if_pos (by omega),if_pos hlt];rfl
  rw[if_neg (by omega),if_neg hlt]
  exact aaN (y::l) hl (m+1) l [y] m (dS y) _ rfl (by simp at hr;omega) (by simp) h1 (by omega) rfl (λx hx=>hc x (by simp[hx]))
theorem aaO (l:List Piece) (hl:l.length<=300000) (r:Nat) (hr:l.length<r) (hc:∀y∈l,fF y=true):∀(rest pre:List Piece) (m:Nat),l=pre++rest->rest.length<m->pre.all dJ=true->jJ1 l r m pre.length=Vv (dL l):=by
 intro rest
 induction rest with
 |
  nil =>
  intro pre m he hm hp;obtain ⟨m,rfl⟩:∃m',m=m'+1:=⟨m-1,by simp at hm;omega⟩
  have e0:l=pre:=by rw[he];simp
  rw[RY,cF (by rw[e0];omega)]
  exact MZ l hl r hr hc (by rw[e0];exact hp)
 |
  cons y rest ih =>
  intro pre m he hm hp;obtain ⟨m,rfl⟩:∃m',m=m'+1:=⟨m-1,by simp at hm;omega⟩
  have e1:l.length=pre.length+(rest.length+1):=by rw[he];simp
  have hg:aI l (pre.length:Int)=some y:=by rw[he];exact ei pre rest y
  have MY:=hc y (by rw[he];simp)
  have hs:y.2.2.1.length<=1100:=by
   unfold fF at MY;simp only[Bool.and_eq_true,Nat.ble_eq] at MY;exact MY.2
  rw[RY];unfold JU;rw[kW (by omega),hg,i64_in (n:=(pre.length:Int)+1) (by omega) (by omega)]
  show pick2 (Nat.ble y.2.2.1.length 1100) (pick2 (!dJ y) (MW 2) (jJ1 l r m (↑pre.length+1))) none=_;rw[bO hs];cases hv:dJ y with
  |
   true =>
   have hin:=ih (pre++[y]) m (by rw[he];simp) (by simp at hm;omega) (by rw[List.all_append,hp];simp[hv])
   rw[List.length_append] at hin;exact hin
  |
   false =>
   have:l.all dJ=false:=by rw[he,List.all_append,List.all_cons,hv];simp
   unfold dL;rw[this];rfl
theorem aik (l:List Piece) (hl:l.length<=300000) (hc:∀y∈l,fF y=true):ag (Xg iE) (d8' AV) anJ (l.length+1) 28 [.bF aC l] aa.empty (λv _=>some v)=some (.cB [.str (dL l).1,.int .i64 (dL l).2]):=by
 rw[aaL]
 exact aaO l hl (l.length+1) (by omega) hc l [] (l.length+1) rfl (by omega) rfl
noncomputable def ajA (args:List AV):Option (Bool×List bA) :=
 match args with
 |
  [a]=>match sM aC a with
  |some l=>some (Nat.ble l.length 1000&&l.all fF,[.val (.str (dL l).1),.val (.int .i64 (dL l).2)])
  |none=>none
 |_=>none
end Go.Proofs.YtpaddkkfefgkfaaGreatDoor.lt

namespace Go.Proofs.YtpaddkkfefgkfaaGreatDoor.lt
open Go.Tv Go.Ev
set_option maxRecDepth 100000
def alf (b:Nat) (l:List UInt8):Prop:=∀c∈l,∃d,d<b/\c=Vo d
def Behind (e:List UInt8):Prop:=e=[]\/∃q,e=32::q
def sg2 (X:List UInt8) (a:Nat):List (List UInt8)->Cut
 |[]=>([],0,4,a)
 |g::r=>if preB X g then (g,a+g.length,0,0) else sg2 X a r
def ae3:List Piece->List UInt8
 |[]=>[]
 |[y]=>dS y
 |y::z::l=>dS y++32::ae3 (z::l)
end Go.Proofs.YtpaddkkfefgkfaaGreatDoor.lt

namespace Go.Proofs.YtpaddkkfefgkfaaGreatDoor.lt
open Go.Tv Go.Ev
set_option maxRecDepth 100000
def alike:List Piece->List Piece->Bool
 |[],[]=>true
 |x::a,y::b=>decide (x.1=y.1)&&decide (x.2.1=y.2.1)&&decide (x.2.2.1=y.2.2.1)&&alike a b
 |_,_=>false
theorem uI {s:List UInt8} {a e:Nat} (hae:a<=e) {c:UInt8} {r:List UInt8} (hd:s.drop e=c::r):bz s (a:Int) ((e+1:Nat):Int)=bz s (a:Int) (e:Int)++[c]:=by
 unfold bz
 simp only[Int.toNat_natCast]
 have e1:e+1-a=(e-a)+1:=by omega
 have e2:(s.drop a)[e-a]? = some c:=by
  rw[List.getElem?_drop,show a+(e-a)=e by omega]
  have:s[e]? = (s.drop e)[0]? := by simp
  rw[this,hd];rfl
 rw[e1,List.take_add_one,e2];rfl
theorem Lb {s:List UInt8} (a e:Nat):(bz s (a:Int) (e:Int)).length<=e-a:=by unfold bz;simp;omega
theorem aaZ {s:List UInt8} (a e:Int):(bz s a e).length<=s.length:=by unfold bz;simp;omega
theorem jX {s:List UInt8} {e:Nat} {c:UInt8} {r:List UInt8} (hd:s.drop e=c::r):s.drop (e+1)=r:=by rw[<-List.drop_drop,hd];rfl
theorem Au (s:List UInt8) (a:Nat):∀(rest:List UInt8) (e:Nat),s.drop e=rest->a<=e->e<=a+60->(bz s a e).all xe=true->(fO s a rest e).2.2.1=0->(fO s a rest e).1.all xe=true/\(fO s a rest e).1.length<=60
 |[],e,_,h2,h3,h4,_=>⟨h4,by show (bz s a e).length<=60;have:=Lb (s:=s) a e;omega⟩
 |
  c::r,e,h1,h2,h3,h4,h5=>by
  rw[fO] at h5 ⊢;split at h5
  .
   rename_i hm;rw[if_pos hm];split at h5
   .
    exact absurd h5 (by simp)
   rename_i Wb;rw[if_neg Wb];have hm:xe c=true:=hm;refine Au s a r (e+1) (jX h1) (by omega) (by omega) ?_ h5
   rw[uI h2 h1,List.all_append,h4];simp[hm]
  rename_i hm;rw[if_neg hm];exact ⟨h4,by show (bz s a e).length<=60;have:=Lb (s:=s) a e;omega⟩
theorem Av (s:List UInt8) (a:Nat) {d:UInt8}:∀(rest:List UInt8) (e:Nat),s.drop e=rest->a<=e->(bz s a e).head? = some d->(fO s a rest e).2.2.1=0->(fO s a rest e).1.head? = some d
 |[],e,_,_,h4,_=>h4
 |
  c::r,e,h1,h2,h4,h5=>by
  rw[fO] at h5 ⊢;split at h5
  .
   rename_i hm;rw[if_pos hm];split at h5
   .
    exact absurd h5 (by simp)
   rename_i Wb;rw[if_neg Wb];refine Av s a r (e+1) (jX h1) (by omega) ?_ h5
   rw[uI h2 h1,List.head?_append,h4];rfl
  rename_i hm;rw[if_neg hm];exact h4
theorem uJ (s:List UInt8) (a:Nat):∀(rest:List UInt8) (e:Nat),s.drop e=rest->a+1<=e->(bz s ((a+1:Nat):Int) e).all nI=true->(cZ s a rest e).2.2.1=0->(cZ s a rest e).1.all nI=true
 |[],e,_,_,_,h=>by exact absurd h (by rw[cZ];simp)
 |
  c::r,e,h1,h2,h4,h5=>by
  rw[cZ] at h5 ⊢;split at h5
  .
   rename_i hq;rw[if_pos hq];exact h4
  rename_i hq;rw[if_neg hq];split at h5
  .
   rename_i hp;rw[if_pos hp];refine uJ s a r (e+1) (jX h1) (by omega) ?_ h5
   have hb:nI c=true:=by unfold nI;rw[hp,wX hq];rfl
   rw[uI h2 h1,List.all_append,h4];simp[hb]
  exact absurd h5 (by simp)
theorem CJ (s:List UInt8) (a:Nat):∀l:List (List UInt8),(kG s a l).2.2.1=0->(kG s a l).1∈l
 |[],h=>by exact absurd h (by rw[kG];simp)
 |
  g::l,h=>by
  rw[kG] at h ⊢;split at h
  .
   rename_i hp;rw[if_pos hp];exact List.mem_cons_self ..
  rename_i hp;rw[if_neg hp];exact List.mem_cons_of_mem _ (CJ s a l h)
theorem quoteL_cut' (s:List UInt8) (a:Nat):∀(rest:List UInt8) (e:Nat),(cZ s a rest e).2.2.1=0->(cZ s a rest e).1=bz s (a+1) ((cZ s a rest e).2.1-1):=by
 intro rest
 induction rest with
 |nil=>intro e h;exact absurd h (by simp[cZ])
 |
  cons c r ih =>
  intro e h;rw[cZ] at h ⊢;split at h
  .
   rename_i hm;rw[if_pos hm];show bz s (a+1) e=bz s (a+1) ((e:Int)+1-1);rw[show (e:Int)+1-1=e by omega]
  rename_i hm;rw[if_neg hm];split at h
  .
   rename_i hp;rw[if_pos hp];exact ih (e+1) h
  exact absurd h (by simp)
theorem R7 (s:List UInt8):∀(n:Nat) (left:List UInt8),(jP s n left).1.length<=n:=by
 intro n
 induction n with
 |zero=>intro left;exact Nat.le_refl _
 |
  succ n ih =>
  intro left
  match left with
  |[]=>exact Nat.zero_le _
  |
   c::r =>
   rw[jP];split
   .
    exact Nat.le_succ_of_le (ih r)
   split
   .
    exact Nat.zero_le _
   split
   .
    exact Nat.succ_le_succ (ih _)
   exact Nat.zero_le _
def G3 (n:Int):Prop := -9223372036854775808<=n/\n<9223372036854775808
theorem G5 (n:Int):G3 (IntKind.wrap .i64 n):=by unfold G3;rw[Pj];split<;>omega
theorem iz:G3 0:=by unfold G3;omega
theorem G6 (len:Nat):∀(rest:List UInt8) (k N i:Nat),G3 (jb len rest k N i).1
 |[],_,_,_=>iz
 |
  c::r,k,N,i=>by
  rw[jb];split
  .
   split
   .
    exact iz
   exact G5 _
  split
  .
   exact iz
  split
  .
   exact iz
  exact G6 len r _ _ _
theorem R8 (s:List UInt8) (a:Int):G3 (dN s a).1:=by
 unfold dN
 split
 .
  exact iz
 split
 .
  exact iz
 split
 .
  exact G6 _ _ _ _ _
 split
 .
  unfold mY;split
  .
   exact iz
  split
  .
   exact iz
  exact G5 _
 exact iz
theorem oV {k n a:Int} {S:List UInt8} (hn:G3 n) (hS:S.length<=1100):fF (k,n,S,a)=true:=by
 unfold fF
 rw[cF hn.1,kW hn.2,bO hS];rfl
theorem G7 {s:List UInt8} (hs:s.length<=1000) {a:Nat} {c:UInt8} {r:List UInt8} (hd:s.drop a=c::r) (h:(cG s c a).2.2.1=0):dJ (cG s c a).1=true/\fF (cG s c a).1=true:=by
 have c0:bz s (a:Int) (a:Int)=[]:=by unfold bz;simp
 unfold cG at h ⊢
 split at h
 .
  rename_i hf;rw[if_pos hf];have h:(uj s a).2.2.1=0:=h;unfold uj at h ⊢;obtain ⟨m1,m2⟩:=Au s a (s.drop a) a rfl (Nat.le_refl _) (by omega) (by rw[c0];rfl) h
  refine ⟨?_,oV iz (by omega)⟩
  have hh:(fO s a (s.drop a) a).1.head? = some c:=by
   rw[hd] at h ⊢;rw[fO] at h ⊢;have hm:mZ (aF c)=true:=IM hf;rw[if_pos hm,if_neg (by omega)] at h ⊢
   refine Av s a r (a+1) (jX hd) (by omega) ?_ h
   rw[uI (Nat.le_refl _) hd,c0];rfl
  show ay _=true;cases hS:(fO s a (s.drop a) a).1 with
  |nil=>rw[hS] at hh;cases hh
  |
   cons d q =>
   rw[hS] at hh m1 m2;have:d=c:=by simpa using hh
   subst this;show (decide (q.length<60)&&fc (aF d)&&(d::q).all xe)=true;simp only[List.length_cons] at m2;rw[decide_eq_true (by omega),hf,m1];rfl
 rename_i hf
 rw[if_neg hf]
 split at h
 .
  rename_i hq;rw[if_pos hq];exact ⟨rfl,oV (R8 s a) (by simp)⟩
 rename_i hq
 rw[if_neg hq]
 split at h
 .
  rename_i SG;rw[if_pos SG];have h:(oQ s a).2.2.1=0:=h;unfold oQ at h ⊢;have hp:=uJ s a (s.drop (a+1)) (a+1) rfl (Nat.le_refl _) (by unfold bz;simp) h
  have hl:(cZ s a (s.drop (a+1)) (a+1)).1.length<=1100:=by
   rw[quoteL_cut' s a _ _ h];have:=aaZ (s:=s) ((a:Int)+1) ((cZ s a (s.drop (a+1)) (a+1)).2.1-1);omega
  refine ⟨?_,oV iz hl⟩;show ((cZ s a (s.drop (a+1)) (a+1)).1.all nI&&eqI 0 0)=true;rw[hp];rfl
 rename_i SG
 rw[if_neg SG]
 have h:(o7 s a).2.2.1=0:=h
 unfold o7 at h ⊢
 have hm:=CJ s a sR h
 have hm:(kG s a sR).1∈MU:=hm
 have hl:∀S∈MU,S.length<=1100:=by decide
 refine ⟨?_,oV iz (hl _ hm)⟩
 show (MU.any (λp=>decide ((kG s a sR).1=p))&&eqI 0 0)=true
 rw[List.any_eq_true.2 ⟨_,hm,decide_eq_true rfl⟩];rfl
theorem Nf (s:List UInt8) (hs:s.length<=1000):∀(n:Nat) (left:List UInt8),left.length<=n->s.drop (s.length-left.length)=left->left.length<=s.length->∀y∈(jP s n left).1,dJ y=true/\fF y=true:=by
 intro n
 induction n with
 |zero=>intro left _ _ _ y hy;cases hy
 |
  succ n ih =>
  intro left h1 h3 h4
  match left,h1,h3,h4 with
  |[],_,_,_=>intro y hy;cases hy
  |
   c::r,h1,h3,h4 =>
   rw[List.length_cons] at h1 h3 h4
   have hr:s.drop (s.length-r.length)=r:=by
    have:s.length-r.length=s.length-(r.length+1)+1:=by omega
    rw[this,<-List.drop_drop,h3];rfl
   rw[jP];split
   .
    exact ih r (by omega) hr (by omega)
   split
   .
    intro y hy;cases hy
   split
   .
    rename_i hp;have he:=n9 h3 hp;intro y hy;rcases List.mem_cons.1 hy with rfl|hy
    .
     exact G7 hs h3 hp
    exact ih _ (by simp only[List.length_drop];omega) (by rw[List.length_drop];congr 1;omega) (by simp only[List.length_drop];omega) y hy
   intro y hy;cases hy
theorem JA (s:List UInt8):(∀y∈(di s).1,dJ y=true/\fF y=true)/\(di s).1.length<=1000:=by
 unfold di
 split
 .
  exact ⟨λy hy=>(by cases hy),(by simp)⟩
 rename_i hl
 split
 .
  exact ⟨Nf s (by omega) s.length s (Nat.le_refl _) (by simp) (Nat.le_refl _),(by have:=R7 s s.length s;show (jP s s.length s).1.length<=1000;omega)⟩
 exact ⟨λy hy=>(by cases hy),(by simp)⟩
def R9 (s:List UInt8) (n:Int):Prop:=0<=n/\n<=s.length
theorem yc {s:List UInt8} {e:Nat} {c:UInt8} {r:List UInt8} (hd:s.drop e=c::r):e<s.length:=by
 have:=congrArg List.length hd;simp at this;omega
theorem xw (s:List UInt8) (a:Nat):∀(rest:List UInt8) (e:Nat),s.drop e=rest->R9 s (fO s a rest e).2.2.2
 |[],e,_=>⟨Int.le_refl _,by show (0:Int)<=_;omega⟩
 |
  c::r,e,h1=>by
  rw[fO];split
  .
   split
   .
    have:=yc h1;exact ⟨by show (0:Int)<=e;omega,by show (e:Int)<=_;omega⟩
   exact xw s a r (e+1) (jX h1)
  exact ⟨Int.le_refl _,by show (0:Int)<=_;omega⟩
theorem uK (s:List UInt8) (a:Nat):∀(rest:List UInt8) (e:Nat),s.drop e=rest->R9 s (cZ s a rest e).2.2.2
 |[],e,_=>⟨by show (0:Int)<=s.length;omega,by show (s.length:Int)<=_;omega⟩
 |
  c::r,e,h1=>by
  rw[cZ];split
  .
   exact ⟨Int.le_refl _,by show (0:Int)<=_;omega⟩
  split
  .
   exact uK s a r (e+1) (jX h1)
  have:=yc h1;exact ⟨by show (0:Int)<=e;omega,by show (e:Int)<=_;omega⟩
theorem xx (s:List UInt8) (a:Nat) (ha:a<=s.length):∀l:List (List UInt8),R9 s (kG s a l).2.2.2
 |[]=>⟨by show (0:Int)<=a;omega,by show (a:Int)<=_;omega⟩
 |
  g::l=>by
  rw[kG];split
  .
   exact ⟨Int.le_refl _,by show (0:Int)<=_;omega⟩
  exact xx s a ha l
theorem xy (s:List UInt8):∀(rest:List UInt8) (k N i:Nat),s.drop i=rest->R9 s (jb s.length rest k N i).2.2.2
 |[],_,_,i,_=>⟨by show (0:Int)<=s.length;omega,by show (s.length:Int)<=_;omega⟩
 |
  c::r,k,N,i,h1=>by
  have hi:=yc h1;have h0:R9 s (0:Int):=⟨Int.le_refl _,by omega⟩
  have hI:R9 s (i:Int):=⟨by omega,by omega⟩
  rw[jb];split
  .
   split
   .
    exact hI
   exact h0
  split
  .
   exact hI
  split
  .
   exact hI
  exact xy s r _ _ _ (jX h1)
theorem wu (b:Int):∀(d:List UInt8) (f q:Bool) (i j:Nat),dI b f q d i=some j->j<=i+d.length
 |
  [],f,q,i,j,h=>by
  cases f
  .
   cases h
  cases h;omega
 |
  c::r,f,q,i,j,h=>by
  rw[dI] at h;simp only[List.length_cons];split at h
  .
   split at h
   .
    cases h;omega
   have:=wu b r _ _ _ _ h;omega
  split at h
  .
   cases h;omega
  have:=wu b r _ _ _ _ h;omega
theorem Vz (b:Nat) (d:List UInt8):(kE b d).2.1<=d.length:=by
 unfold kE
 split
 .
  rename_i i h;have:=wu b d _ _ _ _ h;show (i:Int)<=d.length;omega
 show (-1:Int)<=d.length
 omega
theorem G8 (w:List UInt8) (hw:w≠[]) (a:Nat):0<=(mY w a).2.2.2/\(mY w a).2.2.2<=(a:Int)+w.length:=by
 obtain ⟨h1,_,_⟩:=Gf w hw
 have h2:=Vz (aD w).2.2 ((w.take (w.length-(aD w).2.1)).drop (aD w).1)
 have h3:((w.take (w.length-(aD w).2.1)).drop (aD w).1).length+(aD w).1<=w.length:=by simp only[List.length_drop,List.length_take];omega
 unfold mY
 split
 .
  rename_i h0;show 0<=(a:Int)+(aD w).1+(kE (aD w).2.2 ((w.take (w.length-(aD w).2.1)).drop (aD w).1)).2.1/\(a:Int)+(aD w).1+(kE (aD w).2.2 ((w.take (w.length-(aD w).2.1)).drop (aD w).1)).2.1<=_;omega
 split
 .
  show 0<=(a:Int)/\(a:Int)<=_;omega
 show (0:Int)<=0/\(0:Int)<=_
 omega
theorem G9 {s:List UInt8} {a:Nat} {c:UInt8} {r:List UInt8} (hd:s.drop a=c::r):R9 s (cG s c a).2.2.2:=by
 have ha:=yc hd
 unfold cG
 split
 .
  exact xw s a _ a rfl
 split
 .
  rename_i hq;show R9 s (dN s (a:Int)).2.2.2;rw[Nc hd];split
  .
   exact xy s _ _ _ _ rfl
  split
  .
   rename_i h48;have hw:fB (aF c)=true:=by unfold fB;simp;omega
   have e:((s.drop a).takeWhile λc=>fB (aF c))=c::(r.takeWhile λc=>fB (aF c)):=by rw[hd,List.takeWhile_cons,if_pos hw]
   have hl:s.length-a=r.length+1:=by have:=congrArg List.length hd;simpa using this
   have h3:=(List.takeWhile_sublist (λc=>fB (aF c)) (l:=r)).length_le
   obtain ⟨f1,f2⟩:=G8 ((s.drop a).takeWhile λc=>fB (aF c)) (by rw[e];simp) a
   rw[e,List.length_cons] at f2;rw[e] at f1 ⊢;exact ⟨f1,by omega⟩
  exact ⟨by show (0:Int)<=a;omega,by show (a:Int)<=_;omega⟩
 split
 .
  exact uK s a _ (a+1) rfl
 exact xx s a (by omega) _
theorem Ng (s:List UInt8):∀(n:Nat) (left:List UInt8),left.length<=n->s.drop (s.length-left.length)=left->left.length<=s.length->R9 s (jP s n left).2.2:=by
 have h0:R9 s (0:Int):=⟨Int.le_refl _,by omega⟩
 intro n
 induction n with
 |zero=>intro left _ _ _;exact h0
 |
  succ n ih =>
  intro left h1 h3 h4
  match left,h1,h3,h4 with
  |[],_,_,_=>exact h0
  |
   c::r,h1,h3,h4 =>
   rw[List.length_cons] at h1 h3 h4
   have hr:s.drop (s.length-r.length)=r:=by
    have:s.length-r.length=s.length-(r.length+1)+1:=by omega
    rw[this,<-List.drop_drop,h3];rfl
   rw[jP];split
   .
    exact ih r (by omega) hr (by omega)
   split
   .
    exact h0
   split
   .
    rename_i hp;have he:=n9 h3 hp;exact ih _ (by simp only[List.length_drop];omega) (by rw[List.length_drop];congr 1;omega) (by simp only[List.length_drop];omega)
   exact G9 h3
theorem Aw (s:List UInt8):R9 s (di s).2.2/\((di s).2.1≠0->(di s).1=[]):=by
 unfold di
 split
 .
  exact ⟨⟨by show (0:Int)<=1000;omega,by show (1000:Int)<=_;omega⟩,λ_=>rfl⟩
 split
 .
  exact ⟨⟨Int.le_refl _,by show (0:Int)<=_;omega⟩,λh=>absurd rfl h⟩
 exact ⟨Ng s s.length s (Nat.le_refl _) (by simp) (Nat.le_refl _),λ_=>rfl⟩
end Go.Proofs.YtpaddkkfefgkfaaGreatDoor.lt

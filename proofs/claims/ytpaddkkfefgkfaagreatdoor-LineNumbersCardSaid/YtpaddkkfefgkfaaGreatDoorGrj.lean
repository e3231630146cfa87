/- Tokens, written, joined. What is written is read as it. What is read may be; faults are in the text. -/
import Derived.Test.YtpaddkkfefgkfaaGreatDoorGrb
import Derived.Test.YtpaddkkfefgkfaaGreatDoorLyg
set_option linter.unusedVariables false
set_option linter.unusedSimpArgs false

namespace Go.Proofs.YtpaddkkfefgkfaaGreatDoor.lt
open Go.Tv Go.Ev
set_option maxRecDepth 100000
noncomputable def atK (s:List UInt8) (i:Int) (k:UInt8->Option AV):Option AV:=Option.rec (motive:=λ_=>Option AV) none k (aO s i)
def yg:List UInt8:=[48,49,50,51,52,53,54,55,56,57,97,98,99,100,101,102,103,104,105,106,107,108,109,110,111,112,113,114,115,116,117,118,119,120,121,122]
def rZ:List UInt8:=[48,49,50,51,52,53,54,55,56,57,97,98,99,100,101,102]
noncomputable def yX:Nat->Int->List Int->(List Int->Option AV)->Option AV
 |0,_,_,_=>none
 |f+1,u,acc,k=>pick2 (!ltI u 16) (atK yg (IntKind.wrap .u64 ↑(BitVec.toNat (BitVec.ofInt 64 u &&& BitVec.ofInt 64 15))) λc=>yX f (Int.fdiv u 16) (aD c::acc) k) (atK yg u λc=>k (aD c::acc))
noncomputable def ch (gv:Nat->List AV) (β:Type):bf β:=lY (Xg gv) K0 inl 17 β 20
theorem aic (gv:Nat->List AV) (β:Type):aY (Xg gv) (br (Xg gv) kn) (ch gv β):=eG (by intro id s g h;cases h) (λf h args=>aP h args) 17 20 β
theorem UE (n:Int):ag (Xg gW) (ch gW AV) bW 17 26 [.int .i64 n] aa.empty (λv _=>some v) =
 pick2 (ltI n 0) (yX 17 (IntKind.wrap .u64 (0-IntKind.wrap .u64 n)) [] λl=>some (.str ([45,48,120]++l.map Gs))) (yX 17 (IntKind.wrap .u64 n) [] λl=>some (.str ([48,120]++l.map Gs))):=by kernel_rfl
def r7 (d:Nat):UInt8:=UInt8.ofNat (if d<10 then 48+d else 87+d)
def eY (b:Nat):Nat->Nat->List UInt8->List UInt8
 |0,_,acc=>acc
 |f+1,u,acc=>if u<b then r7 u::acc else eY b f (u/b) (r7 (u%b)::acc)
theorem PW:((List.range 16).all λd=>decide (yg[d]? = some (r7 d))&&decide (rZ[d]? = some (r7 d)))=true:=by decide +kernel
theorem UF {d:Nat} (h:d<16):aO yg (d:Int)=some (r7 d)/\rZ[d]? = some (r7 d):=by
 have:=List.all_eq_true.1 PW d (List.mem_range.2 h)
 simp only[Bool.and_eq_true,decide_eq_true_eq] at this
 exact this
theorem I6:∀(f u:Nat) (acc:List UInt8) (k:List Int->Option AV),u<16 ^ f->u<18446744073709551616->0<f->yX f u (acc.map aD) k=k ((eY 16 f u acc).map aD)
 |0,u,acc,k,_,_,h=>by omega
 |
  f+1,u,acc,k,h,h64,_=>by
  have hand:((BitVec.ofInt 64 (u:Int) &&& BitVec.ofInt 64 15).toNat:Int)=(u:Int)%16:=FH (by omega) (by omega) 4 (by omega)
  show pick2 (!ltI (u:Int) 16) (atK yg (IntKind.wrap .u64 ↑(BitVec.toNat (BitVec.ofInt 64 (u:Int) &&& BitVec.ofInt 64 15))) λc=>yX f (Int.fdiv u 16) (aD c::acc.map aD) k) (atK yg u λc=>k (aD c::acc.map aD))=_
  rw[cO,hand,u64_in (by omega) (by omega),eY]
  unfold atK;by_cases hu:u<16
  .
   rw[if_neg (by omega),if_pos hu,(UF hu).1];rfl
  rw[if_pos (by omega),if_neg hu]
  have e1:((u:Int)%16)=((u%16:Nat):Int):=by omega
  have e2:Int.fdiv (u:Int) 16=((u/16:Nat):Int):=by rw[Int.fdiv_eq_ediv_of_nonneg _ (by omega)];rfl
  have hf:0<f:=by
   cases f with
   |zero=>simp at h;omega
   |succ f=>omega
  rw[e1,(UF (Nat.mod_lt u (by omega))).1,e2]
  have:=I6 f (u/16) (r7 (u%16)::acc) k (by rw[Nat.pow_succ] at h;omega) (by omega) hf
  exact this
def lp (b:Nat) (ah:List UInt8) (n:Int):List UInt8:=(if n<0 then [45] else [])++ah++eY b 64 n.natAbs []
theorem abs_neg {n:Int} (h0 : -9223372036854775808<=n) (h:n<0):IntKind.wrap .u64 (0-IntKind.wrap .u64 n)=((n.natAbs:Nat):Int):=by rw[p5,p5];omega
theorem Ym {n:Int} (h1:n<9223372036854775808) (h:¬n<0):IntKind.wrap .u64 n=((n.natAbs:Nat):Int):=by rw[p5];omega
theorem sR {b:Nat} (hb:2<=b):∀(f g u:Nat) (acc:List UInt8),u<b ^ f->0<f->f<=g->eY b g u acc=eY b f u acc
 |0,_,_,_,_,h,_=>by omega
 |f+1,0,_,_,_,_,h=>by omega
 |
  f+1,g+1,u,acc,h,_,hfg=>by
  rw[eY,eY];by_cases hu:u<b
  .
   rw[if_pos hu,if_pos hu]
  rw[if_neg hu,if_neg hu]
  have hf:0<f:=by
   cases f with
   |zero=>simp at h;omega
   |succ f=>omega
  exact sR hb f g (u/b) _ (by rw[Nat.pow_succ] at h;exact Nat.div_lt_of_lt_mul (by rw[Nat.mul_comm];exact h)) hf (by omega)
theorem NN {u:Nat} (h:u<18446744073709551616) (k:List Int->Option AV):yX 17 u [] k=k ((eY 16 64 u []).map aD):=by
 have hp:u<16 ^ 17:=by omega
 have:=I6 17 u [] k hp h (by omega)
 rw[sR (by omega) 17 64 u [] hp (by omega) (by omega)]
 exact this
theorem Yn {n:Int} (h0 : -9223372036854775808<=n) (h1:n<9223372036854775808) :
 pick2 (ltI n 0) (yX 17 (IntKind.wrap .u64 (0-IntKind.wrap .u64 n)) [] λl=>some (.str ([45,48,120]++l.map Gs))) (yX 17 (IntKind.wrap .u64 n) [] λl=>some (.str ([48,120]++l.map Gs)))=some (.str (lp 16 [48,120] n)):=by
 rw[aI]
 unfold lp
 split
 .
  rename_i h;rw[abs_neg h0 h,NN (by omega),FG];rfl
 rename_i h;rw[Ym h1 h,NN (by omega),FG];rfl
noncomputable def UG (args:List AV):Option (Bool×List bC) :=
 match args with
 |[.int .i64 n]=>some (!ltI n (-9223372036854775808)&&ltI n 9223372036854775808,[.val (.str (lp 16 [48,120] n))])
 |_=>none
theorem LM:aK (Xg gW) (br (Xg gW) kn) 26 UG :=
 aH (λargs=>aP rfl args) (aic gW) λargs rs hg=>by
  unfold UG at hg;split at hg
  .
   rename_i n;simp only[Option.some.injEq,Prod.mk.injEq,Bool.and_eq_true,ltI_spec,Bool.not_eq_true',decide_eq_false_iff_not,decide_eq_true_eq] at hg;obtain ⟨h1,rfl⟩:=hg;exact ⟨[.str (lp 16 [48,120] n)],bW,17,(UE n).trans (Yn (by omega) (by omega)),rfl,rfl⟩
  cases hg
def Cf:List (List UInt8):=[[36,36],[60,60],[62,62],[43],[45],[42],[47],[37],[38],[124],[94],[126],[40],[41],[91],[93],[44],[58],[36]]
noncomputable def Mk {α:Type} (L:List α) (i:Int) (k:α->Option AV):Option AV:=Option.rec (motive:=λ_=>Option AV) none k (aO L i)
noncomputable def M6':List mQ:=(15,[none],gNm)::M3
theorem M6'_ok (gv:Nat->List AV):bS (Xg gv) (br (Xg gv) kn) M6':=.cons (ZQ gv) (Io gv)
noncomputable def d6' (gv:Nat->List AV) (β:Type):bf β:=lY (Xg gv) (O5 M6') inl 200 β 20
theorem d6'_ok (gv:Nat->List AV) (β:Type):aY (Xg gv) (br (Xg gv) kn) (d6' gv β):=eG (M6'_ok gv) (λf h args=>aP h args) 200 20 β
def pV1:List Bool:=[true,false,true,false,true,true,true,true,true,false,false,true,false]
noncomputable def adF:bI:=⟨dP [1,27,28] pV1,.none,[]⟩
noncomputable def Te (y:Piece):AV:=.agg [.int .i64 y.1,.int .i64 y.2.1,.str y.2.2.1,.int .i64 y.2.2.2]
noncomputable def al5 (y:Piece):aa:=jF [.cells 106 [.int .i64 y.1,.int .i64 y.2.1,.str y.2.2.1,.int .i64 y.2.2.2]]
noncomputable def jV1 (gv:Nat->List AV) (y:Piece) (r m:Nat) (i:Int):Option AV:=dQ (Xg gv) (d6' gv AV) adF r 59 pV1 (λv _=>some v) m (iB 62 [(1,.ptr 0 0),(27,.int .i64 y.2.2.1.length),(28,.int .i64 i)]) (al5 y)
def lq (c:UInt8):Bool:=iN (aD c) && !eqI (aD c) 34
noncomputable def fV:Option AV:=some (.bool false)
theorem adG (gv:Nat->List AV) (y:Piece) (r m:Nat) (i:Int):jV1 gv y r (m+1) i =
 pick2 (ltI i ↑y.2.2.1.length) (Option.rec (motive:=λ_=>Option AV) none (λc=>pick2 (eqI (aD c) 34) fV (Option.rec (motive:=λ_=>Option AV) none (λc=>pick2 (!iN (aD c)) fV (jV1 gv y r m (IntKind.wrap .i64 (i+1)))) (aO y.2.2.1 i))) (aO y.2.2.1 i))
  (some (.bool (eqI y.2.1 0))):=by kernel_rfl
theorem aid (n:Int):iN n=(!ltI n 32 && !ltI 126 n):=by
 unfold iN
 rw[ltI_spec,ltI_spec,Bool.eq_iff_iff]
 simp
theorem stepV1' (gv:Nat->List AV) (y:Piece) (r m:Nat) (i:Int):jV1 gv y r (m+1) i =
 pick2 (ltI i ↑y.2.2.1.length) (Option.rec (motive:=λ_=>Option AV) none (λc=>pick2 (!lq c) fV (jV1 gv y r m (IntKind.wrap .i64 (i+1)))) (aO y.2.2.1 i)) (some (.bool (eqI y.2.1 0))):=by
 rw[adG]
 cases aO y.2.2.1 i with
 |none=>rfl
 |
  some c =>
  show pick2 _ (pick2 (eqI (aD c) 34) fV (pick2 (!iN (aD c)) fV _)) _=pick2 _ (pick2 (!lq c) fV _) _;unfold lq;cases eqI (aD c) 34<;>cases iN (aD c)<;>rfl
noncomputable def aW (y:Piece):Bool:=pick2 (eqI y.1 1) (eqI y.2.1 0&&ax y.2.2.1) (pick2 (eqI y.1 2) (decide (y.2.2.1=[])) (pick2 (eqI y.1 3) (y.2.2.1.all lq&&eqI y.2.1 0) (pick2 (eqI y.1 4) (Cf.any (λp=>decide (y.2.2.1=p))&&eqI y.2.1 0) false)))
noncomputable def sgV (s:List UInt8) (n:Int) (l:List (List UInt8)):Option AV:=List.rec (motive:=λ_=>Option AV) fV (λp _ r=>pick2 (decide (s=p)) (some (.bool (eqI n 0))) r) l
theorem UH (s:List UInt8) (n:Int):∀l,sgV s n l=some (.bool (l.any (λp=>decide (s=p))&&eqI n 0))
 |[]=>rfl
 |
  p::l=>by
  show pick2 (decide (s=p)) (some (AV.bool (eqI n 0))) (sgV s n l)=_;rw[UH s n l,List.any_cons];cases decide (s=p)<;>rfl
noncomputable def aag (y:Piece) (a b:Option AV):Option AV :=
 pick2 (eqI y.1 1) (pick2 (eqI y.2.1 0) (some (.bool (ax y.2.2.1))) fV) (pick2 (eqI y.1 2) (some (.bool (decide (y.2.2.1=[])))) (pick2 (eqI y.1 3) a (pick2 (eqI y.1 4) b fV)))
theorem Yo (y:Piece) (k:Nat):ag (Xg gW) (d6' gW AV) adF (k+21) 59 [Te y] aa.empty (λv _=>some v)=aag y (jV1 gW y (k+21) (k+21) 0) (sgV y.2.2.1 y.2.1 Cf):=by kernel_rfl
theorem aie (y:Piece) (k:Nat) (hs:y.2.2.1.length<=k) (hk:k<=100000):ag (Xg gW) (d6' gW AV) adF (k+21) 59 [Te y] aa.empty (λv _=>some v)=some (.bool (aW y)):=by
 have hl:=Iu (s:=y.2.2.1) (by omega) (stepV1' gW y (k+21)) y.2.2.1 [] (k+21) rfl (by omega)
 have hl:jV1 gW y (k+21) (k+21) 0=_:=hl
 rw[Yo,hl,UH]
 unfold aag aW fV
 cases eqI y.1 1<;>cases eqI y.1 2<;>cases eqI y.1 3<;>cases eqI y.1 4<;>cases eqI y.2.1 0<;>cases y.2.2.1.all lq<;>rfl
noncomputable def Yp (args:List AV):Option (Bool×List bC) :=
 match args with
 |[.agg [.int .i64 k,.int .i64 n,.str s,.int .i64 a]]=>some (Nat.ble s.length 1100,[.val (.bool (aW (k,n,s,a)))])
 |_=>none
theorem Yq {gv:Nat->List AV} {an:bI} {f:FuncId} (hk:inl f=true) (h:∀(y:Piece) (k:Nat),y.2.2.1.length<=k->k<=100000->ag (Xg gv) (d6' gv AV) an (k+21) f [Te y] aa.empty (λv _=>some v)=some (.bool (aW y))):aK (Xg gv) (br (Xg gv) kn) f Yp :=
 aH (λargs=>aP hk args) (d6'_ok gv) λargs rs hg=>by
  unfold Yp at hg;split at hg
  .
   rename_i k n s a;simp only[Option.some.injEq,Prod.mk.injEq,Nat.ble_eq] at hg;obtain ⟨h1,rfl⟩:=hg;exact ⟨[.bool (aW (k,n,s,a))],an,1100+21,h (k,n,s,a) 1100 h1 (by omega),rfl,rfl⟩
  cases hg
theorem aif:aK (Xg gW) (br (Xg gW) kn) 59 Yp:=Yq rfl aie
noncomputable def UI (a:Int):Int:=((BitVec.ofInt 64 a &&& BitVec.ofInt 64 15).toNat:Int)
theorem UJ (a:Int):UI a=a%16:=by
 unfold UI
 have e:BitVec.ofInt 64 a=BitVec.ofInt 64 (a%18446744073709551616):=by
  apply BitVec.eq_of_toNat_eq;simp only[BitVec.toNat_ofInt]
  congr 1
  omega
 rw[e]
 have:=FH (a:=a%18446744073709551616) (by omega) (by omega) 4 (by omega)
 have h2:((2 ^ 4-1:Nat):Int)=15:=rfl
 rw[h2] at this
 rw[this]
 show a%18446744073709551616%16=a%16
 omega
def zW (d:Int):UInt8:=rZ.getD d.toNat 0
theorem Yr {d:Int} (h0:0<=d) (h1:d<16):aO rZ d=some (zW d):=by
 obtain ⟨k,rfl⟩:∃k:Nat,d=k:=⟨d.toNat,by omega⟩
 rw[j3]
 unfold zW
 have:k<rZ.length:=by show k<16;omega
 rw[Int.toNat_natCast,List.getElem?_eq_getElem this,List.getD_eq_getElem?_getD,List.getElem?_eq_getElem this];rfl
theorem al7 {d:Int} (h0:0<=d) (h1:d<16):aR rZ d (d+1)=[zW d]:=by
 obtain ⟨k,rfl⟩:∃k:Nat,d=k:=⟨d.toNat,by omega⟩
 unfold aR zW
 have:k<rZ.length:=by show k<16;omega
 have e:((k:Int)+1).toNat-(k:Int).toNat=1:=by omega
 rw[e,Int.toNat_natCast,List.drop_eq_getElem_cons this,List.getD_eq_getElem?_getD,List.getElem?_eq_getElem this];rfl
noncomputable def I7:Nat->Int->List Int->Nat->Option AV
 |0,_,L,_=>some (.str (L.map Gs))
 |f+1,u,L,i=>Option.rec (motive:=λ_=>Option AV) none (λc=>I7 f (Int.fdiv u 16) (L.set i (aD c)) (i-1)) (aO rZ (IntKind.wrap .u64 (UI u)))
theorem KF (u:Int):ag (Xg gW) (c0 gW AV) bW 20 102 [.int .u64 u] aa.empty (λv _=>some v)=I7 16 u [48,120,48,48,48,48,48,48,48,48,48,48,48,48,48,48,48,48] 17:=by kernel_rfl
def LN:Nat->Int->List Int->Nat->List Int
 |0,_,L,_=>L
 |f+1,u,L,i=>LN f (u/16) (L.set i (aD (zW (u%16)))) (i-1)
theorem I8:∀(f:Nat) (u:Int) (L:List Int) (i:Nat),0<=u->I7 f u L i=some (.str ((LN f u L i).map Gs))
 |0,_,_,_,_=>rfl
 |
  f+1,u,L,i,h=>by
  rw[I7,UJ,u64_in (by omega) (by omega),Yr (by omega) (by omega)]
  show I7 f (Int.fdiv u 16) (L.set i (aD (zW (u%16)))) (i-1)=_;have e:Int.fdiv u 16=u/16:=Int.fdiv_eq_ediv_of_nonneg _ (by omega)
  rw[e,I8 f (u/16) _ _ (by omega),LN]
def C6 (u:Int):List UInt8:=(LN 16 u [48,120,48,48,48,48,48,48,48,48,48,48,48,48,48,48,48,48] 17).map Gs
noncomputable def adH (args:List AV):Option (Bool×List bC) :=
 match args with
 |[.int .u64 u]=>some (!ltI u 0,[.val (.str (C6 u))])
 |_=>none
theorem aih:aK (Xg gW) (br (Xg gW) kn) 102 adH :=
 aH (λargs=>aP rfl args) (tK gW) λargs rs hg=>by
  unfold adH at hg;split at hg
  .
   rename_i u;simp only[Option.some.injEq,Prod.mk.injEq,ltI_spec,Bool.not_eq_true',decide_eq_false_iff_not] at hg;obtain ⟨h1,rfl⟩:=hg;exact ⟨[.str (C6 u)],bW,20,(KF u).trans (I8 16 u _ _ (by omega)),rfl,rfl⟩
  cases hg
noncomputable def M7':List mQ:=(26,[none],UG)::(59,[none],Yp)::(102,[none],adH)::M6'
theorem M7'_ok:bS (Xg gW) (br (Xg gW) kn) M7':=.cons LM (.cons aif (.cons aih (M6'_ok gW)))
noncomputable def d7' (β:Type):bf β:=lY (Xg gW) (O5 M7') inl 200 β 20
theorem d7'_ok (β:Type):aY (Xg gW) (br (Xg gW) kn) (d7' β):=eG M7'_ok (λf h args=>aP h args) 200 20 β
def aA (y:Piece):List UInt8:=if y.1=2 then (if y.2.1<0 then C6 (IntKind.wrap .u64 y.2.1) else lp 16 [48,120] y.2.1) else if y.1=3 then [34]++y.2.2.1++[34] else y.2.2.1
noncomputable def UK (y:Piece):Option AV :=
 pick2 (eqI y.1 2) (pick2 (ltI y.2.1 0) (pick2 (!ltI (IntKind.wrap .u64 y.2.1) 0) (some (.str (C6 (IntKind.wrap .u64 y.2.1)))) none) (pick2 (!ltI y.2.1 (-9223372036854775808)&&ltI y.2.1 9223372036854775808) (some (.str (lp 16 [48,120] y.2.1))) none))
  (pick2 (eqI y.1 3) (pick2 (Nat.ble (1+y.2.2.1.length) 9223372036854775807) (pick2 (Nat.ble (([34]++y.2.2.1).length+1) 9223372036854775807) (some (.str ([34]++y.2.2.1++[34]))) none) none) (some (.str y.2.2.1)))
theorem adI (y:Piece):ag (Xg gW) (d7' AV) bW 20 62 [Te y] aa.empty (λv _=>some v)=UK y:=by kernel_rfl
theorem LO (n:Int):0<=IntKind.wrap .u64 n:=by rw[p5];omega
theorem UL (y:Piece) (h0 : -9223372036854775808<=y.2.1) (h1:y.2.1<9223372036854775808) (hs:y.2.2.1.length<=1100):UK y=some (.str (aA y)):=by
 unfold UK aA
 rw[av,aI,cn (LO _),cn h0,jo h1,av,cj (by omega),cj (by simp;omega)]
 split
 .
  split<;>rfl
 split<;>rfl
noncomputable def gWr (args:List AV):Option (Bool×List bC) :=
 match args with
 |[.agg [.int .i64 k,.int .i64 n,.str s,.int .i64 a]]=>some (!ltI n (-9223372036854775808)&&ltI n 9223372036854775808&&Nat.ble s.length 1100,[.val (.str (aA (k,n,s,a)))])
 |_=>none
theorem aii:aK (Xg gW) (br (Xg gW) kn) 62 gWr :=
 aH (λargs=>aP rfl args) d7'_ok λargs rs hg=>by
  unfold gWr at hg;split at hg
  .
   rename_i k n s a;simp only[Option.some.injEq,Prod.mk.injEq,Bool.and_eq_true,ltI_spec,Bool.not_eq_true',decide_eq_false_iff_not,decide_eq_true_eq,Nat.ble_eq] at hg;obtain ⟨⟨⟨h1,h2⟩,h3⟩,rfl⟩:=hg;exact ⟨[.str (aA (k,n,s,a))],bW,20,(adI (k,n,s,a)).trans (UL (k,n,s,a) (by show -9223372036854775808<=n;omega) h2 h3),rfl,rfl⟩
  cases hg
def adJ (n:Int):List UInt8:=if n<0 then C6 (IntKind.wrap .u64 n) else lp 16 [48,120] n
noncomputable def M8':List mQ:=(62,[none],gWr)::M7'
theorem M8'_ok:bS (Xg gW) (br (Xg gW) kn) M8':=.cons aii M7'_ok
noncomputable def d8' (β:Type):bf β:=lY (Xg gW) (O5 M8') inl 200 β 20
theorem d8'_ok (β:Type):aY (Xg gW) (br (Xg gW) kn) (d8' β):=eG M8'_ok (λf h args=>aP h args) 200 20 β
def pJ1:List Bool:=[true,false,true,false]
def pJr:List Bool:=[true,true]
def pJ2:List Bool:=[true,true,true,false,true,false]
noncomputable def anJ:bI:=⟨p6 (dP [0,9,10,11] pJ1) (p6 (dP [0] pJr) (dP [6,19,20,21] pJ2)),.none,[]⟩
noncomputable def jJ1 (l:List Piece) (r m:Nat) (i:Int):Option AV:=dQ (Xg gW) (d8' AV) anJ r 28 pJ1 (λv _=>some v) m (iB 36 [(0,.bF aQ l),(9,.bF aQ l),(10,.int .i64 l.length),(11,.int .i64 i)]) aa.empty
noncomputable def UM (l:List Piece) (r:Nat):Option AV:=codeFrom (Xg gW) (d8' AV) anJ r 28 pJr (λv _=>some v) (iB 36 [(0,.bF aQ l)]) aa.empty
noncomputable def jJ2 (l:List Piece) (r m:Nat) (i:Int) (H:aa):Option AV:=dQ (Xg gW) (d8' AV) anJ r 28 pJ2 (λv _=>some v) m (iB 36 [(6,.ptr 0 0),(19,.bF aQ l),(20,.int .i64 l.length),(21,.int .i64 i)]) H
noncomputable def mJ0:aa:=jF [.cells 115 [.jL,.bE]]
noncomputable def mJ (L:List Int) (n:Nat):aa:=jF [.cells 115 [.ptr 0 0,.own 1 n],.list 5 (.int .u8) L 0 false false]
noncomputable def PY (e:Int):Option AV:=some (.cG [.str [],.int .i64 e])
noncomputable def eC (y:Piece):Bool := !ltI y.2.1 (-9223372036854775808)&&ltI y.2.1 9223372036854775808&&Nat.ble y.2.2.1.length 1100
def wI (y:Piece):List Int:=(aA y).map aD
theorem UN (l:List Piece) (r m:Nat) (i:Int):jJ1 l r (m+1) i=pick2 (ltI i ↑l.length) (Mk l i λy=>pick2 (Nat.ble y.2.2.1.length 1100) (pick2 (!aW y) (PY 2) (jJ1 l r m (IntKind.wrap .i64 (i+1)))) none) (UM l r):=by kernel_rfl
theorem adK (l:List Piece) (r:Nat):ag (Xg gW) (d8' AV) anJ r 28 [.bF aQ l] aa.empty (λv _=>some v)=jJ1 l r r 0:=by kernel_rfl
theorem UO (l:List Piece) (r:Nat):UM l r=jJ2 l r r 0 mJ0:=by kernel_rfl
theorem adL (l:List Piece) (r m:Nat):jJ2 l r (m+1) 0 mJ0=pick2 (ltI 0 ↑l.length) (Mk l 0 λy=>pick2 (eC y) (pick2 (Nat.ble (0+(wI y).length) 1000000) (pick2 (ltI 1000 ↑(0+(wI y).length)) (PY 3) (jJ2 l r m 1 (mJ (wI y) (0+(wI y).length)))) none) none) (some (.cG [.str [],.int .i64 0])):=by kernel_rfl
noncomputable def wrJ (l:List Piece) (r m:Nat) (i:Int) (y:Piece) (L:List Int):Option AV :=
 pick2 (eC y) (pick2 (Nat.ble (L.length+(wI y).length) 1000000) (pick2 (ltI 1000 ↑(L.length+(wI y).length)) (PY 3) (jJ2 l r m (IntKind.wrap .i64 (i+1)) (mJ (L++wI y) (L.length+(wI y).length)))) none) none
noncomputable def ail (L:List Int) (n:Nat):Option AV:=pick2 (Nat.ble 1 n) (pick2 (Nat.ble 1 L.length&&Nat.ble L.length 1000000&&eqI ↑n ↑L.length&&L.all Hu) (some (.cG [.str (L.map Gs),.int .i64 0])) none) none
theorem UQ (l:List Piece) (r m:Nat) (i:Int) (L:List Int) (n:Nat):jJ2 l r (m+1) i (mJ L n) =
 pick2 (ltI i ↑l.length) (Mk l i λy=>pick2 (ltI 0 i) (pick2 (Nat.ble (L.length+1) 1000000) (wrJ l r m i y (L++[32])) none) (wrJ l r m i y L)) (ail L n):=by kernel_rfl
def jI:List Piece->List UInt8->List UInt8×Int
 |[],b=>(b,0)
 |y::l,b=>if 1000<(b++[32]++aA y).length then ([],3) else jI l (b++[32]++aA y)
noncomputable def eD (l:List Piece):List UInt8×Int:=if l.all aW=true then (match l with | []=>([],0)|y::l=>if 1000<(aA y).length then ([],3) else jI l (aA y)) else ([],2)
noncomputable def Ys (r:List UInt8×Int):Option AV:=some (.cG [.str r.1,.int .i64 r.2])
theorem I9:∀b:List UInt8,(b.map aD).all Hu=true
 |[]=>rfl
 |
  c::b=>by
  rw[List.map_cons,List.all_cons,I9 b,Bool.and_true];show Nat.ble c.toNat 255=true;have:=c.toNat_lt;exact cj (by omega)
theorem yh {b:Nat}:∀(f u:Nat) (acc:List UInt8),(eY b f u acc).length<=f+acc.length
 |0,_,acc=>by simp[eY]
 |
  f+1,u,acc=>by
  rw[eY];split
  .
   simp;omega
  have:=yh (b:=b) f (u/b) (r7 (u%b)::acc);simp at this;omega
theorem wD:∀(f:Nat) (u:Int) (L:List Int) (i:Nat),(LN f u L i).length=L.length
 |0,_,_,_=>rfl
 |f+1,u,L,i=>by rw[LN,wD];simp
theorem Ja {y:Piece} (h:y.2.2.1.length<=1100):(aA y).length<=1200:=by
 unfold aA
 split
 .
  split
  .
   unfold C6;rw[List.length_map,wD];simp
  unfold lp;have:=yh (b:=16) 64 y.2.1.natAbs [];simp only[List.length_append,List.length_nil] at this ⊢;split<;>simp<;>omega
 split
 .
  simp;omega
 omega
theorem PZ {y:Piece} (h:aW y=true):1<=(aA y).length:=by
 unfold aA
 by_cases h2:y.1=2
 .
  rw[if_pos h2];split
  .
   unfold C6;rw[List.length_map,wD];simp
  unfold lp;simp;omega
 rw[if_neg h2]
 by_cases h3:y.1=3
 .
  rw[if_pos h3];simp
 rw[if_neg h3]
 cases hs:y.2.2.1 with
 |cons c r=>simp
 |
  nil =>
  exfalso;unfold aW at h;rw[hs,av,av,av,av,if_neg h2,if_neg h3] at h;split at h
  .
   simp[ax] at h
  split at h
  .
   simp[Cf] at h
  cases h
theorem adM (l:List Piece) (hl:l.length<=1000) (r:Nat):∀(rest pre:List Piece) (m:Nat) (b:List UInt8) (n:Nat),l=pre++rest->rest.length<m->1<=pre.length->1<=b.length->b.length<=1000->n=b.length->(∀y∈rest,eC y=true) ->
 jJ2 l r m pre.length (mJ (b.map aD) n)=Ys (jI rest b):=by
 intro rest
 induction rest with
 |
  nil =>
  intro pre m b n he hm hp CK Ar hn _;obtain ⟨m,rfl⟩:∃m',m=m'+1:=⟨m-1,by simp at hm;omega⟩
  have e1:l.length=pre.length:=by rw[he];simp
  rw[UQ,cn (by omega)]
  unfold ail;rw[cj (show 1<=n by omega),I9,cj (show 1<=(b.map aD).length by simp;omega),cj (show (b.map aD).length<=1000000 by simp;omega),Bm (by simp;omega),FG]
  rfl
 |
  cons y rest ih =>
  intro pre m b n he hm hp CK Ar hn hc;obtain ⟨m,rfl⟩:∃m',m=m'+1:=⟨m-1,by simp at hm;omega⟩
  have e1:l.length=pre.length+(rest.length+1):=by rw[he];simp
  have hg:aO l (pre.length:Int)=some y:=by rw[he];exact dR pre rest y
  have P0:=hc y (by simp)
  have hw:(aA y).length<=1200:=by
   refine Ja ?_;unfold eC at P0;simp only[Bool.and_eq_true,Nat.ble_eq] at P0;exact P0.2
  have e2:b.map aD++[32]++wI y=(b++[32]++aA y).map aD:=by unfold wI;simp;rfl
  have e3:(b.map aD++[32]).length+(wI y).length=(b++[32]++aA y).length:=by unfold wI;simp only[List.length_append,List.length_map,List.length_cons,List.length_nil]
  rw[UQ,jI];unfold Mk;rw[jo (a:=(pre.length:Int)) (by omega),hg]
  show pick2 (ltI 0 ↑pre.length) (pick2 (Nat.ble ((b.map aD).length+1) 1000000) (wrJ l r m ↑pre.length y (b.map aD++[32])) none) (wrJ l r m ↑pre.length y (b.map aD))=_;rw[jo (by omega),cj (by simp;omega)]
  show wrJ l r m ↑pre.length y (b.map aD++[32])=_;unfold wrJ;rw[P0,e2,e3,cj (by simp;omega),i64_in (n:=(pre.length:Int)+1) (by omega) (by omega)]
  show pick2 (ltI 1000 ↑((b++[32]++aA y).length)) (PY 3) (jJ2 l r m (↑pre.length+1) (mJ ((b++[32]++aA y).map aD) (b++[32]++aA y).length))=_;rw[aI];by_cases hlt:1000<(b++[32]++aA y).length
  .
   rw[if_pos (by omega),if_pos hlt];rfl
  rw[if_neg (by omega),if_neg hlt]
  have hin:=ih (pre++[y]) m (b++[32]++aA y) _ (by rw[he];simp) (by simp at hm;omega) (by simp) (by simp;omega) (by omega) rfl (λx hx=>hc x (by simp[hx]))
  rw[List.length_append] at hin;exact hin
theorem P4 (l:List Piece) (hl:l.length<=1000) (r:Nat) (hr:l.length<r) (hc:∀y∈l,eC y=true) (hv:l.all aW=true):UM l r=Ys (eD l):=by
 rw[UO]
 unfold eD
 rw[if_pos hv]
 obtain ⟨m,rfl⟩:∃m,r=m+1:=⟨r-1,by omega⟩
 rw[adL]
 cases l with
 |nil=>rfl
 |
  cons y l =>
  have P0:=hc y (by simp)
  have hw:(aA y).length<=1200:=by
   refine Ja ?_;unfold eC at P0;simp only[Bool.and_eq_true,Nat.ble_eq] at P0;exact P0.2
  have h1:=PZ (y:=y) (by rw[List.all_cons,Bool.and_eq_true] at hv;exact hv.1)
  have e0:0+(wI y).length=(aA y).length:=by unfold wI;simp
  unfold Mk;rw[jo (a:=(0:Int)) (b:=((y::l).length:Int)) (by simp only[List.length_cons];omega)]
  show pick2 (eC y) (pick2 (Nat.ble (0+(wI y).length) 1000000) (pick2 (ltI 1000 ↑(0+(wI y).length)) (PY 3) (jJ2 (y::l) (m+1) m 1 (mJ (wI y) (0+(wI y).length)))) none) none=Ys (if 1000<(aA y).length then ([],3) else jI l (aA y));rw[e0,P0,cj (by omega),aI]
  by_cases hlt:1000<(aA y).length
  .
   rw[if_pos (by omega),if_pos hlt];rfl
  rw[if_neg (by omega),if_neg hlt]
  exact adM (y::l) hl (m+1) l [y] m (aA y) _ rfl (by simp at hr;omega) (by simp) h1 (by omega) rfl (λx hx=>hc x (by simp[hx]))
theorem adN (l:List Piece) (hl:l.length<=1000) (r:Nat) (hr:l.length<r) (hc:∀y∈l,eC y=true):∀(rest pre:List Piece) (m:Nat),l=pre++rest->rest.length<m->pre.all aW=true->jJ1 l r m pre.length=Ys (eD l):=by
 intro rest
 induction rest with
 |
  nil =>
  intro pre m he hm hp;obtain ⟨m,rfl⟩:∃m',m=m'+1:=⟨m-1,by simp at hm;omega⟩
  have e0:l=pre:=by rw[he];simp
  rw[UN,cn (by rw[e0];omega)]
  exact P4 l hl r hr hc (by rw[e0];exact hp)
 |
  cons y rest ih =>
  intro pre m he hm hp;obtain ⟨m,rfl⟩:∃m',m=m'+1:=⟨m-1,by simp at hm;omega⟩
  have e1:l.length=pre.length+(rest.length+1):=by rw[he];simp
  have hg:aO l (pre.length:Int)=some y:=by rw[he];exact dR pre rest y
  have P0:=hc y (by rw[he];simp)
  have hs:y.2.2.1.length<=1100:=by
   unfold eC at P0;simp only[Bool.and_eq_true,Nat.ble_eq] at P0;exact P0.2
  rw[UN];unfold Mk;rw[jo (by omega),hg,i64_in (n:=(pre.length:Int)+1) (by omega) (by omega)]
  show pick2 (Nat.ble y.2.2.1.length 1100) (pick2 (!aW y) (PY 2) (jJ1 l r m (↑pre.length+1))) none=_;rw[cj hs];cases hv:aW y with
  |
   true =>
   have hin:=ih (pre++[y]) m (by rw[he];simp) (by simp at hm;omega) (by rw[List.all_append,hp];simp[hv])
   rw[List.length_append] at hin;exact hin
  |
   false =>
   have:l.all aW=false:=by rw[he,List.all_append,List.all_cons,hv];simp
   unfold eD;rw[this];rfl
theorem al9 (l:List Piece) (hl:l.length<=1000) (hc:∀y∈l,eC y=true):ag (Xg gW) (d8' AV) anJ (l.length+1) 28 [.bF aQ l] aa.empty (λv _=>some v)=some (.cG [.str (eD l).1,.int .i64 (eD l).2]):=by
 rw[adK]
 exact adN l hl (l.length+1) (by omega) hc l [] (l.length+1) rfl (by omega) rfl
noncomputable def Jb (args:List AV):Option (Bool×List bC) :=
 match args with
 |
  [a]=>match zF aQ a with
  |some l=>some (Nat.ble l.length 1000&&l.all eC,[.val (.str (eD l).1),.val (.int .i64 (eD l).2)])
  |none=>none
 |_=>none
theorem LP {f:FuncId} (hk:inl f=true) {call:∀ β,bf β} (hcall:∀ β,aY (Xg gW) (br (Xg gW) kn) (call β)) {an:bI} (h:∀l:List Piece,l.length<=1000->(∀y∈l,eC y=true)->∃r,ag (Xg gW) (call AV) an r f [.bF aQ l] aa.empty (λv _=>some v)=some (.cG [.str (eD l).1,.int .i64 (eD l).2])):aK (Xg gW) (br (Xg gW) kn) f Jb :=
 aH (λargs=>aP hk args) hcall λargs rs hg=>by
  unfold Jb at hg;split at hg
  .
   rename_i a;split at hg
   .
    rename_i l hl;obtain rfl:=bZ hl;simp only[Option.some.injEq,Prod.mk.injEq,Bool.and_eq_true,Nat.ble_eq,List.all_eq_true] at hg;obtain ⟨⟨h1,h2⟩,rfl⟩:=hg;obtain ⟨r,hr⟩:=h l h1 h2;exact ⟨[.str (eD l).1,.int .i64 (eD l).2],an,r,hr,rfl,rfl⟩
   cases hg
  cases hg
theorem aai:aK (Xg gW) (br (Xg gW) kn) 28 Jb:=LP rfl d8'_ok λl h1 h2=>⟨_,al9 l h1 h2⟩
end Go.Proofs.YtpaddkkfefgkfaaGreatDoor.lt

namespace Go.Proofs.YtpaddkkfefgkfaaGreatDoor.lt
open Go.Tv Go.Ev
set_option maxRecDepth 100000
theorem Cg (b:Int):∀(l:List UInt8) (f p:Bool) (i:Nat),(f=true->l≠[])->(∀c∈l,aD c≠95/\0<=fH (aD c)/\fH (aD c)<b)->dm b f p l i=none
 |
  [],f,p,i,h,_=>by
  rw[dm,if_neg (λhf=>h hf rfl)]
 |
  c::r,f,p,i,h,hg=>by
  obtain ⟨h1,h2,h3⟩:=hg c (by simp)
  rw[dm,if_neg h1,if_neg (by omega)]
  exact Cg b r false false (i+1) (λh=>by cases h) (λx hx=>hg x (by simp[hx]))
theorem UR (w:List UInt8) (s2:Int) (h:(if 2<w.length/\w.head? = some 48 then vV (w.getD 1 0) else 0)=s2):aJ w=if s2=120 then (2,0,16) else if vV (w.getD (w.length-1) 0)=104 then (0,1,16) else if s2=98 then (2,0,2) else if s2=111 then (2,0,8) else (0,0,10):=by
 unfold aJ
 simp only[h]
theorem Jc:((List.range 16).all λd=>decide (fH (aD (r7 d))=d)&&cY (aD (r7 d))&&decide (aD (r7 d)≠95)&&(decide (10<=d)||decide (aD (r7 d)=48+d)))=true:=by decide +kernel
theorem zX {d:Nat} (h:d<16):fH (aD (r7 d))=d/\cY (aD (r7 d))=true/\aD (r7 d)≠95/\(d<10->aD (r7 d)=48+d):=by
 have:=List.all_eq_true.1 Jc d (List.mem_range.2 h)
 simp only[Bool.and_eq_true,Bool.or_eq_true,decide_eq_true_eq] at this
 exact ⟨this.1.1.1,this.1.1.2,this.1.2,λh=>by rcases this.2 with h2|h2;omega;exact h2⟩
def adO (b:Nat) (l:List UInt8):Prop:=∀c∈l,∃d,d<b/\c=r7 d
theorem Ch {b:Nat} (hb:2<=b):∀(f u:Nat) (acc:List UInt8),u<b ^ f->adO b acc->adO b (eY b f u acc)
 |0,_,_,_,h=>h
 |
  f+1,u,acc,hu,h=>by
  rw[eY];split
  .
   rename_i hlt;intro c hc;rcases List.mem_cons.1 hc with rfl|hc
   .
    exact ⟨u,hlt,rfl⟩
   exact h c hc
  refine Ch hb f (u/b) _ (by rw[Nat.pow_succ] at hu;exact Nat.div_lt_of_lt_mul (by rw[Nat.mul_comm];exact hu)) λc hc=>?_
  rcases List.mem_cons.1 hc with rfl|hc
  .
   exact ⟨u%b,Nat.mod_lt u (by omega),rfl⟩
  exact h c hc
theorem NT {b:Nat} (Ar:2<=b) (hb:b<=16):∀(f u:Nat) (acc:List UInt8),u<b ^ f->0<f->oE b (eY b f u acc) 0=oE b acc u
 |0,_,_,_,h=>by omega
 |
  f+1,u,acc,hu,_=>by
  rw[eY];split
  .
   rename_i hlt;have:=zX (d:=u) (by omega)
   rw[oE,if_neg this.2.2.1,this.1];simp
  rename_i hge
  have hf:0<f:=by
   cases f with
   |zero=>simp at hu;omega
   |succ f=>omega
  have hm:u%b<b:=Nat.mod_lt u (by omega)
  have:=zX (d:=u%b) (by omega)
  rw[NT Ar hb f (u/b) _ (by rw[Nat.pow_succ] at hu;exact Nat.div_lt_of_lt_mul (by rw[Nat.mul_comm];exact hu)) hf,oE,if_neg this.2.2.1,this.1,Int.toNat_natCast]
  congr 1
  rw[Nat.mul_comm];exact Nat.div_add_mod u b
theorem LQ {b:Nat}:∀(f u:Nat) (acc:List UInt8),0<f\/acc≠[]->eY b f u acc≠[]
 |0,_,_,h=>by rcases h with h|h;omega;exact h
 |
  f+1,u,acc,_=>by
  rw[eY];split
  .
   simp
  exact LQ f _ _ (.inr (by simp))
theorem P5 {b:Nat} (hb:b<=16) {d:List UInt8} (hd:adO b d) (hne:d≠[]):dm b true false d 0=none :=
 Cg b d true false 0 (λ_=>hne) λc hc=>by
  obtain ⟨x,hx,rfl⟩:=hd c hc;have:=zX (d:=x) (by omega)
  exact ⟨this.2.2.1,by rw[this.1];omega,by rw[this.1];omega⟩
theorem US {b u:Nat} (Ar:2<=b) (hb:b<=16) (hu:u<18446744073709551616):jq b (eY b 64 u [])=((u:Int),-1,false):=by
 have hp:u<b ^ 64:=Nat.lt_of_lt_of_le (show u<2 ^ 64 from hu) (Nat.pow_le_pow_left Ar 64)
 unfold jq
 rw[P5 hb (Ch Ar 64 u [] hp (λc hc=>by simp at hc)) (LQ 64 u [] (.inl (by omega))),NT Ar hb 64 u [] hp (by omega)]
 show (((u%18446744073709551616:Nat):Int),(-1:Int),decide (18446744073709551616<=u))=_
 rw[Nat.mod_eq_of_lt hu,decide_eq_false (by omega)]
theorem P6 (d:List UInt8) (h:d≠[]):aJ (48::120::d)=(2,0,16):=by
 have hl:2<(48::120::d:List UInt8).length:=by
  have:=List.length_pos_iff.2 h;simp;omega
 rw[UR _ 120 (by rw[if_pos ⟨hl,rfl⟩];show vV 120=120;decide),if_pos rfl]
theorem Jd {u:Nat} (hu:u<18446744073709551616) (a:Nat):iG ([48,120]++eY 16 64 u []) a=(IntKind.wrap .i64 (u:Int),(a:Int)+(([48,120]++eY 16 64 u []:List UInt8).length:Int),0,0):=by
 have hne:=LQ (b:=16) 64 u [] (.inl (by omega))
 have hp:aJ ([48,120]++eY 16 64 u [])=(2,0,16):=P6 _ hne
 have hd:(([48,120]++eY 16 64 u []:List UInt8).take (([48,120]++eY 16 64 u []:List UInt8).length-0)).drop 2=eY 16 64 u []:=by
  rw[Nat.sub_zero,List.take_length];rfl
 unfold iG
 rw[hp]
 simp only[hd]
 rw[US (by omega) (by omega) hu,if_neg (by show ¬(0:Int) <= -1;omega),if_neg (by simp)]
theorem iP {d:Nat} (h:d<16):zW (d:Int)=r7 d:=by
 unfold zW
 rw[Int.toNat_natCast,List.getD_eq_getElem?_getD,(UF h).2];rfl
theorem eH {f u:Nat} {acc:List UInt8} (h:¬u<16):eY 16 (f+1) u acc=eY 16 f (u/16) (r7 (u%16)::acc):=by rw[eY,if_neg h]
theorem Yt {u:Nat} (h:1152921504606846976<=u) (h2:u<18446744073709551616):C6 (u:Int)=[48,120]++eY 16 64 u []:=by
 rw[eH (f:=63) (u:=u) (by omega)]
 rw[eH (f:=62) (u:=u/16) (by omega)]
 rw[eH (f:=61) (u:=u/16/16) (by omega)]
 rw[eH (f:=60) (u:=u/16/16/16) (by omega)]
 rw[eH (f:=59) (u:=u/16/16/16/16) (by omega)]
 rw[eH (f:=58) (u:=u/16/16/16/16/16) (by omega)]
 rw[eH (f:=57) (u:=u/16/16/16/16/16/16) (by omega)]
 rw[eH (f:=56) (u:=u/16/16/16/16/16/16/16) (by omega)]
 rw[eH (f:=55) (u:=u/16/16/16/16/16/16/16/16) (by omega)]
 rw[eH (f:=54) (u:=u/16/16/16/16/16/16/16/16/16) (by omega)]
 rw[eH (f:=53) (u:=u/16/16/16/16/16/16/16/16/16/16) (by omega)]
 rw[eH (f:=52) (u:=u/16/16/16/16/16/16/16/16/16/16/16) (by omega)]
 rw[eH (f:=51) (u:=u/16/16/16/16/16/16/16/16/16/16/16/16) (by omega)]
 rw[eH (f:=50) (u:=u/16/16/16/16/16/16/16/16/16/16/16/16/16) (by omega)]
 rw[eH (f:=49) (u:=u/16/16/16/16/16/16/16/16/16/16/16/16/16/16) (by omega)]
 rw[eY,if_pos (by omega)]
 unfold C6
 simp only[LN,List.set,List.map,zG,Nat.reduceSub,List.cons_append,List.nil_append]
 have k0:zW ((u:Int)%16)=r7 (u%16):=by rw[<-iP (by omega)];congr 1
 have k1:zW ((u:Int)/16%16)=r7 (u/16%16):=by rw[<-iP (by omega)];congr 1
 have k2:zW ((u:Int)/16/16%16)=r7 (u/16/16%16):=by rw[<-iP (by omega)];congr 1
 have k3:zW ((u:Int)/16/16/16%16)=r7 (u/16/16/16%16):=by rw[<-iP (by omega)];congr 1
 have k4:zW ((u:Int)/16/16/16/16%16)=r7 (u/16/16/16/16%16):=by rw[<-iP (by omega)];congr 1
 have k5:zW ((u:Int)/16/16/16/16/16%16)=r7 (u/16/16/16/16/16%16):=by rw[<-iP (by omega)];congr 1
 have k6:zW ((u:Int)/16/16/16/16/16/16%16)=r7 (u/16/16/16/16/16/16%16):=by rw[<-iP (by omega)];congr 1
 have k7:zW ((u:Int)/16/16/16/16/16/16/16%16)=r7 (u/16/16/16/16/16/16/16%16):=by rw[<-iP (by omega)];congr 1
 have k8:zW ((u:Int)/16/16/16/16/16/16/16/16%16)=r7 (u/16/16/16/16/16/16/16/16%16):=by rw[<-iP (by omega)];congr 1
 have k9:zW ((u:Int)/16/16/16/16/16/16/16/16/16%16)=r7 (u/16/16/16/16/16/16/16/16/16%16):=by rw[<-iP (by omega)];congr 1
 have k10:zW ((u:Int)/16/16/16/16/16/16/16/16/16/16%16)=r7 (u/16/16/16/16/16/16/16/16/16/16%16):=by rw[<-iP (by omega)];congr 1
 have k11:zW ((u:Int)/16/16/16/16/16/16/16/16/16/16/16%16)=r7 (u/16/16/16/16/16/16/16/16/16/16/16%16):=by rw[<-iP (by omega)];congr 1
 have k12:zW ((u:Int)/16/16/16/16/16/16/16/16/16/16/16/16%16)=r7 (u/16/16/16/16/16/16/16/16/16/16/16/16%16):=by rw[<-iP (by omega)];congr 1
 have k13:zW ((u:Int)/16/16/16/16/16/16/16/16/16/16/16/16/16%16)=r7 (u/16/16/16/16/16/16/16/16/16/16/16/16/16%16):=by rw[<-iP (by omega)];congr 1
 have k14:zW ((u:Int)/16/16/16/16/16/16/16/16/16/16/16/16/16/16%16)=r7 (u/16/16/16/16/16/16/16/16/16/16/16/16/16/16%16):=by rw[<-iP (by omega)];congr 1
 have k15:zW ((u:Int)/16/16/16/16/16/16/16/16/16/16/16/16/16/16/16%16)=r7 (u/16/16/16/16/16/16/16/16/16/16/16/16/16/16/16%16):=by rw[<-iP (by omega)];congr 1
 have k15':u/16/16/16/16/16/16/16/16/16/16/16/16/16/16/16%16=u/16/16/16/16/16/16/16/16/16/16/16/16/16/16/16:=by omega
 rw[k0,k1,k2,k3,k4,k5,k6,k7,k8,k9,k10,k11,k12,k13,k14,k15,k15']
 rfl
theorem UT {n:Int} (h0 : -9223372036854775808<=n) (h1:n<9223372036854775808):∃u:Nat,u<18446744073709551616/\IntKind.wrap .i64 (u:Int)=n/\adJ n=[48,120]++eY 16 64 u []:=by
 unfold adJ
 by_cases h:n<0
 .
  rw[if_pos h,p5];refine ⟨(n+18446744073709551616).toNat,by omega,?_,?_⟩
  .
   rw[KD];split<;>omega
  have e:n%18446744073709551616=(((n+18446744073709551616).toNat:Nat):Int):=by omega
  rw[e];exact Yt (by omega) (by omega)
 rw[if_neg h]
 refine ⟨n.natAbs,by omega,by rw[i64_in (by omega) (by omega)];omega,?_⟩
 unfold lp
 rw[if_neg h];rfl
theorem Je {y:Piece} (h:aW y=true):(y.1=1/\y.2.1=0/\ax y.2.2.1=true)\/(y.1=2/\y.2.2.1=[])\/(y.1=3/\y.2.2.1.all lq=true/\y.2.1=0)\/(y.1=4/\y.2.2.1∈Cf/\y.2.1=0):=by
 unfold aW at h
 rw[av,av,av,av] at h
 split at h
 .
  rename_i k;rw[Bool.and_eq_true,eqI_spec,beq_iff_eq] at h;exact .inl ⟨k,h.1,h.2⟩
 split at h
 .
  rename_i k;exact .inr (.inl ⟨k,of_decide_eq_true h⟩)
 split at h
 .
  rename_i k;rw[Bool.and_eq_true,eqI_spec,beq_iff_eq] at h;exact .inr (.inr (.inl ⟨k,h.1,h.2⟩))
 split at h
 .
  rename_i k;rw[Bool.and_eq_true,eqI_spec,beq_iff_eq,List.any_eq_true] at h;obtain ⟨⟨p,hp,hpe⟩,hn⟩:=h;have:y.2.2.1=p:=of_decide_eq_true hpe;exact .inr (.inr (.inr ⟨k,by rw[this];exact hp,hn⟩))
 cases h
def Behind (e:List UInt8):Prop:=e=[]\/∃q,e=32::q
theorem Ex (T:List UInt8) (a:Nat) {e:List UInt8} (he:Behind e):∀(S2:List UInt8) (k:Nat),S2.all o5=true->k+S2.length<=60->eB T a (S2++e) (a+k)=(aR T a ((a+(k+S2.length):Nat):Int),((a+(k+S2.length):Nat):Int),0,0)
 |
  [],k,_,_=>by
  rcases he with rfl|⟨q,rfl⟩
  .
   rfl
  show eB T a (32::q) (a+k)=_;rw[eB,if_neg (by decide)];rfl
 |
  c::S2,k,h,hl=>by
  simp only[List.all_cons,Bool.and_eq_true,List.length_cons] at h hl;have hm:fJ (aD c)=true:=h.1;rw[List.cons_append,eB,if_pos hm,if_neg (by omega)]
  have:=Ex T a he S2 (k+1) h.2 (by omega)
  rw[show k+1+S2.length=k+(c::S2).length by simp;omega] at this
  exact this
theorem Ci (T:List UInt8) (a:Nat) (e:List UInt8):∀(S2:List UInt8) (k:Nat),S2.all lq=true->cy T a (S2++34::e) (a+1+k)=(aR T (a+1) ((a+1+(k+S2.length):Nat):Int),((a+1+(k+S2.length):Nat):Int)+1,0,0)
 |
  [],k,_=>by
  show cy T a (34::e) (a+1+k)=_;rw[cy,if_pos (by decide)];rfl
 |
  c::S2,k,h=>by
  simp only[List.all_cons,Bool.and_eq_true] at h
  have hp:iN (aD c)=true/\¬aD c=34:=by
   have:=h.1;unfold lq at this;simp only[Bool.and_eq_true,Bool.not_eq_true',eqI_spec,beq_eq_false_iff_ne] at this;exact this
  rw[List.cons_append,cy,if_neg hp.2,if_pos hp.1];have:=Ci T a e S2 (k+1) h.2;rw[show k+1+S2.length=k+(c::S2).length by simp;omega] at this
  exact this
def sg2 (X:List UInt8) (a:Nat):List (List UInt8)->Cut
 |[]=>([],0,4,a)
 |g::r=>if preB X g then (g,a+g.length,0,0) else sg2 X a r
theorem wE (T:List UInt8) (a:Nat):∀l,gC T a l=sg2 (T.drop a) a l
 |[]=>rfl
 |g::r=>by rw[gC,sg2,wE T a r]
theorem UU {S e:List UInt8} (hS:S∈Cf) (he:Behind e) (a:Nat):sg2 (S++e) a j7=(S,(a:Int)+S.length,0,0)/\∃d r,S=d::r/\dZ (aD d)=false/\¬(48<=aD d/\aD d<=57\/aD d=39)/\aD d≠34/\¬(aD d=32\/aD d=9)/\aD d≠59:=by
 simp only[Cf,List.mem_cons,List.not_mem_nil,or_false] at hS
 rcases he with rfl|⟨q,rfl⟩
 all_goals rcases hS with rfl|rfl|rfl|rfl|rfl|rfl|rfl|rfl|rfl|rfl|rfl|rfl|rfl|rfl|rfl|rfl|rfl|rfl|rfl
 all_goals refine ⟨rfl,_,_,rfl,?_⟩
 all_goals decide
theorem Gh {w e:List UInt8} (hw:∀c∈w,cY (aD c)=true) (he:Behind e):(w++e).takeWhile (λc=>cY (aD c))=w:=by
 induction w with
 |
  nil =>
  rcases he with rfl|⟨q,rfl⟩
  .
   rfl
  rw[List.nil_append,List.takeWhile_cons,if_neg (by decide)]
 |cons c w ih=>rw[List.cons_append,List.takeWhile_cons,if_pos (hw c (by simp)),ih λx hx=>hw x (by simp[hx])]
theorem Ey {u:Nat} (hu:u<18446744073709551616):∀c∈([48,120]++eY 16 64 u []:List UInt8),cY (aD c)=true:=by
 intro c hc
 have hp:u<16 ^ 64:=Nat.lt_of_lt_of_le (show u<2 ^ 64 from hu) (Nat.pow_le_pow_left (by omega) 64)
 simp only[List.cons_append,List.nil_append,List.mem_cons] at hc
 rcases hc with rfl|rfl|hc
 .
  decide
 .
  decide
 obtain ⟨d,d1,d2⟩:=Ch (b:=16) (by omega) 64 u [] hp (λc hc=>by simp at hc) c hc
 rw[d2];exact (zX d1).2.1
theorem Cj {y:Piece} (hv:aW y=true) (hc:eC y=true) (p:List UInt8) {e:List UInt8} (he:Behind e) :
 ∃d r,aA y=d::r/\bw (p++aA y++e) d p.length=((y.1,y.2.1,y.2.2.1,(p.length:Int)),(p.length:Int)+(aA y).length,0,0)/\¬(aD d=32\/aD d=9)/\aD d≠59:=by
 obtain ⟨k,n,S,at'⟩:=y
 unfold eC at hc
 simp only[Bool.and_eq_true,Nat.ble_eq,Bool.not_eq_true',ltI_spec,decide_eq_false_iff_not,decide_eq_true_eq] at hc
 obtain ⟨⟨hn0,hn1⟩,hlen⟩:=hc
 have hD:(p++aA (k,n,S,at')++e).drop p.length=aA (k,n,S,at')++e:=by rw[List.append_assoc,List.drop_left]
 rcases Je hv with ⟨h1,h2,h3⟩|⟨h1,h2⟩|⟨h1,h2,h3⟩|⟨h1,h2,h3⟩
 .
  simp only at h1 h2 h3;subst h1 h2;have hw:aA (1,0,S,at')=S:=by unfold aA;rw[if_neg (by simp),if_neg (by simp)]
  rw[hw] at hD ⊢;cases S with
  |nil=>cases h3
  |
   cons d r =>
   have h3:(decide (r.length<60)&&dZ (aD d)&&(d::r).all o5)=true:=h3;simp only[Bool.and_eq_true,decide_eq_true_eq] at h3;obtain ⟨⟨h4,h5⟩,h6⟩:=h3;refine ⟨d,r,rfl,?_,?_⟩
   .
    unfold bw o4;rw[if_pos h5,hD];have:=Ex (p++d::r++e) p.length he (d::r) 0 h6 (by simp;omega)
    rw[Nat.add_zero,Nat.zero_add,zV] at this;rw[this];simp
   unfold dZ at h5;simp only[decide_eq_true_eq] at h5;omega
 .
  simp only at h1 h2;subst h1 h2;obtain ⟨u,hu,hwr,hh⟩:=UT (n:=n) (by omega) hn1
  have hw:aA (2,n,[],at')=[48,120]++eY 16 64 u []:=by
   rw[<-hh];unfold aA adJ;rw[if_pos rfl]
  rw[hw] at hD ⊢;refine ⟨48,120::eY 16 64 u [],rfl,?_,by decide,by decide⟩
  have hsc:dA (p++([48,120]++eY 16 64 u [])++e) (p.length:Int)=iG ([48,120]++eY 16 64 u []) p.length:=by
   rw[ni (d:=48) (r:=120::eY 16 64 u []++e) (by rw[hD];rfl),if_neg (by decide),if_pos (by decide),hD,Gh (Ey hu) he]
  unfold bw;rw[if_neg (by decide),if_pos (by decide),hsc,Jd hu,hwr]
 .
  simp only at h1 h2 h3;subst h1 h3;have hw:aA (3,0,S,at')=34::(S++[34]):=by unfold aA;rw[if_neg (by simp),if_pos rfl];simp
  rw[hw] at hD ⊢;refine ⟨34,S++[34],rfl,?_,by decide,by decide⟩
  have hD1:(p++34::(S++[34])++e).drop (p.length+1)=S++34::e:=by
   rw[<-List.drop_drop,hD];simp
  unfold bw mq;rw[if_neg (by decide),if_neg (by decide),if_pos (by decide),hD1]
  have:=Ci (p++34::(S++[34])++e) p.length e S 0 h2;rw[Nat.add_zero,Nat.zero_add] at this;rw[this]
  have Il:aR (p++34::(S++[34])++e) ((p.length:Int)+1) ((p.length+1+S.length:Nat):Int)=S:=by
   have:=zV (p++[34]) S ([34]++e);simp only[List.length_append,List.length_cons,List.length_nil] at this;have e1:p++[34]++S++([34]++e)=p++34::(S++[34])++e:=by simp
   rw[e1] at this;have e2:((p.length+(0+1):Nat):Int)=(p.length:Int)+1:=by omega
   rw[e2] at this;exact this
  rw[Il];simp only[List.length_cons,List.length_append,List.length_nil,Prod.mk.injEq,true_and,and_true];omega
 simp only at h1 h2 h3;subst h1 h3
 have hw:aA (4,0,S,at')=S:=by unfold aA;rw[if_neg (by simp),if_neg (by simp)]
 rw[hw] at hD ⊢
 obtain ⟨s1,d,r,s2,s3,s4,s5,s6,s7⟩:=UU h2 he p.length
 refine ⟨d,r,s2,?_,s6,s7⟩
 unfold bw j8
 rw[if_neg (by rw[s3];simp),if_neg s4,if_neg s5,wE,hD,s1]
def mj:List Piece->List UInt8
 |[]=>[]
 |[y]=>aA y
 |y::z::l=>aA y++32::mj (z::l)
theorem LS (y:Piece) (l:List Piece):∃e,Behind e/\mj (y::l)=aA y++e/\(l=[]/\e=[]\/l≠[]/\e=32::mj l):=by
 cases l with
 |nil=>exact ⟨[],.inl rfl,by simp[mj],.inl ⟨rfl,rfl⟩⟩
 |cons z l=>exact ⟨32::mj (z::l),.inr ⟨_,rfl⟩,rfl,.inr ⟨by simp,rfl⟩⟩
theorem Jf:∀(l:List Piece) (b:List UInt8),(jI l b).2=0->b.length<=1000->(jI l b).1=(if l=[] then b else b++32::mj l)/\(jI l b).1.length<=1000
 |[],b,_,hb=>by rw[if_pos rfl];exact ⟨rfl,hb⟩
 |
  y::l,b,h,hb=>by
  rw[jI] at h ⊢;by_cases hl:1000<(b++[32]++aA y).length
  .
   rw[if_pos hl] at h;cases h
  rw[if_neg hl] at h ⊢;obtain ⟨h1,h2⟩:=Jf l _ h (by omega)
  refine ⟨?_,h2⟩;have e:(if y::l=[] then b else b++32::mj (y::l))=b++32::mj (y::l):=if_neg (by simp)
  rw[h1,e];cases l with
  |nil=>simp[mj]
  |cons z l=>simp[mj]
theorem UW {l:List Piece} (h:(eD l).2=0):l.all aW=true/\(eD l).1=mj l/\(eD l).1.length<=1000:=by
 unfold eD at h ⊢
 by_cases hv:l.all aW=true
 .
  rw[if_pos hv] at h ⊢;refine ⟨hv,?_⟩;cases l with
  |nil=>exact ⟨rfl,by simp⟩
  |
   cons y l =>
   show (if 1000<(aA y).length then (([],3):List UInt8×Int) else jI l (aA y)).1=_/\_;have h:(if 1000<(aA y).length then (([],3):List UInt8×Int) else jI l (aA y)).2=0:=h;by_cases hl:1000<(aA y).length
   .
    rw[if_pos hl] at h;cases h
   rw[if_neg hl] at h;obtain ⟨h1,h2⟩:=Jf l _ h (by omega)
   have e:(if 1000<(aA y).length then (([],3):List UInt8×Int) else jI l (aA y))=jI l (aA y):=if_neg hl;refine ⟨?_,?_⟩
   .
    rw[e,h1];cases l with
    |nil=>rfl
    |cons z l=>rfl
   show (if 1000<(aA y).length then (([],3):List UInt8×Int) else jI l (aA y)).1.length<=1000;rw[e];exact h2
 rw[if_neg hv] at h;cases h
theorem Ez:∀(l:List Piece) (b:List UInt8),(jI l b).2=0\/(jI l b).2=3
 |[],b=>.inl rfl
 |
  y::l,b=>by
  rw[jI];split
  .
   exact .inr rfl
  exact Ez l _
theorem aff {l:List Piece} (hv:l.all aW=true):(eD l).2=0\/(eD l).2=3:=by
 unfold eD
 rw[if_pos hv]
 cases l with
 |nil=>exact .inl rfl
 |
  cons y l =>
  show (if 1000<(aA y).length then (([],3):List UInt8×Int) else jI l (aA y)).2=0\/(if 1000<(aA y).length then (([],3):List UInt8×Int) else jI l (aA y)).2=3;split
  .
   exact .inr rfl
  exact Ez l _
end Go.Proofs.YtpaddkkfefgkfaaGreatDoor.lt

namespace Go.Proofs.YtpaddkkfefgkfaaGreatDoor.lt
open Go.Tv Go.Ev
set_option maxRecDepth 100000
def alike:List Piece->List Piece->Bool
 |[],[]=>true
 |x::a,y::b=>decide (x.1=y.1)&&decide (x.2.1=y.2.1)&&decide (x.2.2.1=y.2.2.1)&&alike a b
 |_,_=>false
theorem Jg (T:List UInt8):∀(l:List Piece) (p:List UInt8) (m:Nat),T=p++mj l->(mj l).length<=m->(∀y∈l,aW y=true/\eC y=true)->(bh T m (mj l)).2=(0,0)/\alike (bh T m (mj l)).1 l=true
 |[],p,m,_,_,_=>by cases m<;>exact ⟨rfl,rfl⟩
 |
  y::l,p,m,hT,hm,hl=>by
  obtain ⟨hv,hc⟩:=hl y (by simp)
  obtain ⟨e,he,hj,aim⟩:=LS y l;obtain ⟨d,r,hd,hp,hb,hs⟩:=Cj hv hc p he;rw[hj] at hT hm ⊢;have hT':p++aA y++e=T:=by rw[hT];simp
  rw[hT'] at hp;have hw:(aA y).length=r.length+1:=by rw[hd];rfl
  have hlen:T.length=p.length+((aA y).length+e.length):=by rw[hT];simp
  have hX:aA y++e=d::(r++e):=by rw[hd];rfl
  have hm':(r++e).length+1<=m:=by rw[hX] at hm;simpa using hm
  rw[hX];obtain ⟨m,rfl⟩:∃m',m=m'+1:=⟨m-1,by omega⟩
  have hpos:T.length-((r++e).length+1)=p.length:=by rw[hlen,hw,List.length_append];omega
  rw[bh,if_neg hb,if_neg hs,hpos,hp,if_pos rfl]
  have AU:T.drop ((p.length:Int)+((aA y).length:Int)).toNat=e:=by
   have:((p.length:Int)+((aA y).length:Int)).toNat=p.length+(aA y).length:=by omega
   rw[this,<-hT',<-List.length_append,List.drop_left]
  simp only;rw[AU];rcases aim with ⟨rfl,rfl⟩|⟨hne,rfl⟩
  .
   cases m<;>exact ⟨rfl,by simp[alike,bh]⟩
  rw[List.length_append,List.length_cons] at hm';obtain ⟨m,rfl⟩:∃m',m=m'+1:=⟨m-1,by omega⟩
  rw[bh,if_pos (by decide)]
  obtain ⟨i1,i2⟩:=Jg T l (p++aA y++[32]) m (by rw[<-hT'];simp) (by omega) (λx hx=>hl x (by simp[hx]))
  exact ⟨i1,by rw[alike,i2];simp⟩
theorem aaj {l:List Piece} (hc:∀y∈l,eC y=true) (h:(eD l).2=0):(aG (eD l).1).2=(0,0)/\alike (aG (eD l).1).1 l=true:=by
 obtain ⟨h1,h2,h3⟩:=UW h
 obtain ⟨i1,i2⟩:=Jg (mj l) l [] (mj l).length rfl (Nat.le_refl _) (λy hy=>⟨List.all_eq_true.1 h1 y hy,hc y hy⟩)
 rw[h2] at h3 ⊢
 unfold aG
 rw[if_neg (by omega),if_pos (by rw[i1])]
 exact ⟨rfl,i2⟩
theorem wF {s:List UInt8} {a e:Nat} (hae:a<=e) {c:UInt8} {r:List UInt8} (hd:s.drop e=c::r):aR s (a:Int) ((e+1:Nat):Int)=aR s (a:Int) (e:Int)++[c]:=by
 unfold aR
 simp only[Int.toNat_natCast]
 have e1:e+1-a=(e-a)+1:=by omega
 have e2:(s.drop a)[e-a]? = some c:=by
  rw[List.getElem?_drop,show a+(e-a)=e by omega]
  have:s[e]? = (s.drop e)[0]? := by simp
  rw[this,hd];rfl
 rw[e1,List.take_add_one,e2];rfl
theorem NU {s:List UInt8} (a e:Nat):(aR s (a:Int) (e:Int)).length<=e-a:=by unfold aR;simp;omega
theorem UX {s:List UInt8} (a e:Int):(aR s a e).length<=s.length:=by unfold aR;simp;omega
theorem lu {s:List UInt8} {e:Nat} {c:UInt8} {r:List UInt8} (hd:s.drop e=c::r):s.drop (e+1)=r:=by rw[<-List.drop_drop,hd];rfl
theorem uR (s:List UInt8) (a:Nat):∀(rest:List UInt8) (e:Nat),s.drop e=rest->a<=e->e<=a+60->(aR s a e).all o5=true->(eB s a rest e).2.2.1=0->(eB s a rest e).1.all o5=true/\(eB s a rest e).1.length<=60
 |[],e,_,h2,h3,h4,_=>⟨h4,by show (aR s a e).length<=60;have:=NU (s:=s) a e;omega⟩
 |
  c::r,e,h1,h2,h3,h4,h5=>by
  rw[eB] at h5 ⊢;split at h5
  .
   rename_i hm;rw[if_pos hm];split at h5
   .
    exact absurd h5 (by simp)
   rename_i ZN;rw[if_neg ZN];have hm:o5 c=true:=hm;refine uR s a r (e+1) (lu h1) (by omega) (by omega) ?_ h5
   rw[wF h2 h1,List.all_append,h4];simp[hm]
  rename_i hm;rw[if_neg hm];exact ⟨h4,by show (aR s a e).length<=60;have:=NU (s:=s) a e;omega⟩
theorem Ck (s:List UInt8) (a:Nat) {d:UInt8}:∀(rest:List UInt8) (e:Nat),s.drop e=rest->a<=e->(aR s a e).head? = some d->(eB s a rest e).2.2.1=0->(eB s a rest e).1.head? = some d
 |[],e,_,_,h4,_=>h4
 |
  c::r,e,h1,h2,h4,h5=>by
  rw[eB] at h5 ⊢;split at h5
  .
   rename_i hm;rw[if_pos hm];split at h5
   .
    exact absurd h5 (by simp)
   rename_i ZN;rw[if_neg ZN];refine Ck s a r (e+1) (lu h1) (by omega) ?_ h5
   rw[wF h2 h1,List.head?_append,h4];rfl
  rename_i hm;rw[if_neg hm];exact h4
theorem wG (s:List UInt8) (a:Nat):∀(rest:List UInt8) (e:Nat),s.drop e=rest->a+1<=e->(aR s ((a+1:Nat):Int) e).all lq=true->(cy s a rest e).2.2.1=0->(cy s a rest e).1.all lq=true
 |[],e,_,_,_,h=>by exact absurd h (by rw[cy];simp)
 |
  c::r,e,h1,h2,h4,h5=>by
  rw[cy] at h5 ⊢;split at h5
  .
   rename_i hq;rw[if_pos hq];exact h4
  rename_i hq;rw[if_neg hq];split at h5
  .
   rename_i hp;rw[if_pos hp];refine wG s a r (e+1) (lu h1) (by omega) ?_ h5
   have hb:lq c=true:=by unfold lq;rw[hp,yN hq];rfl
   rw[wF h2 h1,List.all_append,h4];simp[hb]
  exact absurd h5 (by simp)
theorem yj (s:List UInt8) (a:Nat):∀l:List (List UInt8),(gC s a l).2.2.1=0->(gC s a l).1∈l
 |[],h=>by exact absurd h (by rw[gC];simp)
 |
  g::l,h=>by
  rw[gC] at h ⊢;split at h
  .
   rename_i hp;rw[if_pos hp];exact List.mem_cons_self ..
  rename_i hp;rw[if_neg hp];exact List.mem_cons_of_mem _ (yj s a l h)
theorem quoteL_cut' (s:List UInt8) (a:Nat):∀(rest:List UInt8) (e:Nat),(cy s a rest e).2.2.1=0->(cy s a rest e).1=aR s (a+1) ((cy s a rest e).2.1-1):=by
 intro rest
 induction rest with
 |nil=>intro e h;exact absurd h (by simp[cy])
 |
  cons c r ih =>
  intro e h;rw[cy] at h ⊢;split at h
  .
   rename_i hm;rw[if_pos hm];show aR s (a+1) e=aR s (a+1) ((e:Int)+1-1);rw[show (e:Int)+1-1=e by omega]
  rename_i hm;rw[if_neg hm];split at h
  .
   rename_i hp;rw[if_pos hp];exact ih (e+1) h
  exact absurd h (by simp)
theorem UY (s:List UInt8):∀(n:Nat) (left:List UInt8),(bh s n left).1.length<=n:=by
 intro n
 induction n with
 |zero=>intro left;exact Nat.le_refl _
 |
  succ n ih =>
  intro left
  match left with
  |[]=>exact Nat.zero_le _
  |
   c::r =>
   rw[bh];split
   .
    exact Nat.le_succ_of_le (ih r)
   split
   .
    exact Nat.zero_le _
   split
   .
    exact Nat.succ_le_succ (ih _)
   exact Nat.zero_le _
def inN (n:Int):Prop := -9223372036854775808<=n/\n<9223372036854775808
theorem Jh (n:Int):inN (IntKind.wrap .i64 n):=by unfold inN;rw[KD];split<;>omega
theorem qp:inN 0:=by unfold inN;omega
theorem Ji (len:Nat):∀(rest:List UInt8) (k N i:Nat),inN (jG len rest k N i).1
 |[],_,_,_=>qp
 |
  c::r,k,N,i=>by
  rw[jG];split
  .
   split
   .
    exact qp
   exact Jh _
  split
  .
   exact qp
  split
  .
   exact qp
  exact Ji len r _ _ _
theorem UZ (s:List UInt8) (a:Int):inN (dA s a).1:=by
 unfold dA
 split
 .
  exact qp
 split
 .
  exact qp
 split
 .
  exact Ji _ _ _ _ _
 split
 .
  unfold iG;split
  .
   exact qp
  split
  .
   exact qp
  exact Jh _
 exact qp
theorem zY {k n a:Int} {S:List UInt8} (hn:inN n) (hS:S.length<=1100):eC (k,n,S,a)=true:=by
 unfold eC
 rw[cn hn.1,jo hn.2,cj hS];rfl
theorem Jj {s:List UInt8} (hs:s.length<=1000) {a:Nat} {c:UInt8} {r:List UInt8} (hd:s.drop a=c::r) (h:(bw s c a).2.2.1=0):aW (bw s c a).1=true/\eC (bw s c a).1=true:=by
 have c0:aR s (a:Int) (a:Int)=[]:=by unfold aR;simp
 unfold bw at h ⊢
 split at h
 .
  rename_i hf;rw[if_pos hf];have h:(o4 s a).2.2.1=0:=h;unfold o4 at h ⊢;obtain ⟨m1,m2⟩:=uR s a (s.drop a) a rfl (Nat.le_refl _) (by omega) (by rw[c0];rfl) h
  refine ⟨?_,zY qp (by omega)⟩
  have hh:(eB s a (s.drop a) a).1.head? = some c:=by
   rw[hd] at h ⊢;rw[eB] at h ⊢;have hm:fJ (aD c)=true:=K6 hf;rw[if_pos hm,if_neg (by omega)] at h ⊢
   refine Ck s a r (a+1) (lu hd) (by omega) ?_ h
   rw[wF (Nat.le_refl _) hd,c0];rfl
  show ax _=true;cases hS:(eB s a (s.drop a) a).1 with
  |nil=>rw[hS] at hh;cases hh
  |
   cons d q =>
   rw[hS] at hh m1 m2;have:d=c:=by simpa using hh
   subst this;show (decide (q.length<60)&&dZ (aD d)&&(d::q).all o5)=true;simp only[List.length_cons] at m2;rw[decide_eq_true (by omega),hf,m1];rfl
 rename_i hf
 rw[if_neg hf]
 split at h
 .
  rename_i hq;rw[if_pos hq];exact ⟨rfl,zY (UZ s a) (by simp)⟩
 rename_i hq
 rw[if_neg hq]
 split at h
 .
  rename_i Nf;rw[if_pos Nf];have h:(mq s a).2.2.1=0:=h;unfold mq at h ⊢;have hp:=wG s a (s.drop (a+1)) (a+1) rfl (Nat.le_refl _) (by unfold aR;simp) h
  have hl:(cy s a (s.drop (a+1)) (a+1)).1.length<=1100:=by
   rw[quoteL_cut' s a _ _ h];have:=UX (s:=s) ((a:Int)+1) ((cy s a (s.drop (a+1)) (a+1)).2.1-1);omega
  refine ⟨?_,zY qp hl⟩;show ((cy s a (s.drop (a+1)) (a+1)).1.all lq&&eqI 0 0)=true;rw[hp];rfl
 rename_i Nf
 rw[if_neg Nf]
 have h:(j8 s a).2.2.1=0:=h
 unfold j8 at h ⊢
 have hm:=yj s a j7 h
 have hm:(gC s a j7).1∈Cf:=hm
 have hl:∀S∈Cf,S.length<=1100:=by decide
 refine ⟨?_,zY qp (hl _ hm)⟩
 show (Cf.any (λp=>decide ((gC s a j7).1=p))&&eqI 0 0)=true
 rw[List.any_eq_true.2 ⟨_,hm,decide_eq_true rfl⟩];rfl
theorem P7 (s:List UInt8) (hs:s.length<=1000):∀(n:Nat) (left:List UInt8),left.length<=n->s.drop (s.length-left.length)=left->left.length<=s.length->∀y∈(bh s n left).1,aW y=true/\eC y=true:=by
 intro n
 induction n with
 |zero=>intro left _ _ _ y hy;cases hy
 |
  succ n ih =>
  intro left h1 h3 h4
  match left,h1,h3,h4 with
  |[],_,_,_=>intro y hy;cases hy
  |
   c::r,h1,h3,h4 =>
   rw[List.length_cons] at h1 h3 h4
   have hr:s.drop (s.length-r.length)=r:=by
    have:s.length-r.length=s.length-(r.length+1)+1:=by omega
    rw[this,<-List.drop_drop,h3];rfl
   rw[bh];split
   .
    exact ih r (by omega) hr (by omega)
   split
   .
    intro y hy;cases hy
   split
   .
    rename_i hp;have he:=mZ h3 hp;intro y hy;rcases List.mem_cons.1 hy with rfl|hy
    .
     exact Jj hs h3 hp
    exact ih _ (by simp only[List.length_drop];omega) (by rw[List.length_drop];congr 1;omega) (by simp only[List.length_drop];omega) y hy
   intro y hy;cases hy
theorem qe (s:List UInt8):(∀y∈(aG s).1,aW y=true/\eC y=true)/\(aG s).1.length<=1000:=by
 unfold aG
 split
 .
  exact ⟨λy hy=>(by cases hy),(by simp)⟩
 rename_i hl
 split
 .
  exact ⟨P7 s (by omega) s.length s (Nat.le_refl _) (by simp) (Nat.le_refl _),(by have:=UY s s.length s;show (bh s s.length s).1.length<=1000;omega)⟩
 exact ⟨λy hy=>(by cases hy),(by simp)⟩
def U0 (s:List UInt8) (n:Int):Prop:=0<=n/\n<=s.length
theorem zZ {s:List UInt8} {e:Nat} {c:UInt8} {r:List UInt8} (hd:s.drop e=c::r):e<s.length:=by
 have:=congrArg List.length hd;simp at this;omega
theorem yY (s:List UInt8) (a:Nat):∀(rest:List UInt8) (e:Nat),s.drop e=rest->U0 s (eB s a rest e).2.2.2
 |[],e,_=>⟨Int.le_refl _,by show (0:Int)<=_;omega⟩
 |
  c::r,e,h1=>by
  rw[eB];split
  .
   split
   .
    have:=zZ h1;exact ⟨by show (0:Int)<=e;omega,by show (e:Int)<=_;omega⟩
   exact yY s a r (e+1) (lu h1)
  exact ⟨Int.le_refl _,by show (0:Int)<=_;omega⟩
theorem wH (s:List UInt8) (a:Nat):∀(rest:List UInt8) (e:Nat),s.drop e=rest->U0 s (cy s a rest e).2.2.2
 |[],e,_=>⟨by show (0:Int)<=s.length;omega,by show (s.length:Int)<=_;omega⟩
 |
  c::r,e,h1=>by
  rw[cy];split
  .
   exact ⟨Int.le_refl _,by show (0:Int)<=_;omega⟩
  split
  .
   exact wH s a r (e+1) (lu h1)
  have:=zZ h1;exact ⟨by show (0:Int)<=e;omega,by show (e:Int)<=_;omega⟩
theorem yZ (s:List UInt8) (a:Nat) (ha:a<=s.length):∀l:List (List UInt8),U0 s (gC s a l).2.2.2
 |[]=>⟨by show (0:Int)<=a;omega,by show (a:Int)<=_;omega⟩
 |
  g::l=>by
  rw[gC];split
  .
   exact ⟨Int.le_refl _,by show (0:Int)<=_;omega⟩
  exact yZ s a ha l
theorem y3 (s:List UInt8):∀(rest:List UInt8) (k N i:Nat),s.drop i=rest->U0 s (jG s.length rest k N i).2.2.2
 |[],_,_,i,_=>⟨by show (0:Int)<=s.length;omega,by show (s.length:Int)<=_;omega⟩
 |
  c::r,k,N,i,h1=>by
  have hi:=zZ h1;have h0:U0 s (0:Int):=⟨Int.le_refl _,by omega⟩
  have hI:U0 s (i:Int):=⟨by omega,by omega⟩
  rw[jG];split
  .
   split
   .
    exact hI
   exact h0
  split
  .
   exact hI
  split
  .
   exact hI
  exact y3 s r _ _ _ (lu h1)
theorem yl (b:Int):∀(d:List UInt8) (f q:Bool) (i j:Nat),dm b f q d i=some j->j<=i+d.length
 |
  [],f,q,i,j,h=>by
  cases f
  .
   cases h
  cases h;omega
 |
  c::r,f,q,i,j,h=>by
  rw[dm] at h;simp only[List.length_cons];split at h
  .
   split at h
   .
    cases h;omega
   have:=yl b r _ _ _ _ h;omega
  split at h
  .
   cases h;omega
  have:=yl b r _ _ _ _ h;omega
theorem Yu (b:Nat) (d:List UInt8):(jq b d).2.1<=d.length:=by
 unfold jq
 split
 .
  rename_i i h;have:=yl b d _ _ _ _ h;show (i:Int)<=d.length;omega
 show (-1:Int)<=d.length
 omega
theorem Jk (w:List UInt8) (hw:w≠[]) (a:Nat):0<=(iG w a).2.2.2/\(iG w a).2.2.2<=(a:Int)+w.length:=by
 obtain ⟨h1,_,_⟩:=Ik w hw
 have h2:=Yu (aJ w).2.2 ((w.take (w.length-(aJ w).2.1)).drop (aJ w).1)
 have h3:((w.take (w.length-(aJ w).2.1)).drop (aJ w).1).length+(aJ w).1<=w.length:=by simp only[List.length_drop,List.length_take];omega
 unfold iG
 split
 .
  rename_i h0;show 0<=(a:Int)+(aJ w).1+(jq (aJ w).2.2 ((w.take (w.length-(aJ w).2.1)).drop (aJ w).1)).2.1/\(a:Int)+(aJ w).1+(jq (aJ w).2.2 ((w.take (w.length-(aJ w).2.1)).drop (aJ w).1)).2.1<=_;omega
 split
 .
  show 0<=(a:Int)/\(a:Int)<=_;omega
 show (0:Int)<=0/\(0:Int)<=_
 omega
theorem Jl {s:List UInt8} {a:Nat} {c:UInt8} {r:List UInt8} (hd:s.drop a=c::r):U0 s (bw s c a).2.2.2:=by
 have ha:=zZ hd
 unfold bw
 split
 .
  exact yY s a _ a rfl
 split
 .
  rename_i hq;show U0 s (dA s (a:Int)).2.2.2;rw[ni hd];split
  .
   exact y3 s _ _ _ _ rfl
  split
  .
   rename_i h48;have hw:cY (aD c)=true:=by unfold cY;simp;omega
   have e:((s.drop a).takeWhile λc=>cY (aD c))=c::(r.takeWhile λc=>cY (aD c)):=by rw[hd,List.takeWhile_cons,if_pos hw]
   have hl:s.length-a=r.length+1:=by have:=congrArg List.length hd;simpa using this
   have h3:=(List.takeWhile_sublist (λc=>cY (aD c)) (l:=r)).length_le
   obtain ⟨f1,f2⟩:=Jk ((s.drop a).takeWhile λc=>cY (aD c)) (by rw[e];simp) a
   rw[e,List.length_cons] at f2;rw[e] at f1 ⊢;exact ⟨f1,by omega⟩
  exact ⟨by show (0:Int)<=a;omega,by show (a:Int)<=_;omega⟩
 split
 .
  exact wH s a _ (a+1) rfl
 exact yZ s a (by omega) _
theorem P8 (s:List UInt8):∀(n:Nat) (left:List UInt8),left.length<=n->s.drop (s.length-left.length)=left->left.length<=s.length->U0 s (bh s n left).2.2:=by
 have h0:U0 s (0:Int):=⟨Int.le_refl _,by omega⟩
 intro n
 induction n with
 |zero=>intro left _ _ _;exact h0
 |
  succ n ih =>
  intro left h1 h3 h4
  match left,h1,h3,h4 with
  |[],_,_,_=>exact h0
  |
   c::r,h1,h3,h4 =>
   rw[List.length_cons] at h1 h3 h4
   have hr:s.drop (s.length-r.length)=r:=by
    have:s.length-r.length=s.length-(r.length+1)+1:=by omega
    rw[this,<-List.drop_drop,h3];rfl
   rw[bh];split
   .
    exact ih r (by omega) hr (by omega)
   split
   .
    exact h0
   split
   .
    rename_i hp;have he:=mZ h3 hp;exact ih _ (by simp only[List.length_drop];omega) (by rw[List.length_drop];congr 1;omega) (by simp only[List.length_drop];omega)
   exact Jl h3
theorem adQ (s:List UInt8):U0 s (aG s).2.2/\((aG s).2.1≠0->(aG s).1=[]):=by
 unfold aG
 split
 .
  exact ⟨⟨by show (0:Int)<=1000;omega,by show (1000:Int)<=_;omega⟩,λ_=>rfl⟩
 split
 .
  exact ⟨⟨Int.le_refl _,by show (0:Int)<=_;omega⟩,λh=>absurd rfl h⟩
 exact ⟨P8 s s.length s (Nat.le_refl _) (by simp) (Nat.le_refl _),λ_=>rfl⟩
end Go.Proofs.YtpaddkkfefgkfaaGreatDoor.lt

/- Tokens, written, joined. What is written is read as it. What is read may be; faults are in the text. -/
import Derived.Test.YtpaddkkfefgkfaaGreatDoorGrb
import Derived.Test.YtpaddkkfefgkfaaGreatDoorLyg
set_option linter.unusedVariables false
set_option linter.unusedSimpArgs false

namespace Go.Proofs.YtpaddkkfefgkfaaGreatDoor.lt
open Go.Tv Go.Ev
set_option maxRecDepth 100000
noncomputable def atK (s:List UInt8) (i:Int) (k:UInt8->Option AV):Option AV:=Option.rec (motive:=λ_=>Option AV) none k (aS s i)
def vJ:List UInt8:=[48,49,50,51,52,53,54,55,56,57,97,98,99,100,101,102,103,104,105,106,107,108,109,110,111,112,113,114,115,116,117,118,119,120,121,122]
def DB:List UInt8:=[48,49,50,51,52,53,54,55,56,57,97,98,99,100,101,102]
noncomputable def wE:Nat->Int->List Int->(List Int->Option AV)->Option AV
 |0,_,_,_=>none
 |f+1,u,acc,k=>pick2 (!ltI u 16) (atK vJ (IntKind.wrap .u64 ↑(BitVec.toNat (BitVec.ofInt 64 u &&& BitVec.ofInt 64 15))) λc=>wE f (Int.fdiv u 16) (aD c::acc) k) (atK vJ u λc=>k (aD c::acc))
noncomputable def ch (gv:Nat->List AV) (β:Type):aU β:=jU (Xg gv) K0 inl 17 β 20
theorem acB (gv:Nat->List AV) (β:Type):aV (Xg gv) (bu (Xg gv) kn) (ch gv β):=fy (by intro id s g h;cases h) (λf h args=>aQ h args) 17 20 β
theorem Qg (n:Int):ag (Xg oH) (ch oH AV) bK 17 26 [.int .i64 n] aa.empty (λv _=>some v) =
 pick2 (ltI n 0) (wE 17 (IntKind.wrap .u64 (0-IntKind.wrap .u64 n)) [] λl=>some (.str ([45,48,120]++l.map Ew))) (wE 17 (IntKind.wrap .u64 n) [] λl=>some (.str ([48,120]++l.map Ew))):=by kernel_rfl
def FM (d:Nat):UInt8:=UInt8.ofNat (if d<10 then 48+d else 87+d)
def iS (b:Nat):Nat->Nat->List UInt8->List UInt8
 |0,_,acc=>acc
 |f+1,u,acc=>if u<b then FM u::acc else iS b f (u/b) (FM (u%b)::acc)
theorem Lu:((List.range 16).all λd=>decide (vJ[d]? = some (FM d))&&decide (DB[d]? = some (FM d)))=true:=by decide +kernel
theorem Va {d:Nat} (h:d<16):aS vJ (d:Int)=some (FM d)/\DB[d]? = some (FM d):=by
 have:=List.all_eq_true.1 Lu d (List.mem_range.2 h)
 simp only[Bool.and_eq_true,decide_eq_true_eq] at this
 exact this
theorem FN:∀(f u:Nat) (acc:List UInt8) (k:List Int->Option AV),u<16 ^ f->u<18446744073709551616->0<f->wE f u (acc.map aD) k=k ((iS 16 f u acc).map aD)
 |0,u,acc,k,_,_,h=>by omega
 |
  f+1,u,acc,k,h,h64,_=>by
  have hand:((BitVec.ofInt 64 (u:Int) &&& BitVec.ofInt 64 15).toNat:Int)=(u:Int)%16:=Jd (by omega) (by omega) 4 (by omega)
  show pick2 (!ltI (u:Int) 16) (atK vJ (IntKind.wrap .u64 ↑(BitVec.toNat (BitVec.ofInt 64 (u:Int) &&& BitVec.ofInt 64 15))) λc=>wE f (Int.fdiv u 16) (aD c::acc.map aD) k) (atK vJ u λc=>k (aD c::acc.map aD))=_
  rw[cj,hand,u64_in (by omega) (by omega),iS]
  unfold atK;by_cases hu:u<16
  .
   rw[if_neg (by omega),if_pos hu,(Va hu).1];rfl
  rw[if_pos (by omega),if_neg hu]
  have e1:((u:Int)%16)=((u%16:Nat):Int):=by omega
  have e2:Int.fdiv (u:Int) 16=((u/16:Nat):Int):=by rw[Int.fdiv_eq_ediv_of_nonneg _ (by omega)];rfl
  have hf:0<f:=by
   cases f with
   |zero=>simp at h;omega
   |succ f=>omega
  rw[e1,(Va (Nat.mod_lt u (by omega))).1,e2]
  have:=FN f (u/16) (FM (u%16)::acc) k (by rw[Nat.pow_succ] at h;omega) (by omega) hf
  exact this
def qb (b:Nat) (ah:List UInt8) (n:Int):List UInt8:=(if n<0 then [45] else [])++ah++iS b 64 n.natAbs []
theorem abs_neg {n:Int} (h0 : -9223372036854775808<=n) (h:n<0):IntKind.wrap .u64 (0-IntKind.wrap .u64 n)=((n.natAbs:Nat):Int):=by rw[tJ,tJ];omega
theorem TH {n:Int} (h1:n<9223372036854775808) (h:¬n<0):IntKind.wrap .u64 n=((n.natAbs:Nat):Int):=by rw[tJ];omega
theorem vK {b:Nat} (hb:2<=b):∀(f g u:Nat) (acc:List UInt8),u<b ^ f->0<f->f<=g->iS b g u acc=iS b f u acc
 |0,_,_,_,_,h,_=>by omega
 |f+1,0,_,_,_,_,h=>by omega
 |
  f+1,g+1,u,acc,h,_,hfg=>by
  rw[iS,iS];by_cases hu:u<b
  .
   rw[if_pos hu,if_pos hu]
  rw[if_neg hu,if_neg hu]
  have hf:0<f:=by
   cases f with
   |zero=>simp at h;omega
   |succ f=>omega
  exact vK hb f g (u/b) _ (by rw[Nat.pow_succ] at h;exact Nat.div_lt_of_lt_mul (by rw[Nat.mul_comm];exact h)) hf (by omega)
theorem JT {u:Nat} (h:u<18446744073709551616) (k:List Int->Option AV):wE 17 u [] k=k ((iS 16 64 u []).map aD):=by
 have hp:u<16 ^ 17:=by omega
 have:=FN 17 u [] k hp h (by omega)
 rw[vK (by omega) 17 64 u [] hp (by omega) (by omega)]
 exact this
theorem TI {n:Int} (h0 : -9223372036854775808<=n) (h1:n<9223372036854775808) :
 pick2 (ltI n 0) (wE 17 (IntKind.wrap .u64 (0-IntKind.wrap .u64 n)) [] λl=>some (.str ([45,48,120]++l.map Ew))) (wE 17 (IntKind.wrap .u64 n) [] λl=>some (.str ([48,120]++l.map Ew)))=some (.str (qb 16 [48,120] n)):=by
 rw[aX]
 unfold qb
 split
 .
  rename_i h;rw[abs_neg h0 h,JT (by omega),Jc];rfl
 rename_i h;rw[TH h1 h,JT (by omega),Jc];rfl
noncomputable def TJ (args:List AV):Option (Bool×List aZ) :=
 match args with
 |[.int .i64 n]=>some (!ltI n (-9223372036854775808)&&ltI n 9223372036854775808,[.val (.str (qb 16 [48,120] n))])
 |_=>none
theorem YD:aI (Xg oH) (bu (Xg oH) kn) 26 TJ :=
 aG (λargs=>aQ rfl args) (acB oH) λargs rs hg=>by
  unfold TJ at hg;split at hg
  .
   rename_i n;simp only[Option.some.injEq,Prod.mk.injEq,Bool.and_eq_true,ltI_spec,Bool.not_eq_true',decide_eq_false_iff_not,decide_eq_true_eq] at hg;obtain ⟨h1,rfl⟩:=hg;exact ⟨[.str (qb 16 [48,120] n)],bK,17,(Qg n).trans (TI (by omega) (by omega)),rfl,rfl⟩
  cases hg
def YE:List (List UInt8):=[[36,36],[60,60],[62,62],[43],[45],[42],[47],[37],[38],[124],[94],[126],[40],[41],[91],[93],[44],[58],[36]]
noncomputable def Uc {α:Type} (L:List α) (i:Int) (k:α->Option AV):Option AV:=Option.rec (motive:=λ_=>Option AV) none k (aS L i)
noncomputable def M6':List kH:=(15,[none],gNm)::M3
noncomputable def d6' (gv:Nat->List AV) (β:Type):aU β:=jU (Xg gv) (KQ M6') inl 200 β 20
def pV1:List Bool:=[true,false,true,false,true,true,true,true,true,false,false,true,false]
noncomputable def agp:bG:=⟨cG [1,27,28] pV1,.none,[]⟩
noncomputable def afe (y:Piece):AV:=.agg [.int .i64 y.1,.int .i64 y.2.1,.str y.2.2.1,.int .i64 y.2.2.2]
noncomputable def agq (y:Piece):aa:=iC [.cells 106 [.int .i64 y.1,.int .i64 y.2.1,.str y.2.2.1,.int .i64 y.2.2.2]]
noncomputable def jV1 (gv:Nat->List AV) (y:Piece) (r m:Nat) (i:Int):Option AV:=cK (Xg gv) (d6' gv AV) agp r 59 pV1 (λv _=>some v) m (fY 62 [(1,.ptr 0 0),(27,.int .i64 y.2.2.1.length),(28,.int .i64 i)]) (agq y)
def YF (c:UInt8):Bool:=mE (aD c) && !eqI (aD c) 34
noncomputable def fV:Option AV:=some (.bool false)
noncomputable def bw (y:Piece):Bool:=pick2 (eqI y.1 1) (eqI y.2.1 0&&ay y.2.2.1) (pick2 (eqI y.1 2) (decide (y.2.2.1=[])) (pick2 (eqI y.1 3) (y.2.2.1.all YF&&eqI y.2.1 0) (pick2 (eqI y.1 4) (YE.any (λp=>decide (y.2.2.1=p))&&eqI y.2.1 0) false)))
noncomputable def sgV (s:List UInt8) (n:Int) (l:List (List UInt8)):Option AV:=List.rec (motive:=λ_=>Option AV) fV (λp _ r=>pick2 (decide (s=p)) (some (.bool (eqI n 0))) r) l
noncomputable def ahX (y:Piece) (a b:Option AV):Option AV :=
 pick2 (eqI y.1 1) (pick2 (eqI y.2.1 0) (some (.bool (ay y.2.2.1))) fV) (pick2 (eqI y.1 2) (some (.bool (decide (y.2.2.1=[])))) (pick2 (eqI y.1 3) a (pick2 (eqI y.1 4) b fV)))
noncomputable def agr (args:List AV):Option (Bool×List aZ) :=
 match args with
 |[.agg [.int .i64 k,.int .i64 n,.str s,.int .i64 a]]=>some (Nat.ble s.length 1100,[.val (.bool (bw (k,n,s,a)))])
 |_=>none
noncomputable def acC (a:Int):Int:=((BitVec.ofInt 64 a &&& BitVec.ofInt 64 15).toNat:Int)
def dgI (d:Int):UInt8:=DB.getD d.toNat 0
noncomputable def acD:Nat->Int->List Int->Nat->Option AV
 |0,_,L,_=>some (.str (L.map Ew))
 |f+1,u,L,i=>Option.rec (motive:=λ_=>Option AV) none (λc=>acD f (Int.fdiv u 16) (L.set i (aD c)) (i-1)) (aS DB (IntKind.wrap .u64 (acC u)))
def acE:Nat->Int->List Int->Nat->List Int
 |0,_,L,_=>L
 |f+1,u,L,i=>acE f (u/16) (L.set i (aD (dgI (u%16)))) (i-1)
def TK (u:Int):List UInt8:=(acE 16 u [48,120,48,48,48,48,48,48,48,48,48,48,48,48,48,48,48,48] 17).map Ew
noncomputable def ags (args:List AV):Option (Bool×List aZ) :=
 match args with
 |[.int .u64 u]=>some (!ltI u 0,[.val (.str (TK u))])
 |_=>none
noncomputable def M7':List kH:=(26,[none],TJ)::(59,[none],agr)::(102,[none],ags)::M6'
noncomputable def d7' (β:Type):aU β:=jU (Xg oH) (KQ M7') inl 200 β 20
def qc (y:Piece):List UInt8:=if y.1=2 then (if y.2.1<0 then TK (IntKind.wrap .u64 y.2.1) else qb 16 [48,120] y.2.1) else if y.1=3 then [34]++y.2.2.1++[34] else y.2.2.1
noncomputable def ahY (y:Piece):Option AV :=
 pick2 (eqI y.1 2) (pick2 (ltI y.2.1 0) (pick2 (!ltI (IntKind.wrap .u64 y.2.1) 0) (some (.str (TK (IntKind.wrap .u64 y.2.1)))) none) (pick2 (!ltI y.2.1 (-9223372036854775808)&&ltI y.2.1 9223372036854775808) (some (.str (qb 16 [48,120] y.2.1))) none))
  (pick2 (eqI y.1 3) (pick2 (Nat.ble (1+y.2.2.1.length) 9223372036854775807) (pick2 (Nat.ble (([34]++y.2.2.1).length+1) 9223372036854775807) (some (.str ([34]++y.2.2.1++[34]))) none) none) (some (.str y.2.2.1)))
noncomputable def gWr (args:List AV):Option (Bool×List aZ) :=
 match args with
 |[.agg [.int .i64 k,.int .i64 n,.str s,.int .i64 a]]=>some (!ltI n (-9223372036854775808)&&ltI n 9223372036854775808&&Nat.ble s.length 1100,[.val (.str (qc (k,n,s,a)))])
 |_=>none
def akg (n:Int):List UInt8:=if n<0 then TK (IntKind.wrap .u64 n) else qb 16 [48,120] n
noncomputable def M8':List kH:=(62,[none],gWr)::M7'
noncomputable def d8' (β:Type):aU β:=jU (Xg oH) (KQ M8') inl 200 β 20
def pJ1:List Bool:=[true,false,true,false]
def pJr:List Bool:=[true,true]
def pJ2:List Bool:=[true,true,true,false,true,false]
noncomputable def anJ:bG:=⟨nS (cG [0,9,10,11] pJ1) (nS (cG [0] pJr) (cG [6,19,20,21] pJ2)),.none,[]⟩
noncomputable def jJ1 (l:List Piece) (r m:Nat) (i:Int):Option AV:=cK (Xg oH) (d8' AV) anJ r 28 pJ1 (λv _=>some v) m (fY 36 [(0,.bA aH l),(9,.bA aH l),(10,.int .i64 l.length),(11,.int .i64 i)]) aa.empty
noncomputable def ah2 (l:List Piece) (r:Nat):Option AV:=codeFrom (Xg oH) (d8' AV) anJ r 28 pJr (λv _=>some v) (fY 36 [(0,.bA aH l)]) aa.empty
noncomputable def jJ2 (l:List Piece) (r m:Nat) (i:Int) (H:aa):Option AV:=cK (Xg oH) (d8' AV) anJ r 28 pJ2 (λv _=>some v) m (fY 36 [(6,.ptr 0 0),(19,.bA aH l),(20,.int .i64 l.length),(21,.int .i64 i)]) H
noncomputable def mJ0:aa:=iC [.cells 115 [.iE,.br]]
noncomputable def mJ (L:List Int) (n:Nat):aa:=iC [.cells 115 [.ptr 0 0,.own 1 n],.list 5 (.int .u8) L 0 false false]
noncomputable def agu (e:Int):Option AV:=some (.bZ [.str [],.int .i64 e])
noncomputable def Vb (y:Piece):Bool := !ltI y.2.1 (-9223372036854775808)&&ltI y.2.1 9223372036854775808&&Nat.ble y.2.2.1.length 1100
def wI (y:Piece):List Int:=(qc y).map aD
noncomputable def wrJ (l:List Piece) (r m:Nat) (i:Int) (y:Piece) (L:List Int):Option AV :=
 pick2 (Vb y) (pick2 (Nat.ble (L.length+(wI y).length) 1000000) (pick2 (ltI 1000 ↑(L.length+(wI y).length)) (agu 3) (jJ2 l r m (IntKind.wrap .i64 (i+1)) (mJ (L++wI y) (L.length+(wI y).length)))) none) none
noncomputable def aki (L:List Int) (n:Nat):Option AV:=pick2 (Nat.ble 1 n) (pick2 (Nat.ble 1 L.length&&Nat.ble L.length 1000000&&eqI ↑n ↑L.length&&L.all IP) (some (.bZ [.str (L.map Ew),.int .i64 0])) none) none
def Vc:List Piece->List UInt8->List UInt8×Int
 |[],b=>(b,0)
 |y::l,b=>if 1000<(b++[32]++qc y).length then ([],3) else Vc l (b++[32]++qc y)
noncomputable def Vd (l:List Piece):List UInt8×Int:=if l.all bw=true then (match l with | []=>([],0)|y::l=>if 1000<(qc y).length then ([],3) else Vc l (qc y)) else ([],2)
noncomputable def akj (r:List UInt8×Int):Option AV:=some (.bZ [.str r.1,.int .i64 r.2])
theorem Ic {b:Nat}:∀(f u:Nat) (acc:List UInt8),(iS b f u acc).length<=f+acc.length
 |0,_,acc=>by simp[iS]
 |
  f+1,u,acc=>by
  rw[iS];split
  .
   simp;omega
  have:=Ic (b:=b) f (u/b) (FM (u%b)::acc);simp at this;omega
noncomputable def Ve (args:List AV):Option (Bool×List aZ) :=
 match args with
 |
  [a]=>match xh aH a with
  |some l=>some (Nat.ble l.length 1000&&l.all Vb,[.val (.str (Vd l).1),.val (.int .i64 (Vd l).2)])
  |none=>none
 |_=>none
end Go.Proofs.YtpaddkkfefgkfaaGreatDoor.lt

namespace Go.Proofs.YtpaddkkfefgkfaaGreatDoor.lt
open Go.Tv Go.Ev
set_option maxRecDepth 100000
theorem zF (b:Int):∀(l:List UInt8) (f p:Bool) (i:Nat),(f=true->l≠[])->(∀c∈l,aD c≠95/\0<=eM (aD c)/\eM (aD c)<b)->cU b f p l i=none
 |
  [],f,p,i,h,_=>by
  rw[cU,if_neg (λhf=>h hf rfl)]
 |
  c::r,f,p,i,h,hg=>by
  obtain ⟨h1,h2,h3⟩:=hg c (by simp)
  rw[cU,if_neg h1,if_neg (by omega)]
  exact zF b r false false (i+1) (λh=>by cases h) (λx hx=>hg x (by simp[hx]))
theorem Qh (w:List UInt8) (s2:Int) (h:(if 2<w.length/\w.head? = some 48 then tO (w.getD 1 0) else 0)=s2):aL w=if s2=120 then (2,0,16) else if tO (w.getD (w.length-1) 0)=104 then (0,1,16) else if s2=98 then (2,0,2) else if s2=111 then (2,0,8) else (0,0,10):=by
 unfold aL
 simp only[h]
theorem FO:((List.range 16).all λd=>decide (eM (aD (FM d))=d)&&dM (aD (FM d))&&decide (aD (FM d)≠95)&&(decide (10<=d)||decide (aD (FM d)=48+d)))=true:=by decide +kernel
theorem xz {d:Nat} (h:d<16):eM (aD (FM d))=d/\dM (aD (FM d))=true/\aD (FM d)≠95/\(d<10->aD (FM d)=48+d):=by
 have:=List.all_eq_true.1 FO d (List.mem_range.2 h)
 simp only[Bool.and_eq_true,Bool.or_eq_true,decide_eq_true_eq] at this
 exact ⟨this.1.1.1,this.1.1.2,this.1.2,λh=>by rcases this.2 with h2|h2;omega;exact h2⟩
def YG (b:Nat) (l:List UInt8):Prop:=∀c∈l,∃d,d<b/\c=FM d
theorem zG {b:Nat} (hb:2<=b):∀(f u:Nat) (acc:List UInt8),u<b ^ f->YG b acc->YG b (iS b f u acc)
 |0,_,_,_,h=>h
 |
  f+1,u,acc,hu,h=>by
  rw[iS];split
  .
   rename_i hlt;intro c hc;rcases List.mem_cons.1 hc with rfl|hc
   .
    exact ⟨u,hlt,rfl⟩
   exact h c hc
  refine zG hb f (u/b) _ (by rw[Nat.pow_succ] at hu;exact Nat.div_lt_of_lt_mul (by rw[Nat.mul_comm];exact hu)) λc hc=>?_
  rcases List.mem_cons.1 hc with rfl|hc
  .
   exact ⟨u%b,Nat.mod_lt u (by omega),rfl⟩
  exact h c hc
theorem JU {b:Nat} (Aa:2<=b) (hb:b<=16):∀(f u:Nat) (acc:List UInt8),u<b ^ f->0<f->mD b (iS b f u acc) 0=mD b acc u
 |0,_,_,_,h=>by omega
 |
  f+1,u,acc,hu,_=>by
  rw[iS];split
  .
   rename_i hlt;have:=xz (d:=u) (by omega)
   rw[mD,if_neg this.2.2.1,this.1];simp
  rename_i hge
  have hf:0<f:=by
   cases f with
   |zero=>simp at hu;omega
   |succ f=>omega
  have hm:u%b<b:=Nat.mod_lt u (by omega)
  have:=xz (d:=u%b) (by omega)
  rw[JU Aa hb f (u/b) _ (by rw[Nat.pow_succ] at hu;exact Nat.div_lt_of_lt_mul (by rw[Nat.mul_comm];exact hu)) hf,mD,if_neg this.2.2.1,this.1,Int.toNat_natCast]
  congr 1
  rw[Nat.mul_comm];exact Nat.div_add_mod u b
theorem Ie {b:Nat}:∀(f u:Nat) (acc:List UInt8),0<f\/acc≠[]->iS b f u acc≠[]
 |0,_,_,h=>by rcases h with h|h;omega;exact h
 |
  f+1,u,acc,_=>by
  rw[iS];split
  .
   simp
  exact Ie f _ _ (.inr (by simp))
theorem Lv {b:Nat} (hb:b<=16) {d:List UInt8} (hd:YG b d) (hne:d≠[]):cU b true false d 0=none :=
 zF b d true false 0 (λ_=>hne) λc hc=>by
  obtain ⟨x,hx,rfl⟩:=hd c hc;have:=xz (d:=x) (by omega)
  exact ⟨this.2.2.1,by rw[this.1];omega,by rw[this.1];omega⟩
theorem Qi {b u:Nat} (Aa:2<=b) (hb:b<=16) (hu:u<18446744073709551616):kA b (iS b 64 u [])=((u:Int),-1,false):=by
 have hp:u<b ^ 64:=Nat.lt_of_lt_of_le (show u<2 ^ 64 from hu) (Nat.pow_le_pow_left Aa 64)
 unfold kA
 rw[Lv hb (zG Aa 64 u [] hp (λc hc=>by simp at hc)) (Ie 64 u [] (.inl (by omega))),JU Aa hb 64 u [] hp (by omega)]
 show (((u%18446744073709551616:Nat):Int),(-1:Int),decide (18446744073709551616<=u))=_
 rw[Nat.mod_eq_of_lt hu,decide_eq_false (by omega)]
theorem Lw (d:List UInt8) (h:d≠[]):aL (48::120::d)=(2,0,16):=by
 have hl:2<(48::120::d:List UInt8).length:=by
  have:=List.length_pos_iff.2 h;simp;omega
 rw[Qh _ 120 (by rw[if_pos ⟨hl,rfl⟩];show tO 120=120;decide),if_pos rfl]
theorem Qj {u:Nat} (hu:u<18446744073709551616) (a:Nat):l7 ([48,120]++iS 16 64 u []) a=(IntKind.wrap .i64 (u:Int),(a:Int)+(([48,120]++iS 16 64 u []:List UInt8).length:Int),0,0):=by
 have hne:=Ie (b:=16) 64 u [] (.inl (by omega))
 have hp:aL ([48,120]++iS 16 64 u [])=(2,0,16):=Lw _ hne
 have hd:(([48,120]++iS 16 64 u []:List UInt8).take (([48,120]++iS 16 64 u []:List UInt8).length-0)).drop 2=iS 16 64 u []:=by
  rw[Nat.sub_zero,List.take_length];rfl
 unfold l7
 rw[hp]
 simp only[hd]
 rw[Qi (by omega) (by omega) hu,if_neg (by show ¬(0:Int) <= -1;omega),if_neg (by simp)]
def Behind (e:List UInt8):Prop:=e=[]\/∃q,e=32::q
def sg2 (X:List UInt8) (a:Nat):List (List UInt8)->Cut
 |[]=>([],0,4,a)
 |g::r=>if preB X g then (g,a+g.length,0,0) else sg2 X a r
theorem FP (T:List UInt8) (a:Nat):∀l,pO T a l=sg2 (T.drop a) a l
 |[]=>rfl
 |g::r=>by rw[pO,sg2,FP T a r]
theorem acG {S e:List UInt8} (hS:S∈YE) (he:Behind e) (a:Nat):sg2 (S++e) a vr=(S,(a:Int)+S.length,0,0)/\∃d r,S=d::r/\dV (aD d)=false/\¬(48<=aD d/\aD d<=57\/aD d=39)/\aD d≠34/\¬(aD d=32\/aD d=9)/\aD d≠59:=by
 simp only[YE,List.mem_cons,List.not_mem_nil,or_false] at hS
 rcases he with rfl|⟨q,rfl⟩
 all_goals rcases hS with rfl|rfl|rfl|rfl|rfl|rfl|rfl|rfl|rfl|rfl|rfl|rfl|rfl|rfl|rfl|rfl|rfl|rfl|rfl
 all_goals refine ⟨rfl,_,_,rfl,?_⟩
 all_goals decide
theorem Ly {u:Nat} (hu:u<18446744073709551616):∀c∈([48,120]++iS 16 64 u []:List UInt8),dM (aD c)=true:=by
 intro c hc
 have hp:u<16 ^ 64:=Nat.lt_of_lt_of_le (show u<2 ^ 64 from hu) (Nat.pow_le_pow_left (by omega) 64)
 simp only[List.cons_append,List.nil_append,List.mem_cons] at hc
 rcases hc with rfl|rfl|hc
 .
  decide
 .
  decide
 obtain ⟨d,d1,d2⟩:=zG (b:=16) (by omega) 64 u [] hp (λc hc=>by simp at hc) c hc
 rw[d2];exact (xz d1).2.1
def acH:List Piece->List UInt8
 |[]=>[]
 |[y]=>qc y
 |y::z::l=>qc y++32::acH (z::l)
end Go.Proofs.YtpaddkkfefgkfaaGreatDoor.lt

namespace Go.Proofs.YtpaddkkfefgkfaaGreatDoor.lt
open Go.Tv Go.Ev
set_option maxRecDepth 100000
def alike:List Piece->List Piece->Bool
 |[],[]=>true
 |x::a,y::b=>decide (x.1=y.1)&&decide (x.2.1=y.2.1)&&decide (x.2.2.1=y.2.2.1)&&alike a b
 |_,_=>false
def inN (n:Int):Prop := -9223372036854775808<=n/\n<9223372036854775808
def inS (s:List UInt8) (n:Int):Prop:=0<=n/\n<=s.length
end Go.Proofs.YtpaddkkfefgkfaaGreatDoor.lt

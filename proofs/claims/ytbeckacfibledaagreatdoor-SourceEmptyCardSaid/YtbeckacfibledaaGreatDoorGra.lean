/- The setting of the laws on sources: what is known, package-level variables. Names that have a meaning of their own: contracts out of what is known. Literals: contracts of the small functions. Literals: digits. Literals: the contracts of digits and parts. Literals: a text's literal. Literals: Scan. -/
import Derived.Test.YtbeckacfibledaaGreatDoorLyg
import Derived.Test.YtbeckacfibledaaGreatDoorGsa
set_option linter.unusedVariables false
set_option linter.unusedSimpArgs false

namespace Go.Proofs.YtbeckacfibledaaGreatDoor.lt
open Go.Tv Go.Ev
noncomputable section
def inl:FuncId->Bool:=λf => !(Nat.beq f 6||(Nat.beq f (qZ 40)||(Nat.beq f 106||Nat.beq f 38)))
def kn:fe:=rg.kT [(6,[])] rg.kS
theorem bS {f:FuncId}(h:inl f=true)(args:List Value):kn f args=none:=by
 unfold inl at h;simp only[aS,Bool.or_eq_false_iff]at h;obtain⟨h0,h1,h2,h3⟩:=h;have e:rg.EM f args [(6,[])]=false:=by
  unfold rg.EM;rw[h0];rfl
 unfold kn rg.kT;rw[e];show rg.kS f args=none;unfold rg.kS;rw[h1];show rg.kR f args=none;unfold rg.kR;rw[h2];show nm.knN f args=none;unfold nm.knN;rw[h3]
def SY (f:FuncId):List Tmp:=ah (Nat.beq f 123) [71,47] []
def Xg (gv:Nat->List AV):ij:={ P:=Tryz.prog,G:=7+1,gv:=gv,trs:=SY,ar:=λt=>Nat.beq t 178||Nat.beq t 190 }
def gO:ei:=⟨.none,.none,[]⟩
def K0:Up:=λ_=>none
section
variable (gv:Nat->List AV)
def c0 (β:Type):cI β:=sJ (Xg gv) K0 inl 200 β 20
theorem Av (β:Type):cX (Xg gv) (dR (Xg gv) kn) (c0 gv β):=lB (by intro id s g h;cases h) (λf h args=>bS h args) 200 20 β
end
def BW:List Value:=[.string ⟨#[36,36]⟩,.string ⟨#[60,60]⟩,.string ⟨#[62,62]⟩,.string ⟨#[43]⟩,.string ⟨#[45]⟩,.string ⟨#[42]⟩,.string ⟨#[47]⟩,.string ⟨#[37]⟩,.string ⟨#[38]⟩,.string ⟨#[124]⟩,.string ⟨#[94]⟩,.string ⟨#[126]⟩,.string ⟨#[40]⟩,.string ⟨#[41]⟩,.string ⟨#[91]⟩,.string ⟨#[93]⟩,.string ⟨#[44]⟩,.string ⟨#[58]⟩,.string ⟨#[36]⟩]
def BX (g:Nat):List AV:=ah (Nat.beq g 0) (BW.map Ow) (rg.gv g)
theorem Me {S:Wo}{s:List UInt8}{m:List Value}(h:LV S [.str s] m):m=[.string ⟨s.toArray⟩]:=by
 obtain⟨x,m',rfl,h1,h2⟩:=h.cons_inv;rw[h1.jw,h2.jx]
def gRP (args:List AV):Option (Bool×List fA) :=
 match args with
 |[.str s]=>some (true,[.val (.agg [.int .i64 (rg.pR s).1,.int .i64 (rg.pR s).2.1]),.val (.bool (rg.pR s).2.2)])
 |_=>none
def gNP (args:List AV):Option (Bool×List fA) :=
 match args with
 |[.str s]=>some (true,[.val (.int .i64 (nm.lC s).1),.val (.bool (nm.lC s).2)])
 |_=>none
theorem alr (gv:Nat->List AV):dc (Xg gv) (dR (Xg gv) kn) 106 gRP :=
 EU λargs rs hg=>by
  unfold gRP at hg;split at hg
  .rename_i s;simp only[aq,ay]at hg;obtain⟨_,rfl⟩:=hg;refine⟨_,_,.agg #[.int .i64 (rg.pR s).1,.int .i64 (rg.pR s).2.1],.bool (rg.pR s).2.2,rfl,rfl,rfl,λS=>?_,λS=>.bool _,λS bJ hl=>?_⟩
   .exact .agg [.int .i64 (rg.pR s).1,.int .i64 (rg.pR s).2.1] [.int .i64 (rg.pR s).1,.int .i64 (rg.pR s).2.1] rfl (LV.cons (.int _ _) (LV.cons (.int _ _) LV.nil)).2
   rw[Me hl];exact⟨rfl,rfl,rfl⟩
  cases hg
theorem als (gv:Nat->List AV):dc (Xg gv) (dR (Xg gv) kn) 38 gNP :=
 EU λargs rs hg=>by
  unfold gNP at hg;split at hg
  .rename_i s;simp only[aq,ay]at hg;obtain⟨_,rfl⟩:=hg;refine⟨_,_,.int .i64 (nm.lC s).1,.bool (nm.lC s).2,rfl,rfl,rfl,λS=>.int _ _,λS=>.bool _,λS bJ hl=>?_⟩;rw[Me hl];exact⟨rfl,rfl,rfl⟩
  cases hg
def R1:List wh:=[(106,[none],gRP),(38,[none],gNP)]
theorem adH (gv:Nat->List AV):iT (Xg gv) (dR (Xg gv) kn) R1:=.cons (alr gv) (.cons (als gv) .nil)
def r1 (gv:Nat->List AV)(β:Type):cI β:=sJ (Xg gv) (Uq R1) inl 200 β 20
theorem alu (gv:Nat->List AV)(β:Type):cX (Xg gv) (dR (Xg gv) kn) (r1 gv β):=lB (adH gv) (λf h args=>bS h args) 200 20 β
def WK:List (List UInt8):=["db","dw","dd","dq","resb","resw","resd","resq","equ","times","align","org","struc","endstruc","dcx","byte","word","dword","qword","oword","yword","short","near","strict","rel"].map λs=>s.toUTF8.data.toList
def oneT' (s:List UInt8):List (List UInt8)->Option AV
 |[]=>some (.bool false)
 |[w]=>ah (decide (s=w)) (some (.bool true)) (some (.bool false))
 |w::v::l=>ah (decide (s=w)) (ah (decide (s=w)) (some (.bool true)) (some (.bool false))) (oneT' s (v::l))
def vu (s:List UInt8):Bool:=(rg.pR s).2.2||((nm.lC s).2||decide (s∈WK))
theorem oneT'_eq (s:List UInt8):∀l,oneT' s l=some (.bool (decide (s∈l)))
 |[]=>rfl
 |[w]=>by
  unfold oneT';by_cases h:s=w
  .rw[aX h,aX (bt.2 (.inl h))]
  rw[aU h,aU (by simp[h])]
 |w::v::l=>by
  unfold oneT';rw[oneT'_eq s (v::l)];by_cases h:s=w
  .rw[aX h,aX (bt.2 (.inl h))]
  rw[aU h];show some (AV.bool (decide (s∈v::l)))=_;have:(s∈w::v::l)↔s∈v::l:=by simp[h]
  rw[fc.2 this]
set_option maxRecDepth 100000 in
theorem aaL (gv:Nat->List AV)(s:List UInt8):aT (Xg gv) (r1 gv AV) gO 20 66 [.str s] aG.empty (λv _=>some v) =
 ah (rg.pR s).2.2 (some (.bool true)) (ah (nm.lC s).2 (some (.bool true)) (oneT' s WK)):=by kernel_rfl
def Pa (args:List AV):Option (Bool×List fA) :=
 match args with
 |[.str s]=>some (true,[.val (.bool (vu s))])
 |_=>none
theorem agc (gv:Nat->List AV):dc (Xg gv) (dR (Xg gv) kn) 66 Pa :=
 cS (λargs=>bS rfl args) (alu gv) λargs rs hg=>by
  unfold Pa at hg;split at hg
  .rename_i s;simp only[aq,ay]at hg;obtain⟨_,rfl⟩:=hg;refine⟨[.bool (vu s)],gO,20,?_,rfl,rfl⟩;rw[aaL,oneT'_eq];unfold vu;cases (rg.pR s).2.2<;>cases (nm.lC s).2<;>rfl
  cases hg
end
end Go.Proofs.YtbeckacfibledaaGreatDoor.lt
namespace Go.Proofs.YtbeckacfibledaaGreatDoor.lt
open Go.Tv Go.Ev
set_option maxRecDepth 100000
noncomputable section
def mV (n:Int):Int:=if 48<=n/\n<=57 then n-48 else if 97<=n/\n<=102 then n-87 else if 65<=n/\n<=70 then n-55 else -1
def p5 (n:Int):Bool:=decide (48<=n/\n<=57\/97<=n/\n<=122\/65<=n/\n<=90\/n=95)
theorem akR (gv:Nat->List AV)(n:Int):aT (Xg gv) (c0 gv AV) gO 5 60 [.int .u8 n] aG.empty (λv _=>some v)=some (.bool (p5 n)):=by
 have h:aT (Xg gv) (c0 gv AV) gO 5 60 [.int .u8 n] aG.empty (λv _=>some v)=yJ n 48 57 (some (.bool true)) (yJ n 97 122 (some (.bool true)) (yJ n 65 90 (some (.bool true)) (some (.bool (bI n 95))))):=by kernel_rfl
 rw[h];simp only[EK,eF];unfold p5;repeat' split
 all_goals congr 2
 all_goals first|(symm;rw[aV];omega)|(rw[bO,eK,aV];omega)
theorem akS (gv:Nat->List AV)(n:Int):aT (Xg gv) (c0 gv AV) gO 5 101 [.int .u8 n] aG.empty (λv _=>some v)=some (.int .i64 (mV n)):=by
 have h:aT (Xg gv) (c0 gv AV) gO 5 101 [.int .u8 n] aG.empty (λv _=>some v) =
  yJ n 48 57 (some (.int .i64 (IntKind.wrap .i64 (IntKind.wrap .u8 (n-48))))) (yJ n 97 102 (some (.int .i64 (IntKind.wrap .i64 (IntKind.wrap .i64 (IntKind.wrap .u8 (n-97))+10)))) (yJ n 65 70 (some (.int .i64 (IntKind.wrap .i64 (IntKind.wrap .i64 (IntKind.wrap .u8 (n-65))+10)))) (some (.int .i64 (-1))))):=by kernel_rfl
 rw[h];simp only[EK];unfold mV;split
 .rw[u8_in (by omega) (by omega),i64_in (by omega) (by omega)]
 split
 .rw[u8_in (by omega) (by omega),i64_in (n:=n-97) (by omega) (by omega),i64_in (by omega) (by omega)];congr 2;omega
 split
 .rw[u8_in (by omega) (by omega),i64_in (n:=n-65) (by omega) (by omega),i64_in (by omega) (by omega)];congr 2;omega
 rfl
noncomputable def Wq (args:List AV):Option (Bool×List fA) :=
 match args with
 |[.int .u8 n]=>some (true,[.val (.bool (p5 n))])
 |_=>none
noncomputable def afV (args:List AV):Option (Bool×List fA) :=
 match args with
 |[.int .u8 n]=>some (true,[.val (.int .i64 (mV n))])
 |_=>none
theorem akT (gv:Nat->List AV):dc (Xg gv) (dR (Xg gv) kn) 60 Wq :=
 cS (λargs=>bS rfl args) (Av gv) λargs rs hg=>by
  unfold Wq at hg;split at hg
  .rename_i n;simp only[aq,ay]at hg;obtain⟨h1,rfl⟩:=hg;exact⟨[.bool (p5 n)],gO,5,akR gv n,rfl,rfl⟩
  cases hg
theorem akU (gv:Nat->List AV):dc (Xg gv) (dR (Xg gv) kn) 101 afV :=
 cS (λargs=>bS rfl args) (Av gv) λargs rs hg=>by
  unfold afV at hg;split at hg
  .rename_i n;simp only[aq,ay]at hg;obtain⟨h1,rfl⟩:=hg;exact⟨[.int .i64 (mV n)],gO,5,akS gv n,rfl,rfl⟩
  cases hg
noncomputable def Js (x y:Int):AV :=
 let w:=IntKind.wrap .u64
 let x0:Int:=w ↑(BitVec.toNat (BitVec.ofInt 64 x &&& BitVec.ofInt 64 4294967295))
 let y0:Int:=w ↑(BitVec.toNat (BitVec.ofInt 64 y &&& BitVec.ofInt 64 4294967295))
 let x1:=Int.fdiv x 4294967296
 let y1:=Int.fdiv y 4294967296
 let t:=w (w (x1*y0)+Int.fdiv (w (x0*y0)) 4294967296)
 .fH [.int .u64 (w (w (w (x1*y1)+Int.fdiv t 4294967296)+Int.fdiv (w (w ↑(BitVec.toNat (BitVec.ofInt 64 t &&& BitVec.ofInt 64 4294967295))+w (x0*y1))) 4294967296)),.int .u64 (w (x*y))]
theorem afW (gv:Nat->List AV)(x y:Int):aT (Xg gv) (c0 gv AV) gO 5 102 [.int .u64 x,.int .u64 y] aG.empty (λv _=>some v)=some (Js x y):=by kernel_rfl
theorem afX {a:Int}:Int.fdiv a 4294967296=a/4294967296:=iP _ (by omega)
theorem mul_eq {x y:Int}(h0:0<=x)(h1:x<18446744073709551616)(h2:0<=y)(h3:y<4294967296):Js x y = .fH [.int .u64 (x*y/18446744073709551616),.int .u64 (x*y%18446744073709551616)]:=by
 have low:∀{a:Int},0<=a->a<18446744073709551616->((BitVec.ofInt 64 a &&& BitVec.ofInt 64 4294967295).toNat:Int)=a%4294967296:=λ{a} ha hb=>aaq ha hb 32 (by omega)
 have hx0:IntKind.wrap .u64 ↑(BitVec.toNat (BitVec.ofInt 64 x &&& BitVec.ofInt 64 4294967295))=x%4294967296:=by rw[low h0 h1,u64_in (by omega) (by omega)]
 have hy0:IntKind.wrap .u64 ↑(BitVec.toNat (BitVec.ofInt 64 y &&& BitVec.ofInt 64 4294967295))=y:=by rw[low h2 (by omega),u64_in (by omega) (by omega)];omega
 have hy1:y/4294967296=0:=by omega
 unfold Js;simp only[hx0,hy0,afX,hy1,Int.mul_zero];obtain⟨a,ha⟩:∃a,x/4294967296*y=a:=⟨_,rfl⟩;obtain⟨b,hb⟩:∃b,x%4294967296*y=b:=⟨_,rfl⟩;have hxy:x*y=a*4294967296+b:=by
  rw[<-ha,<-hb];have:=Int.mul_ediv_add_emod x 4294967296
  calc x*y=(4294967296*(x/4294967296)+x%4294967296)*y:=by rw[this]
   _=_:=by rw[Int.add_mul,jI,oC 4294967296]
 have ha0:0<=a:=by rw[<-ha];exact mN (by omega) h2
 have hb0:0<=b:=by rw[<-hb];exact mN (by omega) h2
 have ha1:a<=4294967295*4294967295:=by
  rw[<-ha];exact Int.le_trans (gM (show x/4294967296<=4294967295 by omega) h2) (dA (show y<=4294967295 by omega) (by omega))
 have yo:b<=4294967295*4294967295:=by
  rw[<-hb];exact Int.le_trans (gM (show x%4294967296<=4294967295 by omega) h2) (dA (show y<=4294967295 by omega) (by omega))
 rw[ha,hb,hxy];have w1:IntKind.wrap .u64 b=b:=u64_in hb0 (by omega);have w2:IntKind.wrap .u64 a=a:=u64_in ha0 (by omega);have w3:IntKind.wrap .u64 (a+b/4294967296)=a+b/4294967296:=u64_in (by omega) (by omega);have w4:IntKind.wrap .u64 0=0:=u64_in (by omega) (by omega);rw[w1,w2,w3,low (by omega) (by omega),w4,Int.zero_add,Int.add_zero];have w5:IntKind.wrap .u64 ((a+b/4294967296)%4294967296)=(a+b/4294967296)%4294967296:=u64_in (by omega) (by omega);have w6:IntKind.wrap .u64 ((a+b/4294967296)/4294967296)=(a+b/4294967296)/4294967296:=u64_in (by omega) (by omega)
 rw[w5,w5,w6];have w7:(a+b/4294967296)%4294967296/4294967296=0:=by omega
 rw[w7,Int.add_zero,w6,QZ];have e1:(a+b/4294967296)/4294967296=(a*4294967296+b)/18446744073709551616:=by omega
 rw[e1]
noncomputable def afY (args:List AV):Option (Bool×List fA) :=
 match args with
 |[.int .u64 x,.int .u64 y]=>some (!bC x 0&&bC x 18446744073709551616 && !bC y 0&&bC y 4294967296,[.val (.int .u64 (x*y/18446744073709551616)),.val (.int .u64 (x*y%18446744073709551616))])
 |_=>none
theorem akV (gv:Nat->List AV):dc (Xg gv) (dR (Xg gv) kn) 102 afY :=
 cS (λargs=>bS rfl args) (Av gv) λargs rs hg=>by
  unfold afY at hg;split at hg
  .rename_i x y;simp only[aq,ay,ak,cD,aS,bH,aV]at hg;obtain⟨h1,rfl⟩:=hg;exact⟨[.int .u64 (x*y/18446744073709551616),.int .u64 (x*y%18446744073709551616)],gO,5,(afW gv x y).trans (cr some (mul_eq (x:=x) (y:=y) (by omega) (by omega) (by omega) (by omega))),rfl,rfl⟩
  cases hg
end
end Go.Proofs.YtbeckacfibledaaGreatDoor.lt
namespace Go.Proofs.YtbeckacfibledaaGreatDoor.lt
open Go.Tv Go.Ev
set_option maxRecDepth 100000
noncomputable def L1:List wh:=[(60,[none],Wq),(101,[none],afV),(102,[none,none],afY)]
theorem adA (gv:Nat->List AV):iT (Xg gv) (dR (Xg gv) kn) L1:=.cons (akT gv) (.cons (akU gv) (.cons (akV gv) .nil))
noncomputable def c1 (gv:Nat->List AV)(β:Type):cI β:=sJ (Xg gv) (Uq L1) inl 200 β 20
theorem Hp (gv:Nat->List AV)(β:Type):cX (Xg gv) (dR (Xg gv) kn) (c1 gv β):=lB (adA gv) (λf h args=>bS h args) 200 20 β
noncomputable def anD:ei:=⟨.none,.node (some [0,1,7,8,9]) .none .none,[]⟩
noncomputable def stD (d:List UInt8)(b n i:Int)(NJ:Bool):fJ:=kr 83 [(0,.str d),(1,.int .i64 b),(7,.int .u64 n),(8,.int .i64 i),(9,.bool NJ)]
noncomputable def jD (gv:Nat->List AV)(d:List UInt8)(b:Int)(r m:Nat)(n i:Int)(NJ:Bool):Option AV:=aky (Xg gv) (c1 gv AV) anD r 62 [true] 0 (λv _=>some v) m (stD d b n i NJ) aG.empty
def eW (n i:Int)(NJ:Bool):Option AV:=some (.fH [.int .u64 n,.int .i64 i,.bool NJ])
noncomputable def L8 (b n v:Int):Int:=Int.ofNat ((Int.toNat (n*IntKind.wrap .u64 b%18446744073709551616)+Int.toNat (IntKind.wrap .u64 v)+0)%Extern.MathBitsCarry.m64)
noncomputable def Ta (b n v:Int):Int:=Int.ofNat ((Int.toNat (n*IntKind.wrap .u64 b%18446744073709551616)+Int.toNat (IntKind.wrap .u64 v)+0)/Extern.MathBitsCarry.m64)
noncomputable def EP (d:List UInt8)(b n i:Int)(NJ:Bool)(go:Int->Int->Bool->Option AV):Option AV :=
 ah (bI i ↑d.length)
  (ah (bI i 0) (eW 0 0 false) (eW n (-1) NJ))
  (Option.rec (motive:=λ_=>Option AV) none (λc=>ah (bI (cY c) 95)
   (ah (bI i 0) (eW 0 i false) (ah (bI i (IntKind.wrap .i64 (↑d.length-1))) (eW 0 i false)
    (Option.rec (motive:=λ_=>Option AV) none (λc=>ah (bI (cY c) 95) (eW 0 i false) (go n (IntKind.wrap .i64 (i+1)) NJ)) (dQ d (IntKind.wrap .i64 (i-1))))))
   (Option.rec (motive:=λ_=>Option AV) none (λc=>ah (bC (mV (cY c)) 0) (eW 0 i false) (ah (!bC (mV (cY c)) b) (eW 0 i false)
    (ah (!bC n 0&&bC n 18446744073709551616 && !bC (IntKind.wrap .u64 b) 0&&bC (IntKind.wrap .u64 b) 4294967296)
     (ah NJ (go (L8 b n (mV (cY c))) (IntKind.wrap .i64 (i+1)) true)
      (ah (!bI (n*IntKind.wrap .u64 b/18446744073709551616) 0) (go (L8 b n (mV (cY c))) (IntKind.wrap .i64 (i+1)) true)
       (go (L8 b n (mV (cY c))) (IntKind.wrap .i64 (i+1)) (!bI (Ta b n (mV (cY c))) 0))))
     none))) (dQ d i))) (dQ d i))
theorem CF (gv:Nat->List AV)(d:List UInt8)(b:Int)(r m:Nat)(n i:Int)(NJ:Bool):jD gv d b r (m+1) n i NJ=EP d b n i NJ (jD gv d b r m):=by kernel_rfl
theorem afZ (gv:Nat->List AV)(d:List UInt8)(b:Int)(m:Nat):aT (Xg gv) (c1 gv AV) anD m 62 [.str d,.int .i64 b] aG.empty (λv _=>some v)=EP d b 0 0 false (jD gv d b m m):=by kernel_rfl
def kC (b:Int):Bool->Bool->List UInt8->Nat->Option Nat
 |first,_,[],_=>if first then some 0 else none
 |first,prev,c::r,i=>if cY c=95 then (if first=true\/r=[]\/prev=true then some i else kC b false true r (i+1)) else if mV (cY c)<0\/b<=mV (cY c) then some i else kC b false false r (i+1)
def xl (b:Nat):List UInt8->Nat->Nat
 |[],N=>N
 |c::r,N=>if cY c=95 then xl b r N else xl b r (N*b+(mV (cY c)).toNat)
def th (b:Nat)(d:List UInt8):Int×Int×Bool :=
 match kC b true false d 0 with
 |some i=>(0,(i:Int),false)
 |none=>(((xl b d 0%18446744073709551616:Nat):Int),-1,decide (18446744073709551616<=xl b d 0))
theorem L9 {b N v:Nat}(hb:b<=16)(hv:v<16):L8 b ((N%18446744073709551616:Nat):Int) v=(((N*b+v)%18446744073709551616:Nat):Int)/\((N:Int)<18446744073709551616->(((N%18446744073709551616:Nat):Int)*IntKind.wrap .u64 b/18446744073709551616=0↔N*b<18446744073709551616)/\(N*b<18446744073709551616->(Ta b ((N%18446744073709551616:Nat):Int) v=0↔N*b+v<18446744073709551616))):=by
 have wb:IntKind.wrap .u64 (b:Int)=b:=u64_in (by omega) (by omega);have wv:IntKind.wrap .u64 (v:Int)=v:=u64_in (by omega) (by omega);have e1:((N%18446744073709551616:Nat):Int)*(b:Int)%18446744073709551616=((N%18446744073709551616*b%18446744073709551616:Nat):Int):=by
  rw[Int.natCast_emod (N%18446744073709551616*b),jK];rfl
 have hm:Extern.MathBitsCarry.m64=18446744073709551616:=by kernel_rfl
 unfold L8 Ta;rw[wb,wv,e1,hm];simp only[bg,oE];refine⟨?_,λhN=>?_⟩
 .show ((_:Nat):Int)=_;congr 1
  rw[Nat.add_mod (N*b),Nat.mul_mod N b,Nat.add_mod (N%18446744073709551616*b%18446744073709551616),Nat.mod_mod,Nat.mul_mod (N%18446744073709551616) b,Nat.mod_mod]
 have hN':N%18446744073709551616=N:=ig (by omega);rw[hN'];generalize hP:N*b=P;refine⟨?_,λhl=>?_⟩
 .have:((N:Int)*(b:Int))=(P:Int):=by rw[<-hP,jK]
  rw[this];omega
 show ((((P%18446744073709551616+v)/18446744073709551616:Nat)):Int)=0↔_;omega
theorem Wr (n:Int):mV n<16:=by unfold mV;repeat' split<;>omega
theorem akW (gv:Nat->List AV){b:Nat}(Kk:2<=b)(hb:b<=16)(d:List UInt8)(hd:d.length<2000000)(r:Nat):∀(rest pre:List UInt8) (m:Nat) (N:Nat) (prev:Bool),d=pre++rest->rest.length<m->pre≠[]->(prev=true↔∃q,pre=q++[95]) ->
 jD gv d b r m ((N%18446744073709551616:Nat):Int) pre.length (decide (18446744073709551616<=N)) =
  match kC b false prev rest pre.length with
  |some i=>eW 0 i false
  |none=>eW ((xl b rest N%18446744073709551616:Nat):Int) (-1) (decide (18446744073709551616<=xl b rest N)):=by
 intro rest;induction rest with
 |nil =>
  intro pre m N prev he hm hne Ws;obtain⟨m,rfl⟩:∃m',m=m'+1:=⟨m-1,by simp at hm;omega⟩;rw[CF];unfold EP;have hl:d.length=pre.length:=by rw[he];simp
  have hp:0<pre.length:=dJ.2 hne;rw[Gg (a:=(pre.length:Int)) (b:=(d.length:Int)) (by omega),x9 (a:=(pre.length:Int)) (b:=0) (by omega)];rfl
 |cons c rest ih =>
  intro pre m N prev he hm hne Ws;obtain⟨m,rfl⟩:∃m',m=m'+1:=⟨m-1,by simp at hm;omega⟩;have hl:d.length=pre.length+(rest.length+1):=by rw[he];simp
  have hp:0<pre.length:=dJ.2 hne;have hg:dQ d (pre.length:Int)=some c:=by rw[he];exact kK pre rest c
  have hnext:IntKind.wrap .i64 ((pre.length:Int)+1)=((pre++[c]).length:Int):=by rw[i64_in (by omega) (by omega)];simp
  have he':d=(pre++[c])++rest:=by rw[he];simp
  have hm':rest.length<m:=by simp at hm;omega
  rw[CF];unfold EP;rw[x9 (a:=(pre.length:Int)) (b:=(d.length:Int)) (by omega),x9 (a:=(pre.length:Int)) (b:=0) (by omega),hg,hnext];show ah (bI (cY c) 95) _ _=_;by_cases hc:cY c=95
  .rw[Gg hc];show ah (bI (pre.length:Int) (IntKind.wrap .i64 (↑d.length-1))) _ _=_;rw[i64_in (by omega) (by omega)];have hw:kC b false prev (c::rest) pre.length=if rest=[]\/prev=true then some pre.length else kC b false true rest (pre.length+1):=by
    rw[kC,ag hc];simp
   rw[hw];by_cases hr:rest=[]
   .rw[Gg (by rw[hl,hr];simp),ag (.inl hr)]
   have hrl:0<rest.length:=dJ.2 hr;rw[x9 (by omega)];obtain⟨q,x,hq⟩:∃q x,pre=q++[x]:=⟨pre.dropLast,pre.getLast hne,(List.dropLast_concat_getLast hne).symm⟩;have hgx:dQ d (IntKind.wrap .i64 ((pre.length:Int)-1))=some x:=by
    rw[i64_in (by omega) (by omega)];have:(pre.length:Int)-1=(q.length:Int):=by rw[hq];simp
    rw[this,he,hq,bM];exact kK q (c::rest) x
   rw[hgx];show ah (bI (cY x) 95) _ _=_;by_cases hx:cY x=95
   .have:prev=true:=Ws.2 ⟨q,by rw[hq];congr 2;exact Jo (a:=x) (b:=95) hx⟩;rw[Gg hx,ag (.inr this)]
   have hpf:prev=false:=by
    cases hpv:prev with
    |false=>rfl
    |true =>
     obtain⟨q',hq'⟩:=Ws.1 hpv;rw[hq]at hq';have:=(nV hq' rfl).2;simp at this;exact absurd (by rw[this];rfl) hx
   rw[x9 hx,aa (by simp[hr,hpf])];have hcc:c=95:=Jo (a:=c) (b:=95) hc;have:=ih (pre++[c]) m N true he' hm' (by simp) ⟨λ_=>⟨pre,by rw[hcc]⟩,λ_=>rfl⟩;rw[aA,ek]at this;show jD gv d b r m _ ((pre++[c]).length:Int) _=_;rw[aA,ek,this];have hv:xl b (c::rest) N=xl b rest N:=by rw[xl,ag hc]
   rw[hv]
  rw[x9 hc];show ah (bC (mV (cY c)) 0) _ _=_;have hw:kC b false prev (c::rest) pre.length=if mV (cY c)<0\/(b:Int)<=mV (cY c) then some pre.length else kC b false false rest (pre.length+1):=by
   rw[kC,aa hc]
  rw[hw];by_cases h0:mV (cY c)<0
  .rw[pZ h0,ag (.inl h0)]
  rw[fL (by omega)];show ah (!bC (mV (cY c)) b) _ _=_;by_cases h1:(b:Int)<=mV (cY c)
  .rw[fL h1,ag (.inr h1)];rfl
  rw[pZ (by omega),aa (by omega)];have wb:IntKind.wrap .u64 (b:Int)=b:=u64_in (by omega) (by omega);have hcond:(!bC ((N%18446744073709551616:Nat):Int) 0&&bC ((N%18446744073709551616:Nat):Int) 18446744073709551616 && !bC (IntKind.wrap .u64 (b:Int)) 0&&bC (IntKind.wrap .u64 (b:Int)) 4294967296)=true:=by
   rw[wb,fL (by omega),pZ (by omega),fL (by omega),pZ (by omega)];rfl
  obtain⟨v,hv⟩:∃v:Nat,mV (cY c)=v:=⟨(mV (cY c)).toNat,by omega⟩;have af0:v<16:=by have:=Wr (cY c);omega
  obtain⟨s1,s2⟩:=L9 (N:=N) hb af0;have hval:xl b (c::rest) N=xl b rest (N*b+v):=by rw[xl,aa hc,hv];rfl
  have goal:∀NJ,NJ=decide (18446744073709551616<=N*b+v)->jD gv d b r m (L8 b ((N%18446744073709551616:Nat):Int) (mV (cY c))) ((pre++[c]).length:Int) NJ =
   match kC b false false rest (pre.length+1) with
   |some i=>eW 0 i false
   |none=>eW ((xl b (c::rest) N%18446744073709551616:Nat):Int) (-1) (decide (18446744073709551616<=xl b (c::rest) N)):=λNJ NY=>by
   have hno:¬ ∃q,pre++[c]=q++[95]:=λ⟨q,hq⟩=>by
    have:=(nV hq rfl).2;simp at this;exact hc (by rw[this];rfl)
   have:=ih (pre++[c]) m (N*b+v) false he' hm' (by simp) ⟨λh=>(by cases h),λh=>absurd h hno⟩;rw[hv,s1,NY,this,hval];simp
  show ah (_&&_&&_&&_) _ _=_;rw[hcond];show ah (decide (18446744073709551616<=N)) _ _=_;by_cases hN:18446744073709551616<=N
  .rw[aX hN];have:N<=N*b:=Nat.le_mul_of_pos_right N (by omega);exact goal true (by rw[aX];omega)
  rw[aU hN];obtain⟨t1,t2⟩:=s2 (by omega);show ah (!bI _ 0) _ _=_;by_cases hP:N*b<18446744073709551616
  .rw[Gg (t1.2 hP)];refine goal _ ?_;rw[hv];by_cases hS:N*b+v<18446744073709551616
   .rw[Gg ((t2 hP).2 hS),aU (by omega)];rfl
   rw[x9 (λh=>hS ((t2 hP).1 h)),aX (by omega)];rfl
  rw[x9 (λh=>hP (t1.1 h))];exact goal true (by rw[aX];omega)
theorem ao8 (gv:Nat->List AV){b:Nat}(Kk:2<=b)(hb:b<=16)(d:List UInt8)(hd:d.length<2000000) :
 aT (Xg gv) (c1 gv AV) anD (d.length+1) 62 [.str d,.int .i64 b] aG.empty (λv _=>some v)=eW (th b d).1 (th b d).2.1 (th b d).2.2:=by
 rw[afZ];cases d with
 |nil=>rfl
 |cons c rest =>
  have hl:((c::rest).length:Int)=rest.length+1:=by simp
  unfold EP;rw[x9 (a:=0) (b:=((c::rest).length:Int)) (by omega),show dQ (c::rest) 0=some c from rfl];show ah (bI (cY c) 95) _ _=_;by_cases hc:cY c=95
  .have hw:kC b true false (c::rest) 0=some 0:=by rw[kC,ag hc,ag (.inl rfl)]
   rw[Gg hc];unfold th;rw[hw];rfl
  rw[x9 hc];show ah (bC (mV (cY c)) 0) _ _=_;have hw:kC b true false (c::rest) 0=if mV (cY c)<0\/(b:Int)<=mV (cY c) then some 0 else kC b false false rest 1:=by
   rw[kC,aa hc]
  by_cases h0:mV (cY c)<0
  .rw[pZ h0];unfold th;rw[hw,ag (.inl h0)];rfl
  rw[fL (by omega)];show ah (!bC (mV (cY c)) b) _ _=_;by_cases h1:(b:Int)<=mV (cY c)
  .rw[fL h1];unfold th;rw[hw,ag (.inr h1)];rfl
  rw[pZ (by omega)];have wb:IntKind.wrap .u64 (b:Int)=b:=u64_in (by omega) (by omega);have hcond:(!bC 0 0&&bC 0 18446744073709551616 && !bC (IntKind.wrap .u64 (b:Int)) 0&&bC (IntKind.wrap .u64 (b:Int)) 4294967296)=true:=by
   rw[wb,fL (a:=0) (by omega),pZ (by omega),fL (by omega),pZ (by omega)];rfl
  obtain⟨v,hv⟩:∃v:Nat,mV (cY c)=v:=⟨(mV (cY c)).toNat,by omega⟩;have af0:v<16:=by have:=Wr (cY c);omega
  obtain⟨s1,s2⟩:=L9 (N:=0) hb af0;show ah (_&&_&&_&&_) (ah (!bI (0*IntKind.wrap .u64 (b:Int)/18446744073709551616) 0) _ (jD gv (c::rest) b _ _ (L8 b 0 (mV (cY c))) (IntKind.wrap .i64 (0+1)) (!bI (Ta b 0 (mV (cY c))) 0))) none=_;rw[hcond,Int.zero_mul];show jD gv (c::rest) b _ _ (L8 b 0 (mV (cY c))) (IntKind.wrap .i64 (0+1)) (!bI (Ta b 0 (mV (cY c))) 0)=_;have e0:((0%18446744073709551616:Nat):Int)=0:=by simp
  rw[e0,oH,bX]at s1;rw[e0,oH,bX]at s2;have ao9:Ta b 0 v=0:=((s2 (by omega)).2 (by omega)).2 (by omega);rw[hv,s1,ao9];have hno:¬ ∃q:List UInt8,[c]=q++[95]:=λ⟨q,hq⟩=>by
   have:=(nV (s₁:=[]) hq rfl).2;simp at this;exact hc (by rw[this];rfl)
  have:=akW gv Kk hb (c::rest) hd ((c::rest).length+1) rest [c] ((c::rest).length+1) v false rfl (by simp;omega) (by simp) ⟨λh=>(by cases h),λh=>absurd h hno⟩;have e1:IntKind.wrap .i64 (0+1)=(([c]:List UInt8).length:Int):=by rw[i64_in (by omega) (by omega)];rfl
  have e2:(!bI 0 0)=decide (18446744073709551616<=v):=by rw[aU (by omega)];rfl
  rw[e1,e2,this];unfold th;rw[hw,aa (by omega)];have hval:xl b (c::rest) 0=xl b rest v:=by rw[xl,aa hc,hv];simp
  rw[hval];show (match kC (b:Int) false false rest 1 with|some i=>_|none=>_)=_;cases kC (b:Int) false false rest 1<;>rfl
noncomputable def Jt (args:List AV):Option (Bool×List fA) :=
 match args with
 |[.str d,.int .i64 b]=>some (!bC b 2 && !bC 16 b&&Nat.ble d.length 1999999,[.val (.int .u64 (th b.toNat d).1),.val (.int .i64 (th b.toNat d).2.1),.val (.bool (th b.toNat d).2.2)])
 |_=>none
theorem akX (gv:Nat->List AV):dc (Xg gv) (dR (Xg gv) kn) 62 Jt :=
 cS (λargs=>bS rfl args) (Hp gv) λargs rs hg=>by
  unfold Jt at hg;split at hg
  .rename_i d b;simp only[aq,ay,ak,cD,aS,bH,bu]at hg;obtain⟨⟨⟨h1,h2⟩,h3⟩,rfl⟩:=hg;obtain⟨n,rfl⟩:∃n:Nat,b=n:=⟨b.toNat,by omega⟩;rw[bg];exact⟨[.int .u64 (th n d).1,.int .i64 (th n d).2.1,.bool (th n d).2.2],anD,d.length+1,ao8 gv (by omega) (by omega) d (by omega),rfl,rfl⟩
  cases hg
def ER (c:UInt8):Int:=IntKind.wrap .u8 ↑(BitVec.toNat (BitVec.ofInt 8 (cY c) ||| BitVec.ofInt 8 32))
def dz (w:List UInt8):Nat×Nat×Nat :=
 let second:Int:=if 2<w.length/\w.head? = some 48 then ER (w.getD 1 0) else 0
 if second=120 then (2,0,16) else if ER (w.getD (w.length-1) 0)=104 then (0,1,16) else if second=98 then (2,0,2) else if second=111 then (2,0,8) else (0,0,10)
noncomputable def jh (a b c:Int):Option AV:=some (.fH [.int .i64 a,.int .i64 b,.int .i64 c])
noncomputable def Ma (w:List UInt8)(k:UInt8->Option AV):Option AV:=Option.rec (motive:=λ_=>Option AV) none k (dQ w (IntKind.wrap .i64 (↑w.length-1)))
noncomputable def noP (w:List UInt8):Option AV:=Ma w λc=>ah (bI (ER c) 104) (jh 0 (IntKind.wrap .i64 (↑w.length-1)) 16) (jh 0 ↑w.length 10)
theorem akY (gv:Nat->List AV)(w:List UInt8):aT (Xg gv) (c1 gv AV) gO 5 61 [.str w] aG.empty (λv _=>some v) =
 ah (bC 2 ↑w.length) (Option.rec (motive:=λ_=>Option AV) none (λc=>ah (bI (cY c) 48)
  (Option.rec (motive:=λ_=>Option AV) none (λc2=>Ma w λc=>ah (bI (ER c2) 120) (jh 2 ↑w.length 16) (ah (bI (ER c) 104) (jh 0 (IntKind.wrap .i64 (↑w.length-1)) 16)
   (ah (bI (ER c2) 98) (jh 2 ↑w.length 2) (ah (bI (ER c2) 111) (jh 2 ↑w.length 8) (jh 0 ↑w.length 10))))) (dQ w 1))
  (noP w)) (dQ w 0)) (noP w):=by kernel_rfl
theorem Q3 {w:List UInt8}(h:w≠[])(hl:w.length<2000000)(k:UInt8->Option AV):Ma w k=k (w.getD (w.length-1) 0):=by
 have hp:0<w.length:=dJ.2 h;unfold Ma;rw[i64_in (by omega) (by omega)];have:(w.length:Int)-1=((w.length-1:Nat):Int):=by omega
 rw[this,ux,fS,aP (by omega)];rfl
theorem apa (gv:Nat->List AV){w:List UInt8}(h:w≠[])(hl:w.length<2000000):aT (Xg gv) (c1 gv AV) gO 5 61 [.str w] aG.empty (λv _=>some v) =
 jh (dz w).1 ((w.length-(dz w).2.1:Nat):Int) (dz w).2.2:=by
 have hp:0<w.length:=dJ.2 h;have e1:IntKind.wrap .i64 (↑w.length-1)=((w.length-1:Nat):Int):=by rw[i64_in (by omega) (by omega)];omega
 have hno:∀second:Int,second=0->noP w=jh (if second=120 then (2,0,16) else if ER (w.getD (w.length-1) 0)=104 then (0,1,16) else if second=98 then (2,0,2) else if second=111 then (2,0,8) else (0,0,10):Nat×Nat×Nat).1 ((w.length-(if second=120 then (2,0,16) else if ER (w.getD (w.length-1) 0)=104 then (0,1,16) else if second=98 then (2,0,2) else if second=111 then (2,0,8) else (0,0,10):Nat×Nat×Nat).2.1:Nat):Int) (if second=120 then (2,0,16) else if ER (w.getD (w.length-1) 0)=104 then (0,1,16) else if second=98 then (2,0,2) else if second=111 then (2,0,8) else (0,0,10):Nat×Nat×Nat).2.2:=λsecond h0=>by
  subst h0;unfold noP;rw[Q3 h hl,cq,e1];split
  .rfl
  rfl
 rw[akY];unfold dz;by_cases hlen:2<w.length
 .rw[pZ (by omega)]
  match w,h,hlen,hno,hl,e1 with
  |a::b::r,h,hlen,hno,hl,e1 =>
   rw[show dQ (a::b::r) 0=some a from rfl,show dQ (a::b::r) 1=some b from rfl];show ah (bI (cY a) 48) _ _=_;by_cases ha:cY a=48
   .have ha':a=48:=Jo (a:=a) (b:=48) ha;rw[Gg ha];show Ma (a::b::r) _=_;rw[Q3 h hl];simp only[cq,e1];rw[ag (show 2<(a::b::r).length/\(a::b::r).head? = some 48 from ⟨hlen,by rw[ha'];rfl⟩)];show _=jh (if ER b=120 then _ else _:Nat×Nat×Nat).1 _ _;have hb:(a::b::r).getD 1 0=b:=rfl;simp only[hb];repeat' split
    all_goals rfl
   rw[x9 ha];have hn:¬(2<(a::b::r).length/\(a::b::r).head? = some 48):=λ⟨_,h⟩=>by
    simp at h;exact ha (by rw[h];rfl)
   exact hno _ (aa hn)
 rw[fL (by omega)];exact hno _ (aa (by omega))
noncomputable def OZ (args:List AV):Option (Bool×List fA) :=
 match args with
 |[.str w]=>some (!w.isEmpty&&Nat.ble w.length 1999999,[.val (.int .i64 (dz w).1),.val (.int .i64 ((w.length-(dz w).2.1:Nat):Int)),.val (.int .i64 (dz w).2.2)])
 |_=>none
theorem akZ (gv:Nat->List AV):dc (Xg gv) (dR (Xg gv) kn) 61 OZ :=
 cS (λargs=>bS rfl args) (Hp gv) λargs rs hg=>by
  unfold OZ at hg;split at hg
  .rename_i w;simp only[aq,ay,ak,aS,List.isEmpty_eq_false_iff,bu]at hg;obtain⟨⟨h1,h2⟩,rfl⟩:=hg;exact⟨[.int .i64 (dz w).1,.int .i64 ((w.length-(dz w).2.1:Nat):Int),.int .i64 (dz w).2.2],gO,5,apa gv h1 (by omega),rfl,rfl⟩
  cases hg
def pT:List Bool:=[true,true,false,true,false]
noncomputable def anT:ei:=⟨gD [0,1,6,7,8] pT,.none,[]⟩
noncomputable def stT (s:List UInt8)(at' n i:Int):fJ:=kr 67 [(0,.str s),(1,.int .i64 at'),(6,.ptr 0 0),(7,.int .u64 n),(8,.int .i64 i)]
noncomputable def mT:aG:=nA [.cells 43 [.int .i64 0,.int .i64 0]]
noncomputable def jT (gv:Nat->List AV)(s:List UInt8)(at':Int)(r m:Nat)(n i:Int):Option AV:=iF (Xg gv) (c0 gv AV) anT r 59 pT (λv _=>some v) m (stT s at' n i) mT
def sM (n e f a:Int):Option AV:=some (.fH [.int .i64 n,.int .i64 e,.agg [.int .i64 f,.int .i64 a]])
noncomputable def Tb (at' i:Int):Int:=IntKind.wrap .i64 (IntKind.wrap .i64 (i-at')-1)
noncomputable def orT (n c k:Int):Int:=IntKind.wrap .u64 ↑(BitVec.toNat (BitVec.ofInt 64 n ||| BitVec.ofInt 64 (IntKind.wrap .u64 (IntKind.wrap .u64 c*2 ^ (min (Int.toNat (IntKind.wrap .i64 (8*k))) 64)))))
noncomputable def yL (at' n i:Int)(c:UInt8)(go:Int->Int->Option AV):Option AV :=
 ah (bI (cY c) 39) (sM (IntKind.wrap .i64 n) (IntKind.wrap .i64 (i+1)) 0 0)
  (ah (bC (cY c) 32) (sM 0 0 4 i) (ah (bC 126 (cY c)) (sM 0 0 4 i) (ah (bI (Tb at' i) 8) (sM 0 0 3 i)
   (ah (bC (IntKind.wrap .i64 (8*Tb at' i)) 0) none (go (orT n (cY c) (Tb at' i)) (IntKind.wrap .i64 (i+1)))))))
noncomputable def Wt (s:List UInt8)(at' n i:Int)(go:Int->Int->Option AV):Option AV :=
 ah (bC i ↑s.length)
  (Option.rec (motive:=λ_=>Option AV) none (λc=>ah (bI (cY c) 39) (ah (bI (Tb at' i) 0) (sM 0 0 4 i) (yL at' n i c go)) (yL at' n i c go)) (dQ s i))
  (sM 0 0 4 ↑s.length)
theorem stepT' (gv:Nat->List AV)(s:List UInt8)(at':Int)(r m:Nat)(n i:Int):jT gv s at' r (m+1) n i=Wt s at' n i (jT gv s at' r m):=by kernel_rfl
theorem enterT' (gv:Nat->List AV)(s:List UInt8)(at':Int)(m:Nat):aT (Xg gv) (c0 gv AV) anT m 59 [.str s,.int .i64 at'] aG.empty (λv _=>some v)=jT gv s at' m m 0 (IntKind.wrap .i64 (at'+1)):=by kernel_rfl
def p6 (len:Nat):List UInt8->Nat->Nat->Nat->Int×Int×Int×Int
 |[],_,_,_=>(0,0,4,len)
 |c::r,k,N,i =>
  if cY c=39 then (if k=0 then (0,0,4,i) else (IntKind.wrap .i64 N,i+1,0,0))
  else if cY c<32\/126<cY c then (0,0,4,i) else if k=8 then (0,0,3,i) else p6 len r (k+1) (N+c.toNat*256 ^ k) (i+1)
theorem af1 {N k:Nat}{c:UInt8}(hk:k<8)(hN:N<256 ^ k):orT N (cY c) k=((N+c.toNat*256 ^ k:Nat):Int)/\N+c.toNat*256 ^ k<256 ^ (k+1):=by
 have hc:=c.toNat_lt;have hlt:N+c.toNat*256 ^ k<256 ^ (k+1):=by
  rw[Nat.pow_succ,Nat.mul_comm (256 ^ k) 256];have:c.toNat*256 ^ k<=255*256 ^ k:=dV _ (by omega);omega
 have h64:256 ^ (k+1)<=2 ^ 64:=by
  have:256 ^ (k+1)<=256 ^ 8:=Nat.pow_le_pow_right (by omega) (by omega);exact this
 have af2:(2:Nat) ^ (8*k)=256 ^ k:=by rw[Nat.pow_mul]
 have hpos:0<256 ^ k:=Nat.pow_pos (by omega);have hle:c.toNat*256 ^ k<2 ^ 64:=by omega
 have apb:N<2 ^ 64:=by omega
 refine⟨?_,hlt⟩;unfold orT;rw[i64_in (by omega) (by omega)];have e1:min (Int.toNat (8*(k:Int))) 64=8*k:=by omega
 rw[e1];have e2:IntKind.wrap .u64 (cY c)=(c.toNat:Int):=u64_in (afA c) (by have:=afB c;omega);rw[e2];have e3:(c.toNat:Int)*2 ^ (8*k)=((c.toNat*256 ^ k:Nat):Int):=by
  rw[jK,<-af2,Int.natCast_pow];rfl
 rw[e3,u64_in (n:=((c.toNat*256 ^ k:Nat):Int)) (by omega) (by omega),BitVec.toNat_or,iX,iX,jX,jX,ig apb,ig hle];have e4:N ||| c.toNat*256 ^ k=N+c.toNat*256 ^ k:=by
  have h:=Nat.shiftLeft_add_eq_or_of_lt (b:=N) (i:=8*k) (by rw[af2];exact hN) c.toNat;rw[Nat.shiftLeft_eq,af2]at h;rw[Nat.or_comm,<-h,l8]
 rw[e4,u64_in (by omega) (by omega)]
theorem Wu (gv:Nat->List AV)(s:List UInt8)(hs:s.length<2000000)(a r:Nat):∀(rest pre:List UInt8) (m k N:Nat),s=pre++rest->rest.length<m->pre.length=a+1+k->k<=8->N<256 ^ k ->
 jT gv s a r m N pre.length=sM (p6 s.length rest k N pre.length).1 (p6 s.length rest k N pre.length).2.1 (p6 s.length rest k N pre.length).2.2.1 (p6 s.length rest k N pre.length).2.2.2:=by
 intro rest;induction rest with
 |nil =>
  intro pre m k N he hm hp hk hN;obtain⟨m,rfl⟩:∃m',m=m'+1:=⟨m-1,by simp at hm;omega⟩;rw[stepT'];unfold Wt;have hl:s.length=pre.length:=by rw[he];simp
  rw[fL (by omega)];rfl
 |cons c rest ih =>
  intro pre m k N he hm hp hk hN;obtain⟨m,rfl⟩:∃m',m=m'+1:=⟨m-1,by simp at hm;omega⟩;have hl:s.length=pre.length+(rest.length+1):=by rw[he];simp
  have hg:dQ s (pre.length:Int)=some c:=by rw[he];exact kK pre rest c
  have hnext:IntKind.wrap .i64 ((pre.length:Int)+1)=((pre++[c]).length:Int):=by rw[i64_in (by omega) (by omega)];simp
  have ak0:Tb (a:Int) (pre.length:Int)=(k:Int):=by
   unfold Tb;rw[i64_in (n:=(pre.length:Int)-a) (by omega) (by omega),i64_in (by omega) (by omega)];omega
  rw[stepT'];unfold Wt;rw[pZ (by omega),hg,ak0];show ah (bI (cY c) 39) _ _=_;have hw:p6 s.length (c::rest) k N pre.length=if cY c=39 then (if k=0 then (0,0,4,(pre.length:Int)) else (IntKind.wrap .i64 N,(pre.length:Int)+1,0,0))
   else if cY c<32\/126<cY c then (0,0,4,(pre.length:Int)) else if k=8 then (0,0,3,(pre.length:Int)) else p6 s.length rest (k+1) (N+c.toNat*256 ^ k) (pre.length+1):=by
   rw[p6]
  rw[hw];unfold yL;rw[ak0,hnext];by_cases hc:cY c=39
  .rw[Gg hc,ag hc];show ah (bI (k:Int) 0) _ _=_;by_cases hk0:k=0
   .rw[Gg (by omega),ag hk0]
   rw[x9 (by omega),aa hk0];show sM _ ((pre++[c]).length:Int) 0 0=_;rw[aA,ek];rfl
  rw[x9 hc,aa hc];show ah (bC (cY c) 32) _ _=_;by_cases h32:cY c<32
  .rw[pZ h32,ag (.inl h32)]
  rw[fL (by omega)];show ah (bC 126 (cY c)) _ _=_;by_cases ak1:126<cY c
  .rw[pZ ak1,ag (.inr ak1)]
  rw[fL (by omega),aa (by omega)];show ah (bI (k:Int) 8) _ _=_;by_cases hk8:k=8
  .rw[Gg (by omega),ag hk8]
  rw[x9 (by omega),aa hk8];show ah (bC (IntKind.wrap .i64 (8*(k:Int))) 0) none _=_;rw[i64_in (by omega) (by omega),fL (by omega)];obtain⟨o1,o2⟩:=af1 (c:=c) (show k<8 by omega) hN;show jT gv s a r m (orT N (cY c) k) ((pre++[c]).length:Int)=_;rw[o1,ih (pre++[c]) m (k+1) (N+c.toNat*256 ^ k) (by rw[he];simp) (by simp at hm;omega) (by simp;omega) (by omega) o2,aA,ek]
def p7 (s:List UInt8)(a:Nat):Int×Int×Int×Int:=p6 s.length (s.drop (a+1)) 0 0 (a+1)
theorem runText (gv:Nat->List AV)(s:List UInt8)(hs:s.length<2000000)(a:Nat)(ha:a<s.length) :
 aT (Xg gv) (c0 gv AV) anT (s.length+1) 59 [.str s,.int .i64 a] aG.empty (λv _=>some v)=sM (p7 s a).1 (p7 s a).2.1 (p7 s a).2.2.1 (p7 s a).2.2.2:=by
 rw[enterT',i64_in (by omega) (by omega)];have hl:(s.take (a+1)).length=a+1:=by simp;omega
 have:=Wu gv s hs a (s.length+1) (s.drop (a+1)) (s.take (a+1)) (s.length+1) 0 0 (by simp) (by simp;omega) (by omega) (by omega) (by simp);rw[hl]at this;exact this
noncomputable def Wv (args:List AV):Option (Bool×List fA) :=
 match args with
 |[.str s,.int .i64 a]=>some (!bC a 0&&bC a ↑s.length&&Nat.ble s.length 1999999,[.val (.int .i64 (p7 s a.toNat).1),.val (.int .i64 (p7 s a.toNat).2.1),.val (.agg [.int .i64 (p7 s a.toNat).2.2.1,.int .i64 (p7 s a.toNat).2.2.2])])
 |_=>none
theorem ak2 (gv:Nat->List AV):dc (Xg gv) (dR (Xg gv) kn) 59 Wv :=
 cS (λargs=>bS rfl args) (Av gv) λargs rs hg=>by
  unfold Wv at hg;split at hg
  .rename_i s a;simp only[aq,ay,ak,cD,aS,bH,aV,bu]at hg;obtain⟨⟨⟨h1,h2⟩,h3⟩,rfl⟩:=hg;obtain⟨n,rfl⟩:∃n:Nat,a=n:=⟨a.toNat,by omega⟩;rw[bg];exact⟨[.int .i64 (p7 s n).1,.int .i64 (p7 s n).2.1,.agg [.int .i64 (p7 s n).2.2.1,.int .i64 (p7 s n).2.2.2]],anT,s.length+1,runText gv s (by omega) n (by omega),rfl,rfl⟩
  cases hg
noncomputable def L2:List wh:=(59,[none,none],Wv)::(61,[none],OZ)::(62,[none,none],Jt)::L1
theorem ak3 (gv:Nat->List AV):iT (Xg gv) (dR (Xg gv) kn) L2:=.cons (ak2 gv) (.cons (akZ gv) (.cons (akX gv) (adA gv)))
noncomputable def c2 (gv:Nat->List AV)(β:Type):cI β:=sJ (Xg gv) (Uq L2) inl 200 β 20
theorem Q4 (gv:Nat->List AV)(β:Type):cX (Xg gv) (dR (Xg gv) kn) (c2 gv β):=lB (ak3 gv) (λf h args=>bS h args) 200 20 β
def pS:List Bool:=[true,true,true,true,true,false,false]
noncomputable def anS:ei:=⟨gD [0,1,6,7] pS,.none,[]⟩
noncomputable def stS (s:List UInt8)(at' e:Int):fJ:=kr 102 [(0,.str s),(1,.int .i64 at'),(6,.ptr 0 0),(7,.int .i64 e)]
noncomputable def jS (gv:Nat->List AV)(s:List UInt8)(at':Int)(r m:Nat)(e:Int):Option AV:=iF (Xg gv) (c2 gv AV) anS r 28 pS (λv _=>some v) m (stS s at' e) mT
noncomputable def Ww (s:List UInt8)(at' e lo:Int)(r:Int×Int×Bool):Option AV :=
 ah (!bC r.2.1 0) (sM 0 0 4 (IntKind.wrap .i64 (lo+r.2.1))) (ah r.2.2 (sM 0 0 5 at') (sM (IntKind.wrap .i64 r.1) e 0 0))
noncomputable def Wx (s:List UInt8)(at' e:Int)(w:List UInt8)(p:Nat×Nat×Nat):Option AV :=
 ah (!bC (IntKind.wrap .i64 (at' + ↑p.1)) 0 && !bC (IntKind.wrap .i64 (at' + ↑(w.length-p.2.1))) (IntKind.wrap .i64 (at' + ↑p.1)) && !bC (Int.ofNat s.length) (IntKind.wrap .i64 (at' + ↑(w.length-p.2.1))))
  (ah (!bC (p.2.2:Int) 2 && !bC 16 (p.2.2:Int)&&Nat.ble (dX s (IntKind.wrap .i64 (at' + ↑p.1)) (IntKind.wrap .i64 (at' + ↑(w.length-p.2.1)))).length 1999999)
   (Ww s at' e (IntKind.wrap .i64 (at' + ↑p.1)) (th (Int.toNat (p.2.2:Int)) (dX s (IntKind.wrap .i64 (at' + ↑p.1)) (IntKind.wrap .i64 (at' + ↑(w.length-p.2.1)))))) none) none
noncomputable def Wy (s:List UInt8)(at' e:Int):Option AV :=
 ah (!bC at' 0 && !bC e at' && !bC (Int.ofNat s.length) e)
  (ah (!(dX s at' e).isEmpty&&Nat.ble (dX s at' e).length 1999999) (Wx s at' e (dX s at' e) (dz (dX s at' e))) none) none
theorem jl (gv:Nat->List AV)(s:List UInt8)(at':Int)(r m:Nat)(e:Int):jS gv s at' r (m+1) e =
 ah (bC e ↑s.length) (Option.rec (motive:=λ_=>Option AV) none (λc=>ah (p5 (cY c)) (jS gv s at' r m (IntKind.wrap .i64 (e+1))) (Wy s at' e)) (dQ s e)) (Wy s at' e):=by kernel_rfl
noncomputable def O0 (s:List UInt8)(at':Int)(go:Option AV):Option AV :=
 Option.rec (motive:=λ_=>Option AV) none (λc=>ah (bI (cY c) 39)
  (ah (!bC at' 0&&bC at' ↑s.length&&Nat.ble s.length 1999999) (sM (p7 s at'.toNat).1 (p7 s at'.toNat).2.1 (p7 s at'.toNat).2.2.1 (p7 s at'.toNat).2.2.2) none) go) (dQ s at')
theorem af3 (gv:Nat->List AV)(s:List UInt8)(at':Int)(m:Nat):aT (Xg gv) (c2 gv AV) anS m 28 [.str s,.int .i64 at'] aG.empty (λv _=>some v) =
 ah (bC at' 0) (sM 0 0 6 0) (ah (!bC at' ↑s.length) (sM 0 0 6 at')
  (Option.rec (motive:=λ_=>Option AV) none (λc=>ah (!bI (cY c) 39)
   (Option.rec (motive:=λ_=>Option AV) none (λc=>ah (bC (cY c) 48) (sM 0 0 6 at')
    (Option.rec (motive:=λ_=>Option AV) none (λc=>ah (bC 57 (cY c)) (sM 0 0 6 at') (O0 s at' (jS gv s at' m m at'))) (dQ s at'))) (dQ s at'))
   (O0 s at' (jS gv s at' m m at'))) (dQ s at'))):=by kernel_rfl
theorem ak4 (gv:Nat->List AV)(s:List UInt8)(hs:s.length<2000000)(at':Int)(r:Nat):∀(rest pre:List UInt8) (m:Nat),s=pre++rest->rest.length<m ->
 jS gv s at' r m pre.length=Wy s at' ((pre.length+(rest.takeWhile λc=>p5 (cY c)).length:Nat):Int):=by
 intro rest;induction rest with
 |nil =>
  intro pre m he hm;obtain⟨m,rfl⟩:∃m',m=m'+1:=⟨m-1,by simp at hm;omega⟩;have hl:s.length=pre.length:=by rw[he];simp
  rw[jl,fL (by omega)];rfl
 |cons c rest ih =>
  intro pre m he hm;obtain⟨m,rfl⟩:∃m',m=m'+1:=⟨m-1,by simp at hm;omega⟩;have hl:s.length=pre.length+(rest.length+1):=by rw[he];simp
  have hg:dQ s (pre.length:Int)=some c:=by rw[he];exact kK pre rest c
  have hnext:IntKind.wrap .i64 ((pre.length:Int)+1)=((pre++[c]).length:Int):=by rw[i64_in (by omega) (by omega)];simp
  rw[jl,pZ (by omega),hg,hnext];show ah (p5 (cY c)) _ _=_;cases hw:p5 (cY c) with
  |true =>
   show jS gv s at' r m _=_;rw[ih (pre++[c]) m (by rw[he];simp) (by simp at hm;omega),jr,ag hw];simp only[aA,aJ,bA];congr 2;omega
  |false =>
   rw[jr,aa (by simp[hw])];simp
def yM (w:List UInt8)(a:Nat):Int×Int×Int×Int :=
 if 0<=(th (dz w).2.2 ((w.take (w.length-(dz w).2.1)).drop (dz w).1)).2.1 then (0,0,4,(a:Int)+(dz w).1+(th (dz w).2.2 ((w.take (w.length-(dz w).2.1)).drop (dz w).1)).2.1)
 else if (th (dz w).2.2 ((w.take (w.length-(dz w).2.1)).drop (dz w).1)).2.2 then (0,0,5,(a:Int))
 else (IntKind.wrap .i64 (th (dz w).2.2 ((w.take (w.length-(dz w).2.1)).drop (dz w).1)).1,(a:Int)+w.length,0,0)
def lD (s:List UInt8)(at':Int):Int×Int×Int×Int :=
 if at'<0 then (0,0,6,0) else if (s.length:Int)<=at' then (0,0,6,at')
 else if cY (s.getD at'.toNat 0)=39 then p7 s at'.toNat
 else if 48<=cY (s.getD at'.toNat 0)/\cY (s.getD at'.toNat 0)<=57 then yM ((s.drop at'.toNat).takeWhile λc=>p5 (cY c)) at'.toNat
 else (0,0,6,at')
theorem Wz (w:List UInt8)(h:w≠[]):(dz w).1+(dz w).2.1<=w.length/\2<=(dz w).2.2/\(dz w).2.2<=16:=by
 have hp:0<w.length:=dJ.2 h;unfold dz;by_cases hc:2<w.length/\w.head? = some 48
 .simp only[ag hc];repeat' split
  all_goals refine⟨?_,?_,?_⟩<;>simp only<;>omega
 simp only[aa hc];repeat' split
 all_goals first|(refine⟨?_,?_,?_⟩<;>simp only<;>omega)|(rename_i h _;simp at h)|(rename_i h;simp at h)
theorem ES (b:Int):∀(l:List UInt8) (first prev:Bool) (i j:Nat),kC b first prev l i=some j->j<=i+l.length
 |[],first,prev,i,j,h=>by
  rw[kC]at h;split at h
  .cases h;omega
  cases h
 |c::r,first,prev,i,j,h=>by
  rw[kC]at h;simp only[aJ];split at h
  .split at h
   .cases h;omega
   have:=ES b r _ _ _ _ h;omega
  split at h
  .cases h;omega
  have:=ES b r _ _ _ _ h;omega
theorem aaD (b:Nat)(d:List UInt8) : -1<=(th b d).2.1/\(th b d).2.1<=d.length:=by
 unfold th;split
 .rename_i i h;have:=ES b d true false 0 i h;simp only;omega
 simp only;omega
theorem aaE {s w:List UInt8}(hs:s.length<2000000){a:Nat}(ha:a+w.length<=s.length)(hw:w≠[])(he:(s.drop a).take w.length=w) :
 Wy s a ((a+w.length:Nat):Int)=sM (yM w a).1 (yM w a).2.1 (yM w a).2.2.1 (yM w a).2.2.2:=by
 obtain⟨h1,h2,h3⟩:=Wz w hw;have Tc:dX s (a:Int) ((a+w.length:Nat):Int)=w:=by
  unfold dX;simp only[bg];have:a+w.length-a=w.length:=by omega
  rw[this];exact he
 unfold Wy;rw[fL (a:=(a:Int)) (b:=0) (by omega),fL (a:=((a+w.length:Nat):Int)) (by omega),fL (a:=Int.ofNat s.length) (by show ((a+w.length:Nat):Int)<=(s.length:Int);omega),Tc];have hne:w.isEmpty=false:=by simpa using hw
 have Vp:Nat.ble w.length 1999999=true:=dS (by omega);rw[hne,Vp];show Wx s a _ w (dz w)=_;unfold Wx;have e1:IntKind.wrap .i64 ((a:Int)+((dz w).1:Int))=((a+(dz w).1:Nat):Int):=by rw[i64_in (by omega) (by omega)];omega
 have e2:IntKind.wrap .i64 ((a:Int)+((w.length-(dz w).2.1:Nat):Int))=((a+(w.length-(dz w).2.1):Nat):Int):=by rw[i64_in (by omega) (by omega)];omega
 rw[e1,e2,fL (a:=((a+(dz w).1:Nat):Int)) (b:=0) (by omega),fL (a:=((a+(w.length-(dz w).2.1):Nat):Int)) (by omega),fL (a:=Int.ofNat s.length) (by show ((a+(w.length-(dz w).2.1):Nat):Int)<=(s.length:Int);omega)];have ak5:dX s ((a+(dz w).1:Nat):Int) ((a+(w.length-(dz w).2.1):Nat):Int)=(w.take (w.length-(dz w).2.1)).drop (dz w).1:=V0 he _ _ (by omega);rw[ak5,fL (a:=((dz w).2.2:Int)) (b:=2) (by omega),fL (a:=16) (by omega)];have apc:Nat.ble ((w.take (w.length-(dz w).2.1)).drop (dz w).1).length 1999999=true:=dS (by simp;omega)
 rw[apc,bg];show Ww s a _ _ _=_;unfold Ww yM;have hd:=aaD (dz w).2.2 ((w.take (w.length-(dz w).2.1)).drop (dz w).1);have hdl:((w.take (w.length-(dz w).2.1)).drop (dz w).1).length<=w.length:=by simp;omega
 generalize th (dz w).2.2 ((w.take (w.length-(dz w).2.1)).drop (dz w).1)=rr at hd ⊢;rw[iU];by_cases h0:0<=rr.2.1
 .rw[ag h0,ag h0,i64_in (by omega) (by omega)];show sM _ _ _ _=sM _ _ _ _;congr 1
 rw[aa h0,aa h0,ax];by_cases h4:rr.2.2=true
 .rw[ag h4,ag h4]
 rw[aa h4,aa h4];show sM _ _ _ _=sM _ _ _ _;congr 1
theorem O1 (l:List UInt8)(p:UInt8->Bool):l.take (l.takeWhile p).length=l.takeWhile p:=by
 have h:=List.takeWhile_append_dropWhile (p:=p) (l:=l);have h2:(l.takeWhile p++l.dropWhile p).take (l.takeWhile p).length=l.takeWhile p:=List.take_left;rw[h]at h2;exact h2
theorem Gh (gv:Nat->List AV)(s:List UInt8)(hs:s.length<2000000)(at':Int) :
 aT (Xg gv) (c2 gv AV) anS (s.length+1) 28 [.str s,.int .i64 at'] aG.empty (λv _=>some v)=sM (lD s at').1 (lD s at').2.1 (lD s at').2.2.1 (lD s at').2.2.2:=by
 rw[af3];unfold lD;rw[cA];by_cases h0:at'<0
 .rw[ag h0,ag h0]
 rw[aa h0,aa h0,iU];by_cases h1:(s.length:Int)<=at'
 .rw[ag h1,ag h1]
 rw[aa h1,aa h1];obtain⟨a,rfl⟩:∃a:Nat,at'=a:=⟨at'.toNat,by omega⟩;have ha:a<s.length:=by omega
 rw[bg];have hg:dQ s (a:Int)=some (s.getD a 0):=by
  rw[ux,fS,aP ha];rfl
 unfold O0;rw[hg];generalize hc:s.getD a 0=c;show ah (!bI (cY c) 39) (ah (bC (cY c) 48) _ (ah (bC 57 (cY c)) _ (ah (bI (cY c) 39) _ _))) (ah (bI (cY c) 39) _ _)=_;simp only[cn,cq,cA];by_cases h39:cY c=39
 .simp only[ag h39];rw[fL (by omega),pZ (by omega),dS (show s.length<=1999999 by omega)];rw[bg];rfl
 simp only[aa h39];by_cases hd:48<=cY c/\cY c<=57
 .rw[aa (by omega),aa (by omega),ag hd];have hl:(s.take a).length=a:=by simp;omega
  have adB:=ak4 gv s hs a (s.length+1) (s.drop a) (s.take a) (s.length+1) (by simp) (by simp;omega);rw[hl]at adB;rw[adB];have ak6:s.drop a=c::s.drop (a+1):=by
   rw[l7 ha,<-hc,fS,aP ha];rfl
  have hw:(s.drop a).takeWhile (λc=>p5 (cY c))≠[]:=by
   rw[ak6,jr,ag (by unfold p5;simp;omega)];simp
  have hle:((s.drop a).takeWhile λc=>p5 (cY c)).length<=(s.drop a).length:=by
   have:=List.IsPrefix.length_le (List.takeWhile_prefix (l:=s.drop a) (λc=>p5 (cY c)));exact this
  exact aaE hs (by simp at hle;omega) hw (O1 _ _)
 rw[aa hd];by_cases h48:cY c<48
 .rw[ag h48]
 rw[aa h48,ag (by omega)]
noncomputable def WA (args:List AV):Option (Bool×List fA) :=
 match args with
 |[.str s,.int .i64 a]=>some (Nat.ble s.length 1999999,[.val (.int .i64 (lD s a).1),.val (.int .i64 (lD s a).2.1),.val (.agg [.int .i64 (lD s a).2.2.1,.int .i64 (lD s a).2.2.2])])
 |_=>none
theorem ak7 (gv:Nat->List AV):dc (Xg gv) (dR (Xg gv) kn) 28 WA :=
 cS (λargs=>bS rfl args) (Q4 gv) λargs rs hg=>by
  unfold WA at hg;split at hg
  .rename_i s a;simp only[aq,ay,bu]at hg;obtain⟨h3,rfl⟩:=hg;exact⟨[.int .i64 (lD s a).1,.int .i64 (lD s a).2.1,.agg [.int .i64 (lD s a).2.2.1,.int .i64 (lD s a).2.2.2]],anS,s.length+1,Gh gv s (by omega) a,rfl,rfl⟩
  cases hg
end Go.Proofs.YtbeckacfibledaaGreatDoor.lt

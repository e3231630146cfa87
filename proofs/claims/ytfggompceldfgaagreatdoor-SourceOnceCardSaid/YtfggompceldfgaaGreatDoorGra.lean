/- The setting of the laws on sources: what is known, package-level variables. Names that have a meaning of their own: contracts out of what is known. Literals: contracts of the small functions. Literals: digits. Literals: the contracts of digits and parts. Literals: a text's literal. Literals: Scan. -/
import Derived.Test.YtfggompceldfgaaGreatDoorLyg
import Derived.Test.YtfggompceldfgaaGreatDoorGsa
set_option linter.unusedVariables false
set_option linter.unusedSimpArgs false

namespace Go.Proofs.YtfggompceldfgaaGreatDoor.lt
open Go.Tv Go.Ev
noncomputable section
def inl:FuncId->Bool:=λf => !(Nat.beq f 13||(Nat.beq f (qP 54)||(Nat.beq f 124||Nat.beq f 52)))
def kn:fc:=rg.kT [(13,[])] rg.kS
theorem bS {f:FuncId}(h:inl f=true)(args:List Value):kn f args=none:=by
 unfold inl at h;simp only[aS,Bool.or_eq_false_iff]at h;obtain⟨h0,h1,h2,h3⟩:=h;have e:rg.Es f args [(13,[])]=false:=by
  unfold rg.Es;rw[h0];rfl
 unfold kn rg.kT;rw[e];show rg.kS f args=none;unfold rg.kS;rw[h1];show rg.kR f args=none;unfold rg.kR;rw[h2];show nm.ZB f args=none;unfold nm.ZB;rw[h3]
def R9 (f:FuncId):List Tmp:=ah (Nat.beq f 141) [71,47] []
def Xg (gv:Nat->List AV):gU:={ P:=Tryz.prog,G:=7+1,gv:=gv,trs:=R9,ar:=λt=>Nat.beq t 189||Nat.beq t 198 }
def ia:eD:=⟨.none,.none,[]⟩
def K0:Tu:=λ_=>none
section
variable (gv:Nat->List AV)
def c0 (β:Type):cI β:=sx (Xg gv) K0 inl 200 β 20
theorem z8 (β:Type):cT (Xg gv) (dO (Xg gv) kn) (c0 gv β):=lg (by intro id s g h;cases h) (λf h args=>bS h args) 200 20 β
end
def N6:List Value:=[.string ⟨#[36,36]⟩,.string ⟨#[60,60]⟩,.string ⟨#[62,62]⟩,.string ⟨#[43]⟩,.string ⟨#[45]⟩,.string ⟨#[42]⟩,.string ⟨#[47]⟩,.string ⟨#[37]⟩,.string ⟨#[38]⟩,.string ⟨#[124]⟩,.string ⟨#[94]⟩,.string ⟨#[126]⟩,.string ⟨#[40]⟩,.string ⟨#[41]⟩,.string ⟨#[91]⟩,.string ⟨#[93]⟩,.string ⟨#[44]⟩,.string ⟨#[58]⟩,.string ⟨#[36]⟩]
def BB (g:Nat):List AV:=ah (Nat.beq g 1) (N6.map Nv) (rg.gv g)
theorem LC {S:Wo}{s:List UInt8}{m:List Value}(h:LV S [.str s] m):m=[.string ⟨s.toArray⟩]:=by
 obtain⟨x,m',rfl,h1,h2⟩:=h.cons_inv;rw[h1.jo,h2.jq]
def gRP (args:List AV):Option (Bool×List fN) :=
 match args with
 |[.str s]=>some (true,[.val (.agg [.int .i64 (rg.pR s).1,.int .i64 (rg.pR s).2.1]),.val (.bool (rg.pR s).2.2)])
 |_=>none
def gNP (args:List AV):Option (Bool×List fN) :=
 match args with
 |[.str s]=>some (true,[.val (.int .i64 (nm.lp s).1),.val (.bool (nm.lp s).2)])
 |_=>none
theorem aj0 (gv:Nat->List AV):dh (Xg gv) (dO (Xg gv) kn) 124 gRP :=
 EA λargs rs hg=>by
  unfold gRP at hg;split at hg
  .rename_i s;simp only[aq,ax]at hg;obtain⟨_,rfl⟩:=hg;refine⟨_,_,.agg #[.int .i64 (rg.pR s).1,.int .i64 (rg.pR s).2.1],.bool (rg.pR s).2.2,rfl,rfl,rfl,λS=>?_,λS=>.bool _,λS bM hl=>?_⟩
   .exact .agg [.int .i64 (rg.pR s).1,.int .i64 (rg.pR s).2.1] [.int .i64 (rg.pR s).1,.int .i64 (rg.pR s).2.1] rfl (LV.cons (.int _ _) (LV.cons (.int _ _) LV.nil)).2
   rw[LC hl];exact⟨rfl,rfl,rfl⟩
  cases hg
theorem aj1 (gv:Nat->List AV):dh (Xg gv) (dO (Xg gv) kn) 52 gNP :=
 EA λargs rs hg=>by
  unfold gNP at hg;split at hg
  .rename_i s;simp only[aq,ax]at hg;obtain⟨_,rfl⟩:=hg;refine⟨_,_,.int .i64 (nm.lp s).1,.bool (nm.lp s).2,rfl,rfl,rfl,λS=>.int _ _,λS=>.bool _,λS bM hl=>?_⟩;rw[LC hl];exact⟨rfl,rfl,rfl⟩
  cases hg
def R1:List xX:=[(124,[none],gRP),(52,[none],gNP)]
theorem acq (gv:Nat->List AV):jx (Xg gv) (dO (Xg gv) kn) R1:=.cons (aj0 gv) (.cons (aj1 gv) .nil)
def r1 (gv:Nat->List AV)(β:Type):cI β:=sx (Xg gv) (Tw R1) inl 200 β 20
theorem aj2 (gv:Nat->List AV)(β:Type):cT (Xg gv) (dO (Xg gv) kn) (r1 gv β):=lg (acq gv) (λf h args=>bS h args) 200 20 β
def VT:List (List UInt8):=["db","dw","dd","dq","resb","resw","resd","resq","equ","times","align","org","struc","endstruc","dcx","byte","word","dword","qword","oword","yword","short","near","strict","rel"].map λs=>s.toUTF8.data.toList
def oneT' (s:List UInt8):List (List UInt8)->Option AV
 |[]=>some (.bool false)
 |[w]=>ah (decide (s=w)) (some (.bool true)) (some (.bool false))
 |w::v::l=>ah (decide (s=w)) (ah (decide (s=w)) (some (.bool true)) (some (.bool false))) (oneT' s (v::l))
def vf (s:List UInt8):Bool:=(rg.pR s).2.2||((nm.lp s).2||decide (s∈VT))
theorem oneT'_eq (s:List UInt8):∀l,oneT' s l=some (.bool (decide (s∈l)))
 |[]=>rfl
 |[w]=>by
  unfold oneT';by_cases h:s=w
  .rw[bf h,bf (bw.2 (.inl h))]
  rw[aU h,aU (by simp[h])]
 |w::v::l=>by
  unfold oneT';rw[oneT'_eq s (v::l)];by_cases h:s=w
  .rw[bf h,bf (bw.2 (.inl h))]
  rw[aU h];show some (AV.bool (decide (s∈v::l)))=_;have:(s∈w::v::l)↔s∈v::l:=by simp[h]
  rw[eZ.2 this]
set_option maxRecDepth 100000 in
theorem ZN (gv:Nat->List AV)(s:List UInt8):aT (Xg gv) (r1 gv AV) ia 20 82 [.str s] aH.empty (λv _=>some v) =
 ah (rg.pR s).2.2 (some (.bool true)) (ah (nm.lp s).2 (some (.bool true)) (oneT' s VT)):=by kernel_rfl
def Oi (args:List AV):Option (Bool×List fN) :=
 match args with
 |[.str s]=>some (true,[.val (.bool (vf s))])
 |_=>none
theorem aeT (gv:Nat->List AV):dh (Xg gv) (dO (Xg gv) kn) 82 Oi :=
 dA (λargs=>bS rfl args) (aj2 gv) λargs rs hg=>by
  unfold Oi at hg;split at hg
  .rename_i s;simp only[aq,ax]at hg;obtain⟨_,rfl⟩:=hg;refine⟨[.bool (vf s)],ia,20,?_,rfl,rfl⟩;rw[ZN,oneT'_eq];unfold vf;cases (rg.pR s).2.2<;>cases (nm.lp s).2<;>rfl
  cases hg
end
end Go.Proofs.YtfggompceldfgaaGreatDoor.lt
namespace Go.Proofs.YtfggompceldfgaaGreatDoor.lt
open Go.Tv Go.Ev
set_option maxRecDepth 100000
noncomputable section
def mN (n:Int):Int:=if 48<=n/\n<=57 then n-48 else if 97<=n/\n<=102 then n-87 else if 65<=n/\n<=70 then n-55 else -1
def pM (n:Int):Bool:=decide (48<=n/\n<=57\/97<=n/\n<=122\/65<=n/\n<=90\/n=95)
theorem ajr (gv:Nat->List AV)(n:Int):aT (Xg gv) (c0 gv AV) ia 5 76 [.int .u8 n] aH.empty (λv _=>some v)=some (.bool (pM n)):=by
 have h:aT (Xg gv) (c0 gv AV) ia 5 76 [.int .u8 n] aH.empty (λv _=>some v)=yh n 48 57 (some (.bool true)) (yh n 97 122 (some (.bool true)) (yh n 65 90 (some (.bool true)) (some (.bool (bI n 95))))):=by kernel_rfl
 rw[h];simp only[Ep,eT];unfold pM;repeat' split
 all_goals congr 2
 all_goals first|(symm;rw[aV];omega)|(rw[bO,eI,aV];omega)
theorem ajs (gv:Nat->List AV)(n:Int):aT (Xg gv) (c0 gv AV) ia 5 119 [.int .u8 n] aH.empty (λv _=>some v)=some (.int .i64 (mN n)):=by
 have h:aT (Xg gv) (c0 gv AV) ia 5 119 [.int .u8 n] aH.empty (λv _=>some v) =
  yh n 48 57 (some (.int .i64 (IntKind.wrap .i64 (IntKind.wrap .u8 (n-48))))) (yh n 97 102 (some (.int .i64 (IntKind.wrap .i64 (IntKind.wrap .i64 (IntKind.wrap .u8 (n-97))+10)))) (yh n 65 70 (some (.int .i64 (IntKind.wrap .i64 (IntKind.wrap .i64 (IntKind.wrap .u8 (n-65))+10)))) (some (.int .i64 (-1))))):=by kernel_rfl
 rw[h];simp only[Ep];unfold mN;split
 .rw[u8_in (by omega) (by omega),i64_in (by omega) (by omega)]
 split
 .rw[u8_in (by omega) (by omega),i64_in (n:=n-97) (by omega) (by omega),i64_in (by omega) (by omega)];congr 2;omega
 split
 .rw[u8_in (by omega) (by omega),i64_in (n:=n-65) (by omega) (by omega),i64_in (by omega) (by omega)];congr 2;omega
 rfl
noncomputable def Vz (args:List AV):Option (Bool×List fN) :=
 match args with
 |[.int .u8 n]=>some (true,[.val (.bool (pM n))])
 |_=>none
noncomputable def aeC (args:List AV):Option (Bool×List fN) :=
 match args with
 |[.int .u8 n]=>some (true,[.val (.int .i64 (mN n))])
 |_=>none
theorem ajt (gv:Nat->List AV):dh (Xg gv) (dO (Xg gv) kn) 76 Vz :=
 dA (λargs=>bS rfl args) (z8 gv) λargs rs hg=>by
  unfold Vz at hg;split at hg
  .rename_i n;simp only[aq,ax]at hg;obtain⟨h1,rfl⟩:=hg;exact⟨[.bool (pM n)],ia,5,ajr gv n,rfl,rfl⟩
  cases hg
theorem aju (gv:Nat->List AV):dh (Xg gv) (dO (Xg gv) kn) 119 aeC :=
 dA (λargs=>bS rfl args) (z8 gv) λargs rs hg=>by
  unfold aeC at hg;split at hg
  .rename_i n;simp only[aq,ax]at hg;obtain⟨h1,rfl⟩:=hg;exact⟨[.int .i64 (mN n)],ia,5,ajs gv n,rfl,rfl⟩
  cases hg
noncomputable def IY (x y:Int):AV :=
 let w:=IntKind.wrap .u64
 let x0:Int:=w ↑(BitVec.toNat (BitVec.ofInt 64 x &&& BitVec.ofInt 64 4294967295))
 let y0:Int:=w ↑(BitVec.toNat (BitVec.ofInt 64 y &&& BitVec.ofInt 64 4294967295))
 let x1:=Int.fdiv x 4294967296
 let y1:=Int.fdiv y 4294967296
 let t:=w (w (x1*y0)+Int.fdiv (w (x0*y0)) 4294967296)
 .fH [.int .u64 (w (w (w (x1*y1)+Int.fdiv t 4294967296)+Int.fdiv (w (w ↑(BitVec.toNat (BitVec.ofInt 64 t &&& BitVec.ofInt 64 4294967295))+w (x0*y1))) 4294967296)),.int .u64 (w (x*y))]
theorem aeD (gv:Nat->List AV)(x y:Int):aT (Xg gv) (c0 gv AV) ia 5 120 [.int .u64 x,.int .u64 y] aH.empty (λv _=>some v)=some (IY x y):=by kernel_rfl
theorem aeE {a:Int}:Int.fdiv a 4294967296=a/4294967296:=iF _ (by omega)
theorem mul_eq {x y:Int}(h0:0<=x)(h1:x<18446744073709551616)(h2:0<=y)(h3:y<4294967296):IY x y = .fH [.int .u64 (x*y/18446744073709551616),.int .u64 (x*y%18446744073709551616)]:=by
 have low:∀{a:Int},0<=a->a<18446744073709551616->((BitVec.ofInt 64 a &&& BitVec.ofInt 64 4294967295).toNat:Int)=a%4294967296:=λ{a} ha hb=>Zs ha hb 32 (by omega)
 have hx0:IntKind.wrap .u64 ↑(BitVec.toNat (BitVec.ofInt 64 x &&& BitVec.ofInt 64 4294967295))=x%4294967296:=by rw[low h0 h1,u64_in (by omega) (by omega)]
 have hy0:IntKind.wrap .u64 ↑(BitVec.toNat (BitVec.ofInt 64 y &&& BitVec.ofInt 64 4294967295))=y:=by rw[low h2 (by omega),u64_in (by omega) (by omega)];omega
 have hy1:y/4294967296=0:=by omega
 unfold IY;simp only[hx0,hy0,aeE,hy1,Int.mul_zero];obtain⟨a,ha⟩:∃a,x/4294967296*y=a:=⟨_,rfl⟩;obtain⟨b,hb⟩:∃b,x%4294967296*y=b:=⟨_,rfl⟩;have hxy:x*y=a*4294967296+b:=by
  rw[<-ha,<-hb];have:=Int.mul_ediv_add_emod x 4294967296
  calc x*y=(4294967296*(x/4294967296)+x%4294967296)*y:=by rw[this]
   _=_:=by rw[Int.add_mul,jy,oo 4294967296]
 have ha0:0<=a:=by rw[<-ha];exact mH (by omega) h2
 have hb0:0<=b:=by rw[<-hb];exact mH (by omega) h2
 have ha1:a<=4294967295*4294967295:=by
  rw[<-ha];exact Int.le_trans (gz (show x/4294967296<=4294967295 by omega) h2) (dx (show y<=4294967295 by omega) (by omega))
 have xS:b<=4294967295*4294967295:=by
  rw[<-hb];exact Int.le_trans (gz (show x%4294967296<=4294967295 by omega) h2) (dx (show y<=4294967295 by omega) (by omega))
 rw[ha,hb,hxy];have w1:IntKind.wrap .u64 b=b:=u64_in hb0 (by omega);have w2:IntKind.wrap .u64 a=a:=u64_in ha0 (by omega);have w3:IntKind.wrap .u64 (a+b/4294967296)=a+b/4294967296:=u64_in (by omega) (by omega);have w4:IntKind.wrap .u64 0=0:=u64_in (by omega) (by omega);rw[w1,w2,w3,low (by omega) (by omega),w4,Int.zero_add,Int.add_zero];have w5:IntKind.wrap .u64 ((a+b/4294967296)%4294967296)=(a+b/4294967296)%4294967296:=u64_in (by omega) (by omega);have w6:IntKind.wrap .u64 ((a+b/4294967296)/4294967296)=(a+b/4294967296)/4294967296:=u64_in (by omega) (by omega)
 rw[w5,w5,w6];have w7:(a+b/4294967296)%4294967296/4294967296=0:=by omega
 rw[w7,Int.add_zero,w6,Qb];have e1:(a+b/4294967296)/4294967296=(a*4294967296+b)/18446744073709551616:=by omega
 rw[e1]
noncomputable def aeF (args:List AV):Option (Bool×List fN) :=
 match args with
 |[.int .u64 x,.int .u64 y]=>some (!bB x 0&&bB x 18446744073709551616 && !bB y 0&&bB y 4294967296,[.val (.int .u64 (x*y/18446744073709551616)),.val (.int .u64 (x*y%18446744073709551616))])
 |_=>none
theorem ajv (gv:Nat->List AV):dh (Xg gv) (dO (Xg gv) kn) 120 aeF :=
 dA (λargs=>bS rfl args) (z8 gv) λargs rs hg=>by
  unfold aeF at hg;split at hg
  .rename_i x y;simp only[aq,ax,ak,cB,aS,bH,aV]at hg;obtain⟨h1,rfl⟩:=hg;exact⟨[.int .u64 (x*y/18446744073709551616),.int .u64 (x*y%18446744073709551616)],ia,5,(aeD gv x y).trans (cn some (mul_eq (x:=x) (y:=y) (by omega) (by omega) (by omega) (by omega))),rfl,rfl⟩
  cases hg
end
end Go.Proofs.YtfggompceldfgaaGreatDoor.lt
namespace Go.Proofs.YtfggompceldfgaaGreatDoor.lt
open Go.Tv Go.Ev
set_option maxRecDepth 100000
noncomputable def L1:List xX:=[(76,[none],Vz),(119,[none],aeC),(120,[none,none],aeF)]
theorem aci (gv:Nat->List AV):jx (Xg gv) (dO (Xg gv) kn) L1:=.cons (ajt gv) (.cons (aju gv) (.cons (ajv gv) .nil))
noncomputable def c1 (gv:Nat->List AV)(β:Type):cI β:=sx (Xg gv) (Tw L1) inl 200 β 20
theorem GD (gv:Nat->List AV)(β:Type):cT (Xg gv) (dO (Xg gv) kn) (c1 gv β):=lg (aci gv) (λf h args=>bS h args) 200 20 β
noncomputable def anD:eD:=⟨.none,.node (some [0,1,7,8,9]) .none .none,[]⟩
noncomputable def stD (d:List UInt8)(b n i:Int)(MM:Bool):fF:=lz 83 [(0,.str d),(1,.int .i64 b),(7,.int .u64 n),(8,.int .i64 i),(9,.bool MM)]
noncomputable def jD (gv:Nat->List AV)(d:List UInt8)(b:Int)(r m:Nat)(n i:Int)(MM:Bool):Option AV:=ai8 (Xg gv) (c1 gv AV) anD r 78 [true] 0 (λv _=>some v) m (stD d b n i MM) aH.empty
def eV (n i:Int)(MM:Bool):Option AV:=some (.fH [.int .u64 n,.int .i64 i,.bool MM])
noncomputable def Lw (b n v:Int):Int:=Int.ofNat ((Int.toNat (n*IntKind.wrap .u64 b%18446744073709551616)+Int.toNat (IntKind.wrap .u64 v)+0)%Extern.MathBitsCarry.m64)
noncomputable def Sf (b n v:Int):Int:=Int.ofNat ((Int.toNat (n*IntKind.wrap .u64 b%18446744073709551616)+Int.toNat (IntKind.wrap .u64 v)+0)/Extern.MathBitsCarry.m64)
noncomputable def Ew (d:List UInt8)(b n i:Int)(MM:Bool)(go:Int->Int->Bool->Option AV):Option AV :=
 ah (bI i ↑d.length)
  (ah (bI i 0) (eV 0 0 false) (eV n (-1) MM))
  (Option.rec (motive:=λ_=>Option AV) none (λc=>ah (bI (cU c) 95)
   (ah (bI i 0) (eV 0 i false) (ah (bI i (IntKind.wrap .i64 (↑d.length-1))) (eV 0 i false)
    (Option.rec (motive:=λ_=>Option AV) none (λc=>ah (bI (cU c) 95) (eV 0 i false) (go n (IntKind.wrap .i64 (i+1)) MM)) (dX d (IntKind.wrap .i64 (i-1))))))
   (Option.rec (motive:=λ_=>Option AV) none (λc=>ah (bB (mN (cU c)) 0) (eV 0 i false) (ah (!bB (mN (cU c)) b) (eV 0 i false)
    (ah (!bB n 0&&bB n 18446744073709551616 && !bB (IntKind.wrap .u64 b) 0&&bB (IntKind.wrap .u64 b) 4294967296)
     (ah MM (go (Lw b n (mN (cU c))) (IntKind.wrap .i64 (i+1)) true)
      (ah (!bI (n*IntKind.wrap .u64 b/18446744073709551616) 0) (go (Lw b n (mN (cU c))) (IntKind.wrap .i64 (i+1)) true)
       (go (Lw b n (mN (cU c))) (IntKind.wrap .i64 (i+1)) (!bI (Sf b n (mN (cU c))) 0))))
     none))) (dX d i))) (dX d i))
theorem Ck (gv:Nat->List AV)(d:List UInt8)(b:Int)(r m:Nat)(n i:Int)(MM:Bool):jD gv d b r (m+1) n i MM=Ew d b n i MM (jD gv d b r m):=by kernel_rfl
theorem aeG (gv:Nat->List AV)(d:List UInt8)(b:Int)(m:Nat):aT (Xg gv) (c1 gv AV) anD m 78 [.str d,.int .i64 b] aH.empty (λv _=>some v)=Ew d b 0 0 false (jD gv d b m m):=by kernel_rfl
def kr (b:Int):Bool->Bool->List UInt8->Nat->Option Nat
 |first,_,[],_=>if first then some 0 else none
 |first,prev,c::r,i=>if cU c=95 then (if first=true\/r=[]\/prev=true then some i else kr b false true r (i+1)) else if mN (cU c)<0\/b<=mN (cU c) then some i else kr b false false r (i+1)
def wR (b:Nat):List UInt8->Nat->Nat
 |[],N=>N
 |c::r,N=>if cU c=95 then wR b r N else wR b r (N*b+(mN (cU c)).toNat)
def sV (b:Nat)(d:List UInt8):Int×Int×Bool :=
 match kr b true false d 0 with
 |some i=>(0,(i:Int),false)
 |none=>(((wR b d 0%18446744073709551616:Nat):Int),-1,decide (18446744073709551616<=wR b d 0))
theorem Lx {b N v:Nat}(hb:b<=16)(hv:v<16):Lw b ((N%18446744073709551616:Nat):Int) v=(((N*b+v)%18446744073709551616:Nat):Int)/\((N:Int)<18446744073709551616->(((N%18446744073709551616:Nat):Int)*IntKind.wrap .u64 b/18446744073709551616=0↔N*b<18446744073709551616)/\(N*b<18446744073709551616->(Sf b ((N%18446744073709551616:Nat):Int) v=0↔N*b+v<18446744073709551616))):=by
 have wb:IntKind.wrap .u64 (b:Int)=b:=u64_in (by omega) (by omega);have wv:IntKind.wrap .u64 (v:Int)=v:=u64_in (by omega) (by omega);have e1:((N%18446744073709551616:Nat):Int)*(b:Int)%18446744073709551616=((N%18446744073709551616*b%18446744073709551616:Nat):Int):=by
  rw[Int.natCast_emod (N%18446744073709551616*b),jC];rfl
 have hm:Extern.MathBitsCarry.m64=18446744073709551616:=by kernel_rfl
 unfold Lw Sf;rw[wb,wv,e1,hm];simp only[bh,ou];refine⟨?_,λhN=>?_⟩
 .show ((_:Nat):Int)=_;congr 1
  rw[Nat.add_mod (N*b),Nat.mul_mod N b,Nat.add_mod (N%18446744073709551616*b%18446744073709551616),Nat.mod_mod,Nat.mul_mod (N%18446744073709551616) b,Nat.mod_mod]
 have hN':N%18446744073709551616=N:=gR (by omega);rw[hN'];generalize hP:N*b=P;refine⟨?_,λhl=>?_⟩
 .have:((N:Int)*(b:Int))=(P:Int):=by rw[<-hP,jC]
  rw[this];omega
 show ((((P%18446744073709551616+v)/18446744073709551616:Nat)):Int)=0↔_;omega
theorem VA (n:Int):mN n<16:=by unfold mN;repeat' split<;>omega
theorem ajw (gv:Nat->List AV){b:Nat}(JK:2<=b)(hb:b<=16)(d:List UInt8)(hd:d.length<2000000)(r:Nat):∀(rest pre:List UInt8) (m:Nat) (N:Nat) (prev:Bool),d=pre++rest->rest.length<m->pre≠[]->(prev=true↔∃q,pre=q++[95]) ->
 jD gv d b r m ((N%18446744073709551616:Nat):Int) pre.length (decide (18446744073709551616<=N)) =
  match kr b false prev rest pre.length with
  |some i=>eV 0 i false
  |none=>eV ((wR b rest N%18446744073709551616:Nat):Int) (-1) (decide (18446744073709551616<=wR b rest N)):=by
 intro rest;induction rest with
 |nil =>
  intro pre m N prev he hm hne VB;obtain⟨m,rfl⟩:∃m',m=m'+1:=⟨m-1,by simp at hm;omega⟩;rw[Ck];unfold Ew;have hl:d.length=pre.length:=by rw[he];simp
  have hp:0<pre.length:=dG.2 hne;rw[FL (a:=(pre.length:Int)) (b:=(d.length:Int)) (by omega),xI (a:=(pre.length:Int)) (b:=0) (by omega)];rfl
 |cons c rest ih =>
  intro pre m N prev he hm hne VB;obtain⟨m,rfl⟩:∃m',m=m'+1:=⟨m-1,by simp at hm;omega⟩;have hl:d.length=pre.length+(rest.length+1):=by rw[he];simp
  have hp:0<pre.length:=dG.2 hne;have hg:dX d (pre.length:Int)=some c:=by rw[he];exact lX pre rest c
  have hnext:IntKind.wrap .i64 ((pre.length:Int)+1)=((pre++[c]).length:Int):=by rw[i64_in (by omega) (by omega)];simp
  have he':d=(pre++[c])++rest:=by rw[he];simp
  have hm':rest.length<m:=by simp at hm;omega
  rw[Ck];unfold Ew;rw[xI (a:=(pre.length:Int)) (b:=(d.length:Int)) (by omega),xI (a:=(pre.length:Int)) (b:=0) (by omega),hg,hnext];show ah (bI (cU c) 95) _ _=_;by_cases hc:cU c=95
  .rw[FL hc];show ah (bI (pre.length:Int) (IntKind.wrap .i64 (↑d.length-1))) _ _=_;rw[i64_in (by omega) (by omega)];have hw:kr b false prev (c::rest) pre.length=if rest=[]\/prev=true then some pre.length else kr b false true rest (pre.length+1):=by
    rw[kr,ag hc];simp
   rw[hw];by_cases hr:rest=[]
   .rw[FL (by rw[hl,hr];simp),ag (.inl hr)]
   have hrl:0<rest.length:=dG.2 hr;rw[xI (by omega)];obtain⟨q,x,hq⟩:∃q x,pre=q++[x]:=⟨pre.dropLast,pre.getLast hne,(List.dropLast_concat_getLast hne).symm⟩;have hgx:dX d (IntKind.wrap .i64 ((pre.length:Int)-1))=some x:=by
    rw[i64_in (by omega) (by omega)];have:(pre.length:Int)-1=(q.length:Int):=by rw[hq];simp
    rw[this,he,hq,bQ];exact lX q (c::rest) x
   rw[hgx];show ah (bI (cU x) 95) _ _=_;by_cases hx:cU x=95
   .have:prev=true:=VB.2 ⟨q,by rw[hq];congr 2;exact IU (a:=x) (b:=95) hx⟩;rw[FL hx,ag (.inr this)]
   have hpf:prev=false:=by
    cases hpv:prev with
    |false=>rfl
    |true =>
     obtain⟨q',hq'⟩:=VB.1 hpv;rw[hq]at hq';have:=(nO hq' rfl).2;simp at this;exact absurd (by rw[this];rfl) hx
   rw[xI hx,aa (by simp[hr,hpf])];have hcc:c=95:=IU (a:=c) (b:=95) hc;have:=ih (pre++[c]) m N true he' hm' (by simp) ⟨λ_=>⟨pre,by rw[hcc]⟩,λ_=>rfl⟩;rw[aA,ef]at this;show jD gv d b r m _ ((pre++[c]).length:Int) _=_;rw[aA,ef,this];have hv:wR b (c::rest) N=wR b rest N:=by rw[wR,ag hc]
   rw[hv]
  rw[xI hc];show ah (bB (mN (cU c)) 0) _ _=_;have hw:kr b false prev (c::rest) pre.length=if mN (cU c)<0\/(b:Int)<=mN (cU c) then some pre.length else kr b false false rest (pre.length+1):=by
   rw[kr,aa hc]
  rw[hw];by_cases h0:mN (cU c)<0
  .rw[pL h0,ag (.inl h0)]
  rw[fG (by omega)];show ah (!bB (mN (cU c)) b) _ _=_;by_cases h1:(b:Int)<=mN (cU c)
  .rw[fG h1,ag (.inr h1)];rfl
  rw[pL (by omega),aa (by omega)];have wb:IntKind.wrap .u64 (b:Int)=b:=u64_in (by omega) (by omega);have hcond:(!bB ((N%18446744073709551616:Nat):Int) 0&&bB ((N%18446744073709551616:Nat):Int) 18446744073709551616 && !bB (IntKind.wrap .u64 (b:Int)) 0&&bB (IntKind.wrap .u64 (b:Int)) 4294967296)=true:=by
   rw[wb,fG (by omega),pL (by omega),fG (by omega),pL (by omega)];rfl
  obtain⟨v,hv⟩:∃v:Nat,mN (cU c)=v:=⟨(mN (cU c)).toNat,by omega⟩;have aeH:v<16:=by have:=VA (cU c);omega
  obtain⟨s1,s2⟩:=Lx (N:=N) hb aeH;have hval:wR b (c::rest) N=wR b rest (N*b+v):=by rw[wR,aa hc,hv];rfl
  have goal:∀MM,MM=decide (18446744073709551616<=N*b+v)->jD gv d b r m (Lw b ((N%18446744073709551616:Nat):Int) (mN (cU c))) ((pre++[c]).length:Int) MM =
   match kr b false false rest (pre.length+1) with
   |some i=>eV 0 i false
   |none=>eV ((wR b (c::rest) N%18446744073709551616:Nat):Int) (-1) (decide (18446744073709551616<=wR b (c::rest) N)):=λMM MV=>by
   have hno:¬ ∃q,pre++[c]=q++[95]:=λ⟨q,hq⟩=>by
    have:=(nO hq rfl).2;simp at this;exact hc (by rw[this];rfl)
   have:=ih (pre++[c]) m (N*b+v) false he' hm' (by simp) ⟨λh=>(by cases h),λh=>absurd h hno⟩;rw[hv,s1,MV,this,hval];simp
  show ah (_&&_&&_&&_) _ _=_;rw[hcond];show ah (decide (18446744073709551616<=N)) _ _=_;by_cases hN:18446744073709551616<=N
  .rw[bf hN];have:N<=N*b:=Nat.le_mul_of_pos_right N (by omega);exact goal true (by rw[bf];omega)
  rw[aU hN];obtain⟨t1,t2⟩:=s2 (by omega);show ah (!bI _ 0) _ _=_;by_cases hP:N*b<18446744073709551616
  .rw[FL (t1.2 hP)];refine goal _ ?_;rw[hv];by_cases hS:N*b+v<18446744073709551616
   .rw[FL ((t2 hP).2 hS),aU (by omega)];rfl
   rw[xI (λh=>hS ((t2 hP).1 h)),bf (by omega)];rfl
  rw[xI (λh=>hP (t1.1 h))];exact goal true (by rw[bf];omega)
theorem anr (gv:Nat->List AV){b:Nat}(JK:2<=b)(hb:b<=16)(d:List UInt8)(hd:d.length<2000000) :
 aT (Xg gv) (c1 gv AV) anD (d.length+1) 78 [.str d,.int .i64 b] aH.empty (λv _=>some v)=eV (sV b d).1 (sV b d).2.1 (sV b d).2.2:=by
 rw[aeG];cases d with
 |nil=>rfl
 |cons c rest =>
  have hl:((c::rest).length:Int)=rest.length+1:=by simp
  unfold Ew;rw[xI (a:=0) (b:=((c::rest).length:Int)) (by omega),show dX (c::rest) 0=some c from rfl];show ah (bI (cU c) 95) _ _=_;by_cases hc:cU c=95
  .have hw:kr b true false (c::rest) 0=some 0:=by rw[kr,ag hc,ag (.inl rfl)]
   rw[FL hc];unfold sV;rw[hw];rfl
  rw[xI hc];show ah (bB (mN (cU c)) 0) _ _=_;have hw:kr b true false (c::rest) 0=if mN (cU c)<0\/(b:Int)<=mN (cU c) then some 0 else kr b false false rest 1:=by
   rw[kr,aa hc]
  by_cases h0:mN (cU c)<0
  .rw[pL h0];unfold sV;rw[hw,ag (.inl h0)];rfl
  rw[fG (by omega)];show ah (!bB (mN (cU c)) b) _ _=_;by_cases h1:(b:Int)<=mN (cU c)
  .rw[fG h1];unfold sV;rw[hw,ag (.inr h1)];rfl
  rw[pL (by omega)];have wb:IntKind.wrap .u64 (b:Int)=b:=u64_in (by omega) (by omega);have hcond:(!bB 0 0&&bB 0 18446744073709551616 && !bB (IntKind.wrap .u64 (b:Int)) 0&&bB (IntKind.wrap .u64 (b:Int)) 4294967296)=true:=by
   rw[wb,fG (a:=0) (by omega),pL (by omega),fG (by omega),pL (by omega)];rfl
  obtain⟨v,hv⟩:∃v:Nat,mN (cU c)=v:=⟨(mN (cU c)).toNat,by omega⟩;have aeH:v<16:=by have:=VA (cU c);omega
  obtain⟨s1,s2⟩:=Lx (N:=0) hb aeH;show ah (_&&_&&_&&_) (ah (!bI (0*IntKind.wrap .u64 (b:Int)/18446744073709551616) 0) _ (jD gv (c::rest) b _ _ (Lw b 0 (mN (cU c))) (IntKind.wrap .i64 (0+1)) (!bI (Sf b 0 (mN (cU c))) 0))) none=_;rw[hcond,Int.zero_mul];show jD gv (c::rest) b _ _ (Lw b 0 (mN (cU c))) (IntKind.wrap .i64 (0+1)) (!bI (Sf b 0 (mN (cU c))) 0)=_;have e0:((0%18446744073709551616:Nat):Int)=0:=by simp
  rw[e0,ox,bW]at s1;rw[e0,ox,bW]at s2;have ans:Sf b 0 v=0:=((s2 (by omega)).2 (by omega)).2 (by omega);rw[hv,s1,ans];have hno:¬ ∃q:List UInt8,[c]=q++[95]:=λ⟨q,hq⟩=>by
   have:=(nO (s₁:=[]) hq rfl).2;simp at this;exact hc (by rw[this];rfl)
  have:=ajw gv JK hb (c::rest) hd ((c::rest).length+1) rest [c] ((c::rest).length+1) v false rfl (by simp;omega) (by simp) ⟨λh=>(by cases h),λh=>absurd h hno⟩;have e1:IntKind.wrap .i64 (0+1)=(([c]:List UInt8).length:Int):=by rw[i64_in (by omega) (by omega)];rfl
  have e2:(!bI 0 0)=decide (18446744073709551616<=v):=by rw[aU (by omega)];rfl
  rw[e1,e2,this];unfold sV;rw[hw,aa (by omega)];have hval:wR b (c::rest) 0=wR b rest v:=by rw[wR,aa hc,hv];simp
  rw[hval];show (match kr (b:Int) false false rest 1 with|some i=>_|none=>_)=_;cases kr (b:Int) false false rest 1<;>rfl
noncomputable def IZ (args:List AV):Option (Bool×List fN) :=
 match args with
 |[.str d,.int .i64 b]=>some (!bB b 2 && !bB 16 b&&Nat.ble d.length 1999999,[.val (.int .u64 (sV b.toNat d).1),.val (.int .i64 (sV b.toNat d).2.1),.val (.bool (sV b.toNat d).2.2)])
 |_=>none
theorem ajx (gv:Nat->List AV):dh (Xg gv) (dO (Xg gv) kn) 78 IZ :=
 dA (λargs=>bS rfl args) (GD gv) λargs rs hg=>by
  unfold IZ at hg;split at hg
  .rename_i d b;simp only[aq,ax,ak,cB,aS,bH,br]at hg;obtain⟨⟨⟨h1,h2⟩,h3⟩,rfl⟩:=hg;obtain⟨n,rfl⟩:∃n:Nat,b=n:=⟨b.toNat,by omega⟩;rw[bh];exact⟨[.int .u64 (sV n d).1,.int .i64 (sV n d).2.1,.bool (sV n d).2.2],anD,d.length+1,anr gv (by omega) (by omega) d (by omega),rfl,rfl⟩
  cases hg
def Ex (c:UInt8):Int:=IntKind.wrap .u8 ↑(BitVec.toNat (BitVec.ofInt 8 (cU c) ||| BitVec.ofInt 8 32))
def di (w:List UInt8):Nat×Nat×Nat :=
 let second:Int:=if 2<w.length/\w.head? = some 48 then Ex (w.getD 1 0) else 0
 if second=120 then (2,0,16) else if Ex (w.getD (w.length-1) 0)=104 then (0,1,16) else if second=98 then (2,0,2) else if second=111 then (2,0,8) else (0,0,10)
noncomputable def iY (a b c:Int):Option AV:=some (.fH [.int .i64 a,.int .i64 b,.int .i64 c])
noncomputable def Ly (w:List UInt8)(k:UInt8->Option AV):Option AV:=Option.rec (motive:=λ_=>Option AV) none k (dX w (IntKind.wrap .i64 (↑w.length-1)))
noncomputable def noP (w:List UInt8):Option AV:=Ly w λc=>ah (bI (Ex c) 104) (iY 0 (IntKind.wrap .i64 (↑w.length-1)) 16) (iY 0 ↑w.length 10)
theorem ajy (gv:Nat->List AV)(w:List UInt8):aT (Xg gv) (c1 gv AV) ia 5 77 [.str w] aH.empty (λv _=>some v) =
 ah (bB 2 ↑w.length) (Option.rec (motive:=λ_=>Option AV) none (λc=>ah (bI (cU c) 48)
  (Option.rec (motive:=λ_=>Option AV) none (λc2=>Ly w λc=>ah (bI (Ex c2) 120) (iY 2 ↑w.length 16) (ah (bI (Ex c) 104) (iY 0 (IntKind.wrap .i64 (↑w.length-1)) 16)
   (ah (bI (Ex c2) 98) (iY 2 ↑w.length 2) (ah (bI (Ex c2) 111) (iY 2 ↑w.length 8) (iY 0 ↑w.length 10))))) (dX w 1))
  (noP w)) (dX w 0)) (noP w):=by kernel_rfl
theorem Qf {w:List UInt8}(h:w≠[])(hl:w.length<2000000)(k:UInt8->Option AV):Ly w k=k (w.getD (w.length-1) 0):=by
 have hp:0<w.length:=dG.2 h;unfold Ly;rw[i64_in (by omega) (by omega)];have:(w.length:Int)-1=((w.length-1:Nat):Int):=by omega
 rw[this,sy,fQ,aO (by omega)];rfl
theorem ant (gv:Nat->List AV){w:List UInt8}(h:w≠[])(hl:w.length<2000000):aT (Xg gv) (c1 gv AV) ia 5 77 [.str w] aH.empty (λv _=>some v) =
 iY (di w).1 ((w.length-(di w).2.1:Nat):Int) (di w).2.2:=by
 have hp:0<w.length:=dG.2 h;have e1:IntKind.wrap .i64 (↑w.length-1)=((w.length-1:Nat):Int):=by rw[i64_in (by omega) (by omega)];omega
 have hno:∀second:Int,second=0->noP w=iY (if second=120 then (2,0,16) else if Ex (w.getD (w.length-1) 0)=104 then (0,1,16) else if second=98 then (2,0,2) else if second=111 then (2,0,8) else (0,0,10):Nat×Nat×Nat).1 ((w.length-(if second=120 then (2,0,16) else if Ex (w.getD (w.length-1) 0)=104 then (0,1,16) else if second=98 then (2,0,2) else if second=111 then (2,0,8) else (0,0,10):Nat×Nat×Nat).2.1:Nat):Int) (if second=120 then (2,0,16) else if Ex (w.getD (w.length-1) 0)=104 then (0,1,16) else if second=98 then (2,0,2) else if second=111 then (2,0,8) else (0,0,10):Nat×Nat×Nat).2.2:=λsecond h0=>by
  subst h0;unfold noP;rw[Qf h hl,ck,e1];split
  .rfl
  rfl
 rw[ajy];unfold di;by_cases hlen:2<w.length
 .rw[pL (by omega)]
  match w,h,hlen,hno,hl,e1 with
  |a::b::r,h,hlen,hno,hl,e1 =>
   rw[show dX (a::b::r) 0=some a from rfl,show dX (a::b::r) 1=some b from rfl];show ah (bI (cU a) 48) _ _=_;by_cases ha:cU a=48
   .have ha':a=48:=IU (a:=a) (b:=48) ha;rw[FL ha];show Ly (a::b::r) _=_;rw[Qf h hl];simp only[ck,e1];rw[ag (show 2<(a::b::r).length/\(a::b::r).head? = some 48 from ⟨hlen,by rw[ha'];rfl⟩)];show _=iY (if Ex b=120 then _ else _:Nat×Nat×Nat).1 _ _;have hb:(a::b::r).getD 1 0=b:=rfl;simp only[hb];repeat' split
    all_goals rfl
   rw[xI ha];have hn:¬(2<(a::b::r).length/\(a::b::r).head? = some 48):=λ⟨_,h⟩=>by
    simp at h;exact ha (by rw[h];rfl)
   exact hno _ (aa hn)
 rw[fG (by omega)];exact hno _ (aa (by omega))
noncomputable def N7 (args:List AV):Option (Bool×List fN) :=
 match args with
 |[.str w]=>some (!w.isEmpty&&Nat.ble w.length 1999999,[.val (.int .i64 (di w).1),.val (.int .i64 ((w.length-(di w).2.1:Nat):Int)),.val (.int .i64 (di w).2.2)])
 |_=>none
theorem ajz (gv:Nat->List AV):dh (Xg gv) (dO (Xg gv) kn) 77 N7 :=
 dA (λargs=>bS rfl args) (GD gv) λargs rs hg=>by
  unfold N7 at hg;split at hg
  .rename_i w;simp only[aq,ax,ak,aS,List.isEmpty_eq_false_iff,br]at hg;obtain⟨⟨h1,h2⟩,rfl⟩:=hg;exact⟨[.int .i64 (di w).1,.int .i64 ((w.length-(di w).2.1:Nat):Int),.int .i64 (di w).2.2],ia,5,ant gv h1 (by omega),rfl,rfl⟩
  cases hg
def pT:List Bool:=[true,true,false,true,false]
noncomputable def anT:eD:=⟨gZ [0,1,6,7,8] pT,.none,[]⟩
noncomputable def stT (s:List UInt8)(at' n i:Int):fF:=lz 67 [(0,.str s),(1,.int .i64 at'),(6,.ptr 0 0),(7,.int .u64 n),(8,.int .i64 i)]
noncomputable def mT:aH:=pz [.cells 48 [.int .i64 0,.int .i64 0]]
noncomputable def jT (gv:Nat->List AV)(s:List UInt8)(at':Int)(r m:Nat)(n i:Int):Option AV:=jf (Xg gv) (c0 gv AV) anT r 75 pT (λv _=>some v) m (stT s at' n i) mT
def sB (n e f a:Int):Option AV:=some (.fH [.int .i64 n,.int .i64 e,.agg [.int .i64 f,.int .i64 a]])
noncomputable def Sg (at' i:Int):Int:=IntKind.wrap .i64 (IntKind.wrap .i64 (i-at')-1)
noncomputable def orT (n c k:Int):Int:=IntKind.wrap .u64 ↑(BitVec.toNat (BitVec.ofInt 64 n ||| BitVec.ofInt 64 (IntKind.wrap .u64 (IntKind.wrap .u64 c*2 ^ (min (Int.toNat (IntKind.wrap .i64 (8*k))) 64)))))
noncomputable def yl (at' n i:Int)(c:UInt8)(go:Int->Int->Option AV):Option AV :=
 ah (bI (cU c) 39) (sB (IntKind.wrap .i64 n) (IntKind.wrap .i64 (i+1)) 0 0)
  (ah (bB (cU c) 32) (sB 0 0 4 i) (ah (bB 126 (cU c)) (sB 0 0 4 i) (ah (bI (Sg at' i) 8) (sB 0 0 3 i)
   (ah (bB (IntKind.wrap .i64 (8*Sg at' i)) 0) none (go (orT n (cU c) (Sg at' i)) (IntKind.wrap .i64 (i+1)))))))
noncomputable def VC (s:List UInt8)(at' n i:Int)(go:Int->Int->Option AV):Option AV :=
 ah (bB i ↑s.length)
  (Option.rec (motive:=λ_=>Option AV) none (λc=>ah (bI (cU c) 39) (ah (bI (Sg at' i) 0) (sB 0 0 4 i) (yl at' n i c go)) (yl at' n i c go)) (dX s i))
  (sB 0 0 4 ↑s.length)
theorem stepT' (gv:Nat->List AV)(s:List UInt8)(at':Int)(r m:Nat)(n i:Int):jT gv s at' r (m+1) n i=VC s at' n i (jT gv s at' r m):=by kernel_rfl
theorem enterT' (gv:Nat->List AV)(s:List UInt8)(at':Int)(m:Nat):aT (Xg gv) (c0 gv AV) anT m 75 [.str s,.int .i64 at'] aH.empty (λv _=>some v)=jT gv s at' m m 0 (IntKind.wrap .i64 (at'+1)):=by kernel_rfl
def pN (len:Nat):List UInt8->Nat->Nat->Nat->Int×Int×Int×Int
 |[],_,_,_=>(0,0,4,len)
 |c::r,k,N,i =>
  if cU c=39 then (if k=0 then (0,0,4,i) else (IntKind.wrap .i64 N,i+1,0,0))
  else if cU c<32\/126<cU c then (0,0,4,i) else if k=8 then (0,0,3,i) else pN len r (k+1) (N+c.toNat*256 ^ k) (i+1)
theorem aeI {N k:Nat}{c:UInt8}(hk:k<8)(hN:N<256 ^ k):orT N (cU c) k=((N+c.toNat*256 ^ k:Nat):Int)/\N+c.toNat*256 ^ k<256 ^ (k+1):=by
 have hc:=c.toNat_lt;have hlt:N+c.toNat*256 ^ k<256 ^ (k+1):=by
  rw[Nat.pow_succ,Nat.mul_comm (256 ^ k) 256];have:c.toNat*256 ^ k<=255*256 ^ k:=dR _ (by omega);omega
 have h64:256 ^ (k+1)<=2 ^ 64:=by
  have:256 ^ (k+1)<=256 ^ 8:=Nat.pow_le_pow_right (by omega) (by omega);exact this
 have aeJ:(2:Nat) ^ (8*k)=256 ^ k:=by rw[Nat.pow_mul]
 have hpos:0<256 ^ k:=Nat.pow_pos (by omega);have hle:c.toNat*256 ^ k<2 ^ 64:=by omega
 have anu:N<2 ^ 64:=by omega
 refine⟨?_,hlt⟩;unfold orT;rw[i64_in (by omega) (by omega)];have e1:min (Int.toNat (8*(k:Int))) 64=8*k:=by omega
 rw[e1];have e2:IntKind.wrap .u64 (cU c)=(c.toNat:Int):=u64_in (aeh c) (by have:=aei c;omega);rw[e2];have e3:(c.toNat:Int)*2 ^ (8*k)=((c.toNat*256 ^ k:Nat):Int):=by
  rw[jC,<-aeJ,Int.natCast_pow];rfl
 rw[e3,u64_in (n:=((c.toNat*256 ^ k:Nat):Int)) (by omega) (by omega),BitVec.toNat_or,iN,iN,jU,jU,gR anu,gR hle];have e4:N ||| c.toNat*256 ^ k=N+c.toNat*256 ^ k:=by
  have h:=Nat.shiftLeft_add_eq_or_of_lt (b:=N) (i:=8*k) (by rw[aeJ];exact hN) c.toNat;rw[Nat.shiftLeft_eq,aeJ]at h;rw[Nat.or_comm,<-h,l5]
 rw[e4,u64_in (by omega) (by omega)]
theorem VD (gv:Nat->List AV)(s:List UInt8)(hs:s.length<2000000)(a r:Nat):∀(rest pre:List UInt8) (m k N:Nat),s=pre++rest->rest.length<m->pre.length=a+1+k->k<=8->N<256 ^ k ->
 jT gv s a r m N pre.length=sB (pN s.length rest k N pre.length).1 (pN s.length rest k N pre.length).2.1 (pN s.length rest k N pre.length).2.2.1 (pN s.length rest k N pre.length).2.2.2:=by
 intro rest;induction rest with
 |nil =>
  intro pre m k N he hm hp hk hN;obtain⟨m,rfl⟩:∃m',m=m'+1:=⟨m-1,by simp at hm;omega⟩;rw[stepT'];unfold VC;have hl:s.length=pre.length:=by rw[he];simp
  rw[fG (by omega)];rfl
 |cons c rest ih =>
  intro pre m k N he hm hp hk hN;obtain⟨m,rfl⟩:∃m',m=m'+1:=⟨m-1,by simp at hm;omega⟩;have hl:s.length=pre.length+(rest.length+1):=by rw[he];simp
  have hg:dX s (pre.length:Int)=some c:=by rw[he];exact lX pre rest c
  have hnext:IntKind.wrap .i64 ((pre.length:Int)+1)=((pre++[c]).length:Int):=by rw[i64_in (by omega) (by omega)];simp
  have ajA:Sg (a:Int) (pre.length:Int)=(k:Int):=by
   unfold Sg;rw[i64_in (n:=(pre.length:Int)-a) (by omega) (by omega),i64_in (by omega) (by omega)];omega
  rw[stepT'];unfold VC;rw[pL (by omega),hg,ajA];show ah (bI (cU c) 39) _ _=_;have hw:pN s.length (c::rest) k N pre.length=if cU c=39 then (if k=0 then (0,0,4,(pre.length:Int)) else (IntKind.wrap .i64 N,(pre.length:Int)+1,0,0))
   else if cU c<32\/126<cU c then (0,0,4,(pre.length:Int)) else if k=8 then (0,0,3,(pre.length:Int)) else pN s.length rest (k+1) (N+c.toNat*256 ^ k) (pre.length+1):=by
   rw[pN]
  rw[hw];unfold yl;rw[ajA,hnext];by_cases hc:cU c=39
  .rw[FL hc,ag hc];show ah (bI (k:Int) 0) _ _=_;by_cases hk0:k=0
   .rw[FL (by omega),ag hk0]
   rw[xI (by omega),aa hk0];show sB _ ((pre++[c]).length:Int) 0 0=_;rw[aA,ef];rfl
  rw[xI hc,aa hc];show ah (bB (cU c) 32) _ _=_;by_cases h32:cU c<32
  .rw[pL h32,ag (.inl h32)]
  rw[fG (by omega)];show ah (bB 126 (cU c)) _ _=_;by_cases ajB:126<cU c
  .rw[pL ajB,ag (.inr ajB)]
  rw[fG (by omega),aa (by omega)];show ah (bI (k:Int) 8) _ _=_;by_cases hk8:k=8
  .rw[FL (by omega),ag hk8]
  rw[xI (by omega),aa hk8];show ah (bB (IntKind.wrap .i64 (8*(k:Int))) 0) none _=_;rw[i64_in (by omega) (by omega),fG (by omega)];obtain⟨o1,o2⟩:=aeI (c:=c) (show k<8 by omega) hN;show jT gv s a r m (orT N (cU c) k) ((pre++[c]).length:Int)=_;rw[o1,ih (pre++[c]) m (k+1) (N+c.toNat*256 ^ k) (by rw[he];simp) (by simp at hm;omega) (by simp;omega) (by omega) o2,aA,ef]
def pO (s:List UInt8)(a:Nat):Int×Int×Int×Int:=pN s.length (s.drop (a+1)) 0 0 (a+1)
theorem runText (gv:Nat->List AV)(s:List UInt8)(hs:s.length<2000000)(a:Nat)(ha:a<s.length) :
 aT (Xg gv) (c0 gv AV) anT (s.length+1) 75 [.str s,.int .i64 a] aH.empty (λv _=>some v)=sB (pO s a).1 (pO s a).2.1 (pO s a).2.2.1 (pO s a).2.2.2:=by
 rw[enterT',i64_in (by omega) (by omega)];have hl:(s.take (a+1)).length=a+1:=by simp;omega
 have:=VD gv s hs a (s.length+1) (s.drop (a+1)) (s.take (a+1)) (s.length+1) 0 0 (by simp) (by simp;omega) (by omega) (by omega) (by simp);rw[hl]at this;exact this
noncomputable def VE (args:List AV):Option (Bool×List fN) :=
 match args with
 |[.str s,.int .i64 a]=>some (!bB a 0&&bB a ↑s.length&&Nat.ble s.length 1999999,[.val (.int .i64 (pO s a.toNat).1),.val (.int .i64 (pO s a.toNat).2.1),.val (.agg [.int .i64 (pO s a.toNat).2.2.1,.int .i64 (pO s a.toNat).2.2.2])])
 |_=>none
theorem ajC (gv:Nat->List AV):dh (Xg gv) (dO (Xg gv) kn) 75 VE :=
 dA (λargs=>bS rfl args) (z8 gv) λargs rs hg=>by
  unfold VE at hg;split at hg
  .rename_i s a;simp only[aq,ax,ak,cB,aS,bH,aV,br]at hg;obtain⟨⟨⟨h1,h2⟩,h3⟩,rfl⟩:=hg;obtain⟨n,rfl⟩:∃n:Nat,a=n:=⟨a.toNat,by omega⟩;rw[bh];exact⟨[.int .i64 (pO s n).1,.int .i64 (pO s n).2.1,.agg [.int .i64 (pO s n).2.2.1,.int .i64 (pO s n).2.2.2]],anT,s.length+1,runText gv s (by omega) n (by omega),rfl,rfl⟩
  cases hg
noncomputable def L2:List xX:=(75,[none,none],VE)::(77,[none],N7)::(78,[none,none],IZ)::L1
theorem ajD (gv:Nat->List AV):jx (Xg gv) (dO (Xg gv) kn) L2:=.cons (ajC gv) (.cons (ajz gv) (.cons (ajx gv) (aci gv)))
noncomputable def c2 (gv:Nat->List AV)(β:Type):cI β:=sx (Xg gv) (Tw L2) inl 200 β 20
theorem Qg (gv:Nat->List AV)(β:Type):cT (Xg gv) (dO (Xg gv) kn) (c2 gv β):=lg (ajD gv) (λf h args=>bS h args) 200 20 β
def pS:List Bool:=[true,true,true,true,true,false,false]
noncomputable def anS:eD:=⟨gZ [0,1,6,7] pS,.none,[]⟩
noncomputable def stS (s:List UInt8)(at' e:Int):fF:=lz 102 [(0,.str s),(1,.int .i64 at'),(6,.ptr 0 0),(7,.int .i64 e)]
noncomputable def jS (gv:Nat->List AV)(s:List UInt8)(at':Int)(r m:Nat)(e:Int):Option AV:=jf (Xg gv) (c2 gv AV) anS r 42 pS (λv _=>some v) m (stS s at' e) mT
noncomputable def VF (s:List UInt8)(at' e lo:Int)(r:Int×Int×Bool):Option AV :=
 ah (!bB r.2.1 0) (sB 0 0 4 (IntKind.wrap .i64 (lo+r.2.1))) (ah r.2.2 (sB 0 0 5 at') (sB (IntKind.wrap .i64 r.1) e 0 0))
noncomputable def VG (s:List UInt8)(at' e:Int)(w:List UInt8)(p:Nat×Nat×Nat):Option AV :=
 ah (!bB (IntKind.wrap .i64 (at' + ↑p.1)) 0 && !bB (IntKind.wrap .i64 (at' + ↑(w.length-p.2.1))) (IntKind.wrap .i64 (at' + ↑p.1)) && !bB (Int.ofNat s.length) (IntKind.wrap .i64 (at' + ↑(w.length-p.2.1))))
  (ah (!bB (p.2.2:Int) 2 && !bB 16 (p.2.2:Int)&&Nat.ble (eA s (IntKind.wrap .i64 (at' + ↑p.1)) (IntKind.wrap .i64 (at' + ↑(w.length-p.2.1)))).length 1999999)
   (VF s at' e (IntKind.wrap .i64 (at' + ↑p.1)) (sV (Int.toNat (p.2.2:Int)) (eA s (IntKind.wrap .i64 (at' + ↑p.1)) (IntKind.wrap .i64 (at' + ↑(w.length-p.2.1)))))) none) none
noncomputable def VH (s:List UInt8)(at' e:Int):Option AV :=
 ah (!bB at' 0 && !bB e at' && !bB (Int.ofNat s.length) e)
  (ah (!(eA s at' e).isEmpty&&Nat.ble (eA s at' e).length 1999999) (VG s at' e (eA s at' e) (di (eA s at' e))) none) none
theorem jd (gv:Nat->List AV)(s:List UInt8)(at':Int)(r m:Nat)(e:Int):jS gv s at' r (m+1) e =
 ah (bB e ↑s.length) (Option.rec (motive:=λ_=>Option AV) none (λc=>ah (pM (cU c)) (jS gv s at' r m (IntKind.wrap .i64 (e+1))) (VH s at' e)) (dX s e)) (VH s at' e):=by kernel_rfl
noncomputable def N8 (s:List UInt8)(at':Int)(go:Option AV):Option AV :=
 Option.rec (motive:=λ_=>Option AV) none (λc=>ah (bI (cU c) 39)
  (ah (!bB at' 0&&bB at' ↑s.length&&Nat.ble s.length 1999999) (sB (pO s at'.toNat).1 (pO s at'.toNat).2.1 (pO s at'.toNat).2.2.1 (pO s at'.toNat).2.2.2) none) go) (dX s at')
theorem aeK (gv:Nat->List AV)(s:List UInt8)(at':Int)(m:Nat):aT (Xg gv) (c2 gv AV) anS m 42 [.str s,.int .i64 at'] aH.empty (λv _=>some v) =
 ah (bB at' 0) (sB 0 0 6 0) (ah (!bB at' ↑s.length) (sB 0 0 6 at')
  (Option.rec (motive:=λ_=>Option AV) none (λc=>ah (!bI (cU c) 39)
   (Option.rec (motive:=λ_=>Option AV) none (λc=>ah (bB (cU c) 48) (sB 0 0 6 at')
    (Option.rec (motive:=λ_=>Option AV) none (λc=>ah (bB 57 (cU c)) (sB 0 0 6 at') (N8 s at' (jS gv s at' m m at'))) (dX s at'))) (dX s at'))
   (N8 s at' (jS gv s at' m m at'))) (dX s at'))):=by kernel_rfl
theorem ajE (gv:Nat->List AV)(s:List UInt8)(hs:s.length<2000000)(at':Int)(r:Nat):∀(rest pre:List UInt8) (m:Nat),s=pre++rest->rest.length<m ->
 jS gv s at' r m pre.length=VH s at' ((pre.length+(rest.takeWhile λc=>pM (cU c)).length:Nat):Int):=by
 intro rest;induction rest with
 |nil =>
  intro pre m he hm;obtain⟨m,rfl⟩:∃m',m=m'+1:=⟨m-1,by simp at hm;omega⟩;have hl:s.length=pre.length:=by rw[he];simp
  rw[jd,fG (by omega)];rfl
 |cons c rest ih =>
  intro pre m he hm;obtain⟨m,rfl⟩:∃m',m=m'+1:=⟨m-1,by simp at hm;omega⟩;have hl:s.length=pre.length+(rest.length+1):=by rw[he];simp
  have hg:dX s (pre.length:Int)=some c:=by rw[he];exact lX pre rest c
  have hnext:IntKind.wrap .i64 ((pre.length:Int)+1)=((pre++[c]).length:Int):=by rw[i64_in (by omega) (by omega)];simp
  rw[jd,pL (by omega),hg,hnext];show ah (pM (cU c)) _ _=_;cases hw:pM (cU c) with
  |true =>
   show jS gv s at' r m _=_;rw[ih (pre++[c]) m (by rw[he];simp) (by simp at hm;omega),jj,ag hw];simp only[aA,aJ,bD];congr 2;omega
  |false =>
   rw[jj,aa (by simp[hw])];simp
def ym (w:List UInt8)(a:Nat):Int×Int×Int×Int :=
 if 0<=(sV (di w).2.2 ((w.take (w.length-(di w).2.1)).drop (di w).1)).2.1 then (0,0,4,(a:Int)+(di w).1+(sV (di w).2.2 ((w.take (w.length-(di w).2.1)).drop (di w).1)).2.1)
 else if (sV (di w).2.2 ((w.take (w.length-(di w).2.1)).drop (di w).1)).2.2 then (0,0,5,(a:Int))
 else (IntKind.wrap .i64 (sV (di w).2.2 ((w.take (w.length-(di w).2.1)).drop (di w).1)).1,(a:Int)+w.length,0,0)
def lq (s:List UInt8)(at':Int):Int×Int×Int×Int :=
 if at'<0 then (0,0,6,0) else if (s.length:Int)<=at' then (0,0,6,at')
 else if cU (s.getD at'.toNat 0)=39 then pO s at'.toNat
 else if 48<=cU (s.getD at'.toNat 0)/\cU (s.getD at'.toNat 0)<=57 then ym ((s.drop at'.toNat).takeWhile λc=>pM (cU c)) at'.toNat
 else (0,0,6,at')
theorem VI (w:List UInt8)(h:w≠[]):(di w).1+(di w).2.1<=w.length/\2<=(di w).2.2/\(di w).2.2<=16:=by
 have hp:0<w.length:=dG.2 h;unfold di;by_cases hc:2<w.length/\w.head? = some 48
 .simp only[ag hc];repeat' split
  all_goals refine⟨?_,?_,?_⟩<;>simp only<;>omega
 simp only[aa hc];repeat' split
 all_goals first|(refine⟨?_,?_,?_⟩<;>simp only<;>omega)|(rename_i h _;simp at h)|(rename_i h;simp at h)
theorem Ey (b:Int):∀(l:List UInt8) (first prev:Bool) (i j:Nat),kr b first prev l i=some j->j<=i+l.length
 |[],first,prev,i,j,h=>by
  rw[kr]at h;split at h
  .cases h;omega
  cases h
 |c::r,first,prev,i,j,h=>by
  rw[kr]at h;simp only[aJ];split at h
  .split at h
   .cases h;omega
   have:=Ey b r _ _ _ _ h;omega
  split at h
  .cases h;omega
  have:=Ey b r _ _ _ _ h;omega
theorem ZF (b:Nat)(d:List UInt8) : -1<=(sV b d).2.1/\(sV b d).2.1<=d.length:=by
 unfold sV;split
 .rename_i i h;have:=Ey b d true false 0 i h;simp only;omega
 simp only;omega
theorem ZG {s w:List UInt8}(hs:s.length<2000000){a:Nat}(ha:a+w.length<=s.length)(hw:w≠[])(he:(s.drop a).take w.length=w) :
 VH s a ((a+w.length:Nat):Int)=sB (ym w a).1 (ym w a).2.1 (ym w a).2.2.1 (ym w a).2.2.2:=by
 obtain⟨h1,h2,h3⟩:=VI w hw;have Sh:eA s (a:Int) ((a+w.length:Nat):Int)=w:=by
  unfold eA;simp only[bh];have:a+w.length-a=w.length:=by omega
  rw[this];exact he
 unfold VH;rw[fG (a:=(a:Int)) (b:=0) (by omega),fG (a:=((a+w.length:Nat):Int)) (by omega),fG (a:=Int.ofNat s.length) (by show ((a+w.length:Nat):Int)<=(s.length:Int);omega),Sh];have hne:w.isEmpty=false:=by simpa using hw
 have Uz:Nat.ble w.length 1999999=true:=ee (by omega);rw[hne,Uz];show VG s a _ w (di w)=_;unfold VG;have e1:IntKind.wrap .i64 ((a:Int)+((di w).1:Int))=((a+(di w).1:Nat):Int):=by rw[i64_in (by omega) (by omega)];omega
 have e2:IntKind.wrap .i64 ((a:Int)+((w.length-(di w).2.1:Nat):Int))=((a+(w.length-(di w).2.1):Nat):Int):=by rw[i64_in (by omega) (by omega)];omega
 rw[e1,e2,fG (a:=((a+(di w).1:Nat):Int)) (b:=0) (by omega),fG (a:=((a+(w.length-(di w).2.1):Nat):Int)) (by omega),fG (a:=Int.ofNat s.length) (by show ((a+(w.length-(di w).2.1):Nat):Int)<=(s.length:Int);omega)];have ajF:eA s ((a+(di w).1:Nat):Int) ((a+(w.length-(di w).2.1):Nat):Int)=(w.take (w.length-(di w).2.1)).drop (di w).1:=Vb he _ _ (by omega);rw[ajF,fG (a:=((di w).2.2:Int)) (b:=2) (by omega),fG (a:=16) (by omega)];have anv:Nat.ble ((w.take (w.length-(di w).2.1)).drop (di w).1).length 1999999=true:=ee (by simp;omega)
 rw[anv,bh];show VF s a _ _ _=_;unfold VF ym;have hd:=ZF (di w).2.2 ((w.take (w.length-(di w).2.1)).drop (di w).1);have hdl:((w.take (w.length-(di w).2.1)).drop (di w).1).length<=w.length:=by simp;omega
 generalize sV (di w).2.2 ((w.take (w.length-(di w).2.1)).drop (di w).1)=rr at hd ⊢;rw[jM];by_cases h0:0<=rr.2.1
 .rw[ag h0,ag h0,i64_in (by omega) (by omega)];show sB _ _ _ _=sB _ _ _ _;congr 1
 rw[aa h0,aa h0,av];by_cases h4:rr.2.2=true
 .rw[ag h4,ag h4]
 rw[aa h4,aa h4];show sB _ _ _ _=sB _ _ _ _;congr 1
theorem N9 (l:List UInt8)(p:UInt8->Bool):l.take (l.takeWhile p).length=l.takeWhile p:=by
 have h:=List.takeWhile_append_dropWhile (p:=p) (l:=l);have h2:(l.takeWhile p++l.dropWhile p).take (l.takeWhile p).length=l.takeWhile p:=List.take_left;rw[h]at h2;exact h2
theorem FM (gv:Nat->List AV)(s:List UInt8)(hs:s.length<2000000)(at':Int) :
 aT (Xg gv) (c2 gv AV) anS (s.length+1) 42 [.str s,.int .i64 at'] aH.empty (λv _=>some v)=sB (lq s at').1 (lq s at').2.1 (lq s at').2.2.1 (lq s at').2.2.2:=by
 rw[aeK];unfold lq;rw[cG];by_cases h0:at'<0
 .rw[ag h0,ag h0]
 rw[aa h0,aa h0,jM];by_cases h1:(s.length:Int)<=at'
 .rw[ag h1,ag h1]
 rw[aa h1,aa h1];obtain⟨a,rfl⟩:∃a:Nat,at'=a:=⟨at'.toNat,by omega⟩;have ha:a<s.length:=by omega
 rw[bh];have hg:dX s (a:Int)=some (s.getD a 0):=by
  rw[sy,fQ,aO ha];rfl
 unfold N8;rw[hg];generalize hc:s.getD a 0=c;show ah (!bI (cU c) 39) (ah (bB (cU c) 48) _ (ah (bB 57 (cU c)) _ (ah (bI (cU c) 39) _ _))) (ah (bI (cU c) 39) _ _)=_;simp only[cX,ck,cG];by_cases h39:cU c=39
 .simp only[ag h39];rw[fG (by omega),pL (by omega),ee (show s.length<=1999999 by omega)];rw[bh];rfl
 simp only[aa h39];by_cases hd:48<=cU c/\cU c<=57
 .rw[aa (by omega),aa (by omega),ag hd];have hl:(s.take a).length=a:=by simp;omega
  have acj:=ajE gv s hs a (s.length+1) (s.drop a) (s.take a) (s.length+1) (by simp) (by simp;omega);rw[hl]at acj;rw[acj];have ajG:s.drop a=c::s.drop (a+1):=by
   rw[lZ ha,<-hc,fQ,aO ha];rfl
  have hw:(s.drop a).takeWhile (λc=>pM (cU c))≠[]:=by
   rw[ajG,jj,ag (by unfold pM;simp;omega)];simp
  have hle:((s.drop a).takeWhile λc=>pM (cU c)).length<=(s.drop a).length:=by
   have:=List.IsPrefix.length_le (List.takeWhile_prefix (l:=s.drop a) (λc=>pM (cU c)));exact this
  exact ZG hs (by simp at hle;omega) hw (N9 _ _)
 rw[aa hd];by_cases h48:cU c<48
 .rw[ag h48]
 rw[aa h48,ag (by omega)]
noncomputable def VJ (args:List AV):Option (Bool×List fN) :=
 match args with
 |[.str s,.int .i64 a]=>some (Nat.ble s.length 1999999,[.val (.int .i64 (lq s a).1),.val (.int .i64 (lq s a).2.1),.val (.agg [.int .i64 (lq s a).2.2.1,.int .i64 (lq s a).2.2.2])])
 |_=>none
theorem ajH (gv:Nat->List AV):dh (Xg gv) (dO (Xg gv) kn) 42 VJ :=
 dA (λargs=>bS rfl args) (Qg gv) λargs rs hg=>by
  unfold VJ at hg;split at hg
  .rename_i s a;simp only[aq,ax,br]at hg;obtain⟨h3,rfl⟩:=hg;exact⟨[.int .i64 (lq s a).1,.int .i64 (lq s a).2.1,.agg [.int .i64 (lq s a).2.2.1,.int .i64 (lq s a).2.2.2]],anS,s.length+1,FM gv s (by omega) a,rfl,rfl⟩
  cases hg
end Go.Proofs.YtfggompceldfgaaGreatDoor.lt

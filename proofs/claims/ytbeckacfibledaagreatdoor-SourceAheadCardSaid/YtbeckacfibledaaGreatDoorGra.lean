/- The setting of the laws on sources: what is known, package-level variables. Names that have a meaning of their own: contracts out of what is known. Literals: contracts of the small functions. Literals: digits. Literals: the contracts of digits and parts. Literals: a text's literal. Literals: Scan. -/
import Derived.Test.YtbeckacfibledaaGreatDoorLyg
import Derived.Test.YtbeckacfibledaaGreatDoorGsa
set_option linter.unusedVariables false
set_option linter.unusedSimpArgs false

namespace Go.Proofs.YtbeckacfibledaaGreatDoor.lt
open Go.Tv Go.Ev
noncomputable section
def inl:FuncId->Bool:=λf => !(Nat.beq f 6||(Nat.beq f (qO 40)||(Nat.beq f 106||Nat.beq f 38)))
def kn:fc:=rg.kT [(6,[])] rg.kS
theorem bR {f:FuncId}(h:inl f=true)(args:List Value):kn f args=none:=by
 unfold inl at h;simp only[aS,Bool.or_eq_false_iff]at h;obtain⟨h0,h1,h2,h3⟩:=h;have e:rg.EB f args [(6,[])]=false:=by
  unfold rg.EB;rw[h0];rfl
 unfold kn rg.kT;rw[e];show rg.kS f args=none;unfold rg.kS;rw[h1];show rg.kR f args=none;unfold rg.kR;rw[h2];show nm.Z5 f args=none;unfold nm.Z5;rw[h3]
def SC (f:FuncId):List Tmp:=ah (Nat.beq f 123) [71,47] []
def Xg (gv:Nat->List AV):gY:={ P:=Tryz.prog,G:=7+1,gv:=gv,trs:=SC,ar:=λt=>Nat.beq t 178||Nat.beq t 190 }
def gG:ez:=⟨.none,.none,[]⟩
def K0:T3:=λ_=>none
section
variable (gv:Nat->List AV)
def c0 (β:Type):cH β:=sy (Xg gv) K0 inl 200 β 20
theorem Ae (β:Type):cX (Xg gv) (dR (Xg gv) kn) (c0 gv β):=lp (by intro id s g h;cases h) (λf h args=>bR h args) 200 20 β
end
def BI:List Value:=[.string ⟨#[36,36]⟩,.string ⟨#[60,60]⟩,.string ⟨#[62,62]⟩,.string ⟨#[43]⟩,.string ⟨#[45]⟩,.string ⟨#[42]⟩,.string ⟨#[47]⟩,.string ⟨#[37]⟩,.string ⟨#[38]⟩,.string ⟨#[124]⟩,.string ⟨#[94]⟩,.string ⟨#[126]⟩,.string ⟨#[40]⟩,.string ⟨#[41]⟩,.string ⟨#[91]⟩,.string ⟨#[93]⟩,.string ⟨#[44]⟩,.string ⟨#[58]⟩,.string ⟨#[36]⟩]
def BJ (g:Nat):List AV:=ah (Nat.beq g 0) (BI.map N9) (rg.gv g)
theorem LY {S:Wo}{s:List UInt8}{m:List Value}(h:LV S [.str s] m):m=[.string ⟨s.toArray⟩]:=by
 obtain⟨x,m',rfl,h1,h2⟩:=h.cons_inv;rw[h1.jr,h2.js]
def gRP (args:List AV):Option (Bool×List fy) :=
 match args with
 |[.str s]=>some (true,[.val (.agg [.int .i64 (rg.pR s).1,.int .i64 (rg.pR s).2.1]),.val (.bool (rg.pR s).2.2)])
 |_=>none
def gNP (args:List AV):Option (Bool×List fy) :=
 match args with
 |[.str s]=>some (true,[.val (.int .i64 (nm.lu s).1),.val (.bool (nm.lu s).2)])
 |_=>none
theorem akS (gv:Nat->List AV):cZ (Xg gv) (dR (Xg gv) kn) 106 gRP :=
 EI λargs rs hg=>by
  unfold gRP at hg;split at hg
  .rename_i s;simp only[aq,ax]at hg;obtain⟨_,rfl⟩:=hg;refine⟨_,_,.agg #[.int .i64 (rg.pR s).1,.int .i64 (rg.pR s).2.1],.bool (rg.pR s).2.2,rfl,rfl,rfl,λS=>?_,λS=>.bool _,λS bK hl=>?_⟩
   .exact .agg [.int .i64 (rg.pR s).1,.int .i64 (rg.pR s).2.1] [.int .i64 (rg.pR s).1,.int .i64 (rg.pR s).2.1] rfl (LV.cons (.int _ _) (LV.cons (.int _ _) LV.nil)).2
   rw[LY hl];exact⟨rfl,rfl,rfl⟩
  cases hg
theorem akT (gv:Nat->List AV):cZ (Xg gv) (dR (Xg gv) kn) 38 gNP :=
 EI λargs rs hg=>by
  unfold gNP at hg;split at hg
  .rename_i s;simp only[aq,ax]at hg;obtain⟨_,rfl⟩:=hg;refine⟨_,_,.int .i64 (nm.lu s).1,.bool (nm.lu s).2,rfl,rfl,rfl,λS=>.int _ _,λS=>.bool _,λS bK hl=>?_⟩;rw[LY hl];exact⟨rfl,rfl,rfl⟩
  cases hg
def R1:List vW:=[(106,[none],gRP),(38,[none],gNP)]
theorem ada (gv:Nat->List AV):iO (Xg gv) (dR (Xg gv) kn) R1:=.cons (akS gv) (.cons (akT gv) .nil)
def r1 (gv:Nat->List AV)(β:Type):cH β:=sy (Xg gv) (T4 R1) inl 200 β 20
theorem akU (gv:Nat->List AV)(β:Type):cX (Xg gv) (dR (Xg gv) kn) (r1 gv β):=lp (ada gv) (λf h args=>bR h args) 200 20 β
def Wm:List (List UInt8):=["db","dw","dd","dq","resb","resw","resd","resq","equ","times","align","org","struc","endstruc","dcx","byte","word","dword","qword","oword","yword","short","near","strict","rel"].map λs=>s.toUTF8.data.toList
def oneT' (s:List UInt8):List (List UInt8)->Option AV
 |[]=>some (.bool false)
 |[w]=>ah (decide (s=w)) (some (.bool true)) (some (.bool false))
 |w::v::l=>ah (decide (s=w)) (ah (decide (s=w)) (some (.bool true)) (some (.bool false))) (oneT' s (v::l))
def vk (s:List UInt8):Bool:=(rg.pR s).2.2||((nm.lu s).2||decide (s∈Wm))
theorem oneT'_eq (s:List UInt8):∀l,oneT' s l=some (.bool (decide (s∈l)))
 |[]=>rfl
 |[w]=>by
  unfold oneT';by_cases h:s=w
  .rw[aX h,aX (bx.2 (.inl h))]
  rw[aU h,aU (by simp[h])]
 |w::v::l=>by
  unfold oneT';rw[oneT'_eq s (v::l)];by_cases h:s=w
  .rw[aX h,aX (bx.2 (.inl h))]
  rw[aU h];show some (AV.bool (decide (s∈v::l)))=_;have:(s∈w::v::l)↔s∈v::l:=by simp[h]
  rw[eZ.2 this]
set_option maxRecDepth 100000 in
theorem aah (gv:Nat->List AV)(s:List UInt8):aT (Xg gv) (r1 gv AV) gG 20 66 [.str s] aG.empty (λv _=>some v) =
 ah (rg.pR s).2.2 (some (.bool true)) (ah (nm.lu s).2 (some (.bool true)) (oneT' s Wm)):=by kernel_rfl
def OO (args:List AV):Option (Bool×List fy) :=
 match args with
 |[.str s]=>some (true,[.val (.bool (vk s))])
 |_=>none
theorem afG (gv:Nat->List AV):cZ (Xg gv) (dR (Xg gv) kn) 66 OO :=
 cR (λargs=>bR rfl args) (akU gv) λargs rs hg=>by
  unfold OO at hg;split at hg
  .rename_i s;simp only[aq,ax]at hg;obtain⟨_,rfl⟩:=hg;refine⟨[.bool (vk s)],gG,20,?_,rfl,rfl⟩;rw[aah,oneT'_eq];unfold vk;cases (rg.pR s).2.2<;>cases (nm.lu s).2<;>rfl
  cases hg
end
end Go.Proofs.YtbeckacfibledaaGreatDoor.lt
namespace Go.Proofs.YtbeckacfibledaaGreatDoor.lt
open Go.Tv Go.Ev
set_option maxRecDepth 100000
noncomputable section
def mO (n:Int):Int:=if 48<=n/\n<=57 then n-48 else if 97<=n/\n<=102 then n-87 else if 65<=n/\n<=70 then n-55 else -1
def pQ (n:Int):Bool:=decide (48<=n/\n<=57\/97<=n/\n<=122\/65<=n/\n<=90\/n=95)
theorem akj (gv:Nat->List AV)(n:Int):aT (Xg gv) (c0 gv AV) gG 5 60 [.int .u8 n] aG.empty (λv _=>some v)=some (.bool (pQ n)):=by
 have h:aT (Xg gv) (c0 gv AV) gG 5 60 [.int .u8 n] aG.empty (λv _=>some v)=yz n 48 57 (some (.bool true)) (yz n 97 122 (some (.bool true)) (yz n 65 90 (some (.bool true)) (some (.bool (bI n 95))))):=by kernel_rfl
 rw[h];simp only[Ez,eF];unfold pQ;repeat' split
 all_goals congr 2
 all_goals first|(symm;rw[aV];omega)|(rw[bO,eK,aV];omega)
theorem akk (gv:Nat->List AV)(n:Int):aT (Xg gv) (c0 gv AV) gG 5 101 [.int .u8 n] aG.empty (λv _=>some v)=some (.int .i64 (mO n)):=by
 have h:aT (Xg gv) (c0 gv AV) gG 5 101 [.int .u8 n] aG.empty (λv _=>some v) =
  yz n 48 57 (some (.int .i64 (IntKind.wrap .i64 (IntKind.wrap .u8 (n-48))))) (yz n 97 102 (some (.int .i64 (IntKind.wrap .i64 (IntKind.wrap .i64 (IntKind.wrap .u8 (n-97))+10)))) (yz n 65 70 (some (.int .i64 (IntKind.wrap .i64 (IntKind.wrap .i64 (IntKind.wrap .u8 (n-65))+10)))) (some (.int .i64 (-1))))):=by kernel_rfl
 rw[h];simp only[Ez];unfold mO;split
 .rw[u8_in (by omega) (by omega),i64_in (by omega) (by omega)]
 split
 .rw[u8_in (by omega) (by omega),i64_in (n:=n-97) (by omega) (by omega),i64_in (by omega) (by omega)];congr 2;omega
 split
 .rw[u8_in (by omega) (by omega),i64_in (n:=n-65) (by omega) (by omega),i64_in (by omega) (by omega)];congr 2;omega
 rfl
noncomputable def V2 (args:List AV):Option (Bool×List fy) :=
 match args with
 |[.int .u8 n]=>some (true,[.val (.bool (pQ n))])
 |_=>none
noncomputable def afp (args:List AV):Option (Bool×List fy) :=
 match args with
 |[.int .u8 n]=>some (true,[.val (.int .i64 (mO n))])
 |_=>none
theorem akl (gv:Nat->List AV):cZ (Xg gv) (dR (Xg gv) kn) 60 V2 :=
 cR (λargs=>bR rfl args) (Ae gv) λargs rs hg=>by
  unfold V2 at hg;split at hg
  .rename_i n;simp only[aq,ax]at hg;obtain⟨h1,rfl⟩:=hg;exact⟨[.bool (pQ n)],gG,5,akj gv n,rfl,rfl⟩
  cases hg
theorem akm (gv:Nat->List AV):cZ (Xg gv) (dR (Xg gv) kn) 101 afp :=
 cR (λargs=>bR rfl args) (Ae gv) λargs rs hg=>by
  unfold afp at hg;split at hg
  .rename_i n;simp only[aq,ax]at hg;obtain⟨h1,rfl⟩:=hg;exact⟨[.int .i64 (mO n)],gG,5,akk gv n,rfl,rfl⟩
  cases hg
noncomputable def Jg (x y:Int):AV :=
 let w:=IntKind.wrap .u64
 let x0:Int:=w ↑(BitVec.toNat (BitVec.ofInt 64 x &&& BitVec.ofInt 64 4294967295))
 let y0:Int:=w ↑(BitVec.toNat (BitVec.ofInt 64 y &&& BitVec.ofInt 64 4294967295))
 let x1:=Int.fdiv x 4294967296
 let y1:=Int.fdiv y 4294967296
 let t:=w (w (x1*y0)+Int.fdiv (w (x0*y0)) 4294967296)
 .fG [.int .u64 (w (w (w (x1*y1)+Int.fdiv t 4294967296)+Int.fdiv (w (w ↑(BitVec.toNat (BitVec.ofInt 64 t &&& BitVec.ofInt 64 4294967295))+w (x0*y1))) 4294967296)),.int .u64 (w (x*y))]
theorem afq (gv:Nat->List AV)(x y:Int):aT (Xg gv) (c0 gv AV) gG 5 102 [.int .u64 x,.int .u64 y] aG.empty (λv _=>some v)=some (Jg x y):=by kernel_rfl
theorem afr {a:Int}:Int.fdiv a 4294967296=a/4294967296:=iK _ (by omega)
theorem mul_eq {x y:Int}(h0:0<=x)(h1:x<18446744073709551616)(h2:0<=y)(h3:y<4294967296):Jg x y = .fG [.int .u64 (x*y/18446744073709551616),.int .u64 (x*y%18446744073709551616)]:=by
 have low:∀{a:Int},0<=a->a<18446744073709551616->((BitVec.ofInt 64 a &&& BitVec.ofInt 64 4294967295).toNat:Int)=a%4294967296:=λ{a} ha hb=>ZW ha hb 32 (by omega)
 have hx0:IntKind.wrap .u64 ↑(BitVec.toNat (BitVec.ofInt 64 x &&& BitVec.ofInt 64 4294967295))=x%4294967296:=by rw[low h0 h1,u64_in (by omega) (by omega)]
 have hy0:IntKind.wrap .u64 ↑(BitVec.toNat (BitVec.ofInt 64 y &&& BitVec.ofInt 64 4294967295))=y:=by rw[low h2 (by omega),u64_in (by omega) (by omega)];omega
 have hy1:y/4294967296=0:=by omega
 unfold Jg;simp only[hx0,hy0,afr,hy1,Int.mul_zero];obtain⟨a,ha⟩:∃a,x/4294967296*y=a:=⟨_,rfl⟩;obtain⟨b,hb⟩:∃b,x%4294967296*y=b:=⟨_,rfl⟩;have hxy:x*y=a*4294967296+b:=by
  rw[<-ha,<-hb];have:=Int.mul_ediv_add_emod x 4294967296
  calc x*y=(4294967296*(x/4294967296)+x%4294967296)*y:=by rw[this]
   _=_:=by rw[Int.add_mul,jz,ot 4294967296]
 have ha0:0<=a:=by rw[<-ha];exact mI (by omega) h2
 have hb0:0<=b:=by rw[<-hb];exact mI (by omega) h2
 have ha1:a<=4294967295*4294967295:=by
  rw[<-ha];exact Int.le_trans (gC (show x/4294967296<=4294967295 by omega) h2) (dz (show y<=4294967295 by omega) (by omega))
 have x9:b<=4294967295*4294967295:=by
  rw[<-hb];exact Int.le_trans (gC (show x%4294967296<=4294967295 by omega) h2) (dz (show y<=4294967295 by omega) (by omega))
 rw[ha,hb,hxy];have w1:IntKind.wrap .u64 b=b:=u64_in hb0 (by omega);have w2:IntKind.wrap .u64 a=a:=u64_in ha0 (by omega);have w3:IntKind.wrap .u64 (a+b/4294967296)=a+b/4294967296:=u64_in (by omega) (by omega);have w4:IntKind.wrap .u64 0=0:=u64_in (by omega) (by omega);rw[w1,w2,w3,low (by omega) (by omega),w4,Int.zero_add,Int.add_zero];have w5:IntKind.wrap .u64 ((a+b/4294967296)%4294967296)=(a+b/4294967296)%4294967296:=u64_in (by omega) (by omega);have w6:IntKind.wrap .u64 ((a+b/4294967296)/4294967296)=(a+b/4294967296)/4294967296:=u64_in (by omega) (by omega)
 rw[w5,w5,w6];have w7:(a+b/4294967296)%4294967296/4294967296=0:=by omega
 rw[w7,Int.add_zero,w6,QD];have e1:(a+b/4294967296)/4294967296=(a*4294967296+b)/18446744073709551616:=by omega
 rw[e1]
noncomputable def afs (args:List AV):Option (Bool×List fy) :=
 match args with
 |[.int .u64 x,.int .u64 y]=>some (!bB x 0&&bB x 18446744073709551616 && !bB y 0&&bB y 4294967296,[.val (.int .u64 (x*y/18446744073709551616)),.val (.int .u64 (x*y%18446744073709551616))])
 |_=>none
theorem akn (gv:Nat->List AV):cZ (Xg gv) (dR (Xg gv) kn) 102 afs :=
 cR (λargs=>bR rfl args) (Ae gv) λargs rs hg=>by
  unfold afs at hg;split at hg
  .rename_i x y;simp only[aq,ax,ak,cA,aS,bH,aV]at hg;obtain⟨h1,rfl⟩:=hg;exact⟨[.int .u64 (x*y/18446744073709551616),.int .u64 (x*y%18446744073709551616)],gG,5,(afq gv x y).trans (cj some (mul_eq (x:=x) (y:=y) (by omega) (by omega) (by omega) (by omega))),rfl,rfl⟩
  cases hg
end
end Go.Proofs.YtbeckacfibledaaGreatDoor.lt
namespace Go.Proofs.YtbeckacfibledaaGreatDoor.lt
open Go.Tv Go.Ev
set_option maxRecDepth 100000
noncomputable def L1:List vW:=[(60,[none],V2),(101,[none],afp),(102,[none,none],afs)]
theorem ac3 (gv:Nat->List AV):iO (Xg gv) (dR (Xg gv) kn) L1:=.cons (akl gv) (.cons (akm gv) (.cons (akn gv) .nil))
noncomputable def c1 (gv:Nat->List AV)(β:Type):cH β:=sy (Xg gv) (T4 L1) inl 200 β 20
theorem GX (gv:Nat->List AV)(β:Type):cX (Xg gv) (dR (Xg gv) kn) (c1 gv β):=lp (ac3 gv) (λf h args=>bR h args) 200 20 β
noncomputable def anD:ez:=⟨.none,.node (some [0,1,7,8,9]) .none .none,[]⟩
noncomputable def stD (d:List UInt8)(b n i:Int)(Nl:Bool):fM:=lq 83 [(0,.str d),(1,.int .i64 b),(7,.int .u64 n),(8,.int .i64 i),(9,.bool Nl)]
noncomputable def jD (gv:Nat->List AV)(d:List UInt8)(b:Int)(r m:Nat)(n i:Int)(Nl:Bool):Option AV:=aj0 (Xg gv) (c1 gv AV) anD r 62 [true] 0 (λv _=>some v) m (stD d b n i Nl) aG.empty
def eV (n i:Int)(Nl:Bool):Option AV:=some (.fG [.int .u64 n,.int .i64 i,.bool Nl])
noncomputable def LP (b n v:Int):Int:=Int.ofNat ((Int.toNat (n*IntKind.wrap .u64 b%18446744073709551616)+Int.toNat (IntKind.wrap .u64 v)+0)%Extern.MathBitsCarry.m64)
noncomputable def SI (b n v:Int):Int:=Int.ofNat ((Int.toNat (n*IntKind.wrap .u64 b%18446744073709551616)+Int.toNat (IntKind.wrap .u64 v)+0)/Extern.MathBitsCarry.m64)
noncomputable def EE (d:List UInt8)(b n i:Int)(Nl:Bool)(go:Int->Int->Bool->Option AV):Option AV :=
 ah (bI i ↑d.length)
  (ah (bI i 0) (eV 0 0 false) (eV n (-1) Nl))
  (Option.rec (motive:=λ_=>Option AV) none (λc=>ah (bI (cY c) 95)
   (ah (bI i 0) (eV 0 i false) (ah (bI i (IntKind.wrap .i64 (↑d.length-1))) (eV 0 i false)
    (Option.rec (motive:=λ_=>Option AV) none (λc=>ah (bI (cY c) 95) (eV 0 i false) (go n (IntKind.wrap .i64 (i+1)) Nl)) (dQ d (IntKind.wrap .i64 (i-1))))))
   (Option.rec (motive:=λ_=>Option AV) none (λc=>ah (bB (mO (cY c)) 0) (eV 0 i false) (ah (!bB (mO (cY c)) b) (eV 0 i false)
    (ah (!bB n 0&&bB n 18446744073709551616 && !bB (IntKind.wrap .u64 b) 0&&bB (IntKind.wrap .u64 b) 4294967296)
     (ah Nl (go (LP b n (mO (cY c))) (IntKind.wrap .i64 (i+1)) true)
      (ah (!bI (n*IntKind.wrap .u64 b/18446744073709551616) 0) (go (LP b n (mO (cY c))) (IntKind.wrap .i64 (i+1)) true)
       (go (LP b n (mO (cY c))) (IntKind.wrap .i64 (i+1)) (!bI (SI b n (mO (cY c))) 0))))
     none))) (dQ d i))) (dQ d i))
theorem Cr (gv:Nat->List AV)(d:List UInt8)(b:Int)(r m:Nat)(n i:Int)(Nl:Bool):jD gv d b r (m+1) n i Nl=EE d b n i Nl (jD gv d b r m):=by kernel_rfl
theorem aft (gv:Nat->List AV)(d:List UInt8)(b:Int)(m:Nat):aT (Xg gv) (c1 gv AV) anD m 62 [.str d,.int .i64 b] aG.empty (λv _=>some v)=EE d b 0 0 false (jD gv d b m m):=by kernel_rfl
def kz (b:Int):Bool->Bool->List UInt8->Nat->Option Nat
 |first,_,[],_=>if first then some 0 else none
 |first,prev,c::r,i=>if cY c=95 then (if first=true\/r=[]\/prev=true then some i else kz b false true r (i+1)) else if mO (cY c)<0\/b<=mO (cY c) then some i else kz b false false r (i+1)
def wZ (b:Nat):List UInt8->Nat->Nat
 |[],N=>N
 |c::r,N=>if cY c=95 then wZ b r N else wZ b r (N*b+(mO (cY c)).toNat)
def sZ (b:Nat)(d:List UInt8):Int×Int×Bool :=
 match kz b true false d 0 with
 |some i=>(0,(i:Int),false)
 |none=>(((wZ b d 0%18446744073709551616:Nat):Int),-1,decide (18446744073709551616<=wZ b d 0))
theorem LQ {b N v:Nat}(hb:b<=16)(hv:v<16):LP b ((N%18446744073709551616:Nat):Int) v=(((N*b+v)%18446744073709551616:Nat):Int)/\((N:Int)<18446744073709551616->(((N%18446744073709551616:Nat):Int)*IntKind.wrap .u64 b/18446744073709551616=0↔N*b<18446744073709551616)/\(N*b<18446744073709551616->(SI b ((N%18446744073709551616:Nat):Int) v=0↔N*b+v<18446744073709551616))):=by
 have wb:IntKind.wrap .u64 (b:Int)=b:=u64_in (by omega) (by omega);have wv:IntKind.wrap .u64 (v:Int)=v:=u64_in (by omega) (by omega);have e1:((N%18446744073709551616:Nat):Int)*(b:Int)%18446744073709551616=((N%18446744073709551616*b%18446744073709551616:Nat):Int):=by
  rw[Int.natCast_emod (N%18446744073709551616*b),jF];rfl
 have hm:Extern.MathBitsCarry.m64=18446744073709551616:=by kernel_rfl
 unfold LP SI;rw[wb,wv,e1,hm];simp only[bg,ow];refine⟨?_,λhN=>?_⟩
 .show ((_:Nat):Int)=_;congr 1
  rw[Nat.add_mod (N*b),Nat.mul_mod N b,Nat.add_mod (N%18446744073709551616*b%18446744073709551616),Nat.mod_mod,Nat.mul_mod (N%18446744073709551616) b,Nat.mod_mod]
 have hN':N%18446744073709551616=N:=gW (by omega);rw[hN'];generalize hP:N*b=P;refine⟨?_,λhl=>?_⟩
 .have:((N:Int)*(b:Int))=(P:Int):=by rw[<-hP,jF]
  rw[this];omega
 show ((((P%18446744073709551616+v)/18446744073709551616:Nat)):Int)=0↔_;omega
theorem V3 (n:Int):mO n<16:=by unfold mO;repeat' split<;>omega
theorem ako (gv:Nat->List AV){b:Nat}(J6:2<=b)(hb:b<=16)(d:List UInt8)(hd:d.length<2000000)(r:Nat):∀(rest pre:List UInt8) (m:Nat) (N:Nat) (prev:Bool),d=pre++rest->rest.length<m->pre≠[]->(prev=true↔∃q,pre=q++[95]) ->
 jD gv d b r m ((N%18446744073709551616:Nat):Int) pre.length (decide (18446744073709551616<=N)) =
  match kz b false prev rest pre.length with
  |some i=>eV 0 i false
  |none=>eV ((wZ b rest N%18446744073709551616:Nat):Int) (-1) (decide (18446744073709551616<=wZ b rest N)):=by
 intro rest;induction rest with
 |nil =>
  intro pre m N prev he hm hne V4;obtain⟨m,rfl⟩:∃m',m=m'+1:=⟨m-1,by simp at hm;omega⟩;rw[Cr];unfold EE;have hl:d.length=pre.length:=by rw[he];simp
  have hp:0<pre.length:=dJ.2 hne;rw[F3 (a:=(pre.length:Int)) (b:=(d.length:Int)) (by omega),xT (a:=(pre.length:Int)) (b:=0) (by omega)];rfl
 |cons c rest ih =>
  intro pre m N prev he hm hne V4;obtain⟨m,rfl⟩:∃m',m=m'+1:=⟨m-1,by simp at hm;omega⟩;have hl:d.length=pre.length+(rest.length+1):=by rw[he];simp
  have hp:0<pre.length:=dJ.2 hne;have hg:dQ d (pre.length:Int)=some c:=by rw[he];exact lY pre rest c
  have hnext:IntKind.wrap .i64 ((pre.length:Int)+1)=((pre++[c]).length:Int):=by rw[i64_in (by omega) (by omega)];simp
  have he':d=(pre++[c])++rest:=by rw[he];simp
  have hm':rest.length<m:=by simp at hm;omega
  rw[Cr];unfold EE;rw[xT (a:=(pre.length:Int)) (b:=(d.length:Int)) (by omega),xT (a:=(pre.length:Int)) (b:=0) (by omega),hg,hnext];show ah (bI (cY c) 95) _ _=_;by_cases hc:cY c=95
  .rw[F3 hc];show ah (bI (pre.length:Int) (IntKind.wrap .i64 (↑d.length-1))) _ _=_;rw[i64_in (by omega) (by omega)];have hw:kz b false prev (c::rest) pre.length=if rest=[]\/prev=true then some pre.length else kz b false true rest (pre.length+1):=by
    rw[kz,ag hc];simp
   rw[hw];by_cases hr:rest=[]
   .rw[F3 (by rw[hl,hr];simp),ag (.inl hr)]
   have hrl:0<rest.length:=dJ.2 hr;rw[xT (by omega)];obtain⟨q,x,hq⟩:∃q x,pre=q++[x]:=⟨pre.dropLast,pre.getLast hne,(List.dropLast_concat_getLast hne).symm⟩;have hgx:dQ d (IntKind.wrap .i64 ((pre.length:Int)-1))=some x:=by
    rw[i64_in (by omega) (by omega)];have:(pre.length:Int)-1=(q.length:Int):=by rw[hq];simp
    rw[this,he,hq,bJ];exact lY q (c::rest) x
   rw[hgx];show ah (bI (cY x) 95) _ _=_;by_cases hx:cY x=95
   .have:prev=true:=V4.2 ⟨q,by rw[hq];congr 2;exact Jc (a:=x) (b:=95) hx⟩;rw[F3 hx,ag (.inr this)]
   have hpf:prev=false:=by
    cases hpv:prev with
    |false=>rfl
    |true =>
     obtain⟨q',hq'⟩:=V4.1 hpv;rw[hq]at hq';have:=(nO hq' rfl).2;simp at this;exact absurd (by rw[this];rfl) hx
   rw[xT hx,aa (by simp[hr,hpf])];have hcc:c=95:=Jc (a:=c) (b:=95) hc;have:=ih (pre++[c]) m N true he' hm' (by simp) ⟨λ_=>⟨pre,by rw[hcc]⟩,λ_=>rfl⟩;rw[aA,ek]at this;show jD gv d b r m _ ((pre++[c]).length:Int) _=_;rw[aA,ek,this];have hv:wZ b (c::rest) N=wZ b rest N:=by rw[wZ,ag hc]
   rw[hv]
  rw[xT hc];show ah (bB (mO (cY c)) 0) _ _=_;have hw:kz b false prev (c::rest) pre.length=if mO (cY c)<0\/(b:Int)<=mO (cY c) then some pre.length else kz b false false rest (pre.length+1):=by
   rw[kz,aa hc]
  rw[hw];by_cases h0:mO (cY c)<0
  .rw[qG h0,ag (.inl h0)]
  rw[fH (by omega)];show ah (!bB (mO (cY c)) b) _ _=_;by_cases h1:(b:Int)<=mO (cY c)
  .rw[fH h1,ag (.inr h1)];rfl
  rw[qG (by omega),aa (by omega)];have wb:IntKind.wrap .u64 (b:Int)=b:=u64_in (by omega) (by omega);have hcond:(!bB ((N%18446744073709551616:Nat):Int) 0&&bB ((N%18446744073709551616:Nat):Int) 18446744073709551616 && !bB (IntKind.wrap .u64 (b:Int)) 0&&bB (IntKind.wrap .u64 (b:Int)) 4294967296)=true:=by
   rw[wb,fH (by omega),qG (by omega),fH (by omega),qG (by omega)];rfl
  obtain⟨v,hv⟩:∃v:Nat,mO (cY c)=v:=⟨(mO (cY c)).toNat,by omega⟩;have afu:v<16:=by have:=V3 (cY c);omega
  obtain⟨s1,s2⟩:=LQ (N:=N) hb afu;have hval:wZ b (c::rest) N=wZ b rest (N*b+v):=by rw[wZ,aa hc,hv];rfl
  have goal:∀Nl,Nl=decide (18446744073709551616<=N*b+v)->jD gv d b r m (LP b ((N%18446744073709551616:Nat):Int) (mO (cY c))) ((pre++[c]).length:Int) Nl =
   match kz b false false rest (pre.length+1) with
   |some i=>eV 0 i false
   |none=>eV ((wZ b (c::rest) N%18446744073709551616:Nat):Int) (-1) (decide (18446744073709551616<=wZ b (c::rest) N)):=λNl Nv=>by
   have hno:¬ ∃q,pre++[c]=q++[95]:=λ⟨q,hq⟩=>by
    have:=(nO hq rfl).2;simp at this;exact hc (by rw[this];rfl)
   have:=ih (pre++[c]) m (N*b+v) false he' hm' (by simp) ⟨λh=>(by cases h),λh=>absurd h hno⟩;rw[hv,s1,Nv,this,hval];simp
  show ah (_&&_&&_&&_) _ _=_;rw[hcond];show ah (decide (18446744073709551616<=N)) _ _=_;by_cases hN:18446744073709551616<=N
  .rw[aX hN];have:N<=N*b:=Nat.le_mul_of_pos_right N (by omega);exact goal true (by rw[aX];omega)
  rw[aU hN];obtain⟨t1,t2⟩:=s2 (by omega);show ah (!bI _ 0) _ _=_;by_cases hP:N*b<18446744073709551616
  .rw[F3 (t1.2 hP)];refine goal _ ?_;rw[hv];by_cases hS:N*b+v<18446744073709551616
   .rw[F3 ((t2 hP).2 hS),aU (by omega)];rfl
   rw[xT (λh=>hS ((t2 hP).1 h)),aX (by omega)];rfl
  rw[xT (λh=>hP (t1.1 h))];exact goal true (by rw[aX];omega)
theorem aoD (gv:Nat->List AV){b:Nat}(J6:2<=b)(hb:b<=16)(d:List UInt8)(hd:d.length<2000000) :
 aT (Xg gv) (c1 gv AV) anD (d.length+1) 62 [.str d,.int .i64 b] aG.empty (λv _=>some v)=eV (sZ b d).1 (sZ b d).2.1 (sZ b d).2.2:=by
 rw[aft];cases d with
 |nil=>rfl
 |cons c rest =>
  have hl:((c::rest).length:Int)=rest.length+1:=by simp
  unfold EE;rw[xT (a:=0) (b:=((c::rest).length:Int)) (by omega),show dQ (c::rest) 0=some c from rfl];show ah (bI (cY c) 95) _ _=_;by_cases hc:cY c=95
  .have hw:kz b true false (c::rest) 0=some 0:=by rw[kz,ag hc,ag (.inl rfl)]
   rw[F3 hc];unfold sZ;rw[hw];rfl
  rw[xT hc];show ah (bB (mO (cY c)) 0) _ _=_;have hw:kz b true false (c::rest) 0=if mO (cY c)<0\/(b:Int)<=mO (cY c) then some 0 else kz b false false rest 1:=by
   rw[kz,aa hc]
  by_cases h0:mO (cY c)<0
  .rw[qG h0];unfold sZ;rw[hw,ag (.inl h0)];rfl
  rw[fH (by omega)];show ah (!bB (mO (cY c)) b) _ _=_;by_cases h1:(b:Int)<=mO (cY c)
  .rw[fH h1];unfold sZ;rw[hw,ag (.inr h1)];rfl
  rw[qG (by omega)];have wb:IntKind.wrap .u64 (b:Int)=b:=u64_in (by omega) (by omega);have hcond:(!bB 0 0&&bB 0 18446744073709551616 && !bB (IntKind.wrap .u64 (b:Int)) 0&&bB (IntKind.wrap .u64 (b:Int)) 4294967296)=true:=by
   rw[wb,fH (a:=0) (by omega),qG (by omega),fH (by omega),qG (by omega)];rfl
  obtain⟨v,hv⟩:∃v:Nat,mO (cY c)=v:=⟨(mO (cY c)).toNat,by omega⟩;have afu:v<16:=by have:=V3 (cY c);omega
  obtain⟨s1,s2⟩:=LQ (N:=0) hb afu;show ah (_&&_&&_&&_) (ah (!bI (0*IntKind.wrap .u64 (b:Int)/18446744073709551616) 0) _ (jD gv (c::rest) b _ _ (LP b 0 (mO (cY c))) (IntKind.wrap .i64 (0+1)) (!bI (SI b 0 (mO (cY c))) 0))) none=_;rw[hcond,Int.zero_mul];show jD gv (c::rest) b _ _ (LP b 0 (mO (cY c))) (IntKind.wrap .i64 (0+1)) (!bI (SI b 0 (mO (cY c))) 0)=_;have e0:((0%18446744073709551616:Nat):Int)=0:=by simp
  rw[e0,oz,bV]at s1;rw[e0,oz,bV]at s2;have aoE:SI b 0 v=0:=((s2 (by omega)).2 (by omega)).2 (by omega);rw[hv,s1,aoE];have hno:¬ ∃q:List UInt8,[c]=q++[95]:=λ⟨q,hq⟩=>by
   have:=(nO (s₁:=[]) hq rfl).2;simp at this;exact hc (by rw[this];rfl)
  have:=ako gv J6 hb (c::rest) hd ((c::rest).length+1) rest [c] ((c::rest).length+1) v false rfl (by simp;omega) (by simp) ⟨λh=>(by cases h),λh=>absurd h hno⟩;have e1:IntKind.wrap .i64 (0+1)=(([c]:List UInt8).length:Int):=by rw[i64_in (by omega) (by omega)];rfl
  have e2:(!bI 0 0)=decide (18446744073709551616<=v):=by rw[aU (by omega)];rfl
  rw[e1,e2,this];unfold sZ;rw[hw,aa (by omega)];have hval:wZ b (c::rest) 0=wZ b rest v:=by rw[wZ,aa hc,hv];simp
  rw[hval];show (match kz (b:Int) false false rest 1 with|some i=>_|none=>_)=_;cases kz (b:Int) false false rest 1<;>rfl
noncomputable def Jh (args:List AV):Option (Bool×List fy) :=
 match args with
 |[.str d,.int .i64 b]=>some (!bB b 2 && !bB 16 b&&Nat.ble d.length 1999999,[.val (.int .u64 (sZ b.toNat d).1),.val (.int .i64 (sZ b.toNat d).2.1),.val (.bool (sZ b.toNat d).2.2)])
 |_=>none
theorem akp (gv:Nat->List AV):cZ (Xg gv) (dR (Xg gv) kn) 62 Jh :=
 cR (λargs=>bR rfl args) (GX gv) λargs rs hg=>by
  unfold Jh at hg;split at hg
  .rename_i d b;simp only[aq,ax,ak,cA,aS,bH,bt]at hg;obtain⟨⟨⟨h1,h2⟩,h3⟩,rfl⟩:=hg;obtain⟨n,rfl⟩:∃n:Nat,b=n:=⟨b.toNat,by omega⟩;rw[bg];exact⟨[.int .u64 (sZ n d).1,.int .i64 (sZ n d).2.1,.bool (sZ n d).2.2],anD,d.length+1,aoD gv (by omega) (by omega) d (by omega),rfl,rfl⟩
  cases hg
def EF (c:UInt8):Int:=IntKind.wrap .u8 ↑(BitVec.toNat (BitVec.ofInt 8 (cY c) ||| BitVec.ofInt 8 32))
def dx (w:List UInt8):Nat×Nat×Nat :=
 let second:Int:=if 2<w.length/\w.head? = some 48 then EF (w.getD 1 0) else 0
 if second=120 then (2,0,16) else if EF (w.getD (w.length-1) 0)=104 then (0,1,16) else if second=98 then (2,0,2) else if second=111 then (2,0,8) else (0,0,10)
noncomputable def jc (a b c:Int):Option AV:=some (.fG [.int .i64 a,.int .i64 b,.int .i64 c])
noncomputable def LS (w:List UInt8)(k:UInt8->Option AV):Option AV:=Option.rec (motive:=λ_=>Option AV) none k (dQ w (IntKind.wrap .i64 (↑w.length-1)))
noncomputable def noP (w:List UInt8):Option AV:=LS w λc=>ah (bI (EF c) 104) (jc 0 (IntKind.wrap .i64 (↑w.length-1)) 16) (jc 0 ↑w.length 10)
theorem akq (gv:Nat->List AV)(w:List UInt8):aT (Xg gv) (c1 gv AV) gG 5 61 [.str w] aG.empty (λv _=>some v) =
 ah (bB 2 ↑w.length) (Option.rec (motive:=λ_=>Option AV) none (λc=>ah (bI (cY c) 48)
  (Option.rec (motive:=λ_=>Option AV) none (λc2=>LS w λc=>ah (bI (EF c2) 120) (jc 2 ↑w.length 16) (ah (bI (EF c) 104) (jc 0 (IntKind.wrap .i64 (↑w.length-1)) 16)
   (ah (bI (EF c2) 98) (jc 2 ↑w.length 2) (ah (bI (EF c2) 111) (jc 2 ↑w.length 8) (jc 0 ↑w.length 10))))) (dQ w 1))
  (noP w)) (dQ w 0)) (noP w):=by kernel_rfl
theorem QH {w:List UInt8}(h:w≠[])(hl:w.length<2000000)(k:UInt8->Option AV):LS w k=k (w.getD (w.length-1) 0):=by
 have hp:0<w.length:=dJ.2 h;unfold LS;rw[i64_in (by omega) (by omega)];have:(w.length:Int)-1=((w.length-1:Nat):Int):=by omega
 rw[this,uh,fP,aP (by omega)];rfl
theorem aoF (gv:Nat->List AV){w:List UInt8}(h:w≠[])(hl:w.length<2000000):aT (Xg gv) (c1 gv AV) gG 5 61 [.str w] aG.empty (λv _=>some v) =
 jc (dx w).1 ((w.length-(dx w).2.1:Nat):Int) (dx w).2.2:=by
 have hp:0<w.length:=dJ.2 h;have e1:IntKind.wrap .i64 (↑w.length-1)=((w.length-1:Nat):Int):=by rw[i64_in (by omega) (by omega)];omega
 have hno:∀second:Int,second=0->noP w=jc (if second=120 then (2,0,16) else if EF (w.getD (w.length-1) 0)=104 then (0,1,16) else if second=98 then (2,0,2) else if second=111 then (2,0,8) else (0,0,10):Nat×Nat×Nat).1 ((w.length-(if second=120 then (2,0,16) else if EF (w.getD (w.length-1) 0)=104 then (0,1,16) else if second=98 then (2,0,2) else if second=111 then (2,0,8) else (0,0,10):Nat×Nat×Nat).2.1:Nat):Int) (if second=120 then (2,0,16) else if EF (w.getD (w.length-1) 0)=104 then (0,1,16) else if second=98 then (2,0,2) else if second=111 then (2,0,8) else (0,0,10):Nat×Nat×Nat).2.2:=λsecond h0=>by
  subst h0;unfold noP;rw[QH h hl,cq,e1];split
  .rfl
  rfl
 rw[akq];unfold dx;by_cases hlen:2<w.length
 .rw[qG (by omega)]
  match w,h,hlen,hno,hl,e1 with
  |a::b::r,h,hlen,hno,hl,e1 =>
   rw[show dQ (a::b::r) 0=some a from rfl,show dQ (a::b::r) 1=some b from rfl];show ah (bI (cY a) 48) _ _=_;by_cases ha:cY a=48
   .have ha':a=48:=Jc (a:=a) (b:=48) ha;rw[F3 ha];show LS (a::b::r) _=_;rw[QH h hl];simp only[cq,e1];rw[ag (show 2<(a::b::r).length/\(a::b::r).head? = some 48 from ⟨hlen,by rw[ha'];rfl⟩)];show _=jc (if EF b=120 then _ else _:Nat×Nat×Nat).1 _ _;have hb:(a::b::r).getD 1 0=b:=rfl;simp only[hb];repeat' split
    all_goals rfl
   rw[xT ha];have hn:¬(2<(a::b::r).length/\(a::b::r).head? = some 48):=λ⟨_,h⟩=>by
    simp at h;exact ha (by rw[h];rfl)
   exact hno _ (aa hn)
 rw[fH (by omega)];exact hno _ (aa (by omega))
noncomputable def OB (args:List AV):Option (Bool×List fy) :=
 match args with
 |[.str w]=>some (!w.isEmpty&&Nat.ble w.length 1999999,[.val (.int .i64 (dx w).1),.val (.int .i64 ((w.length-(dx w).2.1:Nat):Int)),.val (.int .i64 (dx w).2.2)])
 |_=>none
theorem akr (gv:Nat->List AV):cZ (Xg gv) (dR (Xg gv) kn) 61 OB :=
 cR (λargs=>bR rfl args) (GX gv) λargs rs hg=>by
  unfold OB at hg;split at hg
  .rename_i w;simp only[aq,ax,ak,aS,List.isEmpty_eq_false_iff,bt]at hg;obtain⟨⟨h1,h2⟩,rfl⟩:=hg;exact⟨[.int .i64 (dx w).1,.int .i64 ((w.length-(dx w).2.1:Nat):Int),.int .i64 (dx w).2.2],gG,5,aoF gv h1 (by omega),rfl,rfl⟩
  cases hg
def pT:List Bool:=[true,true,false,true,false]
noncomputable def anT:ez:=⟨gZ [0,1,6,7,8] pT,.none,[]⟩
noncomputable def stT (s:List UInt8)(at' n i:Int):fM:=lq 67 [(0,.str s),(1,.int .i64 at'),(6,.ptr 0 0),(7,.int .u64 n),(8,.int .i64 i)]
noncomputable def mT:aG:=oY [.cells 43 [.int .i64 0,.int .i64 0]]
noncomputable def jT (gv:Nat->List AV)(s:List UInt8)(at':Int)(r m:Nat)(n i:Int):Option AV:=iH (Xg gv) (c0 gv AV) anT r 59 pT (λv _=>some v) m (stT s at' n i) mT
def sB (n e f a:Int):Option AV:=some (.fG [.int .i64 n,.int .i64 e,.agg [.int .i64 f,.int .i64 a]])
noncomputable def SJ (at' i:Int):Int:=IntKind.wrap .i64 (IntKind.wrap .i64 (i-at')-1)
noncomputable def orT (n c k:Int):Int:=IntKind.wrap .u64 ↑(BitVec.toNat (BitVec.ofInt 64 n ||| BitVec.ofInt 64 (IntKind.wrap .u64 (IntKind.wrap .u64 c*2 ^ (min (Int.toNat (IntKind.wrap .i64 (8*k))) 64)))))
noncomputable def yB (at' n i:Int)(c:UInt8)(go:Int->Int->Option AV):Option AV :=
 ah (bI (cY c) 39) (sB (IntKind.wrap .i64 n) (IntKind.wrap .i64 (i+1)) 0 0)
  (ah (bB (cY c) 32) (sB 0 0 4 i) (ah (bB 126 (cY c)) (sB 0 0 4 i) (ah (bI (SJ at' i) 8) (sB 0 0 3 i)
   (ah (bB (IntKind.wrap .i64 (8*SJ at' i)) 0) none (go (orT n (cY c) (SJ at' i)) (IntKind.wrap .i64 (i+1)))))))
noncomputable def V5 (s:List UInt8)(at' n i:Int)(go:Int->Int->Option AV):Option AV :=
 ah (bB i ↑s.length)
  (Option.rec (motive:=λ_=>Option AV) none (λc=>ah (bI (cY c) 39) (ah (bI (SJ at' i) 0) (sB 0 0 4 i) (yB at' n i c go)) (yB at' n i c go)) (dQ s i))
  (sB 0 0 4 ↑s.length)
theorem stepT' (gv:Nat->List AV)(s:List UInt8)(at':Int)(r m:Nat)(n i:Int):jT gv s at' r (m+1) n i=V5 s at' n i (jT gv s at' r m):=by kernel_rfl
theorem enterT' (gv:Nat->List AV)(s:List UInt8)(at':Int)(m:Nat):aT (Xg gv) (c0 gv AV) anT m 59 [.str s,.int .i64 at'] aG.empty (λv _=>some v)=jT gv s at' m m 0 (IntKind.wrap .i64 (at'+1)):=by kernel_rfl
def pU (len:Nat):List UInt8->Nat->Nat->Nat->Int×Int×Int×Int
 |[],_,_,_=>(0,0,4,len)
 |c::r,k,N,i =>
  if cY c=39 then (if k=0 then (0,0,4,i) else (IntKind.wrap .i64 N,i+1,0,0))
  else if cY c<32\/126<cY c then (0,0,4,i) else if k=8 then (0,0,3,i) else pU len r (k+1) (N+c.toNat*256 ^ k) (i+1)
theorem afv {N k:Nat}{c:UInt8}(hk:k<8)(hN:N<256 ^ k):orT N (cY c) k=((N+c.toNat*256 ^ k:Nat):Int)/\N+c.toNat*256 ^ k<256 ^ (k+1):=by
 have hc:=c.toNat_lt;have hlt:N+c.toNat*256 ^ k<256 ^ (k+1):=by
  rw[Nat.pow_succ,Nat.mul_comm (256 ^ k) 256];have:c.toNat*256 ^ k<=255*256 ^ k:=dV _ (by omega);omega
 have h64:256 ^ (k+1)<=2 ^ 64:=by
  have:256 ^ (k+1)<=256 ^ 8:=Nat.pow_le_pow_right (by omega) (by omega);exact this
 have afw:(2:Nat) ^ (8*k)=256 ^ k:=by rw[Nat.pow_mul]
 have hpos:0<256 ^ k:=Nat.pow_pos (by omega);have hle:c.toNat*256 ^ k<2 ^ 64:=by omega
 have aoG:N<2 ^ 64:=by omega
 refine⟨?_,hlt⟩;unfold orT;rw[i64_in (by omega) (by omega)];have e1:min (Int.toNat (8*(k:Int))) 64=8*k:=by omega
 rw[e1];have e2:IntKind.wrap .u64 (cY c)=(c.toNat:Int):=u64_in (ae4 c) (by have:=ae5 c;omega);rw[e2];have e3:(c.toNat:Int)*2 ^ (8*k)=((c.toNat*256 ^ k:Nat):Int):=by
  rw[jF,<-afw,Int.natCast_pow];rfl
 rw[e3,u64_in (n:=((c.toNat*256 ^ k:Nat):Int)) (by omega) (by omega),BitVec.toNat_or,iR,iR,jR,jR,gW aoG,gW hle];have e4:N ||| c.toNat*256 ^ k=N+c.toNat*256 ^ k:=by
  have h:=Nat.shiftLeft_add_eq_or_of_lt (b:=N) (i:=8*k) (by rw[afw];exact hN) c.toNat;rw[Nat.shiftLeft_eq,afw]at h;rw[Nat.or_comm,<-h,l6]
 rw[e4,u64_in (by omega) (by omega)]
theorem V6 (gv:Nat->List AV)(s:List UInt8)(hs:s.length<2000000)(a r:Nat):∀(rest pre:List UInt8) (m k N:Nat),s=pre++rest->rest.length<m->pre.length=a+1+k->k<=8->N<256 ^ k ->
 jT gv s a r m N pre.length=sB (pU s.length rest k N pre.length).1 (pU s.length rest k N pre.length).2.1 (pU s.length rest k N pre.length).2.2.1 (pU s.length rest k N pre.length).2.2.2:=by
 intro rest;induction rest with
 |nil =>
  intro pre m k N he hm hp hk hN;obtain⟨m,rfl⟩:∃m',m=m'+1:=⟨m-1,by simp at hm;omega⟩;rw[stepT'];unfold V5;have hl:s.length=pre.length:=by rw[he];simp
  rw[fH (by omega)];rfl
 |cons c rest ih =>
  intro pre m k N he hm hp hk hN;obtain⟨m,rfl⟩:∃m',m=m'+1:=⟨m-1,by simp at hm;omega⟩;have hl:s.length=pre.length+(rest.length+1):=by rw[he];simp
  have hg:dQ s (pre.length:Int)=some c:=by rw[he];exact lY pre rest c
  have hnext:IntKind.wrap .i64 ((pre.length:Int)+1)=((pre++[c]).length:Int):=by rw[i64_in (by omega) (by omega)];simp
  have aks:SJ (a:Int) (pre.length:Int)=(k:Int):=by
   unfold SJ;rw[i64_in (n:=(pre.length:Int)-a) (by omega) (by omega),i64_in (by omega) (by omega)];omega
  rw[stepT'];unfold V5;rw[qG (by omega),hg,aks];show ah (bI (cY c) 39) _ _=_;have hw:pU s.length (c::rest) k N pre.length=if cY c=39 then (if k=0 then (0,0,4,(pre.length:Int)) else (IntKind.wrap .i64 N,(pre.length:Int)+1,0,0))
   else if cY c<32\/126<cY c then (0,0,4,(pre.length:Int)) else if k=8 then (0,0,3,(pre.length:Int)) else pU s.length rest (k+1) (N+c.toNat*256 ^ k) (pre.length+1):=by
   rw[pU]
  rw[hw];unfold yB;rw[aks,hnext];by_cases hc:cY c=39
  .rw[F3 hc,ag hc];show ah (bI (k:Int) 0) _ _=_;by_cases hk0:k=0
   .rw[F3 (by omega),ag hk0]
   rw[xT (by omega),aa hk0];show sB _ ((pre++[c]).length:Int) 0 0=_;rw[aA,ek];rfl
  rw[xT hc,aa hc];show ah (bB (cY c) 32) _ _=_;by_cases h32:cY c<32
  .rw[qG h32,ag (.inl h32)]
  rw[fH (by omega)];show ah (bB 126 (cY c)) _ _=_;by_cases akt:126<cY c
  .rw[qG akt,ag (.inr akt)]
  rw[fH (by omega),aa (by omega)];show ah (bI (k:Int) 8) _ _=_;by_cases hk8:k=8
  .rw[F3 (by omega),ag hk8]
  rw[xT (by omega),aa hk8];show ah (bB (IntKind.wrap .i64 (8*(k:Int))) 0) none _=_;rw[i64_in (by omega) (by omega),fH (by omega)];obtain⟨o1,o2⟩:=afv (c:=c) (show k<8 by omega) hN;show jT gv s a r m (orT N (cY c) k) ((pre++[c]).length:Int)=_;rw[o1,ih (pre++[c]) m (k+1) (N+c.toNat*256 ^ k) (by rw[he];simp) (by simp at hm;omega) (by simp;omega) (by omega) o2,aA,ek]
def pV (s:List UInt8)(a:Nat):Int×Int×Int×Int:=pU s.length (s.drop (a+1)) 0 0 (a+1)
theorem runText (gv:Nat->List AV)(s:List UInt8)(hs:s.length<2000000)(a:Nat)(ha:a<s.length) :
 aT (Xg gv) (c0 gv AV) anT (s.length+1) 59 [.str s,.int .i64 a] aG.empty (λv _=>some v)=sB (pV s a).1 (pV s a).2.1 (pV s a).2.2.1 (pV s a).2.2.2:=by
 rw[enterT',i64_in (by omega) (by omega)];have hl:(s.take (a+1)).length=a+1:=by simp;omega
 have:=V6 gv s hs a (s.length+1) (s.drop (a+1)) (s.take (a+1)) (s.length+1) 0 0 (by simp) (by simp;omega) (by omega) (by omega) (by simp);rw[hl]at this;exact this
noncomputable def V7 (args:List AV):Option (Bool×List fy) :=
 match args with
 |[.str s,.int .i64 a]=>some (!bB a 0&&bB a ↑s.length&&Nat.ble s.length 1999999,[.val (.int .i64 (pV s a.toNat).1),.val (.int .i64 (pV s a.toNat).2.1),.val (.agg [.int .i64 (pV s a.toNat).2.2.1,.int .i64 (pV s a.toNat).2.2.2])])
 |_=>none
theorem aku (gv:Nat->List AV):cZ (Xg gv) (dR (Xg gv) kn) 59 V7 :=
 cR (λargs=>bR rfl args) (Ae gv) λargs rs hg=>by
  unfold V7 at hg;split at hg
  .rename_i s a;simp only[aq,ax,ak,cA,aS,bH,aV,bt]at hg;obtain⟨⟨⟨h1,h2⟩,h3⟩,rfl⟩:=hg;obtain⟨n,rfl⟩:∃n:Nat,a=n:=⟨a.toNat,by omega⟩;rw[bg];exact⟨[.int .i64 (pV s n).1,.int .i64 (pV s n).2.1,.agg [.int .i64 (pV s n).2.2.1,.int .i64 (pV s n).2.2.2]],anT,s.length+1,runText gv s (by omega) n (by omega),rfl,rfl⟩
  cases hg
noncomputable def L2:List vW:=(59,[none,none],V7)::(61,[none],OB)::(62,[none,none],Jh)::L1
theorem akv (gv:Nat->List AV):iO (Xg gv) (dR (Xg gv) kn) L2:=.cons (aku gv) (.cons (akr gv) (.cons (akp gv) (ac3 gv)))
noncomputable def c2 (gv:Nat->List AV)(β:Type):cH β:=sy (Xg gv) (T4 L2) inl 200 β 20
theorem QI (gv:Nat->List AV)(β:Type):cX (Xg gv) (dR (Xg gv) kn) (c2 gv β):=lp (akv gv) (λf h args=>bR h args) 200 20 β
def pS:List Bool:=[true,true,true,true,true,false,false]
noncomputable def anS:ez:=⟨gZ [0,1,6,7] pS,.none,[]⟩
noncomputable def stS (s:List UInt8)(at' e:Int):fM:=lq 102 [(0,.str s),(1,.int .i64 at'),(6,.ptr 0 0),(7,.int .i64 e)]
noncomputable def jS (gv:Nat->List AV)(s:List UInt8)(at':Int)(r m:Nat)(e:Int):Option AV:=iH (Xg gv) (c2 gv AV) anS r 28 pS (λv _=>some v) m (stS s at' e) mT
noncomputable def V8 (s:List UInt8)(at' e lo:Int)(r:Int×Int×Bool):Option AV :=
 ah (!bB r.2.1 0) (sB 0 0 4 (IntKind.wrap .i64 (lo+r.2.1))) (ah r.2.2 (sB 0 0 5 at') (sB (IntKind.wrap .i64 r.1) e 0 0))
noncomputable def V9 (s:List UInt8)(at' e:Int)(w:List UInt8)(p:Nat×Nat×Nat):Option AV :=
 ah (!bB (IntKind.wrap .i64 (at' + ↑p.1)) 0 && !bB (IntKind.wrap .i64 (at' + ↑(w.length-p.2.1))) (IntKind.wrap .i64 (at' + ↑p.1)) && !bB (Int.ofNat s.length) (IntKind.wrap .i64 (at' + ↑(w.length-p.2.1))))
  (ah (!bB (p.2.2:Int) 2 && !bB 16 (p.2.2:Int)&&Nat.ble (dX s (IntKind.wrap .i64 (at' + ↑p.1)) (IntKind.wrap .i64 (at' + ↑(w.length-p.2.1)))).length 1999999)
   (V8 s at' e (IntKind.wrap .i64 (at' + ↑p.1)) (sZ (Int.toNat (p.2.2:Int)) (dX s (IntKind.wrap .i64 (at' + ↑p.1)) (IntKind.wrap .i64 (at' + ↑(w.length-p.2.1)))))) none) none
noncomputable def Wa (s:List UInt8)(at' e:Int):Option AV :=
 ah (!bB at' 0 && !bB e at' && !bB (Int.ofNat s.length) e)
  (ah (!(dX s at' e).isEmpty&&Nat.ble (dX s at' e).length 1999999) (V9 s at' e (dX s at' e) (dx (dX s at' e))) none) none
theorem jg (gv:Nat->List AV)(s:List UInt8)(at':Int)(r m:Nat)(e:Int):jS gv s at' r (m+1) e =
 ah (bB e ↑s.length) (Option.rec (motive:=λ_=>Option AV) none (λc=>ah (pQ (cY c)) (jS gv s at' r m (IntKind.wrap .i64 (e+1))) (Wa s at' e)) (dQ s e)) (Wa s at' e):=by kernel_rfl
noncomputable def OC (s:List UInt8)(at':Int)(go:Option AV):Option AV :=
 Option.rec (motive:=λ_=>Option AV) none (λc=>ah (bI (cY c) 39)
  (ah (!bB at' 0&&bB at' ↑s.length&&Nat.ble s.length 1999999) (sB (pV s at'.toNat).1 (pV s at'.toNat).2.1 (pV s at'.toNat).2.2.1 (pV s at'.toNat).2.2.2) none) go) (dQ s at')
theorem afx (gv:Nat->List AV)(s:List UInt8)(at':Int)(m:Nat):aT (Xg gv) (c2 gv AV) anS m 28 [.str s,.int .i64 at'] aG.empty (λv _=>some v) =
 ah (bB at' 0) (sB 0 0 6 0) (ah (!bB at' ↑s.length) (sB 0 0 6 at')
  (Option.rec (motive:=λ_=>Option AV) none (λc=>ah (!bI (cY c) 39)
   (Option.rec (motive:=λ_=>Option AV) none (λc=>ah (bB (cY c) 48) (sB 0 0 6 at')
    (Option.rec (motive:=λ_=>Option AV) none (λc=>ah (bB 57 (cY c)) (sB 0 0 6 at') (OC s at' (jS gv s at' m m at'))) (dQ s at'))) (dQ s at'))
   (OC s at' (jS gv s at' m m at'))) (dQ s at'))):=by kernel_rfl
theorem akw (gv:Nat->List AV)(s:List UInt8)(hs:s.length<2000000)(at':Int)(r:Nat):∀(rest pre:List UInt8) (m:Nat),s=pre++rest->rest.length<m ->
 jS gv s at' r m pre.length=Wa s at' ((pre.length+(rest.takeWhile λc=>pQ (cY c)).length:Nat):Int):=by
 intro rest;induction rest with
 |nil =>
  intro pre m he hm;obtain⟨m,rfl⟩:∃m',m=m'+1:=⟨m-1,by simp at hm;omega⟩;have hl:s.length=pre.length:=by rw[he];simp
  rw[jg,fH (by omega)];rfl
 |cons c rest ih =>
  intro pre m he hm;obtain⟨m,rfl⟩:∃m',m=m'+1:=⟨m-1,by simp at hm;omega⟩;have hl:s.length=pre.length+(rest.length+1):=by rw[he];simp
  have hg:dQ s (pre.length:Int)=some c:=by rw[he];exact lY pre rest c
  have hnext:IntKind.wrap .i64 ((pre.length:Int)+1)=((pre++[c]).length:Int):=by rw[i64_in (by omega) (by omega)];simp
  rw[jg,qG (by omega),hg,hnext];show ah (pQ (cY c)) _ _=_;cases hw:pQ (cY c) with
  |true =>
   show jS gv s at' r m _=_;rw[ih (pre++[c]) m (by rw[he];simp) (by simp at hm;omega),jl,ag hw];simp only[aA,aJ,bz];congr 2;omega
  |false =>
   rw[jl,aa (by simp[hw])];simp
def yC (w:List UInt8)(a:Nat):Int×Int×Int×Int :=
 if 0<=(sZ (dx w).2.2 ((w.take (w.length-(dx w).2.1)).drop (dx w).1)).2.1 then (0,0,4,(a:Int)+(dx w).1+(sZ (dx w).2.2 ((w.take (w.length-(dx w).2.1)).drop (dx w).1)).2.1)
 else if (sZ (dx w).2.2 ((w.take (w.length-(dx w).2.1)).drop (dx w).1)).2.2 then (0,0,5,(a:Int))
 else (IntKind.wrap .i64 (sZ (dx w).2.2 ((w.take (w.length-(dx w).2.1)).drop (dx w).1)).1,(a:Int)+w.length,0,0)
def lz (s:List UInt8)(at':Int):Int×Int×Int×Int :=
 if at'<0 then (0,0,6,0) else if (s.length:Int)<=at' then (0,0,6,at')
 else if cY (s.getD at'.toNat 0)=39 then pV s at'.toNat
 else if 48<=cY (s.getD at'.toNat 0)/\cY (s.getD at'.toNat 0)<=57 then yC ((s.drop at'.toNat).takeWhile λc=>pQ (cY c)) at'.toNat
 else (0,0,6,at')
theorem Wb (w:List UInt8)(h:w≠[]):(dx w).1+(dx w).2.1<=w.length/\2<=(dx w).2.2/\(dx w).2.2<=16:=by
 have hp:0<w.length:=dJ.2 h;unfold dx;by_cases hc:2<w.length/\w.head? = some 48
 .simp only[ag hc];repeat' split
  all_goals refine⟨?_,?_,?_⟩<;>simp only<;>omega
 simp only[aa hc];repeat' split
 all_goals first|(refine⟨?_,?_,?_⟩<;>simp only<;>omega)|(rename_i h _;simp at h)|(rename_i h;simp at h)
theorem EG (b:Int):∀(l:List UInt8) (first prev:Bool) (i j:Nat),kz b first prev l i=some j->j<=i+l.length
 |[],first,prev,i,j,h=>by
  rw[kz]at h;split at h
  .cases h;omega
  cases h
 |c::r,first,prev,i,j,h=>by
  rw[kz]at h;simp only[aJ];split at h
  .split at h
   .cases h;omega
   have:=EG b r _ _ _ _ h;omega
  split at h
  .cases h;omega
  have:=EG b r _ _ _ _ h;omega
theorem Z9 (b:Nat)(d:List UInt8) : -1<=(sZ b d).2.1/\(sZ b d).2.1<=d.length:=by
 unfold sZ;split
 .rename_i i h;have:=EG b d true false 0 i h;simp only;omega
 simp only;omega
theorem aaa {s w:List UInt8}(hs:s.length<2000000){a:Nat}(ha:a+w.length<=s.length)(hw:w≠[])(he:(s.drop a).take w.length=w) :
 Wa s a ((a+w.length:Nat):Int)=sB (yC w a).1 (yC w a).2.1 (yC w a).2.2.1 (yC w a).2.2.2:=by
 obtain⟨h1,h2,h3⟩:=Wb w hw;have SK:dX s (a:Int) ((a+w.length:Nat):Int)=w:=by
  unfold dX;simp only[bg];have:a+w.length-a=w.length:=by omega
  rw[this];exact he
 unfold Wa;rw[fH (a:=(a:Int)) (b:=0) (by omega),fH (a:=((a+w.length:Nat):Int)) (by omega),fH (a:=Int.ofNat s.length) (by show ((a+w.length:Nat):Int)<=(s.length:Int);omega),SK];have hne:w.isEmpty=false:=by simpa using hw
 have U3:Nat.ble w.length 1999999=true:=dS (by omega);rw[hne,U3];show V9 s a _ w (dx w)=_;unfold V9;have e1:IntKind.wrap .i64 ((a:Int)+((dx w).1:Int))=((a+(dx w).1:Nat):Int):=by rw[i64_in (by omega) (by omega)];omega
 have e2:IntKind.wrap .i64 ((a:Int)+((w.length-(dx w).2.1:Nat):Int))=((a+(w.length-(dx w).2.1):Nat):Int):=by rw[i64_in (by omega) (by omega)];omega
 rw[e1,e2,fH (a:=((a+(dx w).1:Nat):Int)) (b:=0) (by omega),fH (a:=((a+(w.length-(dx w).2.1):Nat):Int)) (by omega),fH (a:=Int.ofNat s.length) (by show ((a+(w.length-(dx w).2.1):Nat):Int)<=(s.length:Int);omega)];have akx:dX s ((a+(dx w).1:Nat):Int) ((a+(w.length-(dx w).2.1):Nat):Int)=(w.take (w.length-(dx w).2.1)).drop (dx w).1:=VD he _ _ (by omega);rw[akx,fH (a:=((dx w).2.2:Int)) (b:=2) (by omega),fH (a:=16) (by omega)];have aoH:Nat.ble ((w.take (w.length-(dx w).2.1)).drop (dx w).1).length 1999999=true:=dS (by simp;omega)
 rw[aoH,bg];show V8 s a _ _ _=_;unfold V8 yC;have hd:=Z9 (dx w).2.2 ((w.take (w.length-(dx w).2.1)).drop (dx w).1);have hdl:((w.take (w.length-(dx w).2.1)).drop (dx w).1).length<=w.length:=by simp;omega
 generalize sZ (dx w).2.2 ((w.take (w.length-(dx w).2.1)).drop (dx w).1)=rr at hd ⊢;rw[iP];by_cases h0:0<=rr.2.1
 .rw[ag h0,ag h0,i64_in (by omega) (by omega)];show sB _ _ _ _=sB _ _ _ _;congr 1
 rw[aa h0,aa h0,au];by_cases h4:rr.2.2=true
 .rw[ag h4,ag h4]
 rw[aa h4,aa h4];show sB _ _ _ _=sB _ _ _ _;congr 1
theorem OD (l:List UInt8)(p:UInt8->Bool):l.take (l.takeWhile p).length=l.takeWhile p:=by
 have h:=List.takeWhile_append_dropWhile (p:=p) (l:=l);have h2:(l.takeWhile p++l.dropWhile p).take (l.takeWhile p).length=l.takeWhile p:=o8;rw[h]at h2;exact h2
theorem F5 (gv:Nat->List AV)(s:List UInt8)(hs:s.length<2000000)(at':Int) :
 aT (Xg gv) (c2 gv AV) anS (s.length+1) 28 [.str s,.int .i64 at'] aG.empty (λv _=>some v)=sB (lz s at').1 (lz s at').2.1 (lz s at').2.2.1 (lz s at').2.2.2:=by
 rw[afx];unfold lz;rw[cF];by_cases h0:at'<0
 .rw[ag h0,ag h0]
 rw[aa h0,aa h0,iP];by_cases h1:(s.length:Int)<=at'
 .rw[ag h1,ag h1]
 rw[aa h1,aa h1];obtain⟨a,rfl⟩:∃a:Nat,at'=a:=⟨at'.toNat,by omega⟩;have ha:a<s.length:=by omega
 rw[bg];have hg:dQ s (a:Int)=some (s.getD a 0):=by
  rw[uh,fP,aP ha];rfl
 unfold OC;rw[hg];generalize hc:s.getD a 0=c;show ah (!bI (cY c) 39) (ah (bB (cY c) 48) _ (ah (bB 57 (cY c)) _ (ah (bI (cY c) 39) _ _))) (ah (bI (cY c) 39) _ _)=_;simp only[cw,cq,cF];by_cases h39:cY c=39
 .simp only[ag h39];rw[fH (by omega),qG (by omega),dS (show s.length<=1999999 by omega)];rw[bg];rfl
 simp only[aa h39];by_cases hd:48<=cY c/\cY c<=57
 .rw[aa (by omega),aa (by omega),ag hd];have hl:(s.take a).length=a:=by simp;omega
  have ac4:=akw gv s hs a (s.length+1) (s.drop a) (s.take a) (s.length+1) (by simp) (by simp;omega);rw[hl]at ac4;rw[ac4];have aky:s.drop a=c::s.drop (a+1):=by
   rw[l5 ha,<-hc,fP,aP ha];rfl
  have hw:(s.drop a).takeWhile (λc=>pQ (cY c))≠[]:=by
   rw[aky,jl,ag (by unfold pQ;simp;omega)];simp
  have hle:((s.drop a).takeWhile λc=>pQ (cY c)).length<=(s.drop a).length:=by
   have:=List.IsPrefix.length_le (List.takeWhile_prefix (l:=s.drop a) (λc=>pQ (cY c)));exact this
  exact aaa hs (by simp at hle;omega) hw (OD _ _)
 rw[aa hd];by_cases h48:cY c<48
 .rw[ag h48]
 rw[aa h48,ag (by omega)]
noncomputable def Wc (args:List AV):Option (Bool×List fy) :=
 match args with
 |[.str s,.int .i64 a]=>some (Nat.ble s.length 1999999,[.val (.int .i64 (lz s a).1),.val (.int .i64 (lz s a).2.1),.val (.agg [.int .i64 (lz s a).2.2.1,.int .i64 (lz s a).2.2.2])])
 |_=>none
theorem akz (gv:Nat->List AV):cZ (Xg gv) (dR (Xg gv) kn) 28 Wc :=
 cR (λargs=>bR rfl args) (QI gv) λargs rs hg=>by
  unfold Wc at hg;split at hg
  .rename_i s a;simp only[aq,ax,bt]at hg;obtain⟨h3,rfl⟩:=hg;exact⟨[.int .i64 (lz s a).1,.int .i64 (lz s a).2.1,.agg [.int .i64 (lz s a).2.2.1,.int .i64 (lz s a).2.2.2]],anS,s.length+1,F5 gv s (by omega) a,rfl,rfl⟩
  cases hg
end Go.Proofs.YtbeckacfibledaaGreatDoor.lt

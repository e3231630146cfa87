/- The setting of the laws on sources: what is known, package-level variables. -/
import Derived.Test.YtbeckacfibledaaGreatDoorLyg
import Derived.Test.YtbeckacfibledaaGreatDoorGsa
set_option linter.unusedVariables false
set_option linter.unusedSimpArgs false

namespace Go.Proofs.YtbeckacfibledaaGreatDoor.lt
open Go.Tv Go.Ev
noncomputable section
def inl:FuncId->Bool:=λf => !(Nat.beq f 6||(Nat.beq f (sL 40)||(Nat.beq f 106||Nat.beq f 38)))
def kn:fZ:=rg.kT [(6,[])] rg.kS
theorem cn {f:FuncId}(h:inl f=true)(args:aW):kn f args=none:=by
 unfold inl at h;simp only[aU,Bool.or_eq_false_iff]at h;obtain⟨a,b,c,d⟩:=h;have e:rg.F5 f args [(6,[])]=false:=by
  unfold rg.F5;rw[a];rfl
 unfold kn rg.kT;rw[e];show rg.kS f args=none;unfold rg.kS;rw[b];show rg.kR f args=none;unfold rg.kR;rw[c];show nm.knN f args=none;unfold nm.knN;rw[d]
def Vc (f:FuncId):List Tmp:=ah (Nat.beq f 123) [71,47] []
def Xg (gv:Nat->aI):ji:={ P:=Tryz.prog,G:=7+1,gv:=gv,trs:=Vc,ar:=λt=>Nat.beq t 178||Nat.beq t 190 }
def gC:fe:=⟨.none,.none,[]⟩
def K0:Wu:=λ_=>none
section
variable (gv:Nat->aI)
def c0 (β:Type):dz β:=uc (Xg gv) K0 inl 200 β 20
theorem BP (β:Type):dO (Xg gv) (eM (Xg gv) kn) (c0 gv β):=mM (by intro id s g h;cases h) (λf h args=>cn h args) 200 20 β
end
def C5:aW:=[.string ⟨#[36,36]⟩,.string ⟨#[60,60]⟩,.string ⟨#[62,62]⟩,.string ⟨#[43]⟩,.string ⟨#[45]⟩,.string ⟨#[42]⟩,.string ⟨#[47]⟩,.string ⟨#[37]⟩,.string ⟨#[38]⟩,.string ⟨#[124]⟩,.string ⟨#[94]⟩,.string ⟨#[126]⟩,.string ⟨#[40]⟩,.string ⟨#[41]⟩,.string ⟨#[91]⟩,.string ⟨#[93]⟩,.string ⟨#[44]⟩,.string ⟨#[58]⟩,.string ⟨#[36]⟩]
def C6 (g:Nat):aI:=ah (Nat.beq g 0) (C5.map Qs) (rg.gv g)
theorem Od {S:Wo}{s:au}{m:aW}(h:LV S [.str s] m):m=[.string ⟨s.toArray⟩]:=by
 obtain⟨x,c,rfl,a,b⟩:=h.cons_inv;rw[a.kH,b.kI]
def gRP (args:aI):Option (Bool×List gj) :=
 match args with
 |[.str s]=>some (true,[.val (.agg [.int .i64 (rg.pR s).1,.int .i64 (rg.pR s).2.1]),.val (.bool (rg.pR s).2.2)])
 |_=>none
def gNP (args:aI):Option (Bool×List gj) :=
 match args with
 |[.str s]=>some (true,[.val (.int .i64 (nm.lW s).1),.val (.bool (nm.lW s).2)])
 |_=>none
theorem aoM (gv:Nat->aI):dQ (Xg gv) (eM (Xg gv) kn) 106 gRP :=
 Gc λargs rs a=>by
  unfold gRP at a;split at a
  .rename_i s;simp only[aq,az]at a;obtain⟨_,rfl⟩:=a;refine⟨_,_,.agg #[.int .i64 (rg.pR s).1,.int .i64 (rg.pR s).2.1],.bool (rg.pR s).2.2,rfl,rfl,rfl,λS=>?_,λS=>.bool _,λS c b=>?_⟩
   .exact .agg [.int .i64 (rg.pR s).1,.int .i64 (rg.pR s).2.1] [.int .i64 (rg.pR s).1,.int .i64 (rg.pR s).2.1] rfl (LV.cons (.int _ _) (LV.cons (.int _ _) LV.nil)).2
   rw[Od b];exact⟨rfl,rfl,rfl⟩
  cases a
theorem aoN (gv:Nat->aI):dQ (Xg gv) (eM (Xg gv) kn) 38 gNP :=
 Gc λargs rs a=>by
  unfold gNP at a;split at a
  .rename_i s;simp only[aq,az]at a;obtain⟨_,rfl⟩:=a;refine⟨_,_,.int .i64 (nm.lW s).1,.bool (nm.lW s).2,rfl,rfl,rfl,λS=>.int _ _,λS=>.bool _,λS c b=>?_⟩;rw[Od b];exact⟨rfl,rfl,rfl⟩
  cases a
def R1:List xw:=[(106,[none],gRP),(38,[none],gNP)]
theorem agk (gv:Nat->aI):jy (Xg gv) (eM (Xg gv) kn) R1:=.cons (aoM gv) (.cons (aoN gv) .nil)
def r1 (gv:Nat->aI)(β:Type):dz β:=uc (Xg gv) (Wv R1) inl 200 β 20
theorem aoO (gv:Nat->aI)(β:Type):dO (Xg gv) (eM (Xg gv) kn) (r1 gv β):=mM (agk gv) (λf h args=>cn h args) 200 20 β
def YU:cA:=["db","dw","dd","dq","resb","resw","resd","resq","equ","times","align","org","struc","endstruc","dcx","byte","word","dword","qword","oword","yword","short","near","strict","rel"].map λs=>s.toUTF8.data.toList
def oneT' (s:au):cA->bx
 |[]=>some (.bool false)
 |[w]=>ah (decide (s=w)) (some (.bool true)) (some (.bool false))
 |w::v::l=>ah (decide (s=w)) (ah (decide (s=w)) (some (.bool true)) (some (.bool false))) (oneT' s (v::l))
def wP (s:au):Bool:=(rg.pR s).2.2||((nm.lW s).2||decide (s∈YU))
theorem oneT'_eq (s:au):∀l,oneT' s l=some (.bool (decide (s∈l)))
 |[]=>rfl
 |[w]=>by
  unfold oneT';by_cases h:s=w
  .rw[bg h,bg (bD.2 (.inl h))]
  rw[aY h,aY (by simp[h])]
 |w::v::l=>by
  unfold oneT';rw[oneT'_eq s (v::l)];by_cases h:s=w
  .rw[bg h,bg (bD.2 (.inl h))]
  rw[aY h];show some (AV.bool (decide (s∈v::l)))=_;have:(s∈w::v::l)↔s∈v::l:=by simp[h]
  rw[fY.2 this]
set_option maxRecDepth 100000 in
theorem adn (gv:Nat->aI)(s:au):aT (Xg gv) (r1 gv AV) gC 20 66 [.str s] aH.empty (λv _=>some v) =
 ah (rg.pR s).2.2 (some (.bool true)) (ah (nm.lW s).2 (some (.bool true)) (oneT' s YU)):=by kernel_rfl
def Q3 (args:aI):Option (Bool×List gj) :=
 match args with
 |[.str s]=>some (true,[.val (.bool (wP s))])
 |_=>none
theorem aiY (gv:Nat->aI):dQ (Xg gv) (eM (Xg gv) kn) 66 Q3 :=
 dG (λargs=>cn rfl args) (aoO gv) λargs rs a=>by
  unfold Q3 at a;split at a
  .rename_i s;simp only[aq,az]at a;obtain⟨_,rfl⟩:=a;refine⟨[.bool (wP s)],gC,20,?_,rfl,rfl⟩;rw[adn,oneT'_eq];unfold wP;cases (rg.pR s).2.2<;>cases (nm.lW s).2<;>rfl
  cases a
end
end Go.Proofs.YtbeckacfibledaaGreatDoor.lt
namespace Go.Proofs.YtbeckacfibledaaGreatDoor.lt
open Go.Tv Go.Ev
set_option maxRecDepth 100000
noncomputable section
def ox (n:Int):Int:=if 48<=n/\n<=57 then n-48 else if 97<=n/\n<=102 then n-87 else if 65<=n/\n<=70 then n-55 else -1
def nQ (n:Int):Bool:=decide (48<=n/\n<=57\/97<=n/\n<=122\/65<=n/\n<=90\/n=95)
theorem aod (gv:Nat->aI)(n:Int):aT (Xg gv) (c0 gv AV) gC 5 60 [.int .u8 n] aH.empty (λv _=>some v)=some (.bool (nQ n)):=by
 have h:aT (Xg gv) (c0 gv AV) gC 5 60 [.int .u8 n] aH.empty (λv _=>some v)=zT n 48 57 (some (.bool true)) (zT n 97 122 (some (.bool true)) (zT n 65 90 (some (.bool true)) (some (.bool (bS n 95))))):=by kernel_rfl
 rw[h];simp only[F2,fD];unfold nQ;repeat' split
 all_goals congr 2
 all_goals first|(symm;rw[aZ];omega)|(rw[bX,fL,aZ];omega)
theorem aoe (gv:Nat->aI)(n:Int):aT (Xg gv) (c0 gv AV) gC 5 101 [.int .u8 n] aH.empty (λv _=>some v)=some (.int .i64 (ox n)):=by
 have h:aT (Xg gv) (c0 gv AV) gC 5 101 [.int .u8 n] aH.empty (λv _=>some v) =
  zT n 48 57 (some (.int .i64 (IntKind.wrap .i64 (IntKind.wrap .u8 (n-48))))) (zT n 97 102 (some (.int .i64 (IntKind.wrap .i64 (IntKind.wrap .i64 (IntKind.wrap .u8 (n-97))+10)))) (zT n 65 70 (some (.int .i64 (IntKind.wrap .i64 (IntKind.wrap .i64 (IntKind.wrap .u8 (n-65))+10)))) (some (.int .i64 (-1))))):=by kernel_rfl
 rw[h];simp only[F2];unfold ox;split
 .rw[u8_in (by omega) (by omega),i64_in (by omega) (by omega)]
 split
 .rw[u8_in (by omega) (by omega),i64_in (n:=n-97) (by omega) (by omega),i64_in (by omega) (by omega)];congr 2;omega
 split
 .rw[u8_in (by omega) (by omega),i64_in (n:=n-65) (by omega) (by omega),i64_in (by omega) (by omega)];congr 2;omega
 rfl
noncomputable def YB (args:aI):Option (Bool×List gj) :=
 match args with
 |[.int .u8 n]=>some (true,[.val (.bool (nQ n))])
 |_=>none
noncomputable def aiH (args:aI):Option (Bool×List gj) :=
 match args with
 |[.int .u8 n]=>some (true,[.val (.int .i64 (ox n))])
 |_=>none
theorem aof (gv:Nat->aI):dQ (Xg gv) (eM (Xg gv) kn) 60 YB :=
 dG (λargs=>cn rfl args) (BP gv) λargs rs a=>by
  unfold YB at a;split at a
  .rename_i n;simp only[aq,az]at a;obtain⟨b,rfl⟩:=a;exact⟨[.bool (nQ n)],gC,5,aod gv n,rfl,rfl⟩
  cases a
theorem aog (gv:Nat->aI):dQ (Xg gv) (eM (Xg gv) kn) 101 aiH :=
 dG (λargs=>cn rfl args) (BP gv) λargs rs a=>by
  unfold aiH at a;split at a
  .rename_i n;simp only[aq,az]at a;obtain⟨b,rfl⟩:=a;exact⟨[.int .i64 (ox n)],gC,5,aoe gv n,rfl,rfl⟩
  cases a
noncomputable def K7 (x y:Int):AV :=
 let w:=IntKind.wrap .u64
 let a:Int:=w ↑(BitVec.toNat (BitVec.ofInt 64 x &&& BitVec.ofInt 64 4294967295))
 let b:Int:=w ↑(BitVec.toNat (BitVec.ofInt 64 y &&& BitVec.ofInt 64 4294967295))
 let x1:=Int.fdiv x 4294967296
 let c:=Int.fdiv y 4294967296
 let t:=w (w (x1*b)+Int.fdiv (w (a*b)) 4294967296)
 .gI [.int .u64 (w (w (w (x1*c)+Int.fdiv t 4294967296)+Int.fdiv (w (w ↑(BitVec.toNat (BitVec.ofInt 64 t &&& BitVec.ofInt 64 4294967295))+w (a*c))) 4294967296)),.int .u64 (w (x*y))]
theorem aiI (gv:Nat->aI)(x y:Int):aT (Xg gv) (c0 gv AV) gC 5 102 [.int .u64 x,.int .u64 y] aH.empty (λv _=>some v)=some (K7 x y):=by kernel_rfl
theorem aiJ {a:Int}:Int.fdiv a 4294967296=a/4294967296:=jG _ (by omega)
theorem mul_eq {x y:Int}(n:0<=x)(o:x<18446744073709551616)(e:0<=y)(u:y<4294967296):K7 x y = .gI [.int .u64 (x*y/18446744073709551616),.int .u64 (x*y%18446744073709551616)]:=by
 have low:∀{a:Int},0<=a->a<18446744073709551616->((BitVec.ofInt 64 a &&& BitVec.ofInt 64 4294967295).toNat:Int)=a%4294967296:=λ{a} c d=>ac0 c d 32 (by omega)
 have f:IntKind.wrap .u64 ↑(BitVec.toNat (BitVec.ofInt 64 x &&& BitVec.ofInt 64 4294967295))=x%4294967296:=by rw[low n o,u64_in (by omega) (by omega)]
 have g:IntKind.wrap .u64 ↑(BitVec.toNat (BitVec.ofInt 64 y &&& BitVec.ofInt 64 4294967295))=y:=by rw[low e (by omega),u64_in (by omega) (by omega)];omega
 have h:y/4294967296=0:=by omega
 unfold K7;simp only[f,g,aiJ,h,Int.mul_zero];obtain⟨a,c⟩:∃a,x/4294967296*y=a:=⟨_,rfl⟩;obtain⟨b,d⟩:∃b,x%4294967296*y=b:=⟨_,rfl⟩;have i:x*y=a*4294967296+b:=by
  rw[<-c,<-d];have:=Int.mul_ediv_add_emod x 4294967296
  calc x*y=(4294967296*(x/4294967296)+x%4294967296)*y:=by rw[this]
   _=_:=by rw[Int.add_mul,kQ,qe 4294967296]
 have j:0<=a:=by rw[<-c];exact iU (by omega) e
 have k:0<=b:=by rw[<-d];exact iU (by omega) e
 have p:a<=4294967295*4294967295:=by
  rw[<-c];exact Int.le_trans (iQ (show x/4294967296<=4294967295 by omega) e) (ei (show y<=4294967295 by omega) (by omega))
 have v:b<=4294967295*4294967295:=by
  rw[<-d];exact Int.le_trans (iQ (show x%4294967296<=4294967295 by omega) e) (ei (show y<=4294967295 by omega) (by omega))
 rw[c,d,i];have q:IntKind.wrap .u64 b=b:=u64_in k (by omega);have r:IntKind.wrap .u64 a=a:=u64_in j (by omega);have w3:IntKind.wrap .u64 (a+b/4294967296)=a+b/4294967296:=u64_in (by omega) (by omega);have w4:IntKind.wrap .u64 0=0:=u64_in (by omega) (by omega);rw[q,r,w3,low (by omega) (by omega),w4,Int.zero_add,Int.add_zero];have l:IntKind.wrap .u64 ((a+b/4294967296)%4294967296)=(a+b/4294967296)%4294967296:=u64_in (by omega) (by omega);have m:IntKind.wrap .u64 ((a+b/4294967296)/4294967296)=(a+b/4294967296)/4294967296:=u64_in (by omega) (by omega)
 rw[l,l,m];have s:(a+b/4294967296)%4294967296/4294967296=0:=by omega
 rw[s,Int.add_zero,m,SZ];have t:(a+b/4294967296)/4294967296=(a*4294967296+b)/18446744073709551616:=by omega
 rw[t]
noncomputable def aiK (args:aI):Option (Bool×List gj) :=
 match args with
 |[.int .u64 x,.int .u64 y]=>some (!bN x 0&&bN x 18446744073709551616 && !bN y 0&&bN y 4294967296,[.val (.int .u64 (x*y/18446744073709551616)),.val (.int .u64 (x*y%18446744073709551616))])
 |_=>none
theorem aoh (gv:Nat->aI):dQ (Xg gv) (eM (Xg gv) kn) 102 aiK :=
 dG (λargs=>cn rfl args) (BP gv) λargs rs a=>by
  unfold aiK at a;split at a
  .rename_i x y;simp only[aq,az,ak,dc,aU,bJ,aZ]at a;obtain⟨b,rfl⟩:=a;exact⟨[.int .u64 (x*y/18446744073709551616),.int .u64 (x*y%18446744073709551616)],gC,5,(aiI gv x y).trans (bO some (mul_eq (x:=x) (y:=y) (by omega) (by omega) (by omega) (by omega))),rfl,rfl⟩
  cases a
end
end Go.Proofs.YtbeckacfibledaaGreatDoor.lt
namespace Go.Proofs.YtbeckacfibledaaGreatDoor.lt
open Go.Tv Go.Ev
set_option maxRecDepth 100000
noncomputable def L1:List xw:=[(60,[none],YB),(101,[none],aiH),(102,[none,none],aiK)]
theorem agb (gv:Nat->aI):jy (Xg gv) (eM (Xg gv) kn) L1:=.cons (aof gv) (.cons (aog gv) (.cons (aoh gv) .nil))
noncomputable def c1 (gv:Nat->aI)(β:Type):dz β:=uc (Xg gv) (Wv L1) inl 200 β 20
theorem I4 (gv:Nat->aI)(β:Type):dO (Xg gv) (eM (Xg gv) kn) (c1 gv β):=mM (agb gv) (λf h args=>cn h args) 200 20 β
noncomputable def anD:fe:=⟨.none,.node (some [0,1,7,8,9]) .none .none,[]⟩
noncomputable def stD (d:au)(b n i:Int)(a:Bool):gJ:=lS 83 [(0,.str d),(1,.int .i64 b),(7,.int .u64 n),(8,.int .i64 i),(9,.bool a)]
noncomputable def jD (gv:Nat->aI)(d:au)(b:Int)(r m:Nat)(n i:Int)(a:Bool):bx:=anQ (Xg gv) (c1 gv AV) anD r 62 [true] 0 (λv _=>some v) m (stD d b n i a) aH.empty
def fV (n i:Int)(a:Bool):bx:=some (.gI [.int .u64 n,.int .i64 i,.bool a])
noncomputable def N6 (b n v:Int):Int:=Int.ofNat ((Int.toNat (n*IntKind.wrap .u64 b%18446744073709551616)+Int.toNat (IntKind.wrap .u64 v)+0)%Extern.MathBitsCarry.m64)
noncomputable def Vi (b n v:Int):Int:=Int.ofNat ((Int.toNat (n*IntKind.wrap .u64 b%18446744073709551616)+Int.toNat (IntKind.wrap .u64 v)+0)/Extern.MathBitsCarry.m64)
noncomputable def F8 (d:au)(b n i:Int)(a:Bool)(go:Int->Int->Bool->bx):bx :=
 ah (bS i ↑d.length)
  (ah (bS i 0) (fV 0 0 false) (fV n (-1) a))
  (Option.rec (motive:=λ_=>bx) none (λc=>ah (bS (cS c) 95)
   (ah (bS i 0) (fV 0 i false) (ah (bS i (IntKind.wrap .i64 (↑d.length-1))) (fV 0 i false)
    (Option.rec (motive:=λ_=>bx) none (λc=>ah (bS (cS c) 95) (fV 0 i false) (go n (IntKind.wrap .i64 (i+1)) a)) (eL d (IntKind.wrap .i64 (i-1))))))
   (Option.rec (motive:=λ_=>bx) none (λc=>ah (bN (ox (cS c)) 0) (fV 0 i false) (ah (!bN (ox (cS c)) b) (fV 0 i false)
    (ah (!bN n 0&&bN n 18446744073709551616 && !bN (IntKind.wrap .u64 b) 0&&bN (IntKind.wrap .u64 b) 4294967296)
     (ah a (go (N6 b n (ox (cS c))) (IntKind.wrap .i64 (i+1)) true)
      (ah (!bS (n*IntKind.wrap .u64 b/18446744073709551616) 0) (go (N6 b n (ox (cS c))) (IntKind.wrap .i64 (i+1)) true)
       (go (N6 b n (ox (cS c))) (IntKind.wrap .i64 (i+1)) (!bS (Vi b n (ox (cS c))) 0))))
     none))) (eL d i))) (eL d i))
theorem DK (gv:Nat->aI)(d:au)(b:Int)(r m:Nat)(n i:Int)(a:Bool):jD gv d b r (m+1) n i a=F8 d b n i a (jD gv d b r m):=by kernel_rfl
theorem aiL (gv:Nat->aI)(d:au)(b:Int)(m:Nat):aT (Xg gv) (c1 gv AV) anD m 62 [.str d,.int .i64 b] aH.empty (λv _=>some v)=F8 d b 0 0 false (jD gv d b m m):=by kernel_rfl
def lX (b:Int):Bool->Bool->au->Nat->cu
 |first,_,[],_=>if first then some 0 else none
 |first,prev,c::r,i=>if cS c=95 then (if first=true\/r=[]\/prev=true then some i else lX b false true r (i+1)) else if ox (cS c)<0\/b<=ox (cS c) then some i else lX b false false r (i+1)
def yh (b:Nat):au->Nat->Nat
 |[],N=>N
 |c::r,N=>if cS c=95 then yh b r N else yh b r (N*b+(ox (cS c)).toNat)
def uD (b:Nat)(d:au):Int×Int×Bool :=
 match lX b true false d 0 with
 |some i=>(0,(i:Int),false)
 |none=>(((yh b d 0%18446744073709551616:Nat):Int),-1,decide (18446744073709551616<=yh b d 0))
theorem N7 {b N v:Nat}(h:b<=16)(i:v<16):N6 b ((N%18446744073709551616:Nat):Int) v=(((N*b+v)%18446744073709551616:Nat):Int)/\((N:Int)<18446744073709551616->(((N%18446744073709551616:Nat):Int)*IntKind.wrap .u64 b/18446744073709551616=0↔N*b<18446744073709551616)/\(N*b<18446744073709551616->(Vi b ((N%18446744073709551616:Nat):Int) v=0↔N*b+v<18446744073709551616))):=by
 have c:IntKind.wrap .u64 (b:Int)=b:=u64_in (by omega) (by omega);have d:IntKind.wrap .u64 (v:Int)=v:=u64_in (by omega) (by omega);have e:((N%18446744073709551616:Nat):Int)*(b:Int)%18446744073709551616=((N%18446744073709551616*b%18446744073709551616:Nat):Int):=by
  rw[Int.natCast_emod (N%18446744073709551616*b),kW];rfl
 have f:Extern.MathBitsCarry.m64=18446744073709551616:=by kernel_rfl
 unfold N6 Vi;rw[c,d,e,f];simp only[bf,nE];refine⟨?_,λj=>?_⟩
 .show ((_:Nat):Int)=_;congr 1
  rw[Nat.add_mod (N*b),Nat.mul_mod N b,Nat.add_mod (N%18446744073709551616*b%18446744073709551616),Nat.mod_mod,Nat.mul_mod (N%18446744073709551616) b,Nat.mod_mod]
 have a:N%18446744073709551616=N:=jh (by omega);rw[a];generalize g:N*b=P;refine⟨?_,λk=>?_⟩
 .have:((N:Int)*(b:Int))=(P:Int):=by rw[<-g,kW]
  rw[this];omega
 show ((((P%18446744073709551616+v)/18446744073709551616:Nat)):Int)=0↔_;omega
theorem YC (n:Int):ox n<16:=by unfold ox;repeat' split<;>omega
theorem aoi (gv:Nat->aI){b:Nat}(Mb:2<=b)(T:b<=16)(d:au)(hd:d.length<2000000)(r:Nat):∀(rest pre:au) (m:Nat) (N:Nat) (prev:Bool),d=pre++rest->rest.length<m->pre≠[]->(prev=true↔∃q,pre=q++[95]) ->
 jD gv d b r m ((N%18446744073709551616:Nat):Int) pre.length (decide (18446744073709551616<=N)) =
  match lX b false prev rest pre.length with
  |some i=>fV 0 i false
  |none=>fV ((yh b rest N%18446744073709551616:Nat):Int) (-1) (decide (18446744073709551616<=yh b rest N)):=by
 intro rest;induction rest with
 |nil =>
  intro pre m N prev k u e A;obtain⟨m,rfl⟩:∃B,m=B+1:=⟨m-1,by simp at u;omega⟩;rw[DK];unfold F8;have K:d.length=pre.length:=by rw[k];simp
  have U:0<pre.length:=dD.2 e;rw[HX (a:=(pre.length:Int)) (b:=(d.length:Int)) (by omega),y9 (a:=(pre.length:Int)) (b:=0) (by omega)];rfl
 |cons c rest L =>
  intro pre m N prev k u e A;obtain⟨m,rfl⟩:∃B,m=B+1:=⟨m-1,by simp at u;omega⟩;have K:d.length=pre.length+(rest.length+1):=by rw[k];simp
  have U:0<pre.length:=dD.2 e;have V:eL d (pre.length:Int)=some c:=by rw[k];exact mc pre rest c
  have g:IntKind.wrap .i64 ((pre.length:Int)+1)=((pre++[c]).length:Int):=by rw[i64_in (by omega) (by omega)];simp
  have n:d=(pre++[c])++rest:=by rw[k];simp
  have o:rest.length<m:=by simp at u;omega
  rw[DK];unfold F8;rw[y9 (a:=(pre.length:Int)) (b:=(d.length:Int)) (by omega),y9 (a:=(pre.length:Int)) (b:=0) (by omega),V,g];show ah (bS (cS c) 95) _ _=_;by_cases f:cS c=95
  .rw[HX f];show ah (bS (pre.length:Int) (IntKind.wrap .i64 (↑d.length-1))) _ _=_;rw[i64_in (by omega) (by omega)];have C:lX b false prev (c::rest) pre.length=if rest=[]\/prev=true then some pre.length else lX b false true rest (pre.length+1):=by
    rw[lX,ag f];simp
   rw[C];by_cases w:rest=[]
   .rw[HX (by rw[K,w];simp),ag (.inl w)]
   have W:0<rest.length:=dD.2 w;rw[y9 (by omega)];obtain⟨q,x,l⟩:∃q x,pre=q++[x]:=⟨pre.dropLast,pre.getLast e,(List.dropLast_concat_getLast e).symm⟩;have D:eL d (IntKind.wrap .i64 ((pre.length:Int)-1))=some x:=by
    rw[i64_in (by omega) (by omega)];have:(pre.length:Int)-1=(q.length:Int):=by rw[l];simp
    rw[this,k,l,bC];exact mc q (c::rest) x
   rw[D];show ah (bS (cS x) 95) _ _=_;by_cases y:cS x=95
   .have:prev=true:=A.2 ⟨q,by rw[l];congr 2;exact KZ (a:=x) (b:=95) y⟩;rw[HX y,ag (.inr this)]
   have E:prev=false:=by
    cases F:prev with
    |false=>rfl
    |true =>
     obtain⟨q',p⟩:=A.1 F;rw[l]at p;have:=(pG p rfl).2;simp at this;exact absurd (by rw[this];rfl) y
   rw[y9 y,aa (by simp[w,E])];have G:c=95:=KZ (a:=c) (b:=95) f;have:=L (pre++[c]) m N true n o (by simp) ⟨λ_=>⟨pre,by rw[G]⟩,λ_=>rfl⟩;rw[aA,fh]at this;show jD gv d b r m _ ((pre++[c]).length:Int) _=_;rw[aA,fh,this];have s:yh b (c::rest) N=yh b rest N:=by rw[yh,ag f]
   rw[s]
  rw[y9 f];show ah (bN (ox (cS c)) 0) _ _=_;have C:lX b false prev (c::rest) pre.length=if ox (cS c)<0\/(b:Int)<=ox (cS c) then some pre.length else lX b false false rest (pre.length+1):=by
   rw[lX,aa f]
  rw[C];by_cases M:ox (cS c)<0
  .rw[rC M,ag (.inl M)]
  rw[gB (by omega)];show ah (!bN (ox (cS c)) b) _ _=_;by_cases O:(b:Int)<=ox (cS c)
  .rw[gB O,ag (.inr O)];rfl
  rw[rC (by omega),aa (by omega)];have X:IntKind.wrap .u64 (b:Int)=b:=u64_in (by omega) (by omega);have j:(!bN ((N%18446744073709551616:Nat):Int) 0&&bN ((N%18446744073709551616:Nat):Int) 18446744073709551616 && !bN (IntKind.wrap .u64 (b:Int)) 0&&bN (IntKind.wrap .u64 (b:Int)) 4294967296)=true:=by
   rw[X,gB (by omega),rC (by omega),gB (by omega),rC (by omega)];rfl
  obtain⟨v,s⟩:∃v:Nat,ox (cS c)=v:=⟨(ox (cS c)).toNat,by omega⟩;have H:v<16:=by have:=YC (cS c);omega
  obtain⟨Y,Z⟩:=N7 (N:=N) T H;have t:yh b (c::rest) N=yh b rest (N*b+v):=by rw[yh,aa f,s];rfl
  have goal:∀I,I=decide (18446744073709551616<=N*b+v)->jD gv d b r m (N6 b ((N%18446744073709551616:Nat):Int) (ox (cS c))) ((pre++[c]).length:Int) I =
   match lX b false false rest (pre.length+1) with
   |some i=>fV 0 i false
   |none=>fV ((yh b (c::rest) N%18446744073709551616:Nat):Int) (-1) (decide (18446744073709551616<=yh b (c::rest) N)):=λI P4=>by
   have J:¬ ∃q,pre++[c]=q++[95]:=λ⟨q,l⟩=>by
    have:=(pG l rfl).2;simp at this;exact f (by rw[this];rfl)
   have:=L (pre++[c]) m (N*b+v) false n o (by simp) ⟨λh=>(by cases h),λh=>absurd h J⟩;rw[s,Y,P4,this,t];simp
  show ah (_&&_&&_&&_) _ _=_;rw[j];show ah (decide (18446744073709551616<=N)) _ _=_;by_cases P:18446744073709551616<=N
  .rw[bg P];have:N<=N*b:=Nat.le_mul_of_pos_right N (by omega);exact goal true (by rw[bg];omega)
  rw[aY P];obtain⟨Q,R⟩:=Z (by omega);show ah (!bS _ 0) _ _=_;by_cases z:N*b<18446744073709551616
  .rw[HX (Q.2 z)];refine goal _ ?_;rw[s];by_cases S:N*b+v<18446744073709551616
   .rw[HX ((R z).2 S),aY (by omega)];rfl
   rw[y9 (λh=>S ((R z).1 h)),bg (by omega)];rfl
  rw[y9 (λh=>z (Q.1 h))];exact goal true (by rw[bg];omega)
theorem asK (gv:Nat->aI){b:Nat}(w:2<=b)(n:b<=16)(d:au)(x:d.length<2000000) :
 aT (Xg gv) (c1 gv AV) anD (d.length+1) 62 [.str d,.int .i64 b] aH.empty (λv _=>some v)=fV (uD b d).1 (uD b d).2.1 (uD b d).2.2:=by
 rw[aiL];cases d with
 |nil=>rfl
 |cons c rest =>
  have B:((c::rest).length:Int)=rest.length+1:=by simp
  unfold F8;rw[y9 (a:=0) (b:=((c::rest).length:Int)) (by omega),show eL (c::rest) 0=some c from rfl];show ah (bS (cS c) 95) _ _=_;by_cases f:cS c=95
  .have g:lX b true false (c::rest) 0=some 0:=by rw[lX,ag f,ag (.inl rfl)]
   rw[HX f];unfold uD;rw[g];rfl
  rw[y9 f];show ah (bN (ox (cS c)) 0) _ _=_;have g:lX b true false (c::rest) 0=if ox (cS c)<0\/(b:Int)<=ox (cS c) then some 0 else lX b false false rest 1:=by
   rw[lX,aa f]
  by_cases o:ox (cS c)<0
  .rw[rC o];unfold uD;rw[g,ag (.inl o)];rfl
  rw[gB (by omega)];show ah (!bN (ox (cS c)) b) _ _=_;by_cases p:(b:Int)<=ox (cS c)
  .rw[gB p];unfold uD;rw[g,ag (.inr p)];rfl
  rw[rC (by omega)];have y:IntKind.wrap .u64 (b:Int)=b:=u64_in (by omega) (by omega);have e:(!bN 0 0&&bN 0 18446744073709551616 && !bN (IntKind.wrap .u64 (b:Int)) 0&&bN (IntKind.wrap .u64 (b:Int)) 4294967296)=true:=by
   rw[y,gB (a:=0) (by omega),rC (by omega),gB (by omega),rC (by omega)];rfl
  obtain⟨v,r⟩:∃v:Nat,ox (cS c)=v:=⟨(ox (cS c)).toNat,by omega⟩;have k:v<16:=by have:=YC (cS c);omega
  obtain⟨t,u⟩:=N7 (N:=0) n k;show ah (_&&_&&_&&_) (ah (!bS (0*IntKind.wrap .u64 (b:Int)/18446744073709551616) 0) _ (jD gv (c::rest) b _ _ (N6 b 0 (ox (cS c))) (IntKind.wrap .i64 (0+1)) (!bS (Vi b 0 (ox (cS c))) 0))) none=_;rw[e,Int.zero_mul];show jD gv (c::rest) b _ _ (N6 b 0 (ox (cS c))) (IntKind.wrap .i64 (0+1)) (!bS (Vi b 0 (ox (cS c))) 0)=_;have e0:((0%18446744073709551616:Nat):Int)=0:=by simp
  rw[e0,qi,cj]at t;rw[e0,qi,cj]at u;have l:Vi b 0 v=0:=((u (by omega)).2 (by omega)).2 (by omega);rw[r,t,l];have m:¬ ∃q:au,[c]=q++[95]:=λ⟨q,z⟩=>by
   have:=(pG (s₁:=[]) z rfl).2;simp at this;exact f (by rw[this];rfl)
  have:=aoi gv w n (c::rest) x ((c::rest).length+1) rest [c] ((c::rest).length+1) v false rfl (by simp;omega) (by simp) ⟨λh=>(by cases h),λh=>absurd h m⟩;have A:IntKind.wrap .i64 (0+1)=(([c]:au).length:Int):=by rw[i64_in (by omega) (by omega)];rfl
  have e2:(!bS 0 0)=decide (18446744073709551616<=v):=by rw[aY (by omega)];rfl
  rw[A,e2,this];unfold uD;rw[g,aa (by omega)];have j:yh b (c::rest) 0=yh b rest v:=by rw[yh,aa f,r];simp
  rw[j];show (match lX (b:Int) false false rest 1 with|some i=>_|none=>_)=_;cases lX (b:Int) false false rest 1<;>rfl
noncomputable def K8 (args:aI):Option (Bool×List gj) :=
 match args with
 |[.str d,.int .i64 b]=>some (!bN b 2 && !bN 16 b&&Nat.ble d.length 1999999,[.val (.int .u64 (uD b.toNat d).1),.val (.int .i64 (uD b.toNat d).2.1),.val (.bool (uD b.toNat d).2.2)])
 |_=>none
theorem aoj (gv:Nat->aI):dQ (Xg gv) (eM (Xg gv) kn) 62 K8 :=
 dG (λargs=>cn rfl args) (I4 gv) λargs rs a=>by
  unfold K8 at a;split at a
  .rename_i d b;simp only[aq,az,ak,dc,aU,bJ,bF]at a;obtain⟨⟨⟨c,e⟩,f⟩,rfl⟩:=a;obtain⟨n,rfl⟩:∃n:Nat,b=n:=⟨b.toNat,by omega⟩;rw[bf];exact⟨[.int .u64 (uD n d).1,.int .i64 (uD n d).2.1,.bool (uD n d).2.2],anD,d.length+1,asK gv (by omega) (by omega) d (by omega),rfl,rfl⟩
  cases a
def F9 (c:UInt8):Int:=IntKind.wrap .u8 ↑(BitVec.toNat (BitVec.ofInt 8 (cS c) ||| BitVec.ofInt 8 32))
def ee (w:au):Nat×Nat×Nat :=
 let second:Int:=if 2<w.length/\w.head? = some 48 then F9 (w.getD 1 0) else 0
 if second=120 then (2,0,16) else if F9 (w.getD (w.length-1) 0)=104 then (0,1,16) else if second=98 then (2,0,2) else if second=111 then (2,0,8) else (0,0,10)
noncomputable def ke (a b c:Int):bx:=some (.gI [.int .i64 a,.int .i64 b,.int .i64 c])
noncomputable def N8 (w:au)(k:UInt8->bx):bx:=Option.rec (motive:=λ_=>bx) none k (eL w (IntKind.wrap .i64 (↑w.length-1)))
noncomputable def noP (w:au):bx:=N8 w λc=>ah (bS (F9 c) 104) (ke 0 (IntKind.wrap .i64 (↑w.length-1)) 16) (ke 0 ↑w.length 10)
theorem aok (gv:Nat->aI)(w:au):aT (Xg gv) (c1 gv AV) gC 5 61 [.str w] aH.empty (λv _=>some v) =
 ah (bN 2 ↑w.length) (Option.rec (motive:=λ_=>bx) none (λc=>ah (bS (cS c) 48)
  (Option.rec (motive:=λ_=>bx) none (λc2=>N8 w λc=>ah (bS (F9 c2) 120) (ke 2 ↑w.length 16) (ah (bS (F9 c) 104) (ke 0 (IntKind.wrap .i64 (↑w.length-1)) 16)
   (ah (bS (F9 c2) 98) (ke 2 ↑w.length 2) (ah (bS (F9 c2) 111) (ke 2 ↑w.length 8) (ke 0 ↑w.length 10))))) (eL w 1))
  (noP w)) (eL w 0)) (noP w):=by kernel_rfl
theorem S9 {w:au}(h:w≠[])(a:w.length<2000000)(k:UInt8->bx):N8 w k=k (w.getD (w.length-1) 0):=by
 have b:0<w.length:=dD.2 h;unfold N8;rw[i64_in (by omega) (by omega)];have:(w.length:Int)-1=((w.length-1:Nat):Int):=by omega
 rw[this,vI,gU,aR (by omega)];rfl
theorem C7 (gv:Nat->aI){w:au}(h:w≠[])(d:w.length<2000000):aT (Xg gv) (c1 gv AV) gC 5 61 [.str w] aH.empty (λv _=>some v) =
 ke (ee w).1 ((w.length-(ee w).2.1:Nat):Int) (ee w).2.2:=by
 have l:0<w.length:=dD.2 h;have e:IntKind.wrap .i64 (↑w.length-1)=((w.length-1:Nat):Int):=by rw[i64_in (by omega) (by omega)];omega
 have c:∀second:Int,second=0->noP w=ke (if second=120 then (2,0,16) else if F9 (w.getD (w.length-1) 0)=104 then (0,1,16) else if second=98 then (2,0,2) else if second=111 then (2,0,8) else (0,0,10):Nat×Nat×Nat).1 ((w.length-(if second=120 then (2,0,16) else if F9 (w.getD (w.length-1) 0)=104 then (0,1,16) else if second=98 then (2,0,2) else if second=111 then (2,0,8) else (0,0,10):Nat×Nat×Nat).2.1:Nat):Int) (if second=120 then (2,0,16) else if F9 (w.getD (w.length-1) 0)=104 then (0,1,16) else if second=98 then (2,0,2) else if second=111 then (2,0,8) else (0,0,10):Nat×Nat×Nat).2.2:=λsecond i=>by
  subst i;unfold noP;rw[S9 h d,cH,e];split
  .rfl
  rfl
 rw[aok];unfold ee;by_cases hlen:2<w.length
 .rw[rC (by omega)]
  match w,h,hlen,c,d,e with
  |a::b::r,h,hlen,c,d,e =>
   rw[show eL (a::b::r) 0=some a from rfl,show eL (a::b::r) 1=some b from rfl];show ah (bS (cS a) 48) _ _=_;by_cases f:cS a=48
   .have g:a=48:=KZ (a:=a) (b:=48) f;rw[HX f];show N8 (a::b::r) _=_;rw[S9 h d];simp only[cH,e];rw[ag (show 2<(a::b::r).length/\(a::b::r).head? = some 48 from ⟨hlen,by rw[g];rfl⟩)];show _=ke (if F9 b=120 then _ else _:Nat×Nat×Nat).1 _ _;have j:(a::b::r).getD 1 0=b:=rfl;simp only[j];repeat' split
    all_goals rfl
   rw[y9 f];have k:¬(2<(a::b::r).length/\(a::b::r).head? = some 48):=λ⟨_,h⟩=>by
    simp at h;exact f (by rw[h];rfl)
   exact c _ (aa k)
 rw[gB (by omega)];exact c _ (aa (by omega))
noncomputable def QT (args:aI):Option (Bool×List gj) :=
 match args with
 |[.str w]=>some (!w.isEmpty&&Nat.ble w.length 1999999,[.val (.int .i64 (ee w).1),.val (.int .i64 ((w.length-(ee w).2.1:Nat):Int)),.val (.int .i64 (ee w).2.2)])
 |_=>none
theorem aol (gv:Nat->aI):dQ (Xg gv) (eM (Xg gv) kn) 61 QT :=
 dG (λargs=>cn rfl args) (I4 gv) λargs rs a=>by
  unfold QT at a;split at a
  .rename_i w;simp only[aq,az,ak,aU,List.isEmpty_eq_false_iff,bF]at a;obtain⟨⟨b,c⟩,rfl⟩:=a;exact⟨[.int .i64 (ee w).1,.int .i64 ((w.length-(ee w).2.1:Nat):Int),.int .i64 (ee w).2.2],gC,5,C7 gv b (by omega),rfl,rfl⟩
  cases a
def pT:eJ:=[true,true,false,true,false]
noncomputable def anT:fe:=⟨iM [0,1,6,7,8] pT,.none,[]⟩
noncomputable def stT (s:au)(a n i:Int):gJ:=lS 67 [(0,.str s),(1,.int .i64 a),(6,.ptr 0 0),(7,.int .u64 n),(8,.int .i64 i)]
noncomputable def mT:aH:=oL [.cells 43 [.int .i64 0,.int .i64 0]]
noncomputable def jT (gv:Nat->aI)(s:au)(a:Int)(r m:Nat)(n i:Int):bx:=jo (Xg gv) (c0 gv AV) anT r 59 pT (λv _=>some v) m (stT s a n i) mT
def ue (n e f a:Int):bx:=some (.gI [.int .i64 n,.int .i64 e,.agg [.int .i64 f,.int .i64 a]])
noncomputable def Vj (a i:Int):Int:=IntKind.wrap .i64 (IntKind.wrap .i64 (i-a)-1)
noncomputable def orT (n c k:Int):Int:=IntKind.wrap .u64 ↑(BitVec.toNat (BitVec.ofInt 64 n ||| BitVec.ofInt 64 (IntKind.wrap .u64 (IntKind.wrap .u64 c*2 ^ (min (Int.toNat (IntKind.wrap .i64 (8*k))) 64)))))
noncomputable def zV (a n i:Int)(c:UInt8)(go:Int->Int->bx):bx :=
 ah (bS (cS c) 39) (ue (IntKind.wrap .i64 n) (IntKind.wrap .i64 (i+1)) 0 0)
  (ah (bN (cS c) 32) (ue 0 0 4 i) (ah (bN 126 (cS c)) (ue 0 0 4 i) (ah (bS (Vj a i) 8) (ue 0 0 3 i)
   (ah (bN (IntKind.wrap .i64 (8*Vj a i)) 0) none (go (orT n (cS c) (Vj a i)) (IntKind.wrap .i64 (i+1)))))))
noncomputable def YE (s:au)(a n i:Int)(go:Int->Int->bx):bx :=
 ah (bN i ↑s.length)
  (Option.rec (motive:=λ_=>bx) none (λc=>ah (bS (cS c) 39) (ah (bS (Vj a i) 0) (ue 0 0 4 i) (zV a n i c go)) (zV a n i c go)) (eL s i))
  (ue 0 0 4 ↑s.length)
theorem stepT' (gv:Nat->aI)(s:au)(a:Int)(r m:Nat)(n i:Int):jT gv s a r (m+1) n i=YE s a n i (jT gv s a r m):=by kernel_rfl
theorem enterT' (gv:Nat->aI)(s:au)(a:Int)(m:Nat):aT (Xg gv) (c0 gv AV) anT m 59 [.str s,.int .i64 a] aH.empty (λv _=>some v)=jT gv s a m m 0 (IntKind.wrap .i64 (a+1)):=by kernel_rfl
def ot (len:Nat):au->Nat->Nat->Nat->Int×Int×Int×Int
 |[],_,_,_=>(0,0,4,len)
 |c::r,k,N,i =>
  if cS c=39 then (if k=0 then (0,0,4,i) else (IntKind.wrap .i64 N,i+1,0,0))
  else if cS c<32\/126<cS c then (0,0,4,i) else if k=8 then (0,0,3,i) else ot len r (k+1) (N+c.toNat*256 ^ k) (i+1)
theorem aiN {N k:Nat}{c:UInt8}(q:k<8)(j:N<256 ^ k):orT N (cS c) k=((N+c.toNat*256 ^ k:Nat):Int)/\N+c.toNat*256 ^ k<256 ^ (k+1):=by
 have r:=c.toNat_lt;have d:N+c.toNat*256 ^ k<256 ^ (k+1):=by
  rw[Nat.pow_succ,Nat.mul_comm (256 ^ k) 256];have:c.toNat*256 ^ k<=255*256 ^ k:=eS _ (by omega);omega
 have l:256 ^ (k+1)<=2 ^ 64:=by
  have:256 ^ (k+1)<=256 ^ 8:=Nat.pow_le_pow_right (by omega) (by omega);exact this
 have a:(2:Nat) ^ (8*k)=256 ^ k:=by rw[Nat.pow_mul]
 have g:0<256 ^ k:=Nat.pow_pos (by omega);have e:c.toNat*256 ^ k<2 ^ 64:=by omega
 have f:N<2 ^ 64:=by omega
 refine⟨?_,d⟩;unfold orT;rw[i64_in (by omega) (by omega)];have m:min (Int.toNat (8*(k:Int))) 64=8*k:=by omega
 rw[m];have e2:IntKind.wrap .u64 (cS c)=(c.toNat:Int):=u64_in (aim c) (by have:=ain c;omega);rw[e2];have o:(c.toNat:Int)*2 ^ (8*k)=((c.toNat*256 ^ k:Nat):Int):=by
  rw[kW,<-a,Int.natCast_pow];rfl
 rw[o,u64_in (n:=((c.toNat*256 ^ k:Nat):Int)) (by omega) (by omega),BitVec.toNat_or,jX,jX,lu,lu,jh f,jh e];have p:N ||| c.toNat*256 ^ k=N+c.toNat*256 ^ k:=by
  have h:=Nat.shiftLeft_add_eq_or_of_lt (b:=N) (i:=8*k) (by rw[a];exact j) c.toNat;rw[Nat.shiftLeft_eq,a]at h;rw[Nat.or_comm,<-h,nD]
 rw[p,u64_in (by omega) (by omega)]
theorem YF (gv:Nat->aI)(s:au)(A:s.length<2000000)(a r:Nat):∀(rest pre:au) (m k N:Nat),s=pre++rest->rest.length<m->pre.length=a+1+k->k<=8->N<256 ^ k ->
 jT gv s a r m N pre.length=ue (ot s.length rest k N pre.length).1 (ot s.length rest k N pre.length).2.1 (ot s.length rest k N pre.length).2.2.1 (ot s.length rest k N pre.length).2.2.2:=by
 intro rest;induction rest with
 |nil =>
  intro pre m k N d j q t p;obtain⟨m,rfl⟩:∃o,m=o+1:=⟨m-1,by simp at j;omega⟩;rw[stepT'];unfold YE;have u:s.length=pre.length:=by rw[d];simp
  rw[gB (by omega)];rfl
 |cons c rest v =>
  intro pre m k N d j q t p;obtain⟨m,rfl⟩:∃o,m=o+1:=⟨m-1,by simp at j;omega⟩;have u:s.length=pre.length+(rest.length+1):=by rw[d];simp
  have w:eL s (pre.length:Int)=some c:=by rw[d];exact mc pre rest c
  have b:IntKind.wrap .i64 ((pre.length:Int)+1)=((pre++[c]).length:Int):=by rw[i64_in (by omega) (by omega)];simp
  have e:Vj (a:Int) (pre.length:Int)=(k:Int):=by
   unfold Vj;rw[i64_in (n:=(pre.length:Int)-a) (by omega) (by omega),i64_in (by omega) (by omega)];omega
  rw[stepT'];unfold YE;rw[rC (by omega),w,e];show ah (bS (cS c) 39) _ _=_;have x:ot s.length (c::rest) k N pre.length=if cS c=39 then (if k=0 then (0,0,4,(pre.length:Int)) else (IntKind.wrap .i64 N,(pre.length:Int)+1,0,0))
   else if cS c<32\/126<cS c then (0,0,4,(pre.length:Int)) else if k=8 then (0,0,3,(pre.length:Int)) else ot s.length rest (k+1) (N+c.toNat*256 ^ k) (pre.length+1):=by
   rw[ot]
  rw[x];unfold zV;rw[e,b];by_cases l:cS c=39
  .rw[HX l,ag l];show ah (bS (k:Int) 0) _ _=_;by_cases f:k=0
   .rw[HX (by omega),ag f]
   rw[y9 (by omega),aa f];show ue _ ((pre++[c]).length:Int) 0 0=_;rw[aA,fh];rfl
  rw[y9 l,aa l];show ah (bN (cS c) 32) _ _=_;by_cases g:cS c<32
  .rw[rC g,ag (.inl g)]
  rw[gB (by omega)];show ah (bN 126 (cS c)) _ _=_;by_cases h:126<cS c
  .rw[rC h,ag (.inr h)]
  rw[gB (by omega),aa (by omega)];show ah (bS (k:Int) 8) _ _=_;by_cases i:k=8
  .rw[HX (by omega),ag i]
  rw[y9 (by omega),aa i];show ah (bN (IntKind.wrap .i64 (8*(k:Int))) 0) none _=_;rw[i64_in (by omega) (by omega),gB (by omega)];obtain⟨y,z⟩:=aiN (c:=c) (show k<8 by omega) p;show jT gv s a r m (orT N (cS c) k) ((pre++[c]).length:Int)=_;rw[y,v (pre++[c]) m (k+1) (N+c.toNat*256 ^ k) (by rw[d];simp) (by simp at j;omega) (by simp;omega) (by omega) z,aA,fh]
def qK (s:au)(a:Nat):Int×Int×Int×Int:=ot s.length (s.drop (a+1)) 0 0 (a+1)
theorem runText (gv:Nat->aI)(s:au)(b:s.length<2000000)(a:Nat)(d:a<s.length) :
 aT (Xg gv) (c0 gv AV) anT (s.length+1) 59 [.str s,.int .i64 a] aH.empty (λv _=>some v)=ue (qK s a).1 (qK s a).2.1 (qK s a).2.2.1 (qK s a).2.2.2:=by
 rw[enterT',i64_in (by omega) (by omega)];have c:(s.take (a+1)).length=a+1:=by simp;omega
 have:=YF gv s b a (s.length+1) (s.drop (a+1)) (s.take (a+1)) (s.length+1) 0 0 (by simp) (by simp;omega) (by omega) (by omega) (by simp);rw[c]at this;exact this
noncomputable def YG (args:aI):Option (Bool×List gj) :=
 match args with
 |[.str s,.int .i64 a]=>some (!bN a 0&&bN a ↑s.length&&Nat.ble s.length 1999999,[.val (.int .i64 (qK s a.toNat).1),.val (.int .i64 (qK s a.toNat).2.1),.val (.agg [.int .i64 (qK s a.toNat).2.2.1,.int .i64 (qK s a.toNat).2.2.2])])
 |_=>none
theorem aoo (gv:Nat->aI):dQ (Xg gv) (eM (Xg gv) kn) 59 YG :=
 dG (λargs=>cn rfl args) (BP gv) λargs rs b=>by
  unfold YG at b;split at b
  .rename_i s a;simp only[aq,az,ak,dc,aU,bJ,aZ,bF]at b;obtain⟨⟨⟨c,d⟩,e⟩,rfl⟩:=b;obtain⟨n,rfl⟩:∃n:Nat,a=n:=⟨a.toNat,by omega⟩;rw[bf];exact⟨[.int .i64 (qK s n).1,.int .i64 (qK s n).2.1,.agg [.int .i64 (qK s n).2.2.1,.int .i64 (qK s n).2.2.2]],anT,s.length+1,runText gv s (by omega) n (by omega),rfl,rfl⟩
  cases b
noncomputable def L2:List xw:=(59,[none,none],YG)::(61,[none],QT)::(62,[none,none],K8)::L1
theorem aop (gv:Nat->aI):jy (Xg gv) (eM (Xg gv) kn) L2:=.cons (aoo gv) (.cons (aol gv) (.cons (aoj gv) (agb gv)))
noncomputable def c2 (gv:Nat->aI)(β:Type):dz β:=uc (Xg gv) (Wv L2) inl 200 β 20
theorem Ta (gv:Nat->aI)(β:Type):dO (Xg gv) (eM (Xg gv) kn) (c2 gv β):=mM (aop gv) (λf h args=>cn h args) 200 20 β
def pS:eJ:=[true,true,true,true,true,false,false]
noncomputable def anS:fe:=⟨iM [0,1,6,7] pS,.none,[]⟩
noncomputable def stS (s:au)(a e:Int):gJ:=lS 102 [(0,.str s),(1,.int .i64 a),(6,.ptr 0 0),(7,.int .i64 e)]
noncomputable def jS (gv:Nat->aI)(s:au)(a:Int)(r m:Nat)(e:Int):bx:=jo (Xg gv) (c2 gv AV) anS r 28 pS (λv _=>some v) m (stS s a e) mT
noncomputable def YH (s:au)(a e lo:Int)(r:Int×Int×Bool):bx :=
 ah (!bN r.2.1 0) (ue 0 0 4 (IntKind.wrap .i64 (lo+r.2.1))) (ah r.2.2 (ue 0 0 5 a) (ue (IntKind.wrap .i64 r.1) e 0 0))
noncomputable def YI (s:au)(a e:Int)(w:au)(p:Nat×Nat×Nat):bx :=
 ah (!bN (IntKind.wrap .i64 (a + ↑p.1)) 0 && !bN (IntKind.wrap .i64 (a + ↑(w.length-p.2.1))) (IntKind.wrap .i64 (a + ↑p.1)) && !bN (Int.ofNat s.length) (IntKind.wrap .i64 (a + ↑(w.length-p.2.1))))
  (ah (!bN (p.2.2:Int) 2 && !bN 16 (p.2.2:Int)&&Nat.ble (dZ s (IntKind.wrap .i64 (a + ↑p.1)) (IntKind.wrap .i64 (a + ↑(w.length-p.2.1)))).length 1999999)
   (YH s a e (IntKind.wrap .i64 (a + ↑p.1)) (uD (Int.toNat (p.2.2:Int)) (dZ s (IntKind.wrap .i64 (a + ↑p.1)) (IntKind.wrap .i64 (a + ↑(w.length-p.2.1)))))) none) none
noncomputable def YJ (s:au)(a e:Int):bx :=
 ah (!bN a 0 && !bN e a && !bN (Int.ofNat s.length) e)
  (ah (!(dZ s a e).isEmpty&&Nat.ble (dZ s a e).length 1999999) (YI s a e (dZ s a e) (ee (dZ s a e))) none) none
theorem ku (gv:Nat->aI)(s:au)(a:Int)(r m:Nat)(e:Int):jS gv s a r (m+1) e =
 ah (bN e ↑s.length) (Option.rec (motive:=λ_=>bx) none (λc=>ah (nQ (cS c)) (jS gv s a r m (IntKind.wrap .i64 (e+1))) (YJ s a e)) (eL s e)) (YJ s a e):=by kernel_rfl
noncomputable def QU (s:au)(a:Int)(go:bx):bx :=
 Option.rec (motive:=λ_=>bx) none (λc=>ah (bS (cS c) 39)
  (ah (!bN a 0&&bN a ↑s.length&&Nat.ble s.length 1999999) (ue (qK s a.toNat).1 (qK s a.toNat).2.1 (qK s a.toNat).2.2.1 (qK s a.toNat).2.2.2) none) go) (eL s a)
theorem aiP (gv:Nat->aI)(s:au)(a:Int)(m:Nat):aT (Xg gv) (c2 gv AV) anS m 28 [.str s,.int .i64 a] aH.empty (λv _=>some v) =
 ah (bN a 0) (ue 0 0 6 0) (ah (!bN a ↑s.length) (ue 0 0 6 a)
  (Option.rec (motive:=λ_=>bx) none (λc=>ah (!bS (cS c) 39)
   (Option.rec (motive:=λ_=>bx) none (λc=>ah (bN (cS c) 48) (ue 0 0 6 a)
    (Option.rec (motive:=λ_=>bx) none (λc=>ah (bN 57 (cS c)) (ue 0 0 6 a) (QU s a (jS gv s a m m a))) (eL s a))) (eL s a))
   (QU s a (jS gv s a m m a))) (eL s a))):=by kernel_rfl
theorem aoq (gv:Nat->aI)(s:au)(k:s.length<2000000)(a:Int)(r:Nat):∀(rest pre:au) (m:Nat),s=pre++rest->rest.length<m ->
 jS gv s a r m pre.length=YJ s a ((pre.length+(rest.takeWhile λc=>nQ (cS c)).length:Nat):Int):=by
 intro rest;induction rest with
 |nil =>
  intro pre m d e;obtain⟨m,rfl⟩:∃f,m=f+1:=⟨m-1,by simp at e;omega⟩;have h:s.length=pre.length:=by rw[d];simp
  rw[ku,gB (by omega)];rfl
 |cons c rest i =>
  intro pre m d e;obtain⟨m,rfl⟩:∃f,m=f+1:=⟨m-1,by simp at e;omega⟩;have h:s.length=pre.length+(rest.length+1):=by rw[d];simp
  have j:eL s (pre.length:Int)=some c:=by rw[d];exact mc pre rest c
  have b:IntKind.wrap .i64 ((pre.length:Int)+1)=((pre++[c]).length:Int):=by rw[i64_in (by omega) (by omega)];simp
  rw[ku,rC (by omega),j,b];show ah (nQ (cS c)) _ _=_;cases g:nQ (cS c) with
  |true =>
   show jS gv s a r m _=_;rw[i (pre++[c]) m (by rw[d];simp) (by simp at e;omega),fQ,ag g];simp only[aA,aJ,bK];congr 2;omega
  |false =>
   rw[fQ,aa (by simp[g])];simp
def sV (w:au)(a:Nat):Int×Int×Int×Int :=
 if 0<=(uD (ee w).2.2 ((w.take (w.length-(ee w).2.1)).drop (ee w).1)).2.1 then (0,0,4,(a:Int)+(ee w).1+(uD (ee w).2.2 ((w.take (w.length-(ee w).2.1)).drop (ee w).1)).2.1)
 else if (uD (ee w).2.2 ((w.take (w.length-(ee w).2.1)).drop (ee w).1)).2.2 then (0,0,5,(a:Int))
 else (IntKind.wrap .i64 (uD (ee w).2.2 ((w.take (w.length-(ee w).2.1)).drop (ee w).1)).1,(a:Int)+w.length,0,0)
def jq (s:au)(a:Int):Int×Int×Int×Int :=
 if a<0 then (0,0,6,0) else if (s.length:Int)<=a then (0,0,6,a)
 else if cS (s.getD a.toNat 0)=39 then qK s a.toNat
 else if 48<=cS (s.getD a.toNat 0)/\cS (s.getD a.toNat 0)<=57 then sV ((s.drop a.toNat).takeWhile λc=>nQ (cS c)) a.toNat
 else (0,0,6,a)
theorem YK (w:au)(h:w≠[]):(ee w).1+(ee w).2.1<=w.length/\2<=(ee w).2.2/\(ee w).2.2<=16:=by
 have b:0<w.length:=dD.2 h;unfold ee;by_cases a:2<w.length/\w.head? = some 48
 .simp only[ag a];repeat' split
  all_goals refine⟨?_,?_,?_⟩<;>simp only<;>omega
 simp only[aa a];repeat' split
 all_goals first|(refine⟨?_,?_,?_⟩<;>simp only<;>omega)|(rename_i h _;simp at h)|(rename_i h;simp at h)
theorem Ga (b:Int):∀(l:au) (first prev:Bool) (i j:Nat),lX b first prev l i=some j->j<=i+l.length
 |[],first,prev,i,j,h=>by
  rw[lX]at h;split at h
  .cases h;omega
  cases h
 |c::r,first,prev,i,j,h=>by
  rw[lX]at h;simp only[aJ];split at h
  .split at h
   .cases h;omega
   have:=Ga b r _ _ _ _ h;omega
  split at h
  .cases h;omega
  have:=Ga b r _ _ _ _ h;omega
theorem adf (b:Nat)(d:au) : -1<=(uD b d).2.1/\(uD b d).2.1<=d.length:=by
 unfold uD;split
 .rename_i i h;have:=Ga b d true false 0 i h;simp only;omega
 simp only;omega
theorem adg {s w:au}(p:s.length<2000000){a:Nat}(q:a+w.length<=s.length)(h:w≠[])(i:(s.drop a).take w.length=w) :
 YJ s a ((a+w.length:Nat):Int)=ue (sV w a).1 (sV w a).2.1 (sV w a).2.2.1 (sV w a).2.2.2:=by
 obtain⟨r,t,u⟩:=YK w h;have k:dZ s (a:Int) ((a+w.length:Nat):Int)=w:=by
  unfold dZ;simp only[bf];have:a+w.length-a=w.length:=by omega
  rw[this];exact i
 unfold YJ;rw[gB (a:=(a:Int)) (b:=0) (by omega),gB (a:=((a+w.length:Nat):Int)) (by omega),gB (a:=Int.ofNat s.length) (by show ((a+w.length:Nat):Int)<=(s.length:Int);omega),k];have e:w.isEmpty=false:=by simpa using h
 have l:Nat.ble w.length 1999999=true:=eN (by omega);rw[e,l];show YI s a _ w (ee w)=_;unfold YI;have m:IntKind.wrap .i64 ((a:Int)+((ee w).1:Int))=((a+(ee w).1:Nat):Int):=by rw[i64_in (by omega) (by omega)];omega
 have e2:IntKind.wrap .i64 ((a:Int)+((w.length-(ee w).2.1:Nat):Int))=((a+(w.length-(ee w).2.1):Nat):Int):=by rw[i64_in (by omega) (by omega)];omega
 rw[m,e2,gB (a:=((a+(ee w).1:Nat):Int)) (b:=0) (by omega),gB (a:=((a+(w.length-(ee w).2.1):Nat):Int)) (by omega),gB (a:=Int.ofNat s.length) (by show ((a+(w.length-(ee w).2.1):Nat):Int)<=(s.length:Int);omega)];have f:dZ s ((a+(ee w).1:Nat):Int) ((a+(w.length-(ee w).2.1):Nat):Int)=(w.take (w.length-(ee w).2.1)).drop (ee w).1:=Yd i _ _ (by omega);rw[f,gB (a:=((ee w).2.2:Int)) (b:=2) (by omega),gB (a:=16) (by omega)];have g:Nat.ble ((w.take (w.length-(ee w).2.1)).drop (ee w).1).length 1999999=true:=eN (by simp;omega)
 rw[g,bf];show YH s a _ _ _=_;unfold YH sV;have n:=adf (ee w).2.2 ((w.take (w.length-(ee w).2.1)).drop (ee w).1);have o:((w.take (w.length-(ee w).2.1)).drop (ee w).1).length<=w.length:=by simp;omega
 generalize uD (ee w).2.2 ((w.take (w.length-(ee w).2.1)).drop (ee w).1)=j at n ⊢;rw[jM];by_cases c:0<=j.2.1
 .rw[ag c,ag c,i64_in (by omega) (by omega)];show ue _ _ _ _=ue _ _ _ _;congr 1
 rw[aa c,aa c,ay];by_cases d:j.2.2=true
 .rw[ag d,ag d]
 rw[aa d,aa d];show ue _ _ _ _=ue _ _ _ _;congr 1
theorem QV (l:au)(p:UInt8->Bool):l.take (l.takeWhile p).length=l.takeWhile p:=by
 have h:=List.takeWhile_append_dropWhile (p:=p) (l:=l);have a:(l.takeWhile p++l.dropWhile p).take (l.takeWhile p).length=l.takeWhile p:=qQ;rw[h]at a;exact a
theorem HY (gv:Nat->aI)(s:au)(m:s.length<2000000)(b:Int) :
 aT (Xg gv) (c2 gv AV) anS (s.length+1) 28 [.str s,.int .i64 b] aH.empty (λv _=>some v)=ue (jq s b).1 (jq s b).2.1 (jq s b).2.2.1 (jq s b).2.2.2:=by
 rw[aiP];unfold jq;rw[de];by_cases g:b<0
 .rw[ag g,ag g]
 rw[aa g,aa g,jM];by_cases h:(s.length:Int)<=b
 .rw[ag h,ag h]
 rw[aa h,aa h];obtain⟨a,rfl⟩:∃a:Nat,b=a:=⟨b.toNat,by omega⟩;have i:a<s.length:=by omega
 rw[bf];have o:eL s (a:Int)=some (s.getD a 0):=by
  rw[vI,gU,aR i];rfl
 unfold QU;rw[o];generalize p:s.getD a 0=c;show ah (!bS (cS c) 39) (ah (bN (cS c) 48) _ (ah (bN 57 (cS c)) _ (ah (bS (cS c) 39) _ _))) (ah (bS (cS c) 39) _ _)=_;simp only[cF,cH,de];by_cases d:cS c=39
 .simp only[ag d];rw[gB (by omega),rC (by omega),eN (show s.length<=1999999 by omega)];rw[bf];rfl
 simp only[aa d];by_cases n:48<=cS c/\cS c<=57
 .rw[aa (by omega),aa (by omega),ag n];have q:(s.take a).length=a:=by simp;omega
  have e:=aoq gv s m a (s.length+1) (s.drop a) (s.take a) (s.length+1) (by simp) (by simp;omega);rw[q]at e;rw[e];have j:s.drop a=c::s.drop (a+1):=by
   rw[nB i,<-p,gU,aR i];rfl
  have r:(s.drop a).takeWhile (λc=>nQ (cS c))≠[]:=by
   rw[j,fQ,ag (by unfold nQ;simp;omega)];simp
  have k:((s.drop a).takeWhile λc=>nQ (cS c)).length<=(s.drop a).length:=by
   have:=List.IsPrefix.length_le (List.takeWhile_prefix (l:=s.drop a) (λc=>nQ (cS c)));exact this
  exact adg m (by simp at k;omega) r (QV _ _)
 rw[aa n];by_cases f:cS c<48
 .rw[ag f]
 rw[aa f,ag (by omega)]
noncomputable def YL (args:aI):Option (Bool×List gj) :=
 match args with
 |[.str s,.int .i64 a]=>some (Nat.ble s.length 1999999,[.val (.int .i64 (jq s a).1),.val (.int .i64 (jq s a).2.1),.val (.agg [.int .i64 (jq s a).2.2.1,.int .i64 (jq s a).2.2.2])])
 |_=>none
theorem aot (gv:Nat->aI):dQ (Xg gv) (eM (Xg gv) kn) 28 YL :=
 dG (λargs=>cn rfl args) (Ta gv) λargs rs b=>by
  unfold YL at b;split at b
  .rename_i s a;simp only[aq,az,bF]at b;obtain⟨c,rfl⟩:=b;exact⟨[.int .i64 (jq s a).1,.int .i64 (jq s a).2.1,.agg [.int .i64 (jq s a).2.2.1,.int .i64 (jq s a).2.2.2]],anS,s.length+1,HY gv s (by omega) a,rfl,rfl⟩
  cases b
end Go.Proofs.YtbeckacfibledaaGreatDoor.lt

/- A line that is written: instructions, data: contracts. -/
import Derived.Test.YtpaddkkfefgkfaaGreatDoorKb
set_option linter.unusedVariables false
set_option linter.unusedSimpArgs false
namespace Go.Proofs.YtpaddkkfefgkfaaGreatDoor.ps.wr
open Go.Tv Go.Ev Go.Px Go.Pp Go.Proofs.YtpaddkkfefgkfaaGreatDoor.ex
set_option maxRecDepth 100000
noncomputable section
def mWr (l:List Tok) (n:Nat) (b:Bool):aa:=Qk [.cells 147 [.own 1 n,.bool b],.list 106 aC l 0 false false]
def cmW (i:Int) (l:List Tok) (n:Nat) (b:Bool) (K:KW):aH:=pick2 (ltI 0 i) (wj l (4,0,[44],0) λl n=>K l n b) (K l n b)
def aeF (l:List Tok) (b:Bool) (r:Raw) (K:KW):aH:=pick2 (Nat.ble l.length 800000&&true&&true) (K (SI (l,b) r).1 (SI (l,b) r).1.length (SI (l,b) r).2) none
def pWc:List Bool:=[true,true,true,true,false]
def aaf:bG:=⟨dG [0,31,32,33] pWc,.none,[]⟩
def jWc (A:List Raw) (q m:Nat) (l:List Tok) (n:Nat) (b:Bool) (i:Int):aH:=dH ex.X0 (cN K1 W2 _) aaf q 118 pWc GP m (hU 61 [(0,.ptr 0 0),(31,.bF fQ A),(32,.int .i64 A.length),(33,.int .i64 i)]) (mWr l n b)
def U4 {α:Type} (o:Option α) (k:α->aH):aH:=Option.rec (motive:=λ_=>aH) none k o
def opW (r:Raw) (l:List Tok) (n:Nat) (b:Bool) (K:KW):aH:=pick2 (eqI r.1 1) (mL l n b (dO r.2.1.1 r.2.1.2) K) (pick2 (eqI r.1 2) (aeF l b r K) (Eg l b r.2.2.2.1 K))
theorem aag (A:List Raw) (q m:Nat) (l:List Tok) (n:Nat) (b:Bool) (i:Int):jWc A q (m+1) l n b i =
 pick2 (ltI i A.length) (U4 (aI A i) λr=>cmW i l n b λl n b=>opW r l n b λl n b=>jWc A q m l n b (IntKind.wrap .i64 (i+1))) (Bf l b n):=by kernel_rfl
def hiW (h:Int) (l:List Tok) (n:Nat) (b:Bool) (K:KW):aH :=
 pick2 (eqI h 0) (K l n b) (pick2 (eqI h 1) (mL l n b [115,104,111,114,116] K) (pick2 (eqI h 2) (mL l n b [110,101,97,114] K) (pick2 (eqI h 3) (mL l n b [115,116,114,105,99,116] K) (K l n true))))
theorem U5 (op h:Int) (A:List Raw) (q:Nat) (l:List Tok) (b:Bool):ag ex.X0 (cN K1 W2 _) aaf q 118 [.ptr 0 0,.agg (Al op h A)] (ct 147 2 (xI (l,b)++[.val (.agg (Al op h A))])) GP =
 mL l l.length b (nm.ql op) λl n b=>hiW h l n b λl n b=>jWc A q q l n b 0:=by kernel_rfl
def pWd:List Bool:=[true,false]
def aah:bG:=⟨dG [0,6,7,8] pWd,.none,[]⟩
def jWd (A:List Dt) (q m:Nat) (l:List Tok) (n:Nat) (b:Bool) (i:Int):aH:=dH ex.X0 (cN K1 W2 _) aah q 120 pWd GP m (hU 38 [(0,.ptr 0 0),(6,.bF ot A),(7,.int .i64 A.length),(8,.int .i64 i)]) (mWr l n b)
def dtW (d:Dt) (l:List Tok) (n:Nat) (b:Bool) (K:KW):aH:=pick2 (ltI 0 d.2.length) (Eg l b d.2 K) (wj l (3,0,d.1,0) λl n=>K l n b)
theorem aai (A:List Dt) (q m:Nat) (l:List Tok) (n:Nat) (b:Bool) (i:Int):jWd A q (m+1) l n b i =
 pick2 (ltI i A.length) (U4 (aI A i) λd=>cmW i l n b λl n b=>dtW d l n b λl n b=>jWd A q m l n b (IntKind.wrap .i64 (i+1))) (Bf l b n):=by kernel_rfl
theorem U6 (A:List Dt) (q:Nat) (l:List Tok) (b:Bool):ag ex.X0 (cN K1 W2 _) aah q 120 [.ptr 0 0,.bF ot A] (ct 147 2 (xI (l,b)++[.val (.bF ot A)])) GP=jWd A q q l l.length b 0:=by kernel_rfl
def RG (i:Nat) (s:WS):WS:=if 0<i then oU s (4,0,[44],0) else s
def opS (s:WS) (r:Raw):WS:=if r.1=1 then jA s (dO r.2.1.1 r.2.1.2) else if r.1=2 then SI s r else eN s r.2.2.2.1
def U7 (s:WS) (i:Nat):List Raw->WS
 |[]=>s
 |r::l=>U7 (opS (RG i s) r) (i+1) l
def hiS (s:WS) (h:Int):WS:=if h=0 then s else if h=1 then jA s [115,104,111,114,116] else if h=2 then jA s [110,101,97,114] else if h=3 then jA s [115,116,114,105,99,116] else (s.1,true)
def Jv (s:WS) (op h:Int) (A:List Raw):WS:=U7 (hiS (jA s (nm.ql op)) h) 0 A
def dtS (s:WS) (d:Dt):WS:=if 0<d.2.length then eN s d.2 else oU s (3,0,d.1,0)
def xJ (s:WS) (i:Nat):List Dt->WS
 |[]=>s
 |d::l=>xJ (dtS (RG i s) d) (i+1) l
theorem Ee (i:Nat) (s:WS):br (RG i s)<=br s+1:=by
 unfold RG
 split
 .
  rw[kP];omega
 omega
theorem aam (s:WS) (r:Raw) (h:br s<=800000):br (opS s r)<=br s+700:=by
 unfold opS
 split
 .
  have:=gx s (dO r.2.1.1 r.2.1.2);omega
 split
 .
  exact (RD h r λ_ _ _=>none).2
 have:=wk s r.2.2.2.1;omega
theorem aan (s:WS) (h:Int):br (hiS s h)<=br s+1:=by
 unfold hiS
 split
 .
  omega
 split
 .
  exact gx _ _
 split
 .
  exact gx _ _
 split
 .
  exact gx _ _
 show br s<=_;omega
theorem aao (s:WS) (d:Dt):br (dtS s d)<=br s+600:=by
 unfold dtS
 split
 .
  exact wk _ _
 rw[kP];omega
theorem aap {s:WS} (h:br s<=900000) (i:Nat) (K:KW):cmW i s.1 s.1.length s.2 K=K3 K (RG i s):=by
 unfold cmW RG
 rw[aW]
 by_cases hi:0<i
 .
  rw[if_pos (by omega),if_pos hi]
  exact kQ h _ K
 rw[if_neg (by omega),if_neg hi];rfl
theorem aaq {s:WS} (h:br s<=800000) (r:Raw) (K:KW):opW r s.1 s.1.length s.2 K=K3 K (opS s r):=by
 unfold opW opS
 rw[aB,aB,cu (by omega),qD (by omega)]
 unfold aeF
 unfold br at h
 rw[bO h]
 split
 .
  rfl
 split<;>rfl
theorem aar {s:WS} (h:br s<=800000) (hi:Int) (K:KW):hiW hi s.1 s.1.length s.2 K=K3 K (hiS s hi):=by
 unfold hiW hiS
 rw[cu (by omega),cu (by omega),cu (by omega)]
 simp only[aB]
 split
 .
  rfl
 split
 .
  rfl
 split
 .
  rfl
 split<;>rfl
theorem aas {s:WS} (h:br s<=800000) (d:Dt) (K:KW):dtW d s.1 s.1.length s.2 K=K3 K (dtS s d):=by
 unfold dtW dtS
 rw[aW,qD (by omega)]
 by_cases hd:0<d.2.length
 .
  rw[if_pos (by omega),if_pos hd]
 rw[if_neg (by omega),if_neg hd]
 exact kQ (by omega) _ K
theorem RH {α:Type} {A:List α} (hA:A.length<=500) {w:α->List Tok->Nat->Bool->KW->aH} {f:WS->α->WS} {g:Nat->WS->List α->WS} (g0:∀i s,g i s []=s) (g1:∀i s a l,g i s (a::l)=g (i+1) (f (RG i s) a) l)
 (hw:∀s a (K:KW),br s<=800000->w a s.1 s.1.length s.2 K=K3 K (f s a)) (hf:∀s a,br s<=800000->br (f s a)<=br s+700) {J:Nat->List Tok->Nat->Bool->Int->aH}
 (step:∀m l n b i,J (m+1) l n b i=pick2 (ltI i A.length) (U4 (aI A i) λr=>cmW i l n b λl n b=>w r l n b λl n b=>J m l n b (IntKind.wrap .i64 (i+1))) (Bf l b n)) :
 ∀(rest pre:List α) (m:Nat) (s:WS),A=pre++rest->rest.length<m->br s<=410000+701*pre.length->J m s.1 s.1.length s.2 pre.length=UZ (g pre.length s rest)/\br (g pre.length s rest)<=br s+701*rest.length
 |
  [],pre,m,s,he,hm,hs=>by
  obtain ⟨m,rfl⟩:∃m',m=m'+1:=⟨m-1,by simp at hm;omega⟩
  have hl:A.length=pre.length:=by rw[he];simp
  rw[step,cF (by omega),g0]
  exact ⟨rfl,by simp⟩
 |
  a::rest,pre,m,s,he,hm,hs=>by
  obtain ⟨m,rfl⟩:∃m',m=m'+1:=⟨m-1,by simp at hm;omega⟩
  have hl:A.length=pre.length+(rest.length+1):=by rw[he];simp
  have hg:aI A (pre.length:Int)=some a:=by rw[he];exact ei pre rest a
  have c1:=Ee pre.length s;have c2:=hf (RG pre.length s) a (by omega)
  obtain ⟨k1,k2⟩:=RH hA g0 g1 hw hf step rest (pre++[a]) m (f (RG pre.length s) a) (by rw[he];simp) (by simp at hm;omega) (by simp;omega)
  rw[show (pre++[a]).length=pre.length+1 by simp] at k1 k2
  rw[step,kW (by omega),hg,i64_in (n:=(pre.length:Int)+1) (by omega) (by omega),g1]
  refine ⟨?_,by simp;omega⟩
  have e:∀k:α->aH,pick2 true (U4 (some a) k) (Bf s.1 s.2 s.1.length)=k a:=λk=>rfl
  rw[e,aap (by omega),fh,hw _ _ _ (by omega),fh]
  exact k1
def aat (s:WS) (vs:List AV):Option (Bool×WS) :=
 match vs with
 |
  [.agg [.int .i64 op,.int .i64 h,L]]=>match sM fQ L with
  |some A=>some (Nat.ble s.1.length 400000&&Nat.ble A.length 500,Jv s op h A)
  |none=>none
 |_=>none
theorem U8:bh ex.X0 cg 118 (Nt aat [none]) :=
 Ap rfl rU RF λs vs s' hF=>by
  unfold aat at hF;split at hF
  case h_2=>cases hF
  split at hF
  case h_2=>cases hF
  rename_i op h L _ A hL;simp only[Option.some.injEq,Prod.mk.injEq,Bool.and_eq_true] at hF;obtain ⟨⟨g0,g1⟩,rfl⟩:=hF;have g0:br s<=400000:=Nat.le_of_ble_eq_true g0;have g1:=Nat.le_of_ble_eq_true g1;refine ⟨aaf,A.length+1,?_⟩;rw[bq hL];refine (U5 op h A (A.length+1) s.1 s.2).trans ?_;have a1:=gx s (nm.ql op);have a2:=aan (jA s (nm.ql op)) h;rw[cu (by omega),fh,aar (by omega),fh]
  exact (RH g1 (g:=λi s l=>U7 s i l) (λ_ _=>rfl) (λ_ _ _ _=>rfl) (λs a K hs=>aaq hs a K) (λs a hs=>aam s a hs) (λm l n b i=>aag A (A.length+1) m l n b i) A [] (A.length+1) _ rfl (by omega) (by simp;omega)).1
def aau (s:WS) (vs:List AV):Option (Bool×WS) :=
 match vs with
 |
  [L]=>match sM ot L with
  |some A=>some (Nat.ble s.1.length 400000&&Nat.ble A.length 500,xJ s 0 A)
  |none=>none
 |_=>none
theorem U9:bh ex.X0 cg 120 (Nt aau [none]) :=
 Ap rfl rU RF λs vs s' hF=>by
  unfold aau at hF;split at hF
  case h_2=>cases hF
  split at hF
  case h_2=>cases hF
  rename_i L A hL;simp only[Option.some.injEq,Prod.mk.injEq,Bool.and_eq_true] at hF;obtain ⟨⟨g0,g1⟩,rfl⟩:=hF;have g0:br s<=400000:=Nat.le_of_ble_eq_true g0;have g1:=Nat.le_of_ble_eq_true g1;refine ⟨aah,A.length+1,?_⟩;rw[bq hL];refine (U6 A (A.length+1) s.1 s.2).trans ?_;exact (RH g1 (g:=λi s l=>xJ s i l) (λ_ _=>rfl) (λ_ _ _ _=>rfl) (λs a K hs=>aas hs a K) (λs a hs=>by have:=aao s a;omega) (λm l n b i=>aai A (A.length+1) m l n b i) A [] (A.length+1) _ rfl (by omega) (by simp;omega)).1
def W3:List gJ:=(118,Nt aat [none])::(120,Nt aau [none])::W2
theorem aeG:bS ex.X0 cg W3:=.cons U8 (.cons U9 RF)
end
end Go.Proofs.YtpaddkkfefgkfaaGreatDoor.ps.wr

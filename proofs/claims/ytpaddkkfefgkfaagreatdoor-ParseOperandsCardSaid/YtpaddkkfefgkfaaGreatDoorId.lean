/- ParseOperands: the law's run. -/
import Derived.Test.YtpaddkkfefgkfaaGreatDoorIc
import Derived.Test.YtpaddkkfefgkfaaGreatDoorHa
import Derived.Test.YtpaddkkfefgkfaaGreatDoorTc
set_option linter.unusedVariables false
set_option linter.unusedSimpArgs false
namespace Go.Proofs.YtpaddkkfefgkfaaGreatDoor.ps.iq
open Go.Tv Go.Ev Go.Px Go.Pp Go.Proofs.YtpaddkkfefgkfaaGreatDoor.ex
set_option maxRecDepth 100000
noncomputable section
def eZ (n:Int):List UInt8:=[32,if n<0 then 45 else 43,32]++iT n.natAbs
def V1:List kH:=(26,[none],lt.TJ)::(14,[none],JM)::U5
theorem Ql:cg ex.X0 cI V1:=.cons lt.YD (.cons Yn JO)
def eL (n:Nat) (X:Option AV):Option AV:=pick2 (Nat.ble n 9223372036854775807) X none
def YI (n:Int):Option AV :=
 let t:=lt.qb 16 [48,120] n
 let P:Option AV:=eL (3+t.length) (some (.str ([32,43,32]++t)))
 pick2 (!ltI n (-9223372036854775808)&&ltI n 9223372036854775808) (pick2 (ltI n 0) (pick2 (ltI 1 t.length) (pick2 (!ltI 1 0 && !ltI (Int.ofNat t.length) 1) (eL (3+(bJ t 1 t.length).length) (some (.str ([32,45,32]++bJ t 1 t.length)))) none) P) P) none
theorem YJ (n:Int):ag ex.X0 (cN V1 [] AV) ex.bK 5 34 [.int .i64 n] aa.empty (λv _=>some v)=YI n:=by kernel_rfl
theorem TQ {n:Int} (h:vL n):YI n=some (.str (eZ n)):=by
 have hl:=TM n
 have sR:=FQ h
 unfold Ar at hl sR
 have b3:∀(k:Nat) (X:Option AV),k<=100->eL k X=X:=λk X hk=>by unfold eL;rw[fG (by omega)]
 unfold YI
 simp only
 rw[cA (show -9223372036854775808<=n from h.1),kG (show n<9223372036854775808 from h.2)]
 rw[b3 (3+(lt.qb 16 [48,120] n).length) _ (by omega)]
 show pick2 (ltI n 0) _ _=_
 rw[aX]
 unfold eZ
 by_cases h0:n<0
 .
  have e:(lt.qb 16 [48,120] n)=45::iT n.natAbs:=by
   unfold lt.qb iT;rw[if_pos h0];rfl
  rw[if_pos h0,if_pos h0,e];rw[e] at hl sR;simp only[List.length_cons] at hl sR
  have hc:bJ (45::iT n.natAbs) 1 ((45::iT n.natAbs).length:Int)=iT n.natAbs:=by
   unfold bJ;simp
  rw[kG (by simp only[List.length_cons];omega),cA (show (1:Int)<=Int.ofNat (45::iT n.natAbs).length by simp only[Int.ofNat_eq_natCast,List.length_cons];omega),hc,b3 (3+(iT n.natAbs).length) _ (by omega)]
  rfl
 have e:(lt.qb 16 [48,120] n)=iT n.natAbs:=by
  unfold lt.qb iT;rw[if_neg h0];rfl
 rw[if_neg h0,if_neg h0,e]
def gSd (args:List AV):Option (Bool×List aZ) :=
 match args with
 |[.int .i64 n]=>some (!ltI n (-9223372036854775808)&&ltI n 9223372036854775808,[.val (.str (eZ n))])
 |_=>none
theorem YK:aI ex.X0 cI 34 gSd :=
 aG (nk rfl) (bR Ql n0) λargs rs hg=>by
  unfold gSd at hg;split at hg
  .
   rename_i n;simp only[Option.some.injEq,Prod.mk.injEq,Bool.and_eq_true,ltI_spec,Bool.not_eq_true',decide_eq_false_iff_not,decide_eq_true_eq] at hg;obtain ⟨h1,rfl⟩:=hg;exact ⟨[.str (eZ n)],ex.bK,5,(YJ n).trans (TQ ⟨by omega,by omega⟩),rfl,rfl⟩
  cases hg
def wF (n:Int):Int×Bool:=if 68<=n/\n<84 then (n-68,true) else if 84<=n/\n<100 then (n-84,true) else if 100<=n/\n<116 then (n-100,true) else (0,false)
def cdT (n:Int):Option AV :=
 let c:Option AV:=pick2 (!ltI n 100) (pick2 (ltI n 116) (rN (IntKind.wrap .i64 (n-100),true)) (rN (0,false))) (rN (0,false))
 let b:Option AV:=pick2 (!ltI n 84) (pick2 (ltI n 100) (rN (IntKind.wrap .i64 (n-84),true)) c) c
 pick2 (!ltI n 68) (pick2 (ltI n 84) (rN (IntKind.wrap .i64 (n-68),true)) b) b
theorem YL (n:Int):ag ex.X0 (cN V1 [] AV) ex.bK 5 33 [.int .i64 n] aa.empty (λv _=>some v)=cdT n:=by kernel_rfl
theorem YM (n:Int):cdT n=rN (wF n):=by
 unfold cdT wF
 simp only[cj,aX]
 by_cases h1:68<=n/\n<84
 .
  rw[if_pos h1.1,if_pos h1.2,if_pos h1,i64_in (by omega) (by omega)]
 rw[if_neg h1]
 have e:∀(x y:Option AV),(if 68<=n then (if n<84 then x else y) else y)=y:=λx y=>by
  by_cases h:68<=n
  .
   rw[if_pos h,if_neg (by omega)]
  rw[if_neg h]
 rw[e]
 by_cases h2:84<=n/\n<100
 .
  rw[if_pos h2.1,if_pos h2.2,if_pos h2,i64_in (by omega) (by omega)]
 rw[if_neg h2]
 have e:∀(x y:Option AV),(if 84<=n then (if n<100 then x else y) else y)=y:=λx y=>by
  by_cases h:84<=n
  .
   rw[if_pos h,if_neg (by omega)]
  rw[if_neg h]
 rw[e]
 by_cases h3:100<=n/\n<116
 .
  rw[if_pos h3.1,if_pos h3.2,if_pos h3,i64_in (by omega) (by omega)]
 rw[if_neg h3]
 by_cases h:100<=n
 .
  rw[if_pos h,if_neg (by omega)]
 rw[if_neg h]
def gCd (args:List AV):Option (Bool×List aZ) :=
 match args with
 |[.int .i64 n]=>some (true,[.val (.int .i64 (wF n).1),.val (.bool (wF n).2)])
 |_=>none
theorem YN:aI ex.X0 cI 33 gCd :=
 aG (nk rfl) (bR Ql n0) λargs rs hg=>by
  unfold gCd at hg;split at hg
  .
   rename_i n;simp only[Option.some.injEq,Prod.mk.injEq] at hg;obtain ⟨_,rfl⟩:=hg;exact ⟨[.int .i64 (wF n).1,.bool (wF n).2],ex.bK,5,(YL n).trans (YM n),rfl,rfl⟩
  cases hg
def V2:List kH:=(23,[],Zs)::(34,[none],gSd)::(33,[none],gCd)::V1
theorem Qm:cg ex.X0 cI V2:=.cons TP (.cons YK (.cons YN Ql))
abbrev FR:Tv.Ty:=.pair (.int .i64) (.int .i64)
def vM (op:Int) (s:List UInt8) (A:List Arg):Option AV:=pick2 (!eqI (nX op A) 0) (some (.bool (!(eR s).2))) (pick2 (eR s).2 (pick2 (eqI (eR s).1.1 op) (pick2 (Nat.ble (eR s).1.2.length 900000) (some (.bool (wP (eR s).1.2 A))) none) nT) nT)
def t6:List UInt8:=[45,49,32,43,32,49]
def TR (op n:Int) (s sep:List UInt8) (A:List Arg):Option AV :=
 eL (s.length+sep.length) (eL ((s++sep).length+6) (pick2 (!ltI n (-9223372036854775808)&&ltI n 9223372036854775808) (eL ((s++sep++t6).length+(eZ n).length) (pick2 (eqI n (-9223372036854775808)) yT (vM op (s++sep++t6++eZ n) A))) none))
def Qn (op:Int) (K:Bool->Option AV):Option AV:=pick2 (eqI op 53) (K true) (pick2 (eqI op 54) (K true) (pick2 (wF op).2 (pick2 (!ltI op 68) (K (!ltI 83 op)) (K false)) (K false)))
def acK (n:Int):Arg:=(3,(0,0),QU,n)
def acL (n:Int):Arg:=(4,(0,0),QU,IntKind.wrap .i64 (n-110))
def j3 (c x:Int):Arg:=(1,(c,x),QU,0)
def Qo (op n:Int) (has:Bool) (s sep:List UInt8) (A:List Arg):Option AV:=Qn op λg=>pick2 has (pick2 g (TR op n s sep (A++[acL n])) (TR op n s sep (A++[acK n]))) (vM op s A)
def Qp (c x:Int) (s sep:List UInt8) (K:List UInt8->Option AV):Option AV:=pick2 (!bw c x) yT (pick2 (eqI c 8) yT (eL (s.length+sep.length) (eL ((s++sep).length+(av c x).length) (K (s++sep++av c x)))))
theorem TT (op n:Int) (l:List Rg) (has:Bool):ag ex.X0 (cN V2 JS AV) ex.bK 0 7 [.int .i64 op,.bA FR l,.int .i64 n,.bool has] aa.empty (λv _=>some v)=pick2 (ltI 2 l.length) yT (pick2 (!cy op) yT none):=by kernel_rfl
theorem TU (op n:Int) (has:Bool):ag ex.X0 (cN V2 JS AV) ex.bK 5 7 [.int .i64 op,.bA FR [],.int .i64 n,.bool has] aa.empty (λv _=>some v)=pick2 (!cy op) yT (Qo op n has (nm.bL op) [32] []):=by kernel_rfl
theorem TV (op n c x:Int) (has:Bool):ag ex.X0 (cN V2 JS AV) ex.bK 5 7 [.int .i64 op,.bA FR [(c,x)],.int .i64 n,.bool has] aa.empty (λv _=>some v)=pick2 (!cy op) yT (Qp c x (nm.bL op) [32] λs=>Qo op n has s [44,32] [j3 c x]):=by kernel_rfl
theorem TW (op n c x c' x':Int) (has:Bool):ag ex.X0 (cN V2 JS AV) ex.bK 5 7 [.int .i64 op,.bA FR [(c,x),(c',x')],.int .i64 n,.bool has] aa.empty (λv _=>some v)=pick2 (!cy op) yT (Qp c x (nm.bL op) [32] λs=>Qp c' x' s [44,32] λs=>Qo op n has s [44,32] [j3 c x,j3 c' x']):=by kernel_rfl
end
end Go.Proofs.YtpaddkkfefgkfaaGreatDoor.ps.iq

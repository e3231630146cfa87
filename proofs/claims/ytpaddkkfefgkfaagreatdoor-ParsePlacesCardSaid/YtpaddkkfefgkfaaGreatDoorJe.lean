/- ParsePlaces: the law's run answers true. -/
import Derived.Test.YtpaddkkfefgkfaaGreatDoorJd
set_option linter.unusedVariables false
set_option linter.unusedSimpArgs false
namespace Go.Proofs.YtpaddkkfefgkfaaGreatDoor.ps.iq
open Go.Tv Go.Ev Go.Px Go.Pp Go.Proofs.YtpaddkkfefgkfaaGreatDoor.ex
set_option maxRecDepth 100000
noncomputable section
theorem DC (a b c e f n:Int):dS ⟨a,b,c,e,f,[]⟩ [qf n]=some ⟨a,b,c,e,f,P1 n⟩:=by
 unfold qf P1 QW
 by_cases h:n<0
 .
  rw[if_pos h,if_pos h];rfl
 rw[if_neg h,if_neg h];rfl
theorem T7 {p:Int} (hp:0<=p) (a b c e f n:Int):dS ⟨a,b,c,e,f,P1 p⟩ [qf n]=some ⟨a,b,c,e,f,P2 p n⟩:=by
 unfold P1 P2
 rw[if_neg (by omega)]
 show some (⟨a,b,c,e,f,(if QW n=45\/([]++[tS 40,tH p.natAbs,tS 41])≠[] then ([]++[tS 40,tH p.natAbs,tS 41])++[tS (QW n)] else ([]++[tS 40,tH p.natAbs,tS 41]))++[tS 40]++[tH n.natAbs]++[tS 41]⟩:TS)=_
 rw[if_pos (.inr (by simp))]
 rfl
theorem DD {n:Int} (h : -4294967296<=n/\n<=4294967296):(((qf n).1=43\/(qf n).1=45)/\(qf n).2.Ok)/\(cX [qf n]).length<=25:=by
 refine ⟨⟨?_,?_⟩,?_⟩
 .
  show QW n=43\/QW n=45;unfold QW;split
  .
   exact .inr rfl
  exact .inl rfl
 .
  show n.natAbs<9223372036854775808;omega
 rw[qg]
 exact qF ⟨by omega,by omega⟩
theorem Vi (n:Int):P1 n≠[]:=by unfold P1;simp
theorem Vj (n:Int):X1 n≠[]:=by unfold X1;simp
section
variable {m:Mm} (h:vI m=0) {w:List UInt8} {wt:List Tok} (hw:Wd w m.2.2.2.2 wt)
include h hw
theorem DE {ts:List (UInt8×Tm)} (hne:ts≠[]) (hq:FV ts) (hlen:(cX ts).length<=200) {put:List Tok} {X:List Nd} (ha:dS FD ts=some ⟨m.1.1,m.1.2,m.2.1.1,m.2.1.2,m.2.2.1,put⟩) (hp:put≠[]) (hx:ak put 0=(X,(put.length:Int),0,0)) (hX:X≠[]) (he:rf X jY 100 0=(m.2.2.2.1,false,0)) :
 eR (mI++w++[91]++cX ts++[93])=((12,[j3 4 0,(2,(0,0),m,0)]),true):=by
 cases ts with
 |nil=>exact absurd rfl hne
 |cons q ts=>exact LH h hw hq hlen ha hp hx hX he
theorem acV:eR (mI++w++[91]++(cX (lF m)++eZ m.2.2.2.1)++[93])=((12,[j3 4 0,(2,(0,0),m,0)]),true):=by
 obtain ⟨_,_,d1,d2⟩:=kI h
 obtain ⟨r1,r2⟩:=xA h
 obtain ⟨n1,n2⟩:=DD (n:=m.2.2.2.1) ⟨by omega,by omega⟩
 have e:cX (lF m)++eZ m.2.2.2.1=cX (lF m++[qf m.2.2.2.1]):=by rw[gb,qg]
 rw[e]
 refine DE h hw (by simp) (λq hq=>?_) (by rw[gb,List.length_append];omega) ?_ (Vi _) (FW m.2.2.2.1) (Vj _) (Vh ⟨d1,d2⟩)
 .
  rcases List.mem_append.1 hq with hq|hq
  .
   exact r1 q hq
  rw[List.mem_singleton.1 hq];exact n1
 rw[uq]
 show (match dS ⟨0,0,0,0,0,[]⟩ (lF m) with
  |some s'=>dS s' [qf m.2.2.2.1]
  |none=>none)=_
 rw[zP h]
 exact DC ..
theorem acW:eR (mI++w++[91]++(eZ m.2.2.2.1++cX (lF m))++[93])=((12,[j3 4 0,(2,(0,0),m,0)]),true):=by
 obtain ⟨_,_,d1,d2⟩:=kI h
 obtain ⟨r1,r2⟩:=xA h
 obtain ⟨n1,n2⟩:=DD (n:=m.2.2.2.1) ⟨by omega,by omega⟩
 have e:eZ m.2.2.2.1++cX (lF m)=cX ([qf m.2.2.2.1]++lF m):=by rw[gb,qg]
 rw[e]
 refine DE h hw (by simp) (λq hq=>?_) (by rw[gb,List.length_append];omega) ?_ (Vi _) (FW m.2.2.2.1) (Vj _) (Vh ⟨d1,d2⟩)
 .
  rcases List.mem_append.1 hq with hq|hq
  .
   rw[List.mem_singleton.1 hq];exact n1
  exact r1 q hq
 rw[uq]
 show (match dS ⟨0,0,0,0,0,[]⟩ [qf m.2.2.2.1] with
  |some s'=>dS s' (lF m)
  |none=>none)=_
 rw[DC]
 exact zP h _
theorem acX {p:Int} (hp:0<=p/\p<1073741824):eR (mI++w++[91]++(eZ p++cX (lF m)++eZ (m.2.2.2.1-p))++[93])=((12,[j3 4 0,(2,(0,0),m,0)]),true):=by
 obtain ⟨_,_,d1,d2⟩:=kI h
 obtain ⟨r1,r2⟩:=xA h
 obtain ⟨n1,n2⟩:=DD (n:=p) ⟨by omega,by omega⟩
 obtain ⟨n3,n4⟩:=DD (n:=m.2.2.2.1-p) ⟨by omega,by omega⟩
 have e:eZ p++cX (lF m)++eZ (m.2.2.2.1-p)=cX ([qf p]++lF m++[qf (m.2.2.2.1-p)]):=by rw[gb,gb,qg,qg]
 rw[e]
 refine DE h hw (by simp) (λq hq=>?_) (by rw[gb,gb,List.length_append,List.length_append];omega) ?_ (by unfold P2;simp) (Qz p (m.2.2.2.1-p)) (by unfold X2;simp) (by rw[acT ⟨by omega,by omega⟩ ⟨by omega,by omega⟩];exact Prod.ext (by show p+(m.2.2.2.1-p)=_;omega) rfl)
 .
  rcases List.mem_append.1 hq with hq|hq
  .
   rcases List.mem_append.1 hq with hq|hq
   .
    rw[List.mem_singleton.1 hq];exact n1
   exact r1 q hq
  rw[List.mem_singleton.1 hq];exact n3
 rw[uq,uq]
 show (match (match dS ⟨0,0,0,0,0,[]⟩ [qf p] with
  |some s'=>dS s' (lF m)
  |none=>none) with
  |some s'=>dS s' [qf (m.2.2.2.1-p)]
  |none=>none)=_
 rw[DC]
 show (match dS ⟨0,0,0,0,0,P1 p⟩ (lF m) with
  |some s'=>dS s' [qf (m.2.2.2.1-p)]
  |none=>none)=_
 rw[zP h]
 exact T7 hp.1 ..
end
theorem YW {m:Mm} {s:List UInt8} (hs:eR s=((12,[j3 4 0,(2,(0,0),m,0)]),true)) (K:Option AV):isP m s K=K:=by
 unfold isP
 rw[hs]
 show pick2 (eqI 12 12) (pick2 (Nat.ble 2 900000) (pick2 (!wP _ _) nT K) none) nT=K
 rw[zA]
 rfl
theorem YX {m:Mm} {k:Int} {w a b c:List UInt8} (hk:aS vO k=some w) (hw:w.length<=10) (la:a.length<=200) (lb:b.length<=200) (lc:c.length<=200) (ha:eR (mI++w++[91]++a++[93])=((12,[j3 4 0,(2,(0,0),m,0)]),true))
 (hb:eR (mI++w++[91]++b++[93])=((12,[j3 4 0,(2,(0,0),m,0)]),true)) (hc:eR (mI++w++[91]++c++[93])=((12,[j3 4 0,(2,(0,0),m,0)]),true)):QV m k a b c 9 9 0=yT:=by
 have b3:∀(k:Nat) (X:Option AV),k<=500->eL k X=X:=λk X hk=>by unfold eL;rw[fG (by omega)]
 have hl:mI.length=9:=rfl
 have go:∀(n:Nat) (i:Int) (t:List UInt8),i<3->aS [a,b,c] i=some t->t.length<=200->eR (mI++w++[91]++t++[93])=((12,[j3 4 0,(2,(0,0),m,0)]),true)->QV m k a b c 9 (n+1) i=QV m k a b c 9 n (IntKind.wrap .i64 (i+1)):=λn i t hi ht lt' htold=>by
  rw[Qr,kG hi,hk];show eL (9+w.length) (eL ((mI++w).length+1) (YU (aS [a,b,c] i) _))=_;rw[ht,b3 _ _ (by omega),b3 _ _ (by simp;omega)]
  show eL ((mI++w++[91]).length+t.length) (eL ((mI++w++[91]++t).length+1) (isP m _ _))=_;rw[b3 _ _ (by simp;omega),b3 _ _ (by simp;omega),YW htold]
 rw[go 8 0 a (by decide) rfl la ha]
 show QV m k a b c 9 8 1=_
 rw[go 7 1 b (by decide) rfl lb hb]
 show QV m k a b c 9 7 2=_
 rw[go 6 2 c (by decide) rfl lc hc]
 show QV m k a b c 9 6 3=_
 rw[Qr,cA (by decide)]
theorem lG {z:Int} (k:Int) (hk:(k=0/\z=0)\/(k=1/\z=1)\/(k=2/\z=2)\/(k=3/\z=4)\/(k=4/\z=8)\/(k=5/\z=16)\/(k=6/\z=32)):∃w wt,aS vO k=some w/\Wd w z wt:=by
 rcases hk with ⟨rfl,rfl⟩|⟨rfl,rfl⟩|⟨rfl,rfl⟩|⟨rfl,rfl⟩|⟨rfl,rfl⟩|⟨rfl,rfl⟩|⟨rfl,rfl⟩
 .
  exact ⟨_,_,rfl,T5⟩
 .
  exact ⟨_,_,rfl,B8 (wd:=[98,121,116,101]) (by decide) (by kernel_rfl) (by kernel_rfl) (by decide) (by decide)⟩
 .
  exact ⟨_,_,rfl,B8 (wd:=[119,111,114,100]) (by decide) (by kernel_rfl) (by kernel_rfl) (by decide) (by decide)⟩
 .
  exact ⟨_,_,rfl,B8 (wd:=[100,119,111,114,100]) (by decide) (by kernel_rfl) (by kernel_rfl) (by decide) (by decide)⟩
 .
  exact ⟨_,_,rfl,B8 (wd:=[113,119,111,114,100]) (by decide) (by kernel_rfl) (by kernel_rfl) (by decide) (by decide)⟩
 .
  exact ⟨_,_,rfl,B8 (wd:=[111,119,111,114,100]) (by decide) (by kernel_rfl) (by kernel_rfl) (by decide) (by decide)⟩
 exact ⟨_,_,rfl,B8 (wd:=[121,119,111,114,100]) (by decide) (by kernel_rfl) (by kernel_rfl) (by decide) (by decide)⟩
theorem Il {m:Mm} {k part:Int} (hk:k<0\/∃w wt,aS vO k=some w/\Wd w m.2.2.2.2 wt):Ik m k part 9=yT:=by
 have b3:∀(k:Nat) (X:Option AV),k<=500->eL k X=X:=λk X hk=>by unfold eL;rw[fG (by omega)]
 unfold Ik
 rw[aT]
 by_cases h:vI m=0
 case neg=>rw[if_neg h]
 rw[if_pos h,aX]
 by_cases Zb:k<0
 .
  rw[if_pos Zb]
 rw[if_neg Zb,az]
 by_cases hd:m.2.2.2.1 = -2147483648
 .
  rw[if_pos hd]
 rw[if_neg hd]
 obtain ⟨w,wt,hw1,hw2⟩:=hk.resolve_left Zb
 obtain ⟨hb,hi,d1,d2⟩:=kI h
 obtain ⟨_,rl⟩:=xA h
 have i6:∀(n:Int) (X:Option AV),-4294967296<=n->n<=4294967296->Zv n X=X:=λn X h1 h2=>by
  unfold Zv;rw[cA (by omega),kG (by omega)];rfl
 have sl:∀n:Int,-4294967296<=n->n<=4294967296->(eZ n).length<=25:=λn h1 h2=>qF ⟨by omega,by omega⟩
 have eb:∀K:List UInt8->Option AV,JW m.1.1 m.1.2 K=K (cX (qe m.1.1 m.1.2)):=λK=>by
  unfold JW qe;by_cases h0:m.1.1=0/\m.1.2=0
  .
   rw[if_pos h0,decide_eq_true h0.1,decide_eq_true h0.2];rfl
  have hv:=hb.resolve_left h0;have:=(bT hv).2.1
  have e:(decide (m.1.1=0)&&decide (m.1.2=0))=false:=by
   rw[Bool.and_eq_false_iff];by_cases h1:m.1.1=0
   .
    exact .inr (decide_eq_false λh2=>h0 ⟨h1,h2⟩)
   exact .inl (decide_eq_false h1)
  rw[if_neg h0,e];show eL _ (K ([]++[32,43,32]++av m.1.1 m.1.2))=K ([32,43,32]++av m.1.1 m.1.2++[]);rw[b3 _ _ (by omega)]
  simp
 have ei:∀(r:List UInt8) (K:List UInt8->Option AV),r.length<=100->T3 m.2.1.1 m.2.1.2 m.2.2.1 r K=K (r++cX (Au m.2.1.1 m.2.1.2 m.2.2.1)):=λr K hr=>by
  unfold T3 Au;rcases hi with ⟨a1,a2,a3⟩|⟨a1,a2,a3,a4⟩
  .
   rw[if_pos ⟨a1,a2⟩,decide_eq_true a1,decide_eq_true a2];show K r=K (r++[]);rw[List.append_nil]
  have:=(bT a2).2.1
  have hdl:(zN m.2.2.1).length=1:=by
   unfold zN;split
   .
    rfl
   split
   .
    rfl
   split<;>rfl
  have e:(decide (m.2.1.1=0)&&decide (m.2.1.2=0))=false:=by
   rw[Bool.and_eq_false_iff];by_cases h1:m.2.1.1=0
   .
    exact .inr (decide_eq_false λh2=>a1 ⟨h1,h2⟩)
   exact .inl (decide_eq_false h1)
  rw[if_neg a1,e,a4];show eL _ (eL _ (eL _ (eL _ (K (r++[32,43,32]++av m.2.1.1 m.2.1.2++[42]++zN m.2.2.1)))))=K (r++([32,43,32]++(av m.2.1.1 m.2.1.2++[42]++zN m.2.2.1)++[]));rw[b3 _ _ (by omega),b3 _ _ (by simp;omega),b3 _ _ (by simp;omega),b3 _ _ (by simp;omega)]
  simp
 have go:∀p:Int,0<=p->p<1073741824->(JW m.1.1 m.1.2 λr=>T3 m.2.1.1 m.2.1.2 m.2.2.1 r λr=>Qs r m.2.2.2.1 p λa b c=>QV m k a b c 9 9 0)=yT:=λp p0 p1=>by
  have MM:(cX (qe m.1.1 m.1.2)).length<=40:=by
   have:(cX (lF m)).length=(cX (qe m.1.1 m.1.2)).length+(cX (Au m.2.1.1 m.2.1.2 m.2.2.1)).length:=by unfold lF;rw[gb,List.length_append]
   omega
  rw[eb,ei _ _ (by omega)]
  have er:cX (qe m.1.1 m.1.2)++cX (Au m.2.1.1 m.2.1.2 m.2.2.1)=cX (lF m):=by unfold lF;rw[gb]
  rw[er];have s1:=sl m.2.2.2.1 (by omega) (by omega)
  have s2:=sl p (by omega) (by omega)
  have s3:=sl (m.2.2.2.1-p) (by omega) (by omega)
  unfold Qs
  rw[i64_in (n:=m.2.2.2.1-p) (by omega) (by omega),i6 m.2.2.2.1 _ (by omega) (by omega),i6 m.2.2.2.1 _ (by omega) (by omega),i6 p _ (by omega) (by omega),i6 (m.2.2.2.1-p) _ (by omega) (by omega),
   b3 _ _ (by omega),b3 _ _ (by omega),b3 _ _ (by omega),b3 _ _ (by rw[List.length_append];omega)]
  exact YX hw1 hw2.len (by rw[List.length_append];omega) (by rw[List.length_append];omega) (by rw[List.length_append,List.length_append];omega) (acV h hw2) (acW h hw2) (acX h hw2 ⟨p0,p1⟩)
 have hm:=Int.tmod_lt_of_pos part (show (0:Int)<1073741824 by omega)
 have hm2:=Int.lt_tmod_of_pos part (show (0:Int)<1073741824 by omega)
 show pick2 (ltI (Int.tmod part 1073741824) 0) _ _=_
 rw[aX]
 split
 .
  rw[i64_in (n:=Int.tmod part 1073741824+1073741824) (by omega) (by omega)]
  exact go _ (by omega) (by omega)
 exact go _ (by omega) (by omega)
theorem zQ {m:Mm} {part w k y:Int} {n:Nat} (hk:k<7) (hy:aS Ij k=some y):LC m part 9 (n+1) w k=LC m part 9 n (if y=m.2.2.2.2 then k else w) (IntKind.wrap .i64 (k+1)):=by
 rw[Qt,kG hk,hy]
 show pick2 (eqI y m.2.2.2.2) _ _=_
 rw[az]
 split<;>rfl
theorem acY (m:Mm) (part:Int):ag ex.X0 (cN V3 JS AV) T2 9 8 [.agg (T1 m),.int .i64 part] aa.empty (λv _=>some v)=some (.bool true):=by
 rw[T4,zQ (k:=0) (by decide) rfl]
 show LC m part 9 8 _ 1=_
 rw[zQ (k:=1) (by decide) rfl]
 show LC m part 9 7 _ 2=_
 rw[zQ (k:=2) (by decide) rfl]
 show LC m part 9 6 _ 3=_
 rw[zQ (k:=3) (by decide) rfl]
 show LC m part 9 5 _ 4=_
 rw[zQ (k:=4) (by decide) rfl]
 show LC m part 9 4 _ 5=_
 rw[zQ (k:=5) (by decide) rfl]
 show LC m part 9 3 _ 6=_
 rw[zQ (k:=6) (by decide) rfl]
 show LC m part 9 2 _ 7=_
 rw[Qt,cA (by decide)]
 refine Il ?_
 split
 .
  rename_i h;exact .inr (lG 6 (by omega))
 split
 .
  rename_i h;exact .inr (lG 5 (by omega))
 split
 .
  rename_i h;exact .inr (lG 4 (by omega))
 split
 .
  rename_i h;exact .inr (lG 3 (by omega))
 split
 .
  rename_i h;exact .inr (lG 2 (by omega))
 split
 .
  rename_i h;exact .inr (lG 1 (by omega))
 split
 .
  rename_i h;exact .inr (lG 0 (by omega))
 exact .inl (by decide)
end
end Go.Proofs.YtpaddkkfefgkfaaGreatDoor.ps.iq

/- The layer's operations beside the evaluator's: slices, rows. The layer's operations beside the evaluator's: those that write. The layer's operations beside the evaluator's: append, copy, slices that go on owning. The layer's operations beside the evaluator's: new rows, structs, conversions. -/
import Derived.Test.YtpaddkkfefgkfaaGreatDoorLyd
set_option linter.unusedVariables false
set_option linter.unusedSimpArgs false

namespace Go.Tv
open Go.Ev (Tr pick2 Leave Mem Blk alive pick2_eq alive_some semPure pureA opA addrFree withMem orElse)
section
variable {X:cI} {cf:Nat×Nat->Ev.aN} {o:Oper} {ev:Operand->AV} {H:aa} {β:Type} {r:β}
theorem tZ {α:Type} {R:α->List Value->Prop} {s:Nat} (hR:∀x c,R x c->c.length=s) (hJ:∀(l:List α) c,fN R l c->c.any Ev.jf=false) {E:Mem} {i:Nat} {b:Blk} {pre mid post:List Value} {l:List α} (hb:alive E i=some b) (hc:b.cells=pre++(mid++post)) (hl:fN R l mid) (a m:Nat) (hm:a+m<=l.length) :
 ∃c,Ev.bT E i (pre.length+a*s) (m*s)=some c/\fN R ((l.drop a).take m) c:=by
 obtain ⟨c1,c2,e1,k1,k2⟩:=hl.split hR a
 obtain ⟨c3,c4,e2,k3,k4⟩:=k2.split hR m
 have l1:=k1.length hR
 have l3:=k3.length hR
 have t1:(l.take a).length=a:=by simp;omega
 have t3:((l.drop a).take m).length=m:=by simp;omega
 rw[t1] at l1;rw[t3] at l3
 refine ⟨c3,?_,k3⟩
 have hcs:b.cells=(pre++c1)++(c3++(c4++post)):=by rw[hc,e1,e2];simp
 unfold Ev.bT
 rw[hb]
 have hlen:pre.length+a*s=(pre++c1).length:=by simp[l1]
 simp only[hlen,hcs,List.drop_left]
 rw[if_pos (by simp;omega),<-l3,List.take_left,hJ _ _ k3]
theorem y7 {S:Wo} {E:Mem} (hr:Rel S H E) {e:Ty} {v:AV} {l:List e.den} (h:wN H e v=some l) {x:Value} (hx:VR S v x) :
 Ev.rY x=some l.length/\∀m,m<=l.length->∃c,Ev.cK E e.size m x=some c/\fN (CR S.F e) (l.take m) c:=by
 have hR:∀x c,CR S.F e x c->c.length=e.size:=λx c=>CR.length e x c
 unfold wN at h
 split at h
 .
  rename_i e' l';obtain ⟨he,hc⟩:=aS h;subst he;have hc:l'=l:=hc;subst hc;cases hx with
  |
   bF _ _ _ hS =>
   rcases hS with ⟨rfl,rfl|rfl⟩|⟨i0,pre,mid,post,cap,rfl,hF,hC,hcap⟩
   .
    exact ⟨rfl,λm hm=>⟨[],by simp at hm;simp[Ev.cK,hm],by simp[fN]⟩⟩
   .
    exact ⟨rfl,λm hm=>⟨[],by simp at hm;simp[Ev.cK,Ev.vd,hm],by simp[fN]⟩⟩
   refine ⟨rfl,λm hm=>?_⟩
   obtain ⟨b,k1,k2⟩:=hr.fz i0 _ hF;obtain ⟨c,h1,h2⟩:=tZ hR (λ_ _ h=>h.iI) k1 k2 hC 0 m (by omega)
   exact ⟨c,by simpa[Ev.cK] using h1,by simpa using h2⟩
 .
  cases h;cases hx;exact ⟨rfl,λm hm=>⟨[],by simp at hm;simp[Ev.cK,hm],by simp[fN]⟩⟩
 .
  rename_i id n;split at h
  .
   rename_i t' e' l' cw ex ro hg;obtain ⟨he,hc⟩:=aS h;subst he;have hc:l'=l:=hc;subst hc;obtain ⟨g1,⟨_,g,g2,g2'⟩,g3⟩:=hr.row id _ hg;cases hx with
   |
    own _ _ i0 jJ s0 hρ g' hg' hn' =>
    rw[g2] at hg';cases hg';rcases g3 with ⟨_,g5,_⟩|⟨i',cap,b,mid,post,q1,q2,q3,q4,q5,q6,q7,q8,q9,rD⟩
    .
     rw[hρ] at g5;cases g5
    rw[hρ] at q1;cases q1;refine ⟨by simp[Ev.rY];omega,λm hm=>?_⟩
    obtain ⟨c,h1,h2⟩:=tZ (pre:=[]) hR (λ_ _ h=>h.iI) q2 q4 q5 0 m (by omega)
    exact ⟨c,by simpa[Ev.cK] using h1,by simpa using h2⟩
   |
    cQ _ g' hg' hn' =>
    rw[g2] at hg';cases hg';have h0:l'.length=0:=by omega
    exact ⟨by simp[Ev.rY];omega,λm hm=>⟨[],by simp[Ev.cK];omega,by rw[List.length_eq_zero_iff.1 h0];simp[fN]⟩⟩
  cases h
 .
  rename_i id off len LS;split at h
  .
   rename_i t' e' l' cw ex ro hg;split at h
   .
    rename_i l2 ia;cases h;obtain ⟨he,hc⟩:=aS ia;subst he;have hc:l'=l2:=hc;subst hc;obtain ⟨g1,⟨_,g,g2,g2'⟩,g3⟩:=hr.row id _ hg;cases hx with
    |
     pz _ _ _ _ i0 c0 s0 hρ g' hg' hcc Fw =>
     rw[g2] at hg';cases hg';have hlen:((l'.drop off).take len).length=len:=by simp;omega
     rcases g3 with ⟨_,g5,_⟩|⟨i',cap,b,mid,post,q1,q2,q3,q4,q5,q6,q7,q8,q9,rD⟩
     .
      rw[hρ] at g5;cases g5
     rw[hρ] at q1;cases q1;refine ⟨by rw[hlen];rfl,λm hm=>?_⟩
     rw[hlen] at hm;obtain ⟨c,h1,h2⟩:=tZ (pre:=[]) hR (λ_ _ h=>h.iI) q2 q4 q5 off m (by omega)
     refine ⟨c,by simpa[Ev.cK] using h1,?_⟩
     rw[List.take_take,Nat.min_eq_left hm];exact h2
   cases h
  cases h
 .
  rename_i s;obtain ⟨he,hc⟩:=aS h;subst he;have hc:s.map aF=l:=hc;subst hc;rw[hx.ef];refine ⟨by simp[Ev.rY,ByteArray.size],λm hm=>?_⟩
  have hm':m<=s.length:=by simpa using hm
  refine ⟨(s.take m).map λb=>.int .u8 b.toNat,?_,?_⟩
  .
   simp only[Ev.cK];rw[if_pos ⟨rfl,by simpa[ByteArray.size] using hm'⟩]
   simp[ByteArray.data_extract,List.extract_toArray,List.extract_eq_take_drop]
  have:∀s:List UInt8,fN (CR S.F (.int .u8)) (s.map aF) (s.map λb=>Value.int .u8 b.toNat):=λs=>by
   induction s with
   |nil=>rfl
   |cons b s ih=>exact ⟨[_],_,rfl,rfl,ih⟩
  rw[<-List.map_take];exact this _
 cases h
theorem XQ {a:Int} {n:Nat} (h:(!Ev.ltI a 0 && !Ev.ltI (Int.ofNat n) a)=true):0<=a/\a<=n:=by
 simp only[Ev.ltI_spec,Bool.and_eq_true,Bool.not_eq_true',decide_eq_false_iff_not,Int.ofNat_eq_natCast] at h;omega
theorem acv {a b:Int} {n:Nat} (h:(!Ev.ltI a 0 && !Ev.ltI b a && !Ev.ltI (Int.ofNat n) b)=true):0<=a/\a<=b/\b<=n:=by
 simp only[Ev.ltI_spec,Bool.and_eq_true,Bool.not_eq_true',decide_eq_false_iff_not,Int.ofNat_eq_natCast] at h;omega
theorem Tn {a:Int} {n:Nat} (h:(Ev.eqI a 0||Ev.ltI a (Int.ofNat n))=true):a=0\/a<n:=by
 simp only[Ev.ltI_spec,Ev.eqI_spec,Bool.or_eq_true,beq_iff_eq,decide_eq_true_eq,Int.ofNat_eq_natCast] at h;exact h
inductive BR (ev:Operand->AV) (d:Int):Option Operand->Int->Prop where
 |none:BR ev d none d
 |some (x k a) (h:ev x = .int k a):BR ev d (some x) a
theorem iW {len cap:Nat} {lo hi:Option Operand} {k:Int->Int->Option β} (h:j6 len cap (lo.map ev) (hi.map ev) k=some r):∃a b,k a b=some r/\0<=a/\a<=b/\(len<=cap->b<=cap)/\BR ev 0 lo a/\BR ev len hi b:=by
 cases lo with
 |
  none =>
  cases hi with
  |none=>exact ⟨0,len,h,by omega,by omega,λ_=>by omega,.none,.none⟩
  |
   some y =>
   simp only[Option.map_none,Option.map_some] at h;unfold j6 at h;split at h
   .
    rename_i h1 h2;cases h2
   .
    rename_i h1 h2;cases h1
   .
    rename_i kk b h1 h2;rw[pick2_eq] at h;split at h
    .
     rename_i hb;have hb:=XQ hb;exact ⟨0,b,h,by omega,hb.1,λ_=>hb.2,.none,.some y kk b (by simpa using h2)⟩
    cases h
   .
    rename_i h1 h2;cases h1
   cases h
 |
  some x =>
  cases hi with
  |
   none =>
   simp only[Option.map_none,Option.map_some] at h;unfold j6 at h;split at h
   .
    rename_i h1 h2;cases h1
   .
    rename_i kk a h1 h2;rw[pick2_eq] at h;split at h
    .
     rename_i hb;have hb:=XQ hb;exact ⟨a,len,h,hb.1,hb.2,λ_=>by omega,.some x kk a (by simpa using h1),.none⟩
    cases h
   .
    rename_i h1 h2;cases h2
   .
    rename_i h1 h2;cases h2
   cases h
  |
   some y =>
   simp only[Option.map_some] at h;unfold j6 at h;split at h
   .
    rename_i h1 h2;cases h1
   .
    rename_i h1 h2;cases h2
   .
    rename_i h1 h2;cases h1
   .
    rename_i k1 a k2 b h1 h2;rw[pick2_eq] at h;split at h
    .
     rename_i hb;have hb:=acv hb;exact ⟨a,b,h,hb.1,hb.2.1,λ_=>hb.2.2,.some x k1 a (by simpa using h1),.some y k2 b (by simpa using h2)⟩
    cases h
   cases h
theorem nF {S:Wo} {aq:Operand->Value} {d:Int} {x:Option Operand} {a:Int} (h:BR ev d x a) (aA:∀y,x=some y->VR S (ev y) (aq y)):(x=none/\a=d)\/∃y k,x=some y/\aq y = .int k a:=by
 cases h with
 |none=>exact .inl ⟨rfl,rfl⟩
 |some y k _ hy=>exact .inr ⟨y,k,rfl,by have:=aA y rfl;rw[hy] at this;exact this.bQ⟩
theorem lM {k:IntKind} {a:Int} {y:Nat} (h0:0<=a) (h1:a<=y):Ev.gQ (.int k a) y=some a.toNat:=by
 simp only[Ev.gQ,h0,h1,and_self,if_true]
theorem iY {P:Program} {S:Wo} {aq:Operand->Value} {t te:TypeId} {s:Nat} (hu:P.underlying t=some (.slice te)) (hs:Ev.aM P te=some s) {lo hi:Option Operand} {a b:Int} {len cap:Nat} (ha:BR ev 0 lo a) (hb:BR ev len hi b) (h0:0<=a) (h1:a<=b) (h2:b<=cap)
 (hlo:∀y,lo=some y->VR S (ev y) (aq y)) (hhi:∀y,hi=some y->VR S (ev y) (aq y)) (x:Option Addr) (hx:x=none\/∃i off,x=some ⟨i,off,none⟩) (hac:a=0\/a<cap) :
 Ev.ep P t (.slice x len cap) (lo.map aq) (hi.map aq)=some (.slice (x.map λz=>⟨z.block,z.off+a.toNat*s,none⟩) (b.toNat-a.toNat) (cap-a.toNat)):=by
 have c1:∀k,Ev.gQ (.int k b) cap=some b.toNat:=λk=>lM (by omega) h2
 have c2:∀k,Ev.gQ (.int k a) b.toNat=some a.toNat:=λk=>lM h0 (by omega)
 have c3:¬((a.toNat=cap/\a.toNat≠0)\/cap<a.toNat):=by omega
 rcases nF ha hlo with ⟨rfl,rfl⟩|⟨z,kk,rfl,hz⟩<;>rcases nF hb hhi with ⟨rfl,OK⟩|⟨z',kk',rfl,hz'⟩<;>rcases hx with rfl|⟨i,off,rfl⟩
 .
  obtain rfl:b=len:=OK;simp[Ev.ep,hu,hs]
 .
  obtain rfl:b=len:=OK;have c4:¬(cap<0):=by omega
  simp[Ev.ep,hu,hs,c4]
 .
  simp[Ev.ep,hu,hs,hz',c1]
 .
  simp[Ev.ep,hu,hs,hz',c1]
 .
  obtain rfl:b=len:=OK;simp only[Int.toNat_natCast] at c2;simp[Ev.ep,hu,hs,hz,c2]
 .
  obtain rfl:b=len:=OK;simp only[Int.toNat_natCast] at c2;simp only[Ev.ep,hu,hs,Option.map_none,Option.map_some,hz,c2,if_neg c3,Int.toNat_natCast]
 .
  simp[Ev.ep,hu,hs,hz,hz',c1,c2]
 simp only[Ev.ep,hu,hs,Option.map_some,hz,hz',c1,c2,if_neg c3]
theorem Fx {P:Program} {S:Wo} {aq:Operand->Value} {t te:TypeId} {s:Nat} (hu:P.underlying t=some (.slice te)) (hs:Ev.aM P te=some s) {lo hi:Option Operand} {a b:Int} (ha:BR ev 0 lo a) (hb:BR ev (0:Nat) hi b) (h0:0<=a) (h1:a<=b) (h2:b<=(0:Nat))
 (hlo:∀y,lo=some y->VR S (ev y) (aq y)) (hhi:∀y,hi=some y->VR S (ev y) (aq y)) :
 Ev.ep P t Ev.vd (lo.map aq) (hi.map aq)=some (.slice (some ⟨0,0,some 0⟩) (b.toNat-a.toNat) (0-a.toNat)):=by
 have z1:b.toNat=0:=by omega
 have z2:a.toNat=0:=by omega
 have c1:∀k,Ev.gQ (.int k b) 0=some 0:=λk=>by have:=lM (k:=k) (show 0<=b by omega) h2;rwa[z1] at this
 have c2:∀k,Ev.gQ (.int k a) 0=some 0:=λk=>by have:=lM (k:=k) h0 (show a<=(0:Nat) by omega);rwa[z2] at this
 unfold Ev.vd
 rw[z1,z2]
 rcases nF ha hlo with ⟨rfl,rfl⟩|⟨z,kk,rfl,hz⟩<;>rcases nF hb hhi with ⟨rfl,OK⟩|⟨z',kk',rfl,hz'⟩
 .
  simp[Ev.ep,hu,hs]
 .
  simp[Ev.ep,hu,hs,hz',c1]
 .
  simp[Ev.ep,hu,hs,hz,c2]
 simp[Ev.ep,hu,hs,hz,hz',c1,c2]
theorem Fy {P:Program} {S:Wo} {aq:Operand->Value} {t te:TypeId} {s n:Nat} (hu:P.underlying t=some (.array n te)) (hs:Ev.aM P te=some s) {lo hi:Option Operand} {a b:Int} (ha:BR ev 0 lo a) (hb:BR ev n hi b) (h0:0<=a) (h1:a<=b) (h2:b<=n)
 (hlo:∀y,lo=some y->VR S (ev y) (aq y)) (hhi:∀y,hi=some y->VR S (ev y) (aq y)) {E:Mem} {i:Nat} {k:Blk} (hk:alive E i=some k) (ES:k.fix=true) (hac:a=0\/a<n) :
 Ev.ke P E t (.pointer (some ⟨i,0,none⟩)) (lo.map aq) (hi.map aq)=some (.slice (some ⟨i,a.toNat*s,none⟩) (b.toNat-a.toNat) (n-a.toNat)):=by
 have c1:∀k,Ev.gQ (.int k b) n=some b.toNat:=λk=>lM (by omega) h2
 have c2:∀k,Ev.gQ (.int k a) b.toNat=some a.toNat:=λk=>lM h0 (by omega)
 have c3:pick2 (Nat.beq n a.toNat) 0 (Nat.add 0 (Nat.mul a.toNat s))=a.toNat*s:=by
  rw[pick2_eq];split
  .
   rename_i hn;simp only[Nat.beq_eq] at hn;have:a.toNat=0:=by omega
   rw[this];simp
  show 0+a.toNat*s=_;omega
 rcases nF ha hlo with ⟨rfl,rfl⟩|⟨z,kk,rfl,hz⟩<;>rcases nF hb hhi with ⟨rfl,OK⟩|⟨z',kk',rfl,hz'⟩
 .
  obtain rfl:b=n:=OK;simp only[Int.toNat_zero] at c3;simp only[Ev.ke,hu,hs,hk,ES,Option.map_none,c3,Int.toNat_zero,Int.toNat_natCast]
 .
  simp only[Int.toNat_zero] at c3;simp only[Ev.ke,hu,hs,hk,ES,Option.map_none,Option.map_some,hz',c1,c3,Int.toNat_zero]
 .
  obtain rfl:b=n:=OK;simp only[Int.toNat_natCast] at c2;simp only[Ev.ke,hu,hs,hk,ES,Option.map_none,Option.map_some,hz,c2,c3,Int.toNat_natCast]
 simp only[Ev.ke,hu,hs,hk,ES,Option.map_some,hz,hz',c1,c2,c3]
theorem eZ {P:Program} {aq:Operand->Value} {call:Ev.aN} {t te:TypeId} {x:Operand} {lo hi:Option Operand} {E:Mem} {v:Value} (hop:o.op = .slice t x lo hi none) (hu:P.underlying t=some (.slice te)) (h:Ev.ep P t (aq x) (lo.map aq) (hi.map aq)=some v):opA P call aq o E=some (v,E):=by
 unfold opA;rw[hop]
 show Ev.jg P aq o t (aq x) (lo.map aq) (hi.map aq) E=_
 unfold Ev.jg
 have:Ev.pG P t=false:=by simp[Ev.pG,hu]
 rw[this,h];rfl
theorem jK {t:TypeId} {x:Operand} {lo hi:Option Operand} {S:Wo} {aq:Operand->Value} (aA:∀y∈(Op.slice t x lo hi none).operands,VR S (ev y) (aq y)):VR S (ev x) (aq x)/\(∀y,lo=some y->VR S (ev y) (aq y))/\∀y,hi=some y->VR S (ev y) (aq y) :=
 ⟨aA x (by simp[Op.operands]),λy hy=>aA y (by subst hy;simp[Op.operands]),λy hy=>aA y (by subst hy;simp[Op.operands])⟩
theorem y8 {P:Program} {te:TypeId} {n:Nat} (h:(Ev.aM P te==some n)=true):Ev.aM P te=some n:=by simpa using h
theorem SR.cut {α:Type} {R:α->List Value->Prop} {s:Nat} (hR:∀x c,R x c->c.length=s) {F:Nat->Option (List Value)} {l:List α} {i:Nat} {pre mid post:List Value} {cap:Nat} (hF:F i=some (pre++(mid++post))) (hC:fN R l mid) {a b:Int} (h0:0<=a) (h1:a<=b) (h2:b<=l.length) (h3:l.length<=cap) :
 SR R F (bz l a b) (.slice (some ⟨i,pre.length+a.toNat*s,none⟩) (b.toNat-a.toNat) (cap-a.toNat)):=by
 obtain ⟨c1,c2,e1,k1,k2⟩:=hC.split hR a.toNat
 obtain ⟨c3,c4,e2,k3,k4⟩:=k2.split hR (b.toNat-a.toNat)
 have l1:=k1.length hR
 have t1:(l.take a.toNat).length=a.toNat:=by simp;omega
 have t3:((l.drop a.toNat).take (b.toNat-a.toNat)).length=b.toNat-a.toNat:=by simp;omega
 rw[t1] at l1
 refine .inr ⟨i,pre++c1,c3,c4++post,cap-a.toNat,?_,by rw[hF,e1,e2];simp,k3,?_⟩
 .
  show _=Value.slice (some ⟨i,(pre++c1).length,none⟩) ((l.drop a.toNat).take (b.toNat-a.toNat)).length _;rw[t3,List.length_append,l1]
 show ((l.drop a.toNat).take (b.toNat-a.toNat)).length<=_
 rw[t3];omega
def Wo.Ho (S:Wo) (i:Nat) (cs:List Value):Wo:=⟨λj=>if j=i then some cs else S.F j,S.ρ,S.Γ⟩
theorem sD {S:Wo} {E:Mem} (hr:Rel S H E) {id:Nat} {t:TypeId} {e:Ty} {l:List e.den} {cw:Nat} {ex ro:Bool} (hg:H.get id=some (.list t e l cw ex ro)) :
 ∃S',S.le S'/\Rel S' (H.put id (.list t e l cw ex true)) E/\St S H E S' (H.put id (.list t e l cw ex true)) E /\
  (∀n v,VR S (.own id n) v->n=l.length/\((l=[]/\v = .slice none 0 0)\/∃i mid post cap,v = .slice (some ⟨i,0,none⟩) l.length cap/\S'.F i=some (mid++post)/\fN (CR S'.F e) l mid/\l.length<=cap)):=by
 obtain ⟨g1,⟨g0,g,g2,g2'⟩,g3⟩:=hr.row id _ hg
 have XR:∀S',S.le S'->(∀i cap b mid post,S.ρ id=some (i,cap,e.size)->alive E i=some b->b.cells=mid++post->S'.F i=some b.cells)->(∀n v,VR S (.own id n) v->n=l.length/\((l=[]/\v = .slice none 0 0)\/∃i mid post cap,v = .slice (some ⟨i,0,none⟩) l.length cap/\S'.F i=some (mid++post)/\fN (CR S'.F e) l mid/\l.length<=cap)):=by
  intro S' hle hF n v hv;cases hv with
  |
   own _ _ i0 jJ s0 hρ g' hg' hn' =>
   rw[g2] at hg';cases hg';rcases g3 with ⟨_,g5,_⟩|⟨i',cap,b,mid,post,q1,q2,q3,q4,q5,q6,q7,q8,q9,rD⟩
   .
    rw[hρ] at g5;cases g5
   rw[hρ] at q1;cases q1;refine ⟨by omega,.inr ⟨i0,mid,post,jJ,by rw[<-g2',hn'],?_,q5.mono λx c=>CR.mono hle.F e x c,q7⟩⟩
   rw[hF i0 jJ b mid post hρ q2 q4,q4]
  |
   cQ _ g' hg' hn' =>
   rw[g2] at hg';cases hg';exact ⟨by omega,.inl ⟨List.length_eq_zero_iff.1 (by omega),rfl⟩⟩
 cases hro:ro with
 |
  true =>
  subst hro;obtain ⟨u1,u2,u3,u4⟩:=aa.cy H id (.list t e l cw ex true)
  have hsame:∀j,(H.put id (.list t e l cw ex true)).get j=H.get j:=λj=>by
   rw[u4];by_cases hj:j=id
   .
    subst hj;rw[if_pos rfl,if_pos (aa.bI hg),hg];rfl
   rw[if_neg hj]
  obtain ⟨k1,k2⟩:=hr.same u1 u2 u3 hsame;refine ⟨S,S.le_refl,k1,k2,XR S S.le_refl λi cap b mid post h1 h2 h3=>?_⟩
  rcases g3 with ⟨_,g5,_⟩|⟨i',cap,b',mid,post,q1,q2,q3,q4,q5,q6,q7,q8,q9,rD⟩
  .
   rw[h1] at g5;cases g5
  rw[h1] at q1;cases q1;rw[h2] at q2;cases q2;exact rD.1 rfl
 |
  false =>
  subst hro;rcases g3 with ⟨g4,g5,g6⟩|⟨i',cap,b,mid,post,q1,q2,q3,q4,q5,q6,q7,q8,q9,rD⟩
  .
   obtain ⟨k1,k2⟩:=hr.mod (S':=S) (E':=E) (r':=.list t e l cw ex true) hg rfl S.le_refl rfl (λ_ _ _=>rfl) rfl rfl (λ_ _=>rfl) (λj cs h=>.inl h) (λq hq=>by
    cases hq;exact ⟨g1,⟨g0,g,g2,g2'⟩,.inl ⟨g4,g5,g6⟩⟩)
   exact ⟨S,S.le_refl,k1,k2,XR S S.le_refl λi cap b mid post h1=>by rw[g5] at h1;cases h1⟩
  have hsep:=hr.sep id _ _ hg rfl q1
  have hle:S.le (S.Ho i' b.cells):=⟨λj x hj=>by
   show (if j=i' then some b.cells else S.F j)=_;by_cases hji:j=i'
   .
    subst hji;rw[hsep] at hj;cases hj
   rw[if_neg hji];exact hj,λ_ _ h=>h,λ_ _ _ h=>h⟩
  have hFi:(S.Ho i' b.cells).F i'=some b.cells:=if_pos rfl
  obtain ⟨k1,k2⟩:=hr.mod (S':=S.Ho i' b.cells) (E':=E) (r':=.list t e l cw ex true) hg rfl hle rfl (λ_ _ _=>rfl) rfl rfl (λ_ _=>rfl)
   (λj cs h=>by
    by_cases hji:j=i'
    .
     subst hji;rw[hFi] at h;cases h;exact .inr ⟨.inr rfl,⟨_,q1,rfl⟩,b,q2,rfl⟩
    exact .inl (by have h':(if j=i' then some b.cells else S.F j)=some cs:=h;rw[if_neg hji] at h';exact h'))
   (λq hq=>by
    cases hq;exact ⟨g1,⟨g0,g,g2,g2'⟩,.inr ⟨i',cap,b,mid,post,q1,q2,q3,q4,q5.mono λx c=>CR.mono hle.F e x c,q6,q7,q8,q9,λ_=>hFi,rD.2.imp λl2 h2=>h2.mono λx c=>CR.mono hle.F e x c⟩⟩)
  refine ⟨_,hle,k1,k2,XR _ hle λi cap' b' mid' post' h1 h2 h3=>?_⟩
  rw[q1] at h1;cases h1;rw[q2] at h2;cases h2;exact hFi
theorem vw {t:TypeId} {x:Operand} {lo hi:Option Operand} (hop:o.op = .slice t x lo hi none) {k:AV->aa->Option β} (h:yZ X H t (ev x) (lo.map ev) (hi.map ev) k=some r):∃v H',k v H'=some r/\bx X cf o ev H v H':=by
 unfold yZ at h
 split at h
 .
  rename_i s hu hp;obtain ⟨a,b,h1,h2,h3,h4,ha,hb⟩:=iW h;have h4:=h4 (Nat.le_refl _);refine ⟨_,_,h1,.quiet λS E aq hr aA=>?_⟩
  rw[hop] at aA;obtain ⟨hx,hlo,hhi⟩:=jK aA;rw[hp] at hx;have ex:=hx.ef;refine ⟨.string ⟨(bz s a b).toArray⟩,λcall=>?_,.str _⟩
  unfold opA;rw[hop];show Ev.jg X.P aq o t (aq x) (lo.map aq) (hi.map aq) E=_;unfold Ev.jg;have e1:Ev.pG X.P t=false:=by simp[Ev.pG,hu]
  have e2:Ev.ep X.P t (aq x) (lo.map aq) (hi.map aq)=none:=by rw[ex];simp only[Ev.ep,hu]
  rw[e1,e2];show withMem E (pureA X.P aq o)=_
  have flo:∀y,lo=some y->addrFree (aq y)=true:=λy hy=>by
   rcases nF ha hlo with ⟨h0,_⟩|⟨z,kk,h0,hz⟩
   .
    rw[h0] at hy;cases hy
   rw[h0] at hy;cases hy;rw[hz];rfl
  have fhi:∀y,hi=some y->addrFree (aq y)=true:=λy hy=>by
   rcases nF hb hhi with ⟨h0,_⟩|⟨z,kk,h0,hz⟩
   .
    rw[h0] at hy;cases hy
   rw[h0] at hy;cases hy;rw[hz];rfl
  rw[qd (v:=.string ⟨(bz s a b).toArray⟩) (λa b=>by rw[hop];simp) ?_ ?_ rfl]
  .
   rfl
  .
   rw[hop];simp only[Ev.aQ,Op.operands,List.all_eq_true];intro y hy;simp only[Array.toList_append,List.mem_append] at hy;rcases hy with ((hy|hy)|hy)|hy
   .
    simp at hy;subst hy;rw[ex];rfl
   .
    exact flo y (by cases lo<;>simp at hy ⊢;exact hy.symm)
   .
    exact fhi y (by cases hi<;>simp at hy ⊢;exact hy.symm)
   simp at hy
  unfold execOp;rw[hop];show semPure X.P (Instr.sliceAt t (aq x) (lo.map aq) (hi.map aq) none >>= λx=>pure (Next.value x))=_
  rw[ak]
  have e3:semPure X.P (Instr.sliceAt t (aq x) (lo.map aq) (hi.map aq) none)=some (.string ⟨(bz s a b).toArray⟩):=by
   unfold Instr.sliceAt;rw[ak,az hu];simp only[Option.bind_some];unfold Instr.slice;rw[ak,az hu,ex];simp only[Option.bind_some,Option.isSome_none,Bool.false_eq_true,if_false];rw[ak];have sz:ByteArray.size ⟨s.toArray⟩=s.length:=by simp[ByteArray.size]
   have e4:semPure X.P (Instr.sliceBounds false (ByteArray.size ⟨s.toArray⟩) (ByteArray.size ⟨s.toArray⟩) (lo.map aq) (hi.map aq) none)=some (a.toNat,b.toNat,s.length):=by
    rw[sz]
    have bd:∀(kk:IntKind) (i:Int) (y:Nat) (c:BoundsCode),0<=i->i<=y->semPure X.P (Instr.sliceBound (.int kk i) y c)=some i.toNat:=λkk i y c h0 h1=>by
     unfold Instr.sliceBound asIntOf;show semPure X.P (if 0<=i/\i<=y then pure i.toNat else boundsPanic kk i y c)=_;rw[if_pos ⟨h0,h1⟩];rfl
    unfold Instr.sliceBounds;rcases nF ha hlo with ⟨rfl,rfl⟩|⟨z,kk,rfl,hz⟩<;>rcases nF hb hhi with ⟨rfl,rfl⟩|⟨z',kk',rfl,hz'⟩
    .
     rfl
    .
     simp only[Option.map_none,Option.map_some,hz'];simp only[ak,jm,Option.bind_some];rw[bd kk' b s.length _ (by omega) h4];rfl
    .
     simp only[Option.map_none,Option.map_some,hz];simp only[ak,jm,Option.bind_some];rw[bd kk a s.length _ (by omega) (by omega)];rfl
    simp only[Option.map_some,hz,hz'];simp only[ak,jm,Option.bind_some];rw[bd kk' b s.length _ (by omega) h4]
    simp only[Option.bind_some];rw[bd kk a b.toNat _ (by omega) (by omega)];rfl
   rw[e4];simp only[Option.bind_some];show some (Value.string _)=_
   congr 2
   apply Go.WideShapes.bytes_inj;simp[ByteArray.data_extract,List.extract_toArray,List.extract_eq_take_drop,bz]
  rw[e3];rfl
 .
  rename_i te e l hu hp;rw[pick2_eq] at h;split at h
  .
   rename_i hs;have hs:=y8 hs;obtain ⟨a,b,h1,h2,h3,h4,ha,hb⟩:=iW h;have h4:=h4 (Nat.le_refl _);rw[pick2_eq] at h1;split at h1
   .
    rename_i hac;have hac:=Tn hac;refine ⟨_,_,h1,.quiet λS E aq hr aA=>?_⟩
    rw[hop] at aA;obtain ⟨hx,hlo,hhi⟩:=jK aA;rw[hp] at hx;generalize hA:aq x=A at hx;cases hx with
    |
     bF _ _ _ hS =>
     rcases hS with ⟨rfl,rfl|rfl⟩|⟨i0,pre,mid,post,cap,rfl,hF,hC,hcap⟩
     .
      refine ⟨.slice none (b.toNat-a.toNat) (0-a.toNat),λcall=>eZ hop hu ?_,.bF _ _ _ (.inl ⟨by simp[bz],.inl ?_⟩)⟩
      .
       rw[hA];exact iY hu hs ha hb h2 h3 (by simpa using h4) hlo hhi none (.inl rfl) (by simp at h4;omega)
      simp at h4;have e1:b.toNat-a.toNat=0:=by omega
      have e2:(0:Nat)-a.toNat=0:=by omega
      rw[e1,e2]
     .
      refine ⟨.slice (some ⟨0,0,some 0⟩) (b.toNat-a.toNat) (0-a.toNat),λcall=>eZ hop hu ?_,.bF _ _ _ (.inl ⟨by simp[bz],.inr ?_⟩)⟩
      .
       rw[hA];exact Fx hu hs ha hb h2 h3 (by simpa using h4) hlo hhi
      simp at h4;have e1:b.toNat-a.toNat=0:=by omega
      have e2:(0:Nat)-a.toNat=0:=by omega
      rw[e1,e2];rfl
     refine ⟨_,λcall=>eZ hop hu ?_,.bF _ _ _ (SR.cut (λx c=>CR.length e x c) hF hC h2 h3 h4 hcap)⟩
     rw[hA];exact iY hu hs ha hb h2 h3 (by omega) hlo hhi _ (.inr ⟨_,_,rfl⟩) (by omega)
   cases h1
  cases h
 .
  rename_i te id off len cap hu hp;split at h
  .
   rename_i t' e l cw ro hg;rw[pick2_eq] at h;split at h
   .
    rename_i hs;have hs:=y8 hs;obtain ⟨a,b,h1,h2,h3,h4,ha,hb⟩:=iW h;rw[pick2_eq] at h1;split at h1
    .
     rename_i hac;have hac:=Tn hac;refine ⟨_,_,h1,.quiet λS E aq hr aA=>?_⟩
     rw[hop] at aA;obtain ⟨hx,hlo,hhi⟩:=jK aA;rw[hp] at hx;generalize hA:aq x=A at hx;obtain ⟨g1,⟨_,g,g2,g2'⟩,g3⟩:=hr.row id _ hg;cases hx with
     |
      pz _ _ _ _ i0 c0 s0 hρ g' hg' hcc Fw =>
      rw[g2] at hg';cases hg';rcases g3 with ⟨_,g5,_⟩|⟨i',cap',b',mid,post,q1,q2,q3,q4,q5,q6,q7,q8,q9,rD⟩
      .
       rw[hρ] at g5;cases g5
      rw[hρ] at q1;cases q1;refine ⟨_,λcall=>eZ hop hu (by rw[hA];exact iY hu hs ha hb h2 h3 (h4 Fw) hlo hhi _ (.inr ⟨_,_,rfl⟩) (by have:=h4 Fw;omega)),?_⟩
      have:=VR.pz (S:=S) id (off+a.toNat) (b.toNat-a.toNat) (cap-a.toNat) i0 c0 e.size hρ g g2 (by have:=h4 Fw;omega) (by have:=h4 Fw;omega)
      rw[Nat.add_mul] at this;exact this
    cases h1
   cases h
  cases h
 .
  rename_i te id n hu hp;split at h
  .
   rename_i t' e l cw ex ro hg;rw[pick2_eq] at h;split at h
   .
    rename_i hs;simp only[Bool.and_eq_true] at hs;obtain ⟨hs,hmay⟩:=hs;have hs:=y8 hs;obtain ⟨a,b,h1,h2,h3,h4,ha,hb⟩:=iW h;have h4:=h4 (Nat.le_refl _);rw[pick2_eq] at h1;split at h1
    .
     rename_i hac;have hac:=Tn hac;refine ⟨_,_,h1,λS E aq hr aA=>?_⟩
     rw[hop] at aA;obtain ⟨hx,hlo,hhi⟩:=jK aA;rw[hp] at hx;obtain ⟨S',hle,k1,k2,k3⟩:=sD hr hg;obtain ⟨rfl,hv⟩:=k3 n _ hx;rcases hv with ⟨rfl,hv⟩|⟨i,mid,post,cap,hv,hF,hC,hcap⟩
     .
      refine ⟨S',.slice none (b.toNat-a.toNat) (0-a.toNat),E,⟨0,λn _=>eZ hop hu ?_⟩,hle,.bF _ _ _ (.inl ⟨by simp[bz],.inl ?_⟩),k1,k2⟩
      .
       rw[hv];exact iY hu hs ha hb h2 h3 (by simpa using h4) hlo hhi none (.inl rfl) (by simp at h4;omega)
      simp at h4;have e1:b.toNat-a.toNat=0:=by omega
      have e2:(0:Nat)-a.toNat=0:=by omega
      rw[e1,e2]
     have:=SR.cut (pre:=[]) (λx c=>CR.length e x c) hF hC h2 h3 h4 hcap
     refine ⟨S',_,E,⟨0,λn _=>eZ hop hu ?_⟩,hle,.bF _ _ _ this,k1,k2⟩
     rw[hv];have:=iY (S:=S) (aq:=aq) hu hs ha hb h2 h3 (show b<=cap by omega) hlo hhi (some ⟨i,0,none⟩) (.inr ⟨_,_,rfl⟩) (by omega)
     rw[this];simp
    cases h1
   cases h
  cases h
 .
  rename_i te hu hp;rw[pick2_eq] at h;split at h
  .
   rename_i hs;obtain ⟨s,hs⟩:=Option.isSome_iff_exists.1 hs;obtain ⟨a,b,h1,h2,h3,h4,ha,hb⟩:=iW h;have h4:=h4 (Nat.le_refl _);refine ⟨_,_,h1,.quiet λS E aq hr aA=>?_⟩
   rw[hop] at aA;obtain ⟨hx,hlo,hhi⟩:=jK aA;rw[hp] at hx;generalize hA:aq x=A at hx;cases hx with
   |
    bK =>
    refine ⟨.slice none (b.toNat-a.toNat) (0-a.toNat),λcall=>eZ hop hu ?_,?_⟩
    .
     rw[hA];exact iY hu hs ha hb h2 h3 (by simpa using h4) hlo hhi none (.inl rfl) (by omega)
    have e1:b.toNat-a.toNat=0:=by omega
    have e2:(0:Nat)-a.toNat=0:=by omega
    rw[e1,e2];exact .bK
  cases h
 .
  rename_i n te id n' hu hp;split at h
  .
   rename_i t' e l cw ro hg;rw[pick2_eq] at h;split at h
   .
    rename_i hs;simp only[Bool.and_eq_true,Nat.beq_eq] at hs;obtain ⟨hs,rfl⟩:=hs;have hs:=y8 hs;obtain ⟨a,b,h1,h2,h3,h4,ha,hb⟩:=iW h;have h4:=h4 (Nat.le_refl _);rw[pick2_eq] at h1;split at h1
    .
     rename_i hac;have hac:=Tn hac;refine ⟨_,_,h1,.quiet λS E aq hr aA=>?_⟩
     rw[hop] at aA;obtain ⟨hx,hlo,hhi⟩:=jK aA;rw[hp] at hx;generalize hA:aq x=A at hx;obtain ⟨g1,⟨_,g,g2,g2'⟩,g3⟩:=hr.row id _ hg;cases hx with
     |
      Er _ _ i0 c0 s0 hρ g' hg' hn' =>
      rw[g2] at hg';cases hg';rcases g3 with ⟨_,g5,_⟩|⟨i',cap',b',mid,post,q1,q2,q3,q4,q5,q6,q7,q8,q9,rD⟩
      .
       rw[hρ] at g5;cases g5
      rw[hρ] at q1;cases q1;have e1:=Fy (S:=S) (aq:=aq) hu hs ha hb h2 h3 h4 hlo hhi q2 (q9 rfl).1 hac;have:=VR.pz (S:=S) id a.toNat (b.toNat-a.toNat) (n'-a.toNat) i0 c0 e.size hρ g g2 (by omega) (by omega)
      refine ⟨_,λcall=>?_,this⟩
      unfold opA;rw[hop];show Ev.jg X.P aq o t (aq x) (lo.map aq) (hi.map aq) E=_;unfold Ev.jg;have e2:Ev.pG X.P t=true:=by simp[Ev.pG,hu]
      rw[e2,hA,e1];rfl
    cases h1
   cases h
  cases h
 cases h
end
end Go.Tv

namespace Go.Tv
open Go.Ev (Tr pick2 Leave Mem Blk alive pick2_eq alive_some semPure pureA opA addrFree withMem orElse)
theorem qP {α:Type}:∀(xs l:List α) (off:Nat),off+xs.length<=l.length->gZ l off xs=l.take off++(xs++l.drop (off+xs.length))
 |[],l,off,_=>by simp[gZ]
 |
  x::xs,l,off,h=>by
  simp only[List.length_cons] at h;rw[gZ,qP xs (l.set off x) (off+1) (by simp;omega)]
  have h1:(l.set off x).take (off+1)=l.take off++[x]:=by
   rw[List.take_succ_eq_append_getElem (by simp;omega),List.take_set,List.set_eq_of_length_le (by simp;omega)]
   simp
  have h2:(l.set off x).drop (off+1+xs.length)=l.drop (off+(x::xs).length):=by
   rw[List.drop_set_of_lt (by omega)]
   simp only[List.length_cons];congr 1;omega
  rw[h1,h2];simp
theorem mU (l xs:List Value) (off:Nat):Ev.ij l off xs=gZ l off xs:=by
 induction xs generalizing l off with
 |nil=>rfl
 |cons x xs ih=>exact ih _ _
theorem kA {α:Type}:∀(xs l:List α) (off:Nat),(gZ l off xs).length=l.length
 |[],l,off=>rfl
 |x::xs,l,off=>by rw[gZ,kA xs];simp
theorem y9 {α:Type} (a c b xs:List α) (fo:Nat) (h:fo+xs.length<=c.length):gZ (a++(c++b)) (a.length+fo) xs=a++(gZ c fo xs++b):=by
 rw[qP xs c fo h,qP xs _ _ (by simp;omega)]
 rw[List.take_append,List.drop_append]
 simp only[Nat.add_sub_cancel_left]
 have e1:a.take (a.length+fo)=a:=List.take_of_length_le (by omega)
 have e2:a.drop (a.length+fo+xs.length)=[]:=List.drop_eq_nil_of_le (by omega)
 have e3:a.length+fo+xs.length-a.length=fo+xs.length:=by omega
 rw[e1,e2,e3,List.take_append_of_le_length (by omega),List.drop_append_of_le_length (by omega)]
 simp
theorem fN.set {α:Type} {R:α->List Value->Prop} {l:List α} {j:Nat} {y:α} {a c b:List Value} (hj:j<l.length) (h1:fN R (l.take j) a) (h2:R y c) (h3:fN R (l.drop (j+1)) b):fN R (l.set j y) (a++(c++b)):=by
 have:l.set j y=l.take j++(y::l.drop (j+1)):=by
  rw[List.set_eq_take_append_cons_drop,if_pos hj]
 rw[this]
 exact h1.append ⟨c,b,rfl,h2,h3⟩
theorem fN.put {α:Type} {R:α->List Value->Prop} {s:Nat} (hR:∀x c,R x c->c.length=s) {l xs:List α} {mid xc:List Value} {off:Nat} (hl:fN R l mid) (hx:fN R xs xc) (h:off+xs.length<=l.length):fN R (gZ l off xs) (gZ mid (off*s) xc):=by
 have lm:=hl.length hR
 have lx:=hx.length hR
 obtain ⟨c1,c2,e1,k1,k2⟩:=hl.split hR off
 obtain ⟨c3,c4,e2,k3,k4⟩:=k2.split hR xs.length
 have l1:=k1.length hR
 have l3:=k3.length hR
 have t1:(l.take off).length=off:=by simp;omega
 have t3:((l.drop off).take xs.length).length=xs.length:=by simp;omega
 rw[t1] at l1;rw[t3] at l3
 rw[qP xs l off h]
 have:gZ mid (off*s) xc=c1++(xc++c4):=by
  rw[e1,e2,<-l1];have:=y9 c1 c3 c4 xc 0 (by rw[lx,l3];omega)
  rw[Nat.add_zero] at this;rw[this,qP xc c3 0 (by rw[lx,l3];omega)]
  rw[List.drop_eq_nil_of_le (by rw[lx,l3];omega)]
  simp
 rw[this]
 rw[List.drop_drop] at k4
 exact k1.append (hx.append k4)
theorem CR.plain {F:Nat->Option (List Value)}:∀(e:Ty) (x:e.den) (cs:List Value),CR F e x cs->cs.all Ev.plainCell=true
 |.int _,_,_,h=>by rw[h];rfl
 |.bool,_,_,h=>by rw[h];rfl
 |.str,_,_,h=>by rw[h];rfl
 |.kV,_,_,h=>by rw[h];rfl
 |.unit,_,_,h=>by rw[h];rfl
 |
  .sl _,_,_,⟨v,h,hs⟩=>by
  rw[h];rcases hs with ⟨_,rfl|rfl⟩|⟨i,pre,mid,post,cap,rfl,_⟩<;>rfl
 |.pair a b,_,_,⟨c1,c2,e,h1,h2⟩=>by rw[e,List.all_append,CR.plain a _ _ h1,CR.plain b _ _ h2];rfl
theorem fN.plain {F:Nat->Option (List Value)} {e:Ty}:∀{l:List e.den} {cs:List Value},fN (CR F e) l cs->cs.all Ev.plainCell=true
 |[],_,h=>by rw[h];rfl
 |x::l,_,⟨c1,c2,e',h1,h2⟩=>by rw[e',List.all_append,CR.plain e _ _ h1,h2.plain];rfl
theorem OL {S:Wo} {v:AV} {x:Value} (h:VR S v x) (hp:l8 v=true):Ev.plainCell x=true:=by
 cases h with
 |bF e l v hs=>rcases hs with ⟨_,rfl|rfl⟩|⟨i,pre,mid,post,cap,rfl,_⟩<;>rfl
 |agg=>cases hp
 |cB=>cases hp
 |iC=>cases hp
 |fl=>cases hp
 |cx=>cases hp
 |xR v hf=>exact hp
 |_=>rfl
theorem vz {S:Wo}:∀{l:List AV} {m:List Value},LV S l m->l.all l8=true->m.all Ev.plainCell=true
 |[],m,h,_=>by rw[h.dM];rfl
 |
  v::l,m,h,hp=>by
  obtain ⟨x,m',rfl,h1,h2⟩:=h.cons_inv;simp only[List.all_cons,Bool.and_eq_true] at hp ⊢;exact ⟨OL h1 hp.1,vz h2 hp.2⟩
theorem qQ {S:Wo} {v:AV} {x:Value} {cs:List AV} (h:VR S v x) (hc:yY v=some cs):LV S cs x.cells.toList:=by
 have one:∀(v:AV) (x:Value),VR S v x->x.cells = #[x]->LV S [v] x.cells.toList:=λv x h e=>by rw[e];exact LV.cons h LV.nil
 cases h with
 |
  bF e l v hs =>
  cases hc;have:x.cells = #[x]:=by rcases hs with ⟨_,rfl|rfl⟩|⟨i,pre,mid,post,cap,rfl,_⟩<;>rfl
  exact one _ _ (.bF e l x hs) this
 |agg l m hl hv=>cases hc;exact ⟨by simpa[Value.cells] using hl,by simpa[Value.cells] using hv⟩
 |cB=>cases hc
 |iC=>cases hc
 |fl=>cases hc
 |cx=>cases hc
 |
  xR v hf =>
  have hc:pick2 (Ev.plainCell x) (some [AV.xR x]) none=some cs:=hc;rw[pick2_eq] at hc;split at hc
  .
   rename_i hp;cases hc;refine one _ _ (.xR x hf) ?_;cases x<;>first|rfl|cases hp
  cases hc
 |_=>cases hc;exact LV.cons (by constructor<;>assumption) LV.nil
section
variable {X:cI} {cf:Nat×Nat->Ev.aN} {o:Oper} {ev:Operand->AV} {H:aa} {β:Type} {r:β}
theorem j7 {E:Mem} {i off:Nat} {b:Blk} {vs:List Value} (hb:alive E i=some b) (hlk:E.lk<=i) (hlen:off+vs.length<=b.cells.length) (hp:vs.all Ev.plainCell=true) :
 ∃E',Ev.cD E i off vs=some E'/\E'.size=E.size/\E'.lk=E.lk/\∃b',alive E' i=some b'/\b'.cells=gZ b.cells off vs/\b'.elem=b.elem/\b'.fix=b.fix/\∀j,j≠i->E'.get j=E.get j:=by
 unfold Ev.cD
 cases vs with
 |nil=>exact ⟨E,rfl,rfl,rfl,b,hb,rfl,rfl,rfl,λ_ _=>rfl⟩
 |
  cons v vs =>
  rw[if_neg (by simp),hb]
  simp only;rw[if_pos (by rw[hp];simpa using hlen)]
  obtain ⟨E',hE⟩:=Mem.dD (b:={ b with cells:=Ev.ij b.cells off (v::vs) }) (fy hb) hlk
  obtain ⟨_,_,h3,h4,h5⟩:=Ev.Mem.eC hE;refine ⟨E',hE,h3,h4,{ b with cells:=Ev.ij b.cells off (v::vs) },mj (by rw[h5,if_pos rfl]) (alive_some hb).2,mU _ _ _,rfl,rfl,λj hj=>by rw[h5,if_neg hj]⟩
def Wo.cw (S:Wo) (id v:Nat) (g:Sigma λe:Ty=>List e.den):Wo:=⟨S.F,S.ρ,λj w=>if j=id/\w=v then some g else S.Γ j w⟩
theorem Wo.XS {S:Wo} {id v:Nat} {g:Sigma λe:Ty=>List e.den} (h:S.Γ id v=none):S.le (S.cw id v g) :=
 ⟨λ_ _ h=>h,λ_ _ h=>h,λj w x hx=>by
  show (if j=id/\w=v then some g else S.Γ j w)=_;by_cases hj:j=id/\w=v
  .
   obtain ⟨rfl,rfl⟩:=hj;rw[h] at hx;cases hx
  rw[if_neg hj];exact hx⟩
theorem Rel.rewrite {S:Wo} {E E':Mem} (hr:Rel S H E) {id:Nat} {t:TypeId} {e:Ty} {l l':List e.den} {cw:Nat} {ex:Bool} (hg:H.get id=some (.list t e l cw ex false)) {i cap:Nat} {b b':Blk} {mid post:List Value}
 (hρ:S.ρ id=some (i,cap,e.size)) (hb:alive E i=some b) (hs:E'.size=E.size) (hlk:E'.lk=E.lk) (hE:∀j,j≠i->E'.get j=E.get j) (hb':alive E' i=some b') (hel:b'.elem=b.elem) (ES:b'.fix=b.fix) (hc:b'.cells=mid++post) (hlen:b'.cells.length=b.cells.length)
 (hC:fN (CR S.F e) l' mid) (hl:l'.length=l.length) (hpost:ex=true->post=[]) (N9:∃l2,fN (CR S.F e) l2 post) :
 S.le (S.cw id (cw+1) ⟨e,l'⟩)/\Rel (S.cw id (cw+1) ⟨e,l'⟩) (H.put id (.list t e l' (cw+1) ex false)) E'/\St S H E (S.cw id (cw+1) ⟨e,l'⟩) (H.put id (.list t e l' (cw+1) ex false)) E':=by
 obtain ⟨g1,⟨g0,g,g2,g2'⟩,g3⟩:=hr.row id _ hg
 have hle:S.le (S.cw id (cw+1) ⟨e,l'⟩):=Wo.XS (g0 _ (by omega))
 rcases g3 with ⟨_,g5,_⟩|⟨i',cap',b0,akk,aiO,q1,q2,q3,q4,q5,q6,q7,q8,q9,rD⟩
 .
  rw[hρ] at g5;cases g5
 rw[hρ] at q1;cases q1
 rw[hb] at q2;cases q2
 refine ⟨hle,hr.mod hg rfl hle rfl (λj w hj=>if_neg (by omega)) hs hlk (λj hj=>hE j (hj _ hρ)) (λj cs h=>.inl h) λq hq=>?_⟩
 cases hq
 refine ⟨if_pos ⟨rfl,rfl⟩,⟨λv hv=>?_,g,hle.Γ _ _ _ g2,by omega⟩,.inr ⟨i,cap,b',mid,post,hρ,hb',by rw[hel,q3],hc,hC,by rw[hlen,q6],by omega,q8,λhx=>⟨by rw[ES];exact (q9 hx).1,hpost hx,by have:=(q9 hx).2.2;omega⟩,λh=>(by cases h),N9⟩⟩
 show (if id=id/\v=cw+1 then some _ else S.Γ id v)=none
 rw[if_neg (by omega)];exact g0 v (by omega)
theorem LU {t:TypeId} {p q:Operand} (hop:o.op = .store t p q) {k:AV->aa->Option β} (h:storeT X H t (ev p) (ev q) (λH'=>k .iC H')=some r):∃v H',k v H'=some r/\bx X cf o ev H v H':=by
 unfold storeT at h
 split at h
 .
  rename_i id off n vs hp hn hvs;split at h
  .
   rename_i t' cs hg;rw[pick2_eq] at h;split at h
   .
    rename_i hc;simp only[Bool.and_eq_true,Nat.beq_eq,Nat.ble_eq] at hc;obtain ⟨⟨⟨hmay,SP⟩,hpl⟩,hof⟩:=hc;refine ⟨_,_,h,λS E aq hr aA=>?_⟩
    rw[hop] at aA;have hx:=aA p (by simp[Op.operands])
    have hy:=aA q (by simp[Op.operands])
    rw[hp] at hx;generalize hA:aq p=A at hx;cases hx with
    |
     ptr _ _ i c s hρ =>
     obtain ⟨i',c',s',b,k1,k2,k3,k4,k5⟩:=hr.row id _ hg;rw[hρ] at k1;cases k1;have ia:=qQ hy hvs;have hmay':H.lk<=id:=by simpa[aa.ju,Nat.ble_eq] using hmay
     have hlk:=hr.lk id _ _ hg hmay' hρ;have hof':off+n<=cs.length:=hof;obtain ⟨E',w1,w2,w3,b',w4,w5,w6,w7,w8⟩:=j7 (off:=off) (vs:=(aq q).cells.toList) k2 hlk (by rw[<-ia.1,<-k3.1];omega) (vz ia hpl)
     obtain ⟨m1,m2⟩:=hr.mod (S':=S) (E':=E') (r':=.cells t' (gZ cs off vs)) hg rfl S.le_refl rfl (λ_ _ _=>rfl) w2 w3 (λj hj=>w8 j (hj _ hρ)) (λj cs h=>.inl h) (λq hq=>by
      cases hq;refine ⟨i,c,s,b',hρ,w4,?_,w6.trans k4,w7.trans k5⟩;rw[w5,<-mU];exact LV.gZ vs _ off ia k3)
     refine ⟨S,undef,E',⟨0,λ_ _=>?_⟩,S.le_refl,.iC _,m1,m2⟩
     unfold opA;rw[hop];show Ev.jY X.P t (aq p) (aq q) E=_
     have hsz:(aq q).cells.size=n:=by
      have:=ia.1;simp at this;omega
     simp only[Ev.jY,Ev.lR,hA,hn,hsz,if_true,w1]
   cases h
  cases h
 .
  rename_i id j fo cw cur n vs hp hn hvs;split at h
  .
   rename_i t' e l ver' ex ro hg;rw[pick2_eq] at h;split at h
   .
    rename_i hc;simp only[Bool.and_eq_true,Nat.beq_eq,Nat.ble_eq,Bool.not_eq_true'] at hc;obtain ⟨⟨⟨⟨⟨hmay,SP⟩,hpl⟩,hof⟩,rfl⟩,rfl⟩:=hc;split at h
    .
     rename_i y hun;refine ⟨_,_,h,λS E aq hr aA=>?_⟩
     rw[hop] at aA;have hx:=aA p (by simp[Op.operands])
     have hy:=aA q (by simp[Op.operands])
     rw[hp] at hx;generalize hA:aq p=A at hx;cases hx with
     |
      AG _ _ _ _ _ i c e' l2 y' hρ hΓ hy' agJ =>
      obtain ⟨g1,⟨g0,g,g2,g2'⟩,g3⟩:=hr.row id _ hg;rw[g1] at hΓ;cases hΓ;rcases g3 with ⟨_,g5,_⟩|⟨i',cap,b,mid,post,q1,q2,q3,q4,q5,q6,q7,q8,q9,rD⟩
      .
       rw[hρ] at g5;cases g5
      rw[hρ] at q1;cases q1;obtain ⟨a,cc,bb,w1,w2,w3,w4,w5⟩:=q5.get (λx c=>CR.length e x c) hy'
      subst agJ;have hcc:=CR.length e _ _ w3;have hfl:=mR e y';have ia:=qQ hy hvs;have hof':fo+n<=e.size:=by rw[<-hfl];exact hof
      have hmay':H.lk<=id:=by simpa[aa.ju,Nat.ble_eq] using hmay
      have hlk:=hr.lk id _ _ hg hmay' hρ;have hbc:b.cells=a++(cc++(bb++post)):=by rw[q4,w1];simp
      have hxl:(aq q).cells.toList.length=n:=by rw[<-ia.1];exact SP
      obtain ⟨E',v1,v2,v3,b',v4,v5,v6,v7,v8⟩:=j7 (off:=j*e.size+fo) (vs:=(aq q).cells.toList) q2 hlk (by rw[hbc];simp at hxl ⊢;omega) (vz ia hpl)
      have hnew:gZ b.cells (j*e.size+fo) (aq q).cells.toList=a++(gZ cc fo (aq q).cells.toList++(bb++post)):=by
       rw[hbc,<-w2];exact y9 a cc (bb++post) _ fo (by omega)
      have hLV:=LV.gZ vs _ fo ia (CR.flat e _ _ w3);rw[mU] at hLV;obtain ⟨c1,m',e1,r1,r2⟩:=kz e hun hLV;have hm':=r2.dM;subst hm';rw[List.append_nil] at e1;have hjl:=bI hy';have hC:fN (CR S.F e) (l.set j y) (a++(c1++bb)):=fN.set hjl w4 r1 w5;obtain ⟨z1,z2,z3⟩:=hr.rewrite hg hρ q2 v2 v3 v8 v4 v6 v7 (mid:=a++(c1++bb)) (post:=post) (by rw[v5,hnew,e1];simp) (by rw[v5,kA]) hC (by simp) (λhx=>(q9 hx).2.1) rD.2
      refine ⟨_,undef,E',⟨0,λ_ _=>?_⟩,z1,.iC _,z2,z3⟩
      unfold opA;rw[hop];show Ev.jY X.P t (aq p) (aq q) E=_;have hsz:(aq q).cells.size=n:=by simpa using hxl
      simp only[Ev.jY,Ev.lR,hA,hn,hsz,if_true,v1]
    cases h
   cases h
  cases h
 cases h
end
end Go.Tv

namespace Go.Tv
open Go.Ev (Tr pick2 Leave Mem Blk alive pick2_eq alive_some semPure pureA opA addrFree withMem orElse)
section
variable {X:cI} {cf:Nat×Nat->Ev.aN} {o:Oper} {ev:Operand->AV} {H:aa} {β:Type} {r:β}
theorem acy {a b:Nat} (h:Nat.beq a b=false):a≠b:=λe=>by subst e;rw[Nat.beq_refl] at h;cases h
inductive sF (S:Wo) (H:aa) (E:Mem) (te:TypeId) (e:Ty) (old:List e.den):aa->Value->Prop where
 |nil (h:old=[]):sF S H E te e old H (.slice none 0 0)
 |OM (id r) (hg:H.get id=some r) (hro:r.BJ=false) (h:old=[]):sF S H E te e old (H.put id .dead) (.slice none 0 0)
 |row (id r i cap b mid post) (hg:H.get id=some r) (hro:r.BJ=false) (hρ:S.ρ id=some (i,cap,e.size)) (hb:alive E i=some b) (hlk:E.lk<=i) (hc:b.cells=mid++post) (hC:fN (CR S.F e) old mid) (hn:b.cells.length=cap*e.size) (hl:old.length<=cap) (hcap:cap<=1000000) (hel:b.elem=te) (N9:∃l2,fN (CR S.F e) l2 post):sF S H E te e old (H.put id .dead) (.slice (some ⟨i,0,none⟩) old.length cap)
theorem OO {S:Wo} {E:Mem} (hr:Rel S H E) {te:TypeId} {e:Ty} {s:AV} {old:List e.den} {H':aa} {x:Value} (h:Ou H te e s=some (old,H')) (hx:VR S s x):sF S H E te e old H' x:=by
 unfold Ou at h
 split at h
 .
  cases h;cases hx;exact .nil rfl
 .
  rename_i id n;split at h
  .
   rename_i t' e' l cw ex hg;rw[pick2_eq] at h;split at h
   .
    rename_i hmay;simp only[Bool.and_eq_true,Nat.beq_eq] at hmay;obtain ⟨hmay,rfl⟩:=hmay;split at h
    .
     rename_i l' ia;cases h;obtain ⟨he,hc⟩:=aS ia;subst he;have hc:l=old:=hc;subst hc;obtain ⟨g1,⟨g0,g,g2,g2'⟩,g3⟩:=hr.row id _ hg;cases hx with
     |
      own _ _ i0 jJ s0 hρ g' hg' hn' =>
      rw[g2] at hg';cases hg';rcases g3 with ⟨_,g5,_⟩|⟨i',cap,b,mid,post,q1,q2,q3,q4,q5,q6,q7,q8,q9,rD⟩
      .
       rw[hρ] at g5;cases g5
      rw[hρ] at q1;cases q1;have:=sF.row (S:=S) (H:=H) (E:=E) (te:=t') (e:=e') (old:=l) id _ i0 jJ b mid post hg rfl hρ q2 (hr.lk id _ _ hg (by simpa[aa.ju,Nat.ble_eq] using hmay) hρ) q4 q5 q6 q7 q8 q3 rD.2
      rw[<-g2',hn'] at this;exact this
     |
      cQ _ g' hg' hn' =>
      rw[g2] at hg';cases hg';have h0:l=[]:=List.length_eq_zero_iff.1 (by omega)
      exact .OM id _ hg rfl h0
    cases h
   cases h
  cases h
 .
  rename_i id len LS;split at h
  .
   rename_i t' e' l cw hg;rw[pick2_eq] at h;split at h
   .
    rename_i hmay;simp only[Bool.and_eq_true,Nat.beq_eq] at hmay;obtain ⟨hmay,rfl⟩:=hmay;split at h
    .
     rename_i l' ia;cases h;obtain ⟨he,hc⟩:=aS ia;subst he;have hc:l=l':=hc;subst hc;obtain ⟨g1,⟨g0,g,g2,g2'⟩,g3⟩:=hr.row id _ hg;cases hx with
     |
      pz _ _ _ _ i0 c0 s0 hρ g' hg' hcc Fw =>
      rw[g2] at hg';cases hg';rcases g3 with ⟨_,g5,_⟩|⟨i',cap,b,mid,post,q1,q2,q3,q4,q5,q6,q7,q8,q9,rD⟩
      .
       rw[hρ] at g5;cases g5
      rw[hρ] at q1;cases q1;obtain ⟨c1,c2,e1,k1,k2⟩:=q5.split (λx c=>CR.length e' x c) len
      have hlen:(l.take len).length=len:=by simp;omega
      have hcap:LS=c0:=by have:=(q9 rfl).2.2;omega
      subst hcap;have:=sF.row (S:=S) (H:=H) (E:=E) (te:=t') (e:=e') (old:=l.take len) id _ i0 LS b c1 (c2++post) hg rfl hρ q2 (hr.lk id _ _ hg (by simpa[aa.ju,Nat.ble_eq] using hmay) hρ) (by rw[q4,e1];simp) k1 q6 (by omega) q8 q3 (rD.2.elim λl2 h2=>⟨_,k2.append h2⟩)
      rw[hlen] at this;rw[Nat.zero_mul];exact this
    cases h
   cases h
  cases h
 cases h
theorem eF {S:Wo} {H:aa} {E':Mem} {te:TypeId} {e:Ty} {l:List e.den} {i cap:Nat} {b:Blk} {mid post:List Value} {fx:Bool} (hr:∀v,S.Γ H.next v=none) (hb:alive E' i=some b) (hel:b.elem=te) (hc:b.cells=mid++post) (hC:fN (CR S.F e) l mid) (hn:b.cells.length=cap*e.size) (hl:l.length<=cap) (hcap:cap<=1000000) (hx:fx=true->b.fix=true/\post=[]/\l.length=cap) (N9:∃l2,fN (CR S.F e) l2 post:=by exact ⟨[],rfl⟩) :
 mS (S.new H.next (some (i,cap,e.size)) (some ⟨e,l⟩)) E' H.next (.list te e l 0 fx false):=by
 refine ⟨if_pos ⟨rfl,rfl⟩,⟨λv hv=>?_,⟨e,l⟩,if_pos ⟨rfl,rfl⟩,rfl⟩,.inr ⟨i,cap,b,mid,post,if_pos rfl,hb,hel,hc,hC,hn,hl,hcap,hx,λh=>(by cases h),N9⟩⟩
 show (if H.next=H.next/\v=0 then some _ else S.Γ H.next v)=none
 rw[if_neg (by omega)];exact hr v
theorem gF {S:Wo} {H:aa} {E':Mem} {te:TypeId} {e:Ty} (hr:∀v,S.Γ H.next v=none):mS (S.new H.next none (some ⟨e,([]:List e.den)⟩)) E' H.next (.list te e [] 0 false false):=by
 refine ⟨if_pos ⟨rfl,rfl⟩,⟨λv hv=>?_,⟨e,[]⟩,if_pos ⟨rfl,rfl⟩,rfl⟩,.inl ⟨rfl,if_pos rfl,rfl⟩⟩
 show (if H.next=H.next/\v=0 then some _ else S.Γ H.next v)=none
 rw[if_neg (by omega)];exact hr v
theorem Fz {S:Wo} {E:Mem} (hr:Rel S H E) {st xt te:TypeId} {inf:TypeInfo} {z:Value} {e:Ty} {old new:List e.den} {H':aa} {s' x':Value} (hu:X.P.underlying st=some (.slice te)) (Hl:Ev.eO X.P xt=true) (hi:X.P.info? te=some inf) (hz:Ev.fj X.P te=some z)
 (hsz:inf.size=e.size) (h0:inf.size≠0) (hb0:inf.bytes≠0) (AW:inf.bytes<=100000) (hzc:z.cells.size=inf.size) (OP:old.length+new.length<=1000000)
 (hlen:Ev.rY x'=some new.length) (hnew:∃c,Ev.cK E e.size new.length x'=some c/\fN (CR S.F e) new c) (hbase:sF S H E te e old H' s') :
 ∃S' vE E',Ev.lg X.P E st xt s' x'=some (vE,E')/\S.le S'/\VR S' (.own H'.next (old.length+new.length)) vE/\Rel S' (H'.push (.list te e (old++new) 0 false false)) E'/\St S H E S' (H'.push (.list te e (old++new) 0 false false)) E':=by
 obtain ⟨nc,hn1,hn2⟩:=hnew
 have hR:∀x c,CR S.F e x c->c.length=e.size:=λx c=>CR.length e x c
 have OQ:=hn2.length hR
 have jv:∀v,S.Γ H.next v=none:=λv=>hr.A0 _ _ (Nat.le_refl _)
 have acz:0<e.size:=by omega
 -- the evaluator's own tests
 have XT:∀(base:Option Addr) (sLen sCap:Nat) (oc:List Value),Ev.cK E e.size sLen (.slice base sLen sCap)=some oc->sLen=old.length->sCap<=1000000 ->
  Ev.lg X.P E st xt (.slice base sLen sCap) x'=(if sLen+new.length<=sCap then
   match base with
   |some ⟨b,off,none⟩=>(Ev.cD E b (off+sLen*inf.size) nc).map λH'=>(.slice base (sLen+new.length) sCap,H')
   |none=>if new.length=0 then some (.slice base sLen sCap,E) else none
   |_=>none
   else
    match base with
    |
     some ⟨b,off,none⟩ =>
     if off=0/\oc.length=sLen*inf.size/\(alive E b).any (λk=>decide (k.cells.length=sCap*inf.size)&&(k.elem==te)) then
      match Ev.kill E b with
      |some H1=>Ev.eo H1 te (oc++nc) (sLen+new.length) (sLen+new.length)
      |none=>none
     else none
    |none=>Ev.eo E te (oc++nc) (sLen+new.length) (sLen+new.length)
    |_=>none):=by
  intro base sLen sCap oc hoc hsl hcap;unfold Ev.lg;simp only[hu,Hl,hi,hz,hlen];rw[hsz,hn1,hoc];simp only
  have hcond:¬(e.size=0\/inf.bytes=0\/inf.bytes>100000\/sLen+new.length>1000000\/sCap>1000000\/z.cells.size≠e.size\/(!nc.all Ev.plainCell)=true):=by
   rw[hn2.plain];simp;omega
  rw[if_neg hcond];rfl
 -- a new row of the evaluator's
 have fresh:∀(E1:Mem),E1.size=E.size->E1.lk=E.lk->∀(oc:List Value),fN (CR S.F e) old oc ->
  ∃E',Ev.eo E1 te (oc++nc) (old.length+new.length) (old.length+new.length)=some (.slice (some ⟨E.size,0,none⟩) (old.length+new.length) (old.length+new.length),E')/\E.size<=E'.size/\E'.lk=E.lk/\(∀j,j<E.size->E'.get j=E1.get j) /\
   mS (S.new H.next (some (E.size,old.length+new.length,e.size)) (some ⟨e,old++new⟩)) E' H.next (.list te e (old++new) 0 false false)/\VR (S.new H.next (some (E.size,old.length+new.length,e.size)) (some ⟨e,old++new⟩)) (.own H.next (old.length+new.length)) (.slice (some ⟨E.size,0,none⟩) (old.length+new.length) (old.length+new.length)):=by
  intro E1 h1 h2 oc hoc;obtain ⟨E',hE⟩:=Mem.eY E1 ⟨oc++nc,te,true,false⟩;obtain ⟨p1,p2,p3⟩:=Ev.Mem.bf hE;refine ⟨E',?_,by omega,by omega,λj hj=>by rw[p3,if_neg (by omega)],?_,?_⟩
  .
   unfold Ev.eo;rw[hE];simp only[h1]
  .
   refine eF (b:=⟨oc++nc,te,true,false⟩) (mid:=oc++nc) (post:=[]) jv (mj (by rw[p3,if_pos h1.symm]) rfl) rfl (by simp) (hoc.append hn2) ?_ (by simp) OP (λh=>by cases h)
   simp only[List.length_append,OQ,hoc.length hR,Nat.add_mul]
  exact .own _ _ _ _ e.size (if_pos rfl) ⟨e,old++new⟩ (if_pos ⟨rfl,rfl⟩) (by simp)
 cases hbase with
 |
  nil ho =>
  subst ho;rw[XT none 0 0 [] (by simp[Ev.cK]) rfl (by omega)]
  by_cases hn:new.length=0
  .
   have tL:new=[]:=List.length_eq_zero_iff.1 hn;subst tL;obtain ⟨a1,a2,a3⟩:=hr.add (r:=.list te e ([]++[]) 0 false false) (x:=none) (g:=some ⟨e,[]⟩) (Nat.le_refl _) rfl (λ_ _=>rfl) (λr' h=>by cases h;exact gF jv) (λy h=>by cases h) rfl
   exact ⟨_,_,E,by simp,a1,.cQ _ ⟨e,[]⟩ (if_pos ⟨rfl,rfl⟩) rfl,a2,a3⟩
  obtain ⟨E',e1,e2,e3,e4,e5,e6⟩:=fresh E rfl rfl [] rfl;obtain ⟨a1,a2,a3⟩:=hr.add (r:=.list te e ([]++new) 0 false false) (x:=some (E.size,([]:List e.den).length+new.length,e.size)) (g:=some ⟨e,[]++new⟩) e2 e3 e4 (λr' h=>by cases h;exact e5) (λy h=>by cases h;exact Nat.le_refl _) rfl
  refine ⟨_,_,E',?_,a1,e6,a2,a3⟩;rw[if_neg (by omega)]
  exact e1
 |
  OM id r0 hg hro ho =>
  subst ho;have V2:(H.put id .dead).next=H.next:=(aa.cy H id .dead).1
  rw[XT none 0 0 [] (by simp[Ev.cK]) rfl (by omega),V2]
  by_cases hn:new.length=0
  .
   have tL:new=[]:=List.length_eq_zero_iff.1 hn;subst tL;obtain ⟨a1,a2,a3⟩:=hr.move (E':=E) (r:=.list te e ([]++[]) 0 false false) (x:=none) (g:=some ⟨e,[]⟩) hg hro (Nat.le_refl _) rfl (λ_ _ _=>rfl) (λy h=>by cases h) (λr' h=>by cases h;exact gF jv) rfl
   exact ⟨_,_,E,by simp,a1,.cQ _ ⟨e,[]⟩ (if_pos ⟨rfl,rfl⟩) rfl,a2,a3⟩
  obtain ⟨E',e1,e2,e3,e4,e5,e6⟩:=fresh E rfl rfl [] rfl;obtain ⟨a1,a2,a3⟩:=hr.move (E':=E') (r:=.list te e ([]++new) 0 false false) (x:=some (E.size,([]:List e.den).length+new.length,e.size)) (g:=some ⟨e,[]++new⟩) hg hro e2 e3 (λj hj _=>e4 j hj) (λy h=>by cases h;exact .inl (Nat.le_refl _)) (λr' h=>by cases h;exact e5) rfl
  refine ⟨_,_,E',?_,a1,e6,a2,a3⟩;rw[if_neg (by omega)]
  exact e1
 |
  row id r0 i cap b mid post hg hro hρ hb hlk hc hC hn hl hcap hel N9 =>
  have V2:(H.put id .dead).next=H.next:=(aa.cy H id .dead).1
  have hml:=hC.length hR;obtain ⟨oc,ho1,De⟩:=tZ (pre:=[]) hR (λ_ _ h=>h.iI) hb (by simpa using hc) hC 0 old.length (by omega)
  have hoc:Ev.cK E e.size old.length (.slice (some ⟨i,0,none⟩) old.length cap)=some oc:=by simpa[Ev.cK] using ho1
  have ho3:fN (CR S.F e) old oc:=by simpa using De
  rw[XT _ _ _ oc hoc rfl hcap,V2];by_cases hroom:old.length+new.length<=cap
  .
   rw[if_pos hroom]
   have hbound:0+old.length*inf.size+nc.length<=b.cells.length:=by
    rw[OQ,hn,hsz,Nat.zero_add,<-Nat.add_mul];exact Nat.mul_le_mul_right _ hroom
   obtain ⟨E',w1,w2,w3,b',w4,w5,w6,w7,w8⟩:=j7 hb hlk hbound hn2.plain
   have hcells:b'.cells=(mid++nc)++post.drop nc.length:=by
    rw[w5,hc];have hoff:0+old.length*inf.size=mid.length:=by rw[hml,hsz];omega
    rw[hoff]
    have hpl:nc.length<=post.length:=by
     have:b.cells.length=mid.length+post.length:=by rw[hc];simp
     omega
    have:=y9 mid post [] nc 0 (by omega)
    simp only[List.append_nil,Nat.add_zero] at this;rw[this,qP nc post 0 (by omega)]
    simp
   have hb'len:b'.cells.length=cap*e.size:=by rw[w5,kA,hn]
   have XU:∃l2,fN (CR S.F e) l2 (post.drop nc.length):=by
    obtain ⟨l2,AF⟩:=N9;obtain ⟨a,bb,e1,f1,f2⟩:=AF.split hR new.length;have h1:=AF.length hR;have h2:=f1.length hR
    have hpl:new.length*e.size<=l2.length*e.size:=by
     have:b.cells.length=mid.length+post.length:=by rw[hc];simp
     have EK:0+old.length*inf.size+nc.length<=b.cells.length:=hbound;rw[hsz] at EK;rw[<-h1];omega
    have hle:=Nat.le_of_mul_le_mul_right hpl acz;rw[List.length_take,Nat.min_eq_left hle] at h2;have key:post.drop nc.length=bb:=by rw[e1,OQ,<-h2];simp
    rw[key];exact ⟨_,f2⟩
   obtain ⟨a1,a2,a3⟩:=hr.move (E':=E') (r:=.list te e (old++new) 0 false false) (x:=some (i,cap,e.size)) (g:=some ⟨e,old++new⟩) hg hro (by omega) w3 (λj hj hne=>w8 j (hne _ hρ)) (λy h=>by cases h;exact .inr ⟨_,hρ,rfl,hlk⟩)
    (λr' h=>by
     cases h;exact eF jv w4 (by rw[w6,hel]) hcells (hC.append hn2) hb'len (by simpa using hroom) hcap (λh=>by cases h) XU) rfl
   refine ⟨_,_,E',by simp only[w1,Option.map_some],a1,.own _ _ i cap e.size (if_pos rfl) ⟨e,old++new⟩ (if_pos ⟨rfl,rfl⟩) (by simp),a2,a3⟩
  rw[if_neg hroom]
  have hcond:(True/\oc.length=old.length*inf.size/\(alive E i).any (λk=>decide (k.cells.length=cap*inf.size)&&(k.elem==te))=true):=by
   refine ⟨trivial,by rw[ho3.length hR,hsz],?_⟩
   rw[hb];simp[hn,hsz,hel]
  simp only;rw[if_pos hcond];obtain ⟨hgi,AE⟩:=alive_some hb;obtain ⟨E1,hE1⟩:=Mem.dD (b:={ b with live:=false,fix:=false }) (fy hb) hlk
  obtain ⟨_,_,s3,s4,s5⟩:=Ev.Mem.eC hE1;have bM:Ev.kill E i=some E1:=by unfold Ev.kill;rw[hgi];exact hE1
  rw[bM];obtain ⟨E',e1,e2,e3,e4,e5,e6⟩:=fresh E1 s3 s4 oc ho3;obtain ⟨a1,a2,a3⟩:=hr.move (E':=E') (r:=.list te e (old++new) 0 false false) (x:=some (E.size,old.length+new.length,e.size)) (g:=some ⟨e,old++new⟩) hg hro e2 e3 (λj hj hne=>by rw[e4 j hj,s5,if_neg (hne _ hρ)]) (λy h=>by cases h;exact .inl (Nat.le_refl _)) (λr' h=>by cases h;exact e5) rfl
  exact ⟨_,_,E',e1,a1,e6,a2,a3⟩
theorem Ie {c:Call} {s x:Operand} {st xt:TypeId} (hop:o.op = .call c) (hc:c.callee = .builtin .append) (h0:c.args[0]? = some s) (h1:c.args[1]? = some x) (h2:c.argTypes[0]? = some st) (h3:c.argTypes[1]? = some xt) {k:AV->aa->Option β} (h:Dn X H st xt (ev s) (ev x) k=some r) :
 ∃v H',k v H'=some r/\bx X cf o ev H v H':=by
 unfold Dn at h
 split at h
 .
  rename_i te hu Hl;split at h
  .
   rename_i inf z e hi hz hty;rw[pick2_eq] at h;split at h
   .
    rename_i hcs;simp only[Bool.and_eq_true,Nat.beq_eq,Nat.ble_eq,Bool.not_eq_true'] at hcs;obtain ⟨⟨⟨⟨c1,c2⟩,c3⟩,c4⟩,c5⟩:=hcs;split at h
    .
     rename_i new old H' hv hb;rw[pick2_eq] at h;split at h
     .
      rename_i OP;have OP:=Nat.le_of_ble_eq_true OP;refine ⟨_,_,h,λS E aq hr aA=>?_⟩
      rw[hop] at aA
      have mem:∀(y:Operand) (j:Nat),c.args[j]? = some y->y∈(Op.call c).operands:=λy j hy=>by
       have:=Array.mem_of_getElem? hy;simp only[Op.operands,Call.operands,hc]
       simpa using this
      have hs:=aA s (mem s 0 h0);have hx:=aA x (mem x 1 h1);obtain ⟨l1,l2⟩:=y7 hr hv hx;obtain ⟨nc,n1,n2⟩:=l2 new.length (Nat.le_refl _);rw[List.take_length] at n2;obtain ⟨S',vE,E',a1,a2,a3,a4,a5⟩:=Fz (X:=X) hr hu Hl hi hz c1 (acy c2) (acy c3) c4 c5 OP l1 ⟨nc,n1,n2⟩ (OO hr hb hs);refine ⟨S',vE,E',⟨0,λ_ _=>?_⟩,a2,a3,a4,a5⟩
      unfold opA;rw[hop];show Ev.bp X.P _ aq o c E=_;unfold Ev.bp;rw[hc];show Ev.lV X.P aq c.args c.argTypes E=_;unfold Ev.lV;rw[h0,h1,h2,h3];exact a1
     cases h
    cases h
   cases h
  cases h
 cases h
theorem LW {t:TypeId} {x y:Operand} (hop:o.op = .slice t x none (some y) none) {k:AV->aa->Option β} (h:HZ X H t (ev x) (ev y) k=some r):∃v H',k v H'=some r/\bx X cf o ev H v H':=by
 unfold HZ at h
 split at h
 .
  rename_i te id n kb b hu hp hq;split at h
  .
   rename_i t' e l cw ex hg;rw[pick2_eq] at h;split at h
   .
    rename_i hs;simp only[Bool.and_eq_true] at hs;obtain ⟨hs,hmay⟩:=hs;have hs:=y8 hs;rw[pick2_eq] at h;split at h
    .
     rename_i hb;have hb:=XQ hb;refine ⟨_,_,h,λS E aq hr aA=>?_⟩
     rw[hop] at aA;obtain ⟨hx,hlo,hhi⟩:=jK aA;rw[hp] at hx;have jv:∀v,S.Γ H.next v=none:=λv=>hr.A0 _ _ (Nat.le_refl _)
     have V2:(H.put id .dead).next=H.next:=(aa.cy H id .dead).1
     obtain ⟨g1,⟨g0,g,g2,g2'⟩,g3⟩:=hr.row id _ hg;generalize hA:aq x=A at hx;have ha:BR ev 0 none 0:=.none;have hbr:∀len:Nat,BR ev len (some y) b:=λlen=>.some y kb b hq
     cases hx with
     |
      own _ _ i0 jJ s0 hρ g' hg' hn' =>
      rw[g2] at hg';cases hg';rcases g3 with ⟨_,g5,_⟩|⟨i',cap,bk,mid,post,q1,q2,q3,q4,q5,q6,q7,q8,q9,rD⟩
      .
       rw[hρ] at g5;cases g5
      rw[hρ] at q1;cases q1;obtain ⟨c1,c2,e1,k1,k2⟩:=q5.split (λx c=>CR.length e x c) b.toNat
      have hlen:(l.take b.toNat).length=b.toNat:=by simp;omega
      obtain ⟨a1,a2,a3⟩:=hr.move (E':=E) (r:=.list t' e (l.take b.toNat) 0 false false) (x:=some (i0,jJ,e.size)) (g:=some ⟨e,l.take b.toNat⟩) hg rfl (Nat.le_refl _) rfl (λ_ _ _=>rfl) (λy h=>by cases h;exact .inr ⟨_,hρ,rfl,hr.lk id _ _ hg (by simpa[aa.ju,Nat.ble_eq] using hmay) hρ⟩)
       (λr' h=>by
        cases h;exact eF (mid:=c1) (post:=c2++post) jv q2 q3 (by rw[q4,e1];simp) k1 q6 (by omega) q8 (λh=>by cases h) (rD.2.elim λl2 h2=>⟨_,k2.append h2⟩)) rfl
      refine ⟨_,.slice (some ⟨i0,0,none⟩) b.toNat jJ,E,⟨0,λ_ _=>eZ hop hu ?_⟩,a1,.own _ _ i0 jJ e.size (if_pos rfl) ⟨e,l.take b.toNat⟩ (if_pos ⟨rfl,rfl⟩) hlen,a2,a3⟩
      rw[hA];have:=iY (S:=S) (aq:=aq) hu hs ha (hbr n) (by omega) hb.1 (show b<=jJ by omega) hlo hhi (some ⟨i0,0,none⟩) (.inr ⟨_,_,rfl⟩) (by omega)
      rw[this];simp
     |
      cQ _ g' hg' hn' =>
      rw[g2] at hg';cases hg';have h0:l=[]:=List.length_eq_zero_iff.1 (by omega)
      subst h0;have hb0:b.toNat=0:=by simp at hb;omega
      obtain ⟨a1,a2,a3⟩:=hr.move (E':=E) (r:=.list t' e (([]:List e.den).take b.toNat) 0 false false) (x:=none) (g:=some ⟨e,[]⟩) hg rfl (Nat.le_refl _) rfl (λ_ _ _=>rfl) (λy h=>by cases h) (λr' h=>by
       cases h;rw[List.take_nil];exact gF jv) rfl
      refine ⟨_,.slice none 0 0,E,⟨0,λ_ _=>eZ hop hu ?_⟩,a1,by rw[hb0];exact .cQ _ ⟨e,[]⟩ (if_pos ⟨rfl,rfl⟩) rfl,a2,a3⟩
      rw[hA];have:=iY (S:=S) (aq:=aq) hu hs ha (hbr 0) (by omega) hb.1 (show b<=(0:Nat) by simp at hb;omega) hlo hhi none (.inl rfl) (by omega)
      rw[this];simp[hb0]
    cases h
   cases h
  cases h
 .
  rename_i te kb b hu hp hq;refine vw (lo:=none) (hi:=some y) hop ?_;rw[hp];simp only[Option.map_none,Option.map_some,hq];exact h
 cases h
theorem OS {c:Call} {d x:Operand} {dt:TypeId} (hop:o.op = .call c) (hc:c.callee = .builtin .copy) (h0:c.args[0]? = some d) (h1:c.args[1]? = some x) (h2:c.argTypes[0]? = some dt) {k:AV->aa->Option β} (h:Ov X H dt (ev d) (ev x) k=some r) :
 ∃v H',k v H'=some r/\bx X cf o ev H v H':=by
 unfold Ov at h
 split at h
 .
  rename_i te id off len LS hu hd;split at h
  .
   rename_i t' e l cw s hg hs;rw[pick2_eq] at h;split at h
   .
    rename_i hcs;simp only[Bool.and_eq_true,Nat.beq_eq] at hcs;obtain ⟨hmay,rfl⟩:=hcs;split at h
    .
     rename_i new hv;refine ⟨_,_,h,λS E aq hr aA=>?_⟩
     rw[hop] at aA
     have mem:∀(y:Operand) (j:Nat),c.args[j]? = some y->y∈(Op.call c).operands:=λy j hy=>by
      have:=Array.mem_of_getElem? hy;simp only[Op.operands,Call.operands,hc]
      simpa using this
     have Xq:=aA d (mem d 0 h0);have hx:=aA x (mem x 1 h1);rw[hd] at Xq;generalize hA:aq d=A at Xq;obtain ⟨l1,l2⟩:=y7 hr hv hx;obtain ⟨nc,n1,n2⟩:=l2 (Nat.min new.length len) (Nat.min_le_left _ _);obtain ⟨g1,⟨g0,g,g2,g2'⟩,g3⟩:=hr.row id _ hg;cases Xq with
     |
      pz _ _ _ _ i0 c0 s0 hρ g' hg' hcc Fw =>
      rw[g2] at hg';cases hg';rcases g3 with ⟨_,g5,_⟩|⟨i',cap,b,mid,post,q1,q2,q3,q4,q5,q6,q7,q8,q9,rD⟩
      .
       rw[hρ] at g5;cases g5
      rw[hρ] at q1;cases q1;have hR:∀x c,CR S.F e x c->c.length=e.size:=λx c=>CR.length e x c
      obtain ⟨_,hpost,hlc⟩:=q9 rfl;subst hpost;rw[List.append_nil] at q4;have OQ:=n2.length hR;have hmin:(new.take (Nat.min new.length len)).length=Nat.min new.length len:=by simp
      have hml:Nat.min new.length len<=len:=Nat.min_le_right _ _;have hlk:=hr.lk id _ _ hg (by simpa[aa.ju,Nat.ble_eq] using hmay) hρ
      have hbound:off*e.size+nc.length<=b.cells.length:=by
       rw[OQ,hmin,q6,<-Nat.add_mul];exact Nat.mul_le_mul_right _ (by omega)
      obtain ⟨E',w1,w2,w3,b',w4,w5,w6,w7,w8⟩:=j7 q2 hlk hbound n2.plain;have hput:=fN.put hR q5 n2 (off:=off) (by rw[hmin];omega)
      obtain ⟨z1,z2,z3⟩:=hr.rewrite hg hρ q2 w2 w3 w8 w4 w6 w7 (mid:=gZ mid (off*e.size) nc) (post:=[]) (by rw[w5,q4];simp) (by rw[w5,kA]) hput (kA _ _ _) (λ_=>rfl) ⟨[],rfl⟩
      refine ⟨_,goInt (Nat.min new.length len),E',⟨0,λ_ _=>?_⟩,z1,.int _ _,z2,z3⟩
      unfold opA;rw[hop];show Ev.bp X.P _ aq o c E=_;unfold Ev.bp;rw[hc];show Ev.uR X.P aq c.args c.argTypes E=_;unfold Ev.uR;rw[h0,h1,h2];show Ev.Bg X.P E dt (aq d) (aq x)=_;rw[hA];simp only[Ev.Bg,hu,l1,hs,n1,w1,Option.map_some]
    cases h
   cases h
  cases h
 cases h
end
end Go.Tv

namespace Go.Tv
open Go.Ev (Tr pick2 Leave Mem Blk alive pick2_eq alive_some semPure pureA opA addrFree withMem orElse)
theorem sG {S:Wo}:∀{v:Value},addrFree v=true->VR S (Es v) v:=by
 intro v h
 unfold Es
 split
 .
  exact .int _ _
 .
  exact .bool _
 .
  rename_i s;have:=VR.str (S:=S) s.data.toList;obtain ⟨⟨l⟩⟩:=s;exact this
 .
  exact .kV _
 .
  exact .je
 .
  exact .bK
 exact .xR _ h
theorem vA:∀{l:List Value},Ev.addrFreeL l=true->∀v∈l,addrFree v=true
 |[],_,v,hv=>by simp at hv
 |
  x::l,h,v,hv=>by
  simp only[Ev.addrFreeL,Bool.and_eq_true] at h;rcases List.mem_cons.1 hv with rfl|hv
  .
   exact h.1
  exact vA h.2 v hv
theorem sH {z:Value} (h:addrFree z=true):∀v∈z.cells.toList,addrFree v=true:=by
 cases z with
 |
  agg cs =>
  have h':Ev.addrFreeL cs.toList=true:=by
   obtain ⟨l⟩:=cs;simpa[Ev.addrFree,Ev.fG] using h
  exact vA h'
 |_=>intro v hv;simp[Value.cells] at hv;subst hv;exact h
theorem sI {P:Program} {t:TypeId} {z:Value} (h:Ev.fj P t=some z):addrFree z=true/\∃i,P.info? t=some i/\i.zero=some z:=by
 unfold Ev.fj at h
 split at h
 .
  rename_i i hi;split at h
  .
   rename_i z' hz;split at h
   .
    rename_i hf;cases h;exact ⟨hf,i,hi,hz⟩
   cases h
  cases h
 cases h
theorem gj {X:cI} {S:Wo} {t:TypeId} {z:List AV} (h:wO X t=some z):∃zv,Ev.fj X.P t=some zv/\LV S z zv.cells.toList:=by
 unfold wO at h
 split at h
 .
  rename_i zv hz;cases h;refine ⟨zv,hz,?_⟩;have:=LV.map (S:=S) (f:=Es) (g:=λv=>v) zv.cells.toList λv hv=>sG (sH (sI hz).1 v hv)
  simpa using this
 cases h
section
variable {X:cI} {cf:Nat×Nat->Ev.aN} {o:Oper} {ev:Operand->AV} {H:aa} {β:Type} {r:β}
theorem BM {S:Wo} {E:Mem} (hr:Rel S H E) {t:TypeId} {cs:List AV} {C:List Value} (hl:LV S cs C) :
 ∃S' E',Ev.ow E t C=some (.pointer (some ⟨E.size,0,none⟩),E')/\S.le S'/\VR S' (.ptr H.next 0) (.pointer (some ⟨E.size,0,none⟩))/\Rel S' (H.push (.cells t cs)) E'/\St S H E S' (H.push (.cells t cs)) E':=by
 obtain ⟨E',hE⟩:=Mem.eY E ⟨C,t,true,true⟩
 obtain ⟨p1,p2,p3⟩:=Ev.Mem.bf hE
 have hle:=Wo.Dv hr (some (E.size,0,0)) none
 obtain ⟨a1,a2,a3⟩:=hr.add (E':=E') (r:=.cells t cs) (x:=some (E.size,0,0)) (g:=none) (by omega) p2 (λj hj=>by rw[p3,if_neg (by omega)]) (λr' h=>by
  cases h;exact ⟨E.size,0,0,⟨C,t,true,true⟩,if_pos rfl,mj (by rw[p3,if_pos rfl]) rfl,hl.mono hle,rfl,rfl⟩) (λy h=>by cases h;exact Nat.le_refl _) rfl
 exact ⟨_,E',by unfold Ev.ow;rw[hE],a1,.ptr _ _ E.size 0 0 (if_pos rfl),a2,a3⟩
theorem LX {t:TypeId} {z:List AV} (hop:o.op = .alloc t) (hz:wO X t=some z):bx X cf o ev H (.ptr H.next 0) (H.push (.cells t z)):=by
 intro S E aq hr aA
 obtain ⟨zv,h1,h2⟩:=gj (S:=S) hz
 obtain ⟨S',E',k1,k2,k3,k4,k5⟩:=BM (t:=t) hr h2
 refine ⟨S',_,E',⟨0,λ_ _=>?_⟩,k2,k3,k4,k5⟩
 unfold opA;rw[hop]
 show Ev.lp X.P t E=_
 unfold Ev.lp
 rw[h1];exact k1
theorem LY {t:TypeId} (hop:o.op = .alloc t) {k:AV->aa->Option β} (h:H6 X H t k=some r):∃v H',k v H'=some r/\bx X cf o ev H v H':=by
 unfold H6 at h
 split at h
 .
  rename_i z n te hz hu;split at h
  .
   rename_i e hty;split at h
   .
    rename_i l hun;rw[pick2_eq] at h;split at h
    .
     rename_i hn;have hn:n<=1000000:=Nat.le_of_ble_eq_true hn;refine ⟨_,_,h,λS E aq hr aA=>?_⟩
     obtain ⟨zv,h1,h2⟩:=gj (S:=S) hz;obtain ⟨hC,hlen⟩:=oM e n hun h2;have ia:=hC.length (λx c=>CR.length e x c)
     have jv:∀v,S.Γ H.next v=none:=λv=>hr.A0 _ _ (Nat.le_refl _)
     obtain ⟨E',hE⟩:=Mem.eY E ⟨zv.cells.toList,t,true,true⟩;obtain ⟨p1,p2,p3⟩:=Ev.Mem.bf hE
     obtain ⟨a1,a2,a3⟩:=hr.add (E':=E') (r:=.list t e l 0 true false) (x:=some (E.size,n,e.size)) (g:=some ⟨e,l⟩) (by omega) p2 (λj hj=>by rw[p3,if_neg (by omega)]) (λr' h=>by
      cases h;exact eF (b:=⟨zv.cells.toList,t,true,true⟩) (mid:=zv.cells.toList) (post:=[]) jv (mj (by rw[p3,if_pos rfl]) rfl) rfl (by simp) hC (by rw[<-hlen];exact ia) (by omega) hn (λ_=>⟨rfl,rfl,hlen⟩)) (λy h=>by cases h;exact Nat.le_refl _) rfl
     refine ⟨_,.pointer (some ⟨E.size,0,none⟩),E',⟨0,λ_ _=>?_⟩,a1,.Er _ _ E.size n e.size (if_pos rfl) ⟨e,l⟩ (if_pos ⟨rfl,rfl⟩) hlen,a2,a3⟩
     unfold opA;rw[hop];show Ev.lp X.P t E=_;unfold Ev.lp;rw[h1];show Ev.ow E t zv.cells.toList=_;unfold Ev.ow;rw[hE]
    cases h
   cases h
  cases h
 cases h
theorem Tp {t:TypeId} {x:Operand} {n:Nat} {cs:List AV} (hop:o.op = .box t x) (hn:Ev.aM X.P t=some n) (hc:yY (ev x)=some cs):bx X cf o ev H (.ptr H.next 0) (H.push (.cells t cs)):=by
 intro S E aq hr aA
 rw[hop] at aA
 have hx:=aA x (by simp[Op.operands])
 obtain ⟨S',E',k1,k2,k3,k4,k5⟩:=BM (t:=t) hr (qQ hx hc)
 refine ⟨S',_,E',⟨0,λ_ _=>?_⟩,k2,k3,k4,k5⟩
 unfold opA;rw[hop]
 show Ev.Bh X.P t (aq x) E=_
 unfold Ev.Bh
 rw[hn];exact k1
theorem FA:∀(xs:List Value) (C:Array Value) (off k:Nat),(xs.zipIdx k).foldl (λcs (c:Value×Nat)=>cs.setIfInBounds (off+c.2) c.1) C=(gZ C.toList (off+k) xs).toArray
 |[],C,off,k=>by simp[gZ]
 |
  x::xs,C,off,k=>by
  rw[List.zipIdx_cons,List.foldl_cons,FA xs _ off (k+1)];simp only[Array.toList_setIfInBounds];rfl
theorem ua {S:Wo} {place:Nat->Option (Nat×Nat)}:∀{parts:List (Nat×AV)} {vB:List (Nat×Value)} {cells cs:List AV} {C:Array Value},LV S cells C.toList->parts.length=vB.length->(∀(j:Nat) a b,parts[j]? = some a->vB[j]? = some b->a.1=b.1/\VR S a.2 b.2)->y3 place cells parts=some cs ->
 ∃C',Instr.fill place C vB=some C'/\LV S cs C'.toList
 |
  [],vB,cells,cs,C,hl,hlen,_,h=>by
  have:vB=[]:=List.length_eq_zero_iff.1 hlen.symm;subst this;simp only[y3,Option.some.injEq] at h;subst h;exact ⟨C,rfl,hl⟩
 |(i,v)::parts,[],cells,cs,C,hl,hlen,_,h=>by simp at hlen
 |
  (i,v)::parts,(i',x)::vB,cells,cs,C,hl,hlen,hp,h=>by
  obtain ⟨rfl,hv⟩:=hp 0 _ _ rfl rfl;simp only[y3] at h;split at h
  .
   rename_i off size vs hpl hvs;rw[pick2_eq] at h;split at h
   .
    rename_i hc;simp only[Bool.and_eq_true,Nat.beq_eq,Nat.ble_eq] at hc;obtain ⟨h1,h2⟩:=hc;have ia:=qQ hv hvs;have hsz:x.cells.size=size:=by have:=ia.1;simp at this;omega
    have h2':off+vs.length<=cells.length:=h2;unfold Instr.fill;simp only[hpl]
    have hcond:¬((decide (x.cells.size≠size)||decide (off+x.cells.size>C.size))=true):=by
     have hcs:cells.length=C.size:=by have:=hl.1;simpa using this
     simp;omega
    rw[if_neg hcond]
    have acA:(x.cells.zipIdx.foldl (λcs (c:Value×Nat)=>cs.setIfInBounds (off+c.2) c.1) C)=(gZ C.toList off x.cells.toList).toArray:=by
     rw[<-Array.foldl_toList,Array.toList_zipIdx];exact FA _ _ off 0
    have hl':LV S (gZ cells off vs) ((gZ C.toList off x.cells.toList).toArray).toList:=by
     rw[<-mU];exact LV.gZ vs _ off ia hl
    have:=ua (C:=(gZ C.toList off x.cells.toList).toArray) hl' (by simpa using hlen) (λj a b ha hb=>hp (j+1) a b (by simpa using ha) (by simpa using hb)) h
    rw[<-acA] at this;exact this
   cases h
  cases h
theorem vC {ps:Array (Nat×Operand)} {S:Wo} {aq:Operand->Value} (aA:∀x∈(ps.toList.map (·.2)).toArray,VR S (ev x) (aq x)):(p6 ev ps).length=(Ev.gR aq ps).length/\∀(j:Nat) a b,(p6 ev ps)[j]? = some a->(Ev.gR aq ps)[j]? = some b->a.1=b.1/\VR S a.2 b.2:=by
 refine ⟨by simp[p6,Ev.gR],λj a b ha hb=>?_⟩
 simp only[p6,Ev.gR,List.getElem?_map,Option.map_eq_some_iff] at ha hb
 obtain ⟨q,h1,rfl⟩:=ha
 obtain ⟨q',h2,rfl⟩:=hb
 rw[h1] at h2;cases h2
 refine ⟨rfl,aA q.2 ?_⟩
 have:=List.mem_of_getElem? h1
 simp only[List.mem_toArray,List.mem_map]
 exact ⟨q,this,rfl⟩
theorem wR {P:Program}:∀{fs:List Field} {pl:List (Nat×Nat)},placesOf P fs=some pl->fs.mapM (λf=>(P.info? f.type).map λi=>(f.offset,i.size))=some pl
 |[],pl,h=>by simp[placesOf] at h;subst h;rfl
 |
  f::fs,pl,h=>by
  simp only[placesOf] at h;split at h
  .
   rename_i i l hi hl;cases h;have:=wR hl;simp only[List.mapM_cons,hi,Option.map_some,this];rfl
  cases h
theorem LZ {t:TypeId} {ps:Array (Nat×Operand)} (hop:o.op = .build t ps) {k:AV->Option β} (h:H7 X t (p6 ev ps) k=some r):∃v,k v=some r/\bx X cf o ev H v H:=by
 have fin:∀cs,(∀S aq,(∀x∈(ps.toList.map (·.2)).toArray,VR S (ev x) (aq x))->∃C,X.P.built t (Ev.gR aq ps)=some C/\LV S cs C.toList)->(Ev.fj X.P t).isSome=true->bx X cf o ev H (.agg cs) H:=λcs hb hz=>.quiet λS E aq hr aA=>by
  rw[hop] at aA;obtain ⟨C,h1,h2⟩:=hb S aq aA;have hC:C=C.toList.toArray:=by simp
  refine ⟨.agg C,λcall=>?_,by rw[hC];exact .agg _ _ h2.1 h2.2⟩
  unfold opA;rw[hop];show withMem E (Ev.yh X.P t (Ev.gR aq ps))=_;unfold Ev.yh;rw[if_pos hz,h1];rfl
 unfold H7 at h
 split at h
 .
  rename_i z n e hz hu;split at h
  .
   rename_i ie SE;split at h
   .
    rename_i cs hf;obtain ⟨zv,OT,_⟩:=gj (S:=⟨λ_=>none,λ_=>none,λ_ _=>none⟩) hz
    obtain ⟨_,it,hit,XV⟩:=sI OT;refine ⟨_,h,fin cs (λS aq aA=>?_) (by rw[OT];rfl)⟩
    obtain ⟨zv',hzv',hl⟩:=gj (S:=S) hz;rw[OT] at hzv';cases hzv';obtain ⟨l1,l2⟩:=vC aA;obtain ⟨C',h1,h2⟩:=ua hl l1 l2 hf;refine ⟨C',?_,h2⟩;unfold Program.built;rw[hit,hu];simp only[XV,SE];exact h1
   cases h
  cases h
 .
  rename_i z fs hz hu;split at h
  .
   rename_i pl hpl;split at h
   .
    rename_i cs hf;obtain ⟨zv,OT,_⟩:=gj (S:=⟨λ_=>none,λ_=>none,λ_ _=>none⟩) hz
    obtain ⟨_,it,hit,XV⟩:=sI OT;refine ⟨_,h,fin cs (λS aq aA=>?_) (by rw[OT];rfl)⟩
    obtain ⟨zv',hzv',hl⟩:=gj (S:=S) hz;rw[OT] at hzv';cases hzv';obtain ⟨l1,l2⟩:=vC aA;obtain ⟨C',h1,h2⟩:=ua hl l1 l2 hf;refine ⟨C',?_,h2⟩;unfold Program.built;rw[hit,hu];simp only[XV,wR hpl];have:(λx:Nat=>pl.toArray[x]?)=λi:Nat=>pl[i]? := by funext i;simp
    rw[this];exact h1
   cases h
  cases h
 cases h
theorem za (z:Array Value) (hz:0<z.size):∀n,(List.range (n*z.size)).map (λi=>z[i%z.size]!)=(List.replicate n z.toList).flatten
 |0=>by simp
 |
  n+1=>by
  rw[List.replicate_succ',List.flatten_append,<-za z hz n,Nat.succ_mul,List.range_add,List.map_append]
  congr 1
  simp only[List.map_map,List.flatten_cons,List.flatten_nil,List.append_nil];apply List.ext_getElem
  .
   simp
  intro j h1 h2;simp only[List.length_map,List.length_range] at h1;simp only[List.getElem_map,List.getElem_range,Function.comp_apply]
  have:(n*z.size+j)%z.size=j:=by
   rw[Nat.add_comm,Nat.add_mul_mod_self_right,Nat.mod_eq_of_lt h1]
  rw[this,getElem!_pos z j h1];simp
theorem Ka {S:Wo} {z:List AV} {C:List Value} (h:LV S z C):∀n,LV S (XF n z) (List.replicate n C).flatten
 |0=>LV.nil
 |
  n+1=>by
  show LV S (z++XF n z) _;rw[List.replicate_succ,List.flatten_cons];exact h.append (Ka h n)
theorem FB {S:Wo} {e:Ty} {x:e.den} {C:List Value} (h:CR S.F e x C):∀n,fN (CR S.F e) (List.replicate n x) (List.replicate n C).flatten
 |0=>rfl
 |
  n+1=>by
  rw[List.replicate_succ,List.replicate_succ,List.flatten_cons];exact ⟨C,_,rfl,h,FB h n⟩
theorem BN {P:Program} {e:TypeId} {s n:Nat} {z:Value} (hs:Ev.aM P e=some s) (hz:Ev.fj P e=some z) (hl:z.cells.size=s):∃zs,Ev.oy P e n=some zs/\zs.toList=(List.replicate n z.cells.toList).flatten:=by
 unfold Ev.oy
 rw[hs,hz]
 simp only
 by_cases h0:n*s=0
 .
  rw[if_pos h0];refine ⟨#[],rfl,?_⟩;rcases Nat.mul_eq_zero.1 h0 with rfl|h1
  .
   simp
  have:z.cells.toList=[]:=List.length_eq_zero_iff.1 (by rw[Array.length_toList,hl,h1])
  rw[this];simp
 rw[if_neg h0]
 refine ⟨_,rfl,?_⟩
 have hpos:0<z.cells.size:=by
  rcases Nat.eq_zero_or_pos z.cells.size with h|h
  .
   rw[<-hl,h] at h0;simp at h0
  exact h
 rw[<-za z.cells hpos n,hl]
 simp
theorem OU {t:TypeId} {p q:Operand} (hop:o.op = .makeSlice t p q) {k:AV->aa->Option β} (h:su X H t (ev p) (ev q) k=some r):∃v H',k v H'=some r/\bx X cf o ev H v H':=by
 unfold su at h
 split at h
 .
  rename_i te kl l kc c hu hp hq;split at h
  .
   rename_i inf z e hi hz hty;split at h
   .
    rename_i x hun;rw[pick2_eq] at h;split at h
    .
     rename_i hcs;simp only[Bool.and_eq_true,Nat.beq_eq,Nat.ble_eq] at hcs;obtain ⟨⟨c1,c2⟩,c3⟩:=hcs;rw[pick2_eq] at h;split at h
     .
      rename_i hb;have hb:0<=l/\l<=c/\c<=1000000:=acv (n:=1000000) hb;refine ⟨_,_,h,λS E aq hr aA=>?_⟩
      rw[hop] at aA;have hx:=aA p (by simp[Op.operands])
      have hy:=aA q (by simp[Op.operands])
      rw[hp] at hx;rw[hq] at hy;obtain ⟨zv,OT,hzl⟩:=gj (S:=S) hz;have hs:Ev.aM X.P te=some inf.size:=by simp[Ev.aM,hi]
      have hzs:zv.cells.size=inf.size:=by have:=hzl.1;simp at this;omega
      obtain ⟨zs,hz1,hz2⟩:=BN (n:=c.toNat) hs OT hzs;obtain ⟨cc,m',hm,hCR,tL⟩:=kz e hun hzl;have:=tL.dM;subst this;rw[List.append_nil] at hm;have jv:∀v,S.Γ H.next v=none:=λv=>hr.A0 _ _ (Nat.le_refl _)
      obtain ⟨E',hE⟩:=Mem.eY E ⟨zs.toList,te,true,true⟩;obtain ⟨p1,p2,p3⟩:=Ev.Mem.bf hE;have hC:fN (CR S.F e) (List.replicate c.toNat x) zs.toList:=by rw[hz2,hm];exact FB hCR _
      have hlen:=hC.length (λx c=>CR.length e x c)
      rw[List.length_replicate] at hlen
      obtain ⟨a1,a2,a3⟩:=hr.add (E':=E') (r:=.list te e (List.replicate c.toNat x) 0 true false) (x:=some (E.size,c.toNat,e.size)) (g:=some ⟨e,List.replicate c.toNat x⟩) (by omega) p2 (λj hj=>by rw[p3,if_neg (by omega)]) (λr' h=>by
       cases h;exact eF (b:=⟨zs.toList,te,true,true⟩) (mid:=zs.toList) (post:=[]) jv (mj (by rw[p3,if_pos rfl]) rfl) rfl (by simp) hC hlen (by simp) (by omega) (λ_=>⟨rfl,rfl,by simp⟩)) (λy h=>by cases h;exact Nat.le_refl _) rfl
      have hv:=VR.pz (S:=S.new H.next (some (E.size,c.toNat,e.size)) (some ⟨e,List.replicate c.toNat x⟩)) H.next 0 l.toNat c.toNat E.size c.toNat e.size (if_pos rfl) ⟨e,List.replicate c.toNat x⟩ (if_pos ⟨rfl,rfl⟩) (by simp) (by omega)
      rw[Nat.zero_mul] at hv;refine ⟨_,.slice (some ⟨E.size,0,none⟩) l.toNat c.toNat,E',⟨0,λ_ _=>?_⟩,a1,hv,a2,a3⟩
      unfold opA;rw[hop];show Ev.jB X.P E t (aq p) (aq q)=_;rw[hx.bQ,hy.bQ];simp only[Ev.jB,hu,hi,hz1];rw[if_pos ⟨hb.1,hb.2.1,hb.2.2,c1⟩];unfold Ev.ox;rw[hE]
     cases h
    cases h
   cases h
  cases h
 cases h
theorem jL {S0:Wo} {H0:aa} {E:Mem}:∀{cs cs':List AV} {H H':aa} {S:Wo} {C:List Value},Rel S H E->S0.le S->St S0 H0 E S H E->LV S cs C->fM H cs=some (cs',H')->∃S',S0.le S'/\Rel S' H' E/\St S0 H0 E S' H' E/\LV S' cs' C/\S.le S'
 |
  [],cs',H,H',S,C,hr,h0,hst,hl,h=>by
  simp only[fM,Option.some.injEq,Prod.mk.injEq] at h;obtain ⟨rfl,rfl⟩:=h;exact ⟨S,h0,hr,hst,hl,S.le_refl⟩
 |
  v::cs,cs',H,H',S,C,hr,h0,hst,hl,h=>by
  obtain ⟨x,C',rfl,h1,h2⟩:=hl.cons_inv
  have plain:(∀id n,v ≠ .own id n)->∃S',S0.le S'/\Rel S' H' E/\St S0 H0 E S' H' E/\LV S' cs' (x::C')/\S.le S':=by
   intro hne;unfold fM at h;split at h
   .
    rename_i hh;cases hh
   .
    rename_i hh;cases hh;exact absurd rfl (hne _ _)
   rename_i v' r' _ hh;cases hh;split at h
   .
    rename_i r'' H'' hf;cases h;obtain ⟨S',k1,k2,k3,k4,k5⟩:=jL hr h0 hst h2 hf;exact ⟨S',k1,k2,k3,LV.cons (h1.mono k5) k4,k5⟩
   cases h
  cases v with
  |
   own id n =>
   simp only[fM] at h;split at h
   .
    rename_i t e l cw ex ro hg;split at h
    .
     rename_i r'' H'' hf;cases h;obtain ⟨S1,k1,k2,k3,k4⟩:=sD hr hg;obtain ⟨rfl,hv⟩:=k4 n x h1
     have XW:VR S1 (.bF e l) x:=by
      refine .bF e l x ?_;rcases hv with ⟨rfl,rfl⟩|⟨i,mid,post,cap,rfl,hF,hC,hcap⟩
      .
       exact .inl ⟨rfl,.inl rfl⟩
      exact .inr ⟨i,[],mid,post,cap,rfl,by simpa using hF,hC,hcap⟩
     obtain ⟨S',q1,q2,q3,q4,q5⟩:=jL k2 (Wo.le_trans h0 k1) (hst.trans k3) (h2.mono k1) hf;exact ⟨S',q1,q2,q3,LV.cons (XW.mono q5) q4,Wo.le_trans k1 q5⟩
    cases h
   cases h
  |_=>exact plain (λ_ _=>by simp)
theorem zb {t:TypeId} {len:Nat} {ps:Array (Nat×Operand)} (hop:o.op = .buildSlice t len ps) {k:AV->aa->Option β} (h:p7 X H t len (p6 ev ps) k=some r):∃v H',k v H'=some r/\bx X cf o ev H v H':=by
 unfold p7 at h
 split at h
 .
  rename_i te hu;split at h
  .
   rename_i s z e hs hz hty;rw[pick2_eq] at h;split at h
   .
    rename_i hcs;simp only[Bool.and_eq_true,Nat.beq_eq,Nat.ble_eq] at hcs;obtain ⟨⟨⟨c1,c0⟩,c2⟩,c3⟩:=hcs;split at h
    .
     rename_i cs hf;split at h
     .
      rename_i cs' H1 hfz;split at h
      .
       rename_i l hun;refine ⟨_,_,h,λS E aq hr aA=>?_⟩
       rw[hop] at aA;obtain ⟨l1,l2⟩:=vC aA;obtain ⟨zv,OT,hzl⟩:=gj (S:=S) hz;have hzs:zv.cells.size=s:=by have:=hzl.1;simp at this;omega
       obtain ⟨zs,hz1,hz2⟩:=BN (n:=len) hs OT hzs;obtain ⟨C',f1,f2⟩:=ua (C:=zs) (by rw[hz2];exact Ka hzl len) l1 l2 hf
       obtain ⟨S1,k1,k2,k3,k4,_⟩:=jL hr S.le_refl (St.refl _ _ _) f2 hfz;obtain ⟨hC,hlen⟩:=oM e len hun k4;have ia:=hC.length (λx c=>CR.length e x c)
       have jv:∀v,S1.Γ H1.next v=none:=λv=>k2.A0 _ _ (Nat.le_refl _)
       obtain ⟨E',hE⟩:=Mem.eY E ⟨C'.toList,te,true,true⟩;obtain ⟨p1,p2,p3⟩:=Ev.Mem.bf hE
       obtain ⟨a1,a2,a3⟩:=k2.add (E':=E') (r:=.list te e l 0 X.rm false) (x:=some (E.size,len,e.size)) (g:=some ⟨e,l⟩) (by omega) p2 (λj hj=>by rw[p3,if_neg (by omega)]) (λr' h=>by
        cases h;exact eF (b:=⟨C'.toList,te,true,true⟩) (mid:=C'.toList) (post:=[]) jv (mj (by rw[p3,if_pos rfl]) rfl) rfl (by simp) hC (by rw[<-hlen];exact ia) (by omega) c0 (λ_=>⟨rfl,rfl,hlen⟩)) (λy h=>by cases h;exact Nat.le_refl _) rfl
       refine ⟨_,.slice (some ⟨E.size,0,none⟩) len len,E',⟨0,λ_ _=>?_⟩,Wo.le_trans k1 a1,.own _ _ E.size len e.size (if_pos rfl) ⟨e,l⟩ (if_pos ⟨rfl,rfl⟩) hlen,a2,k3.trans a3⟩
       unfold opA;rw[hop];show Ev.fU X.P E t len (Ev.gR aq ps)=_
       have hc1:¬(len*s>2 ^ 24):=by
        have:len*s<=16777216:=c1;omega
       simp only[Ev.fU,hu,hs,hz1,if_neg hc1,f1];unfold Ev.ox;rw[hE]
      cases h
     cases h
    cases h
   cases h
  cases h
 cases h
theorem oN {aq:Operand->Value} {s d:TypeId} {x:Operand} (hop:o.op = .convert s d x) {v:Value} (hx:addrFree (aq x)=true) (hv:addrFree v=true) (h:semPure X.P (convert s d (aq x))=some v) (call:Ev.aN) (E:Mem):opA X.P call aq o E=some (v,E):=by
 have hp:pureA X.P aq o=some v:=qd (λa b=>by rw[hop];simp) (by rw[hop];simp[Ev.aQ,Op.operands,hx]) (by
  unfold execOp;rw[hop];show semPure X.P (convert s d (aq x) >>= λx=>pure (Next.value x))=_
  rw[ak,h];rfl) hv
 unfold opA;rw[hop]
 show Ev.eu X.P aq o s d (aq x) E=_
 unfold Ev.eu
 cases hq:X.P.underlying s with
 |
  none =>
  show (match orElse none (pureA X.P aq o) with|some v=>some (v,E)|none=>Ev.dc X.P E s d (aq x))=_
  rw[hp];rfl
 |
  some q =>
  show (match orElse (Ev.gS X.P d (aq x)) (pureA X.P aq o) with|some v=>some (v,E)|none=>Ev.dc X.P E s d (aq x))=_
  cases hw:Ev.gS X.P d (aq x) with
  |none=>rw[hp];rfl
  |
   some u =>
   have h1:=Ev.Bo (P:=X.P) (ρ:=λ_=>none) (Ev.aU _ hx) hw s ⟨q,hq⟩ default
   have h2:=Ev.iS (P:=X.P) _ h default
   first
    |(rw[h1.1] at h2;cases h2;rfl)
    |(rw[h1] at h2;cases h2;rfl)
theorem iZ {aq:Operand->Value} {s d:TypeId} {x:Operand} (hop:o.op = .convert s d x) {q:TypeDesc} (hq:X.P.underlying s=some q) (hw:Ev.gS X.P d (aq x)=none) (hp:pureA X.P aq o=none) (call:Ev.aN) (E:Mem):opA X.P call aq o E=Ev.dc X.P E s d (aq x):=by
 unfold opA;rw[hop]
 show Ev.eu X.P aq o s d (aq x) E=_
 unfold Ev.eu
 show (match orElse (match X.P.underlying s with|some _=>Ev.gS X.P d (aq x)|none=>none) (pureA X.P aq o) with|some v=>some (v,E)|none=>Ev.dc X.P E s d (aq x))=_
 rw[hq,hp]
 show (match orElse (Ev.gS X.P d (aq x)) none with|some v=>some (v,E)|none=>Ev.dc X.P E s d (aq x))=_
 rw[hw];rfl
theorem lO {P:Program} {o:Oper} {ev:Operand->Value} (h:semPure P (execOp ev o)=none\/Ev.aQ ev o.op=false):pureA P ev o=none:=by
 unfold pureA
 split
 .
  rfl
 rcases h with h|h
 .
  rw[h];split<;>rfl
 rw[h];rfl
theorem vD:∀(l:List Int) (acc:ByteArray),Ev.lS (l.map λn=>Value.int .u8 n) acc=some ⟨acc.data++(l.map Et).toArray⟩
 |[],acc=>by simp[Ev.lS]
 |
  n::l,acc=>by
  simp only[List.map_cons,Ev.lS,Ev.xL];rw[vD l]
  congr 2
  apply Array.toList_inj.1;simp[ByteArray.push,Et]
theorem Dz {F:Nat->Option (List Value)} {k:IntKind}:∀{l:List Int} {c:List Value},fN (CR F (.int k)) l c->c=l.map λn=>Value.int k n
 |[],_,h=>h
 |n::l,_,⟨c1,c2,e,h1,h2⟩=>by rw[e,show c1=[Value.int k n] from h1,Dz h2];rfl
theorem OV {s d:TypeId} {x:Operand} (hop:o.op = .convert s d x) {k:AV->aa->Option β} (h:y4 X H s d (ev x) k=some r):∃v H',k v H'=some r/\bx X cf o ev H v H':=by
 unfold y4 at h
 split at h
 .
  rename_i k0 k1 k2 n hu1 hu2 hp;refine ⟨_,_,h,.quiet λS E aq hr aA=>?_⟩
  rw[hop] at aA;have hx:=aA x (by simp[Op.operands])
  rw[hp] at hx;have ex:=hx.bQ;refine ⟨.int k1 (k1.wrap n),λcall=>oN hop (by rw[ex];rfl) rfl ?_ call E,.int _ _⟩
  rw[ex];unfold convert;rw[ak,az hu1];simp only[Option.bind_some];rw[ak,az hu2];rfl
 .
  rename_i s0 hu1 hu2 hp;refine ⟨_,_,h,.quiet λS E aq hr aA=>?_⟩
  rw[hop] at aA;have hx:=aA x (by simp[Op.operands])
  rw[hp] at hx;have ex:=hx.ef;refine ⟨.string ⟨s0.toArray⟩,λcall=>oN hop (by rw[ex];rfl) rfl ?_ call E,.str _⟩
  rw[ex];unfold convert;rw[ak,az hu1];simp only[Option.bind_some];rw[ak,az hu2];rfl
 .
  rename_i te s0 hu1 hu2 hp;split at h
  .
   rename_i C9 SD;rw[pick2_eq] at h;split at h
   case isFalse=>cases h
   rename_i hcap;have hcap:=Nat.le_of_ble_eq_true hcap;refine ⟨_,_,h,λS E aq hr aA=>?_⟩
   rw[hop] at aA;have hx:=aA x (by simp[Op.operands])
   rw[hp] at hx;have ex:=hx.ef;have jv:∀v,S.Γ H.next v=none:=λv=>hr.A0 _ _ (Nat.le_refl _)
   have hC:∀s:List UInt8,fN (CR S.F (.int .u8)) (s.map aF) (s.map λb=>Value.int .u8 b.toNat):=λs=>by
    induction s with
    |nil=>rfl
    |cons b s ih=>exact ⟨[_],_,rfl,rfl,ih⟩
   obtain ⟨E',hE⟩:=Mem.eY E ⟨s0.map λb=>.int .u8 b.toNat,te,true,false⟩
   obtain ⟨p1,p2,p3⟩:=Ev.Mem.bf hE
   obtain ⟨a1,a2,a3⟩:=hr.add (E':=E') (r:=.list te (.int .u8) (s0.map aF) 0 false false) (x:=some (E.size,s0.length,1)) (g:=some ⟨.int .u8,s0.map aF⟩) (by omega) p2 (λj hj=>by rw[p3,if_neg (by omega)]) (λr' h=>by
    cases h;exact eF (b:=⟨s0.map λb=>.int .u8 b.toNat,te,true,false⟩) (mid:=s0.map λb=>.int .u8 b.toNat) (post:=[]) jv (mj (by rw[p3,if_pos rfl]) rfl) rfl (by simp) (hC s0) (by simp[Ty.size]) (by simp) hcap (λh=>by cases h)) (λy h=>by cases h;exact Nat.le_refl _) rfl
   refine ⟨_,.slice (some ⟨E.size,0,none⟩) s0.length s0.length,E',⟨0,λ_ _=>?_⟩,a1,.own _ _ E.size s0.length 1 (if_pos rfl) ⟨.int .u8,s0.map aF⟩ (if_pos ⟨rfl,rfl⟩) (by simp),a2,a3⟩
   rw[iZ hop hu1 (by rw[ex];simp only[Ev.gS,hu2]) (lO (.inl ?_)),ex]
   .
    simp only[Ev.dc,hu1,hu2,C9,SD];unfold Ev.eo;have:(⟨s0.toArray⟩:ByteArray).size=s0.length:=by simp[ByteArray.size]
    rw[this,hE]
   unfold execOp;rw[hop];show semPure X.P (convert s d (aq x) >>= λx=>pure (Next.value x))=_
   rw[ak,ex];unfold convert;rw[ak,az hu1];simp only[Option.bind_some];rw[ak,az hu2];simp only[Option.bind_some];rw[ak,az C9];rfl
  cases h
 .
  cases h
 .
  rename_i _ te hu1 hu2 hne;split at h
  .
   rename_i C9;split at h
   .
    rename_i l hv;refine ⟨_,_,h,.quiet λS E aq hr aA=>?_⟩
    rw[hop] at aA;have hx:=aA x (by simp[Op.operands])
    have e8:Ev.gS X.P d (aq x)=none:=by simp only[Ev.gS,hu2]
    obtain ⟨l1,l2⟩:=y7 hr hv hx;obtain ⟨c,c1,c2⟩:=l2 l.length (Nat.le_refl _);rw[List.take_length] at c2;have hc:=Dz c2;refine ⟨.string ⟨(l.map Et).toArray⟩,λcall=>?_,.str _⟩
    generalize hA:aq x=A at *;unfold Ev.rY at l1;split at l1
    .
     rename_i a n cap;cases l1;cases a with
     |
      none =>
      have h0:l=[]:=by
       simp only[Ev.cK] at c1;split at c1
       .
        rename_i h0;exact List.length_eq_zero_iff.1 h0
       cases c1
      subst h0;refine oN hop (by rw[hA];rfl) rfl ?_ call E
      rw[hA];unfold convert;rw[ak,az hu1];simp only[Option.bind_some];rw[ak,az hu2];simp only[Option.bind_some];rw[ak,az C9];rfl
     |
      some ad =>
      obtain ⟨i,off,sp⟩:=ad;cases sp with
      |
       some q =>
       have h0:l=[]:=by
        simp only[Ev.cK] at c1;split at c1
        .
         rename_i h0;exact List.length_eq_zero_iff.1 h0
        cases c1
       subst h0;rw[iZ (aq:=aq) hop hu1 (by rw[hA];exact e8) (lO (.inr (by rw[hop];simp[Ev.aQ,Op.operands,hA,addrFree]))),hA]
       simp only[Ev.dc,hu1,hu2,C9];rfl
      |
       none =>
       rw[iZ (aq:=aq) hop hu1 (by rw[hA];exact e8) (lO (.inr (by rw[hop];simp[Ev.aQ,Op.operands,hA,addrFree]))),hA]
       have c1':Ev.bT E i off l.length=some c:=by simpa[Ev.cK,Ty.size] using c1
       simp only[Ev.dc,hu1,hu2,C9,c1'];rw[hc,vD];simp
    .
     rename_i s0;generalize ev x=a at hx hv hne;cases hx with
     |str s1=>exact absurd rfl (hne s1)
     |bF e l v hs=>rcases hs with ⟨_,hs|hs⟩|⟨_,_,_,_,_,hs,_⟩<;>cases hs
     |xR v hf=>cases hv
     |fl a v h=>cases hv
     |cx a b v h=>cases hv
     |iC v=>cases hv
    cases l1
   cases h
  cases h
 .
  rename_i te S7 id n hu1 hu2 hp;split at h
  .
   rename_i t' e l cw ex ro hg C9;rw[pick2_eq] at h;split at h
   .
    rename_i hcond;simp only[Bool.and_eq_true,Nat.beq_eq,Nat.ble_eq] at hcond;obtain ⟨⟨hmay,rfl⟩,h1⟩:=hcond;rw[hu1] at hu2;cases hu2;refine ⟨_,_,h,.quiet λS E aq hr aA=>?_⟩
    rw[hop] at aA;have hx:=aA x (by simp[Op.operands])
    rw[hp] at hx;generalize hA:aq x=A at hx;obtain ⟨q1,⟨q2,g2,q3,q4⟩,q5⟩:=hr.row id _ hg;cases hx with
    |
     own _ _ i cap s hρ g hg' hn =>
     rcases q5 with ⟨_,q6,_⟩|⟨i',cap',b,mid,post,k1,k2,k3,k4,k5,k6,k7,k8,k9⟩
     .
      rw[hρ] at q6;cases q6
     rw[hρ] at k1;cases k1;have hmay':H.lk<=id:=by simpa[aa.ju,Nat.ble_eq] using hmay
     have hlk:=hr.lk id _ _ hg hmay' hρ;refine ⟨_,λcall=>?_,.own _ _ i cap _ hρ g hg' hn⟩
     rw[iZ (aq:=aq) hop hu1 (by simp only[Ev.gS,hu1]) (lO (.inr (by rw[hop];simp[Ev.aQ,Op.operands,hA,addrFree]))),hA]
     have hb:(Nat.ble E.lk i&&Nat.beq s s)=true:=by simp[Nat.ble_eq,hlk]
     simp only[Ev.dc,hu1,k2,C9];rw[pick2_eq,if_pos (by simp[Nat.ble_eq,hlk])]
    |cQ _ g hg' hn=>omega
   cases h
  cases h
 .
  rename_i te id hu1 hu2 hp;split at h
  .
   rename_i t' c0 cs0 n hg hn;rw[pick2_eq] at h;split at h
   .
    rename_i hle;refine ⟨_,_,h,.quiet λS E aq hr aA=>?_⟩
    rw[hop] at aA;have hx:=aA x (by simp[Op.operands])
    rw[hp] at hx;generalize hA:aq x=A at hx;cases hx with
    |
     ptr _ _ i c s0 hρ =>
     obtain ⟨i',c',s',b,k1,k2,k3,k4,k5⟩:=hr.row id _ hg;rw[hρ] at k1;cases k1;refine ⟨_,λcall=>?_,.ptr _ _ i c s0 hρ⟩
     rw[iZ (aq:=aq) hop hu1 (by simp only[Ev.gS,hu2]) (lO (.inr (by rw[hop];simp[Ev.aQ,Op.operands,hA,addrFree]))),hA]
     have hlen:Nat.ble 1 b.cells.length=true:=by rw[<-k3.1];simp
     simp only[Ev.dc,hu1,hu2,k2,hn,hle,hlen,Bool.and_self,pick2_eq,if_true]
   cases h
  cases h
 .
  rename_i u id hu1 hu2 hp;split at h
  .
   rename_i t' cs0 n hg hn;rw[pick2_eq] at h;split at h
   .
    rename_i hlies;refine ⟨_,_,h,.quiet λS E aq hr aA=>?_⟩
    rw[hop] at aA;have hx:=aA x (by simp[Op.operands])
    rw[hp] at hx;generalize hA:aq x=A at hx;cases hx with
    |
     ptr _ _ i c s0 hρ =>
     obtain ⟨i',c',s',b,k1,k2,k3,k4,k5⟩:=hr.row id _ hg;rw[hρ] at k1;cases k1;refine ⟨_,λcall=>?_,.ptr _ _ i c s0 hρ⟩
     rw[iZ (aq:=aq) hop hu1 (by simp only[Ev.gS,hu2]) (lO (.inr (by rw[hop];simp[Ev.aQ,Op.operands,hA,addrFree]))),hA]
     have hl:liesAt X.P X.P.depth b.elem (b.cells.length/X.P.cellsOf b.elem) 0 u 1=true:=by rw[k4,<-k3.1];exact hlies
     simp only[Ev.dc,hu1,hu2,k2,hn,k5,hl,Bool.and_self,pick2_eq,if_true]
   cases h
  cases h
 cases h
theorem A3 {c:Call} {x:Operand} (hop:o.op = .call c) (hc:c.callee = .builtin .unsafeSliceData) (ha:c.args.toList=[x]) {k:AV->Option β} (h:sw H (ev x) k=some r):∃v,k v=some r/\bx X cf o ev H v H:=by
 have mem:x∈(Op.call c).operands:=by
  have:x∈c.args:=by rw[<-Array.mem_toList_iff,ha];simp
  simp only[Op.operands,Call.operands,hc]
  simpa using this
 have run:∀{aq:Operand->Value} {v:Value} {E:Mem} (call:Ev.aN),Ev.oz (aq x)=some v->opA X.P call aq o E=some (v,E):=by
  intro aq v E call hv;unfold opA;rw[hop];show Ev.bp X.P call aq o c E=_;unfold Ev.bp;rw[hc];show Ev.iN aq c.args E=_;unfold Ev.iN;rw[ha];simp only[hv];rfl
 unfold sw at h
 split at h
 .
  rename_i hp;refine ⟨_,h,.quiet λS E aq hr aA=>?_⟩
  rw[hop] at aA;have hx:=aA x mem;rw[hp] at hx;generalize hA:aq x=A at hx;cases hx;exact ⟨_,λcall=>run call (by rw[hA];rfl),.je⟩
 .
  rename_i id n hp;split at h
  .
   rename_i t e l cw ex ro hg;rw[pick2_eq] at h;split at h
   .
    rename_i h1;have h1:=Nat.le_of_ble_eq_true h1;refine ⟨_,h,.quiet λS E aq hr aA=>?_⟩
    rw[hop] at aA;have hx:=aA x mem;rw[hp] at hx;generalize hA:aq x=A at hx;obtain ⟨q1,⟨q2,g2,q3,q4⟩,q5⟩:=hr.row id _ hg;cases hx with
    |
     own _ _ i cap s hρ g hg' hn =>
     rw[q3] at hg';cases hg';refine ⟨_,λcall=>run call ?_,.dat id i cap s hρ⟩
     rcases q5 with ⟨_,q6,_⟩|⟨i',cap',b,mid,post,k1,k2,k3,k4,k5,k6,k7,k8,k9⟩
     .
      rw[hρ] at q6;cases q6
     rw[hρ] at k1;cases k1;rw[hA];unfold Ev.oz;have:Nat.beq cap 0=false:=by rw[<-Bool.not_eq_true,Nat.beq_eq];omega
     simp only[this]
    |cQ _ g hg' hn=>omega
   cases h
  cases h
 cases h
theorem L3 (k:IntKind):∀l:List Int,((l.map λn=>Value.int k n).any Ev.jf)=false
 |[]=>rfl
 |n::l=>by simp[Ev.jf]
theorem BO:∀l:List Int,l.all Fq=true->(l.map λn=>Value.int .u8 n).all Ev.tq=true
 |[],_=>rfl
 |
  n::l,h=>by
  simp only[List.all_cons,Bool.and_eq_true] at h;simp only[List.map_cons,List.all_cons,Bool.and_eq_true];refine ⟨?_,BO l h.2⟩;cases n with
  |ofNat m=>exact h.1
  |negSucc m=>exact absurd h.1 (by simp[Fq])
theorem OW {c:Call} {p n:Operand} {pt it:TypeId} (hop:o.op = .call c) (hc:c.callee = .builtin .unsafeString) (ha:c.args.toList=[p,n]) (cH:c.argTypes.toList=[pt,it]) {k:AV->aa->Option β} (h:Ow X H pt (ev p) (ev n) k=some r) :
 ∃v H',k v H'=some r/\bx X cf o ev H v H':=by
 have mem:∀y,y=p\/y=n->y∈(Op.call c).operands:=by
  intro y hy;have:y∈c.args:=by rw[<-Array.mem_toList_iff,ha];rcases hy with rfl|rfl<;>simp
  simp only[Op.operands,Call.operands,hc]
  simpa using this
 have run:∀{aq:Operand->Value} {v:Value} {E E':Mem} (call:Ev.aN),Ev.yo X.P E pt (aq p) (aq n)=some (v,E')->opA X.P call aq o E=some (v,E'):=by
  intro aq v E E' call hv;unfold opA;rw[hop];show Ev.bp X.P call aq o c E=_;unfold Ev.bp;rw[hc];show Ev.uS X.P aq c.args c.argTypes E=_;unfold Ev.uS;rw[ha,cH];exact hv
 unfold Ow at h
 split at h
 .
  rename_i m hp hn;rw[pick2_eq] at h;split at h
  .
   rename_i h0;have h0:m=0:=by rw[Ev.eqI_spec] at h0;simpa using h0
   subst h0;refine ⟨_,_,h,λS E aq hr aA=>?_⟩
   rw[hop] at aA;have hx:=aA p (mem p (.inl rfl));have hy:=aA n (mem n (.inr rfl));rw[hp] at hx;rw[hn] at hy;have ey:=hy.bQ;generalize hA:aq p=A at hx;cases hx;exact ⟨S,.string .empty,E,⟨0,λ_ _=>run _ (by rw[hA,ey];rfl)⟩,S.le_refl,.str [],hr,St.refl _ _ _⟩
  cases h
 .
  rename_i id m e hp hn hu;split at h
  .
   rename_i t l cw ex hg;rw[pick2_eq] at h;split at h
   .
    rename_i hcond;simp only[Bool.and_eq_true,Nat.beq_eq,Nat.ble_eq] at hcond;obtain ⟨⟨⟨⟨⟨⟨hmay,rfl⟩,hco⟩,h1⟩,h2⟩,hm⟩,hby⟩:=hcond;have hm:m=(l.length:Int):=by rw[Ev.eqI_spec] at hm;simpa using hm
    subst hm;refine ⟨_,_,h,λS E aq hr aA=>?_⟩
    rw[hop] at aA;have hx:=aA p (mem p (.inl rfl));have hy:=aA n (mem n (.inr rfl));rw[hp] at hx;rw[hn] at hy;have ey:=hy.bQ;generalize hA:aq p=A at hx;obtain ⟨q1,⟨q2,g2,q3,q4⟩,q5⟩:=hr.row id _ hg;cases hx with
    |
     dat _ i c1 s1 hρ =>
     rcases q5 with ⟨q5,_,_⟩|⟨i',cap',b,mid,post,k1,k2,k3,k4,k5,k6,k7,k8,k9⟩
     .
      rw[q5] at h1;simp at h1
     rw[hρ] at k1;cases k1;have hmay':H.lk<=id:=by simpa[aa.ju,Nat.ble_eq] using hmay
     have hlk:=hr.lk id _ _ hg hmay' hρ;have hmid:=Dz k5;have hml:mid.length=l.length:=by rw[hmid];simp
     have hread:Ev.bT E i 0 l.length=some mid:=by
      unfold Ev.bT;rw[k2];simp only;have e0:0+l.length<=b.cells.length:=by rw[k4,List.length_append];omega
      have e1:(b.cells.drop 0).take l.length=mid:=by rw[k4,List.drop_zero,<-hml];simp
      rw[if_pos e0,e1,hmid,L3]
     obtain ⟨E1,hE1⟩:=Mem.dD (b:={ b with live:=false,fix:=false }) (fy k2) hlk
     have bM:Ev.kill E i=some E1:=by unfold Ev.kill;rw[(alive_some k2).1];exact hE1
     obtain ⟨z1,z2,z3,z4,z5⟩:=Ev.iQ bM;obtain ⟨m1,m2⟩:=hr.mod (S':=S) (E':=E1) (r':=.dead) hg rfl S.le_refl rfl (λ_ _ _=>rfl) z1 z2 (λj hj=>z4 j (hj _ hρ)) (λj cs h=>.inl h) (λq hq=>by cases hq)
     refine ⟨S,.string ⟨(l.map Et).toArray⟩,E1,⟨0,λ_ _=>run _ ?_⟩,S.le_refl,.str _,m1,m2⟩
     obtain ⟨k',hk'⟩:∃k',l.length=k'+1:=⟨l.length-1,by omega⟩
     rw[hA,ey,hk'];show Ev.yo X.P E pt (.pointer (some ⟨i,0,none⟩)) (.int .i64 (.ofNat (k'+1)))=_
     have XX:((b.elem==t)&&Nat.beq (X.P.cellsOf t) 1&&Nat.ble (k'+1) 1000000&&mid.all Ev.tq)=true:=by
      rw[hmid,BO l hby];have:k'+1<=1000000:=by omega
      simp[k3,hco,Nat.ble_eq];omega
     unfold Ev.yo;rw[hk'] at hread;simp only[hu,k2,hread,XX,pick2_eq,if_true,bM];rw[hmid,vD];simp
   cases h
  cases h
 cases h
end
end Go.Tv

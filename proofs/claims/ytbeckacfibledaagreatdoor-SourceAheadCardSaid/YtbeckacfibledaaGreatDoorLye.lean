/- The layer's operations beside the evaluator's: slices, rows. The layer's operations beside the evaluator's: those that write. The layer's operations beside the evaluator's: append, copy, slices that go on owning. The layer's operations beside the evaluator's: new rows, structs, conversions. -/
import Derived.Test.YtbeckacfibledaaGreatDoorLyd
set_option linter.unusedVariables false
set_option linter.unusedSimpArgs false

namespace Go.Tv
open Go.Ev (Tr ah iG Mem jC alive au dF bF gM jn aZ cB orElse)
section
variable {X:gY} {cf:Nat×Nat->Ev.cG} {o:Oper} {ev:Operand->AV} {H:aG} {β:Type} {r:β}
theorem z6 {α:Type}{R:α->List Value->Prop}{s:Nat}(hR:∀x c,R x c->c.length=s)(hJ:∀(l:List α) c,mN R l c->c.any Ev.pg=false){E:Mem}{i:Nat}{b:jC}{pre mid post:List Value}{l:List α}(hb:alive E i=some b)(hc:b.cells=pre++(mid++post))(hl:mN R l mid)(a m:Nat)(hm:a+m<=l.length) :
 ∃c,Ev.fU E i (pre.length+a*s) (m*s)=some c/\mN R ((l.drop a).take m) c:=by
 obtain⟨c1,c2,e1,k1,k2⟩:=hl.split hR a;obtain⟨c3,c4,e2,k3,k4⟩:=k2.split hR m;have l1:=k1.length hR;have l3:=k3.length hR;have t1:(l.take a).length=a:=by simp;omega
 have t3:((l.drop a).take m).length=m:=by simp;omega
 rw[t1]at l1;rw[t3]at l3;refine⟨c3,?_,k3⟩;have hcs:b.cells=(pre++c1)++(c3++(c4++post)):=by rw[hc,e1,e2];simp
 unfold Ev.fU;rw[hb];have hlen:pre.length+a*s=(pre++c1).length:=by simp[l1]
 simp only[hlen,hcs,mL];rw[ag (by simp;omega),<-l3,o8,hJ _ _ k3]
theorem Ee {S:Wo}{E:Mem}(hr:Rel S H E){e:Ty}{v:AV}{l:List e.den}(h:Ci H e v=some l){x:Value}(hx:VR S v x) :
 Ev.vP x=some l.length/\∀m,m<=l.length->∃c,Ev.iM E e.size m x=some c/\mN (CR S.F e) (l.take m) c:=by
 have hR:∀x c,CR S.F e x c->c.length=e.size:=λx c=>CR.length e x c
 unfold Ci at h;split at h
 .rename_i e' l';obtain⟨he,hc⟩:=bS h;subst he;have hc:l'=l:=hc;subst hc;cases hx with
  |dH _ _ _ hS =>
   rcases hS with⟨rfl,rfl|rfl⟩|⟨i0,pre,mid,post,cap,rfl,hF,hC,hcap⟩
   .exact ⟨rfl,λm hm=>⟨[],by simp at hm;simp[Ev.iM,hm],by simp[mN]⟩⟩
   .exact ⟨rfl,λm hm=>⟨[],by simp at hm;simp[Ev.iM,Ev.vd,hm],by simp[mN]⟩⟩
   refine⟨rfl,λm hm=>?_⟩;obtain⟨b,k1,k2⟩:=hr.fz i0 _ hF;obtain⟨c,h1,h2⟩:=z6 hR (λ_ _ h=>h.oI) k1 k2 hC 0 m (by omega);exact⟨c,by simpa[Ev.iM] using h1,by simpa using h2⟩
 .cases h;cases hx;exact⟨rfl,λm hm=>⟨[],by simp at hm;simp[Ev.iM,hm],by simp[mN]⟩⟩
 .rename_i id n;split at h
  .rename_i t' e' l' gw ex ro hg;obtain⟨he,hc⟩:=bS h;subst he;have hc:l'=l:=hc;subst hc;obtain⟨g1,⟨_,g,g2,g2'⟩,g3⟩:=hr.row id _ hg;cases hx with
   |own _ _ i0 p7 s0 hρ g' hg' hn' =>
    rw[g2]at hg';cases hg';rcases g3 with⟨_,g5,_⟩|⟨i',cap,b,mid,post,q1,q2,q3,q4,q5,q6,q7,q8,q9,yb⟩
    .rw[hρ]at g5;cases g5
    rw[hρ]at q1;cases q1;refine⟨by simp[Ev.vP];omega,λm hm=>?_⟩;obtain⟨c,h1,h2⟩:=z6 (pre:=[]) hR (λ_ _ h=>h.oI) q2 q4 q5 0 m (by omega);exact⟨c,by simpa[Ev.iM] using h1,by simpa using h2⟩
   |fZ _ g' hg' hn' =>
    rw[g2]at hg';cases hg';have h0:l'.length=0:=by omega
    exact⟨by simp[Ev.vP];omega,λm hm=>⟨[],by simp[Ev.iM];omega,by rw[aQ.1 h0];simp[mN]⟩⟩
  cases h
 .rename_i id off len Lf;split at h
  .rename_i t' e' l' gw ex ro hg;split at h
   .rename_i l2 n9;cases h;obtain⟨he,hc⟩:=bS n9;subst he;have hc:l'=l2:=hc;subst hc;obtain⟨g1,⟨_,g,g2,g2'⟩,g3⟩:=hr.row id _ hg;cases hx with
    |rF _ _ _ _ i0 c0 s0 hρ g' hg' hcc Lg =>
     rw[g2]at hg';cases hg';have hlen:((l'.drop off).take len).length=len:=by simp;omega
     rcases g3 with⟨_,g5,_⟩|⟨i',cap,b,mid,post,q1,q2,q3,q4,q5,q6,q7,q8,q9,yb⟩
     .rw[hρ]at g5;cases g5
     rw[hρ]at q1;cases q1;refine⟨by rw[hlen];rfl,λm hm=>?_⟩;rw[hlen]at hm;obtain⟨c,h1,h2⟩:=z6 (pre:=[]) hR (λ_ _ h=>h.oI) q2 q4 q5 off m (by omega);refine⟨c,by simpa[Ev.iM] using h1,?_⟩;rw[o9,gp hm];exact h2
   cases h
  cases h
 .rename_i s;obtain⟨he,hc⟩:=bS h;subst he;have hc:s.map cY=l:=hc;subst hc;rw[hx.jr];refine⟨by simp[Ev.vP,ByteArray.size],λm hm=>?_⟩;have hm':m<=s.length:=by simpa using hm
  refine⟨(s.take m).map λb=>.int .u8 b.toNat,?_,?_⟩
  .simp only[Ev.iM];rw[ag ⟨rfl,by simpa[ByteArray.size] using hm'⟩];simp[ByteArray.data_extract,iU,gi]
  have:∀s:List UInt8,mN (CR S.F (.int .u8)) (s.map cY) (s.map λb=>Value.int .u8 b.toNat):=λs=>by
   induction s with
   |nil=>rfl
   |cons b s ih=>exact⟨[_],_,rfl,rfl,ih⟩
  rw[<-List.map_take];exact this _
 cases h
theorem aeP {a:Int}{n:Nat}(h:(!Ev.bB a 0 && !Ev.bB (Int.ofNat n) a)=true):0<=a/\a<=n:=by
 simp only[Ev.cA,ak,aS,bH,dU]at h;omega
theorem ajI {a b:Int}{n:Nat}(h:(!Ev.bB a 0 && !Ev.bB b a && !Ev.bB (Int.ofNat n) b)=true):0<=a/\a<=b/\b<=n:=by
 simp only[Ev.cA,ak,aS,bH,dU]at h;omega
theorem ZG {a:Int}{n:Nat}(h:(Ev.bI a 0||Ev.bB a (Int.ofNat n))=true):a=0\/a<n:=by
 simp only[Ev.cA,Ev.eF,cI,eK,aV,dU]at h;exact h
inductive BR (ev:Operand->AV)(d:Int):Option Operand->Int->Prop where
 |none:BR ev d none d
 |some (x k a) (h:ev x = .int k a):BR ev d (some x) a
theorem oU {len cap:Nat}{lo hi:Option Operand}{k:Int->Int->Option β}(h:qn len cap (lo.map ev) (hi.map ev) k=some r):∃a b,k a b=some r/\0<=a/\a<=b/\(len<=cap->b<=cap)/\BR ev 0 lo a/\BR ev len hi b:=by
 cases lo with
 |none =>
  cases hi with
  |none=>exact⟨0,len,h,by omega,by omega,λ_=>by omega,.none,.none⟩
  |some y =>
   simp only[eS,bL]at h;unfold qn at h;split at h
   .rename_i h1 h2;cases h2
   .rename_i h1 h2;cases h1
   .rename_i kk b h1 h2;rw[au]at h;split at h
    .rename_i hb;have hb:=aeP hb;exact⟨0,b,h,by omega,hb.1,λ_=>hb.2,.none,.some y kk b (by simpa using h2)⟩
    cases h
   .rename_i h1 h2;cases h1
   cases h
 |some x =>
  cases hi with
  |none =>
   simp only[eS,bL]at h;unfold qn at h;split at h
   .rename_i h1 h2;cases h1
   .rename_i kk a h1 h2;rw[au]at h;split at h
    .rename_i hb;have hb:=aeP hb;exact⟨a,len,h,hb.1,hb.2,λ_=>by omega,.some x kk a (by simpa using h1),.none⟩
    cases h
   .rename_i h1 h2;cases h2
   .rename_i h1 h2;cases h2
   cases h
  |some y =>
   simp only[bL]at h;unfold qn at h;split at h
   .rename_i h1 h2;cases h1
   .rename_i h1 h2;cases h2
   .rename_i h1 h2;cases h1
   .rename_i k1 a k2 b h1 h2;rw[au]at h;split at h
    .rename_i hb;have hb:=ajI hb;exact⟨a,b,h,hb.1,hb.2.1,λ_=>hb.2.2,.some x k1 a (by simpa using h1),.some y k2 b (by simpa using h2)⟩
    cases h
   cases h
theorem tM {S:Wo}{bA:Operand->Value}{d:Int}{x:Option Operand}{a:Int}(h:BR ev d x a)(cg:∀y,x=some y->VR S (ev y) (bA y)):(x=none/\a=d)\/∃y k,x=some y/\bA y = .int k a:=by
 cases h with
 |none=>exact .inl ⟨rfl,rfl⟩
 |some y k _ hy=>exact .inr ⟨y,k,rfl,by have:=cg y rfl;rw[hy]at this;exact this.fQ⟩
theorem rV {k:IntKind}{a:Int}{y:Nat}(h0:0<=a)(h1:a<=y):Ev.nQ (.int k a) y=some a.toNat:=by
 simp only[Ev.nQ,h0,h1,and_self,fF]
theorem oV {P:Program}{S:Wo}{bA:Operand->Value}{t te:TypeId}{s:Nat}(hu:P.underlying t=some (.slice te))(hs:Ev.cQ P te=some s){lo hi:Option Operand}{a b:Int}{len cap:Nat}(ha:BR ev 0 lo a)(hb:BR ev len hi b)(h0:0<=a)(h1:a<=b)(h2:b<=cap)
 (hlo:∀y,lo=some y->VR S (ev y) (bA y)) (hhi:∀y,hi=some y->VR S (ev y) (bA y)) (x:Option Addr) (hx:x=none\/∃i off,x=some ⟨i,off,none⟩) (hac:a=0\/a<cap) :
 Ev.kN P t (.slice x len cap) (lo.map bA) (hi.map bA)=some (.slice (x.map λz=>⟨z.block,z.off+a.toNat*s,none⟩) (b.toNat-a.toNat) (cap-a.toNat)):=by
 have c1:∀k,Ev.nQ (.int k b) cap=some b.toNat:=λk=>rV (by omega) h2
 have c2:∀k,Ev.nQ (.int k a) b.toNat=some a.toNat:=λk=>rV h0 (by omega)
 have c3:¬((a.toNat=cap/\a.toNat≠0)\/cap<a.toNat):=by omega
 rcases tM ha hlo with⟨rfl,rfl⟩|⟨z,kk,rfl,hz⟩<;>rcases tM hb hhi with⟨rfl,U3⟩|⟨z',kk',rfl,hz'⟩<;>rcases hx with rfl|⟨i,off,rfl⟩
 .obtain rfl:b=len:=U3;simp[Ev.kN,hu,hs]
 .obtain rfl:b=len:=U3;have c4:¬(cap<0):=by omega
  simp[Ev.kN,hu,hs,c4]
 .simp[Ev.kN,hu,hs,hz',c1]
 .simp[Ev.kN,hu,hs,hz',c1]
 .obtain rfl:b=len:=U3;simp only[bg]at c2;simp[Ev.kN,hu,hs,hz,c2]
 .obtain rfl:b=len:=U3;simp only[bg]at c2;simp only[Ev.kN,hu,hs,eS,bL,hz,c2,aa c3,bg]
 .simp[Ev.kN,hu,hs,hz,hz',c1,c2]
 simp only[Ev.kN,hu,hs,bL,hz,hz',c1,c2,aa c3]
theorem Lh {P:Program}{S:Wo}{bA:Operand->Value}{t te:TypeId}{s:Nat}(hu:P.underlying t=some (.slice te))(hs:Ev.cQ P te=some s){lo hi:Option Operand}{a b:Int}(ha:BR ev 0 lo a)(hb:BR ev (0:Nat) hi b)(h0:0<=a)(h1:a<=b)(h2:b<=(0:Nat))
 (hlo:∀y,lo=some y->VR S (ev y) (bA y)) (hhi:∀y,hi=some y->VR S (ev y) (bA y)) :
 Ev.kN P t Ev.vd (lo.map bA) (hi.map bA)=some (.slice (some ⟨0,0,some 0⟩) (b.toNat-a.toNat) (0-a.toNat)):=by
 have z1:b.toNat=0:=by omega
 have z2:a.toNat=0:=by omega
 have c1:∀k,Ev.nQ (.int k b) 0=some 0:=λk=>by have:=rV (k:=k) (show 0<=b by omega) h2;rwa[z1]at this
 have c2:∀k,Ev.nQ (.int k a) 0=some 0:=λk=>by have:=rV (k:=k) h0 (show a<=(0:Nat) by omega);rwa[z2]at this
 unfold Ev.vd;rw[z1,z2];rcases tM ha hlo with⟨rfl,rfl⟩|⟨z,kk,rfl,hz⟩<;>rcases tM hb hhi with⟨rfl,U3⟩|⟨z',kk',rfl,hz'⟩
 .simp[Ev.kN,hu,hs]
 .simp[Ev.kN,hu,hs,hz',c1]
 .simp[Ev.kN,hu,hs,hz,c2]
 simp[Ev.kN,hu,hs,hz,hz',c1,c2]
theorem Li {P:Program}{S:Wo}{bA:Operand->Value}{t te:TypeId}{s n:Nat}(hu:P.underlying t=some (.array n te))(hs:Ev.cQ P te=some s){lo hi:Option Operand}{a b:Int}(ha:BR ev 0 lo a)(hb:BR ev n hi b)(h0:0<=a)(h1:a<=b)(h2:b<=n)
 (hlo:∀y,lo=some y->VR S (ev y) (bA y)) (hhi:∀y,hi=some y->VR S (ev y) (bA y)) {E:Mem} {i:Nat} {k:jC} (hk:alive E i=some k) (Kx:k.fix=true) (hac:a=0\/a<n) :
 Ev.qv P E t (.pointer (some ⟨i,0,none⟩)) (lo.map bA) (hi.map bA)=some (.slice (some ⟨i,a.toNat*s,none⟩) (b.toNat-a.toNat) (n-a.toNat)):=by
 have c1:∀k,Ev.nQ (.int k b) n=some b.toNat:=λk=>rV (by omega) h2
 have c2:∀k,Ev.nQ (.int k a) b.toNat=some a.toNat:=λk=>rV h0 (by omega)
 have c3:ah (Nat.beq n a.toNat) 0 (Nat.add 0 (Nat.mul a.toNat s))=a.toNat*s:=by
  rw[au];split
  .rename_i hn;simp only[aO]at hn;have:a.toNat=0:=by omega
   rw[this];simp
  show 0+a.toNat*s=_;omega
 rcases tM ha hlo with⟨rfl,rfl⟩|⟨z,kk,rfl,hz⟩<;>rcases tM hb hhi with⟨rfl,U3⟩|⟨z',kk',rfl,hz'⟩
 .obtain rfl:b=n:=U3;simp only[mK]at c3;simp only[Ev.qv,hu,hs,hk,Kx,eS,c3,mK,bg]
 .simp only[mK]at c3;simp only[Ev.qv,hu,hs,hk,Kx,eS,bL,hz',c1,c3,mK]
 .obtain rfl:b=n:=U3;simp only[bg]at c2;simp only[Ev.qv,hu,hs,hk,Kx,eS,bL,hz,c2,c3,bg]
 simp only[Ev.qv,hu,hs,hk,Kx,bL,hz,hz',c1,c2,c3]
theorem lW {P:Program}{bA:Operand->Value}{call:Ev.cG}{t te:TypeId}{x:Operand}{lo hi:Option Operand}{E:Mem}{v:Value}(hop:o.op = .slice t x lo hi none)(hu:P.underlying t=some (.slice te))(h:Ev.kN P t (bA x) (lo.map bA) (hi.map bA)=some v):jn P call bA o E=some (v,E):=by
 unfold jn;rw[hop];show Ev.pn P bA o t (bA x) (lo.map bA) (hi.map bA) E=_;unfold Ev.pn;have:Ev.vY P t=false:=by simp[Ev.vY,hu]
 rw[this,h];rfl
theorem qa {t:TypeId}{x:Operand}{lo hi:Option Operand}{S:Wo}{bA:Operand->Value}(cg:∀y∈(Op.slice t x lo hi none).operands,VR S (ev y) (bA y)):VR S (ev x) (bA x)/\(∀y,lo=some y->VR S (ev y) (bA y))/\∀y,hi=some y->VR S (ev y) (bA y) :=
 ⟨cg x (by simp[Op.operands]),λy hy=>cg y (by subst hy;simp[Op.operands]),λy hy=>cg y (by subst hy;simp[Op.operands])⟩
theorem Ef {P:Program}{te:TypeId}{n:Nat}(h:(Ev.cQ P te==some n)=true):Ev.cQ P te=some n:=by simpa using h
theorem SR.cut {α:Type}{R:α->List Value->Prop}{s:Nat}(hR:∀x c,R x c->c.length=s){F:Nat->Option (List Value)}{l:List α}{i:Nat}{pre mid post:List Value}{cap:Nat}(hF:F i=some (pre++(mid++post)))(hC:mN R l mid){a b:Int}(h0:0<=a)(h1:a<=b)(h2:b<=l.length)(h3:l.length<=cap) :
 SR R F (dX l a b) (.slice (some ⟨i,pre.length+a.toNat*s,none⟩) (b.toNat-a.toNat) (cap-a.toNat)):=by
 obtain⟨c1,c2,e1,k1,k2⟩:=hC.split hR a.toNat;obtain⟨c3,c4,e2,k3,k4⟩:=k2.split hR (b.toNat-a.toNat);have l1:=k1.length hR;have t1:(l.take a.toNat).length=a.toNat:=by simp;omega
 have t3:((l.drop a.toNat).take (b.toNat-a.toNat)).length=b.toNat-a.toNat:=by simp;omega
 rw[t1]at l1;refine .inr ⟨i,pre++c1,c3,c4++post,cap-a.toNat,?_,by rw[hF,e1,e2];simp,k3,?_⟩
 .show _=Value.slice (some ⟨i,(pre++c1).length,none⟩) ((l.drop a.toNat).take (b.toNat-a.toNat)).length _;rw[t3,aA,l1]
 show ((l.drop a.toNat).take (b.toNat-a.toNat)).length<=_;rw[t3];omega
def Wo.J7 (S:Wo)(i:Nat)(cs:List Value):Wo:=⟨λj=>if j=i then some cs else S.F j,S.ρ,S.Γ⟩
theorem ve {S:Wo}{E:Mem}(hr:Rel S H E){id:Nat}{t:TypeId}{e:Ty}{l:List e.den}{gw:Nat}{ex ro:Bool}(hg:H.get id=some (.list t e l gw ex ro)) :
 ∃S',S.le S'/\Rel S' (H.put id (.list t e l gw ex true)) E/\St S H E S' (H.put id (.list t e l gw ex true)) E /\
  (∀n v,VR S (.own id n) v->n=l.length/\((l=[]/\v = .slice none 0 0)\/∃i mid post cap,v = .slice (some ⟨i,0,none⟩) l.length cap/\S'.F i=some (mid++post)/\mN (CR S'.F e) l mid/\l.length<=cap)):=by
 obtain⟨g1,⟨g0,g,g2,g2'⟩,g3⟩:=hr.row id _ hg;have aeQ:∀S',S.le S'->(∀i cap b mid post,S.ρ id=some (i,cap,e.size)->alive E i=some b->b.cells=mid++post->S'.F i=some b.cells)->(∀n v,VR S (.own id n) v->n=l.length/\((l=[]/\v = .slice none 0 0)\/∃i mid post cap,v = .slice (some ⟨i,0,none⟩) l.length cap/\S'.F i=some (mid++post)/\mN (CR S'.F e) l mid/\l.length<=cap)):=by
  intro S' hle hF n v hv;cases hv with
  |own _ _ i0 p7 s0 hρ g' hg' hn' =>
   rw[g2]at hg';cases hg';rcases g3 with⟨_,g5,_⟩|⟨i',cap,b,mid,post,q1,q2,q3,q4,q5,q6,q7,q8,q9,yb⟩
   .rw[hρ]at g5;cases g5
   rw[hρ]at q1;cases q1;refine⟨by omega,.inr ⟨i0,mid,post,p7,by rw[<-g2',hn'],?_,q5.mono λx c=>CR.mono hle.F e x c,q7⟩⟩;rw[hF i0 p7 b mid post hρ q2 q4,q4]
  |fZ _ g' hg' hn' =>
   rw[g2]at hg';cases hg';exact⟨by omega,.inl ⟨aQ.1 (by omega),rfl⟩⟩
 cases hro:ro with
 |true =>
  subst hro;obtain⟨u1,u2,u3,u4⟩:=aG.gu H id (.list t e l gw ex true);have hsame:∀j,(H.put id (.list t e l gw ex true)).get j=H.get j:=λj=>by
   rw[u4];by_cases hj:j=id
   .subst hj;rw[ag rfl,ag (aG.eL hg),hg];rfl
   rw[aa hj]
  obtain⟨k1,k2⟩:=hr.same u1 u2 u3 hsame;refine⟨S,S.le_refl,k1,k2,aeQ S S.le_refl λi cap b mid post h1 h2 h3=>?_⟩;rcases g3 with⟨_,g5,_⟩|⟨i',cap,b',mid,post,q1,q2,q3,q4,q5,q6,q7,q8,q9,yb⟩
  .rw[h1]at g5;cases g5
  rw[h1]at q1;cases q1;rw[h2]at q2;cases q2;exact yb.1 rfl
 |false =>
  subst hro;rcases g3 with⟨g4,g5,g6⟩|⟨i',cap,b,mid,post,q1,q2,q3,q4,q5,q6,q7,q8,q9,yb⟩
  .obtain ⟨k1,k2⟩:=hr.mod (S':=S) (E':=E) (r':=.list t e l gw ex true) hg rfl S.le_refl rfl (λ_ _ _=>rfl) rfl rfl (λ_ _=>rfl) (λj cs h=>.inl h) (λq hq=>by
    cases hq;exact⟨g1,⟨g0,g,g2,g2'⟩,.inl ⟨g4,g5,g6⟩⟩)
   exact⟨S,S.le_refl,k1,k2,aeQ S S.le_refl λi cap b mid post h1=>by rw[g5]at h1;cases h1⟩
  have hsep:=hr.sep id _ _ hg rfl q1;have hle:S.le (S.J7 i' b.cells):=⟨λj x hj=>by
   show (if j=i' then some b.cells else S.F j)=_;by_cases hji:j=i'
   .subst hji;rw[hsep]at hj;cases hj
   rw[aa hji];exact hj,λ_ _ h=>h,λ_ _ _ h=>h⟩
  have hFi:(S.J7 i' b.cells).F i'=some b.cells:=ag rfl;obtain⟨k1,k2⟩:=hr.mod (S':=S.J7 i' b.cells) (E':=E) (r':=.list t e l gw ex true) hg rfl hle rfl (λ_ _ _=>rfl) rfl rfl (λ_ _=>rfl)
   (λj cs h=>by
    by_cases hji:j=i'
    .subst hji;rw[hFi]at h;cases h;exact .inr ⟨.inr rfl,⟨_,q1,rfl⟩,b,q2,rfl⟩
    exact .inl (by have h':(if j=i' then some b.cells else S.F j)=some cs:=h;rw[aa hji]at h';exact h'))
   (λq hq=>by
    cases hq;exact⟨g1,⟨g0,g,g2,g2'⟩,.inr ⟨i',cap,b,mid,post,q1,q2,q3,q4,q5.mono λx c=>CR.mono hle.F e x c,q6,q7,q8,q9,λ_=>hFi,yb.2.imp λl2 h2=>h2.mono λx c=>CR.mono hle.F e x c⟩⟩)
  refine⟨_,hle,k1,k2,aeQ _ hle λi cap' b' mid' post' h1 h2 h3=>?_⟩;rw[q1]at h1;cases h1;rw[q2]at h2;cases h2;exact hFi
theorem Bj {t:TypeId}{x:Operand}{lo hi:Option Operand}(hop:o.op = .slice t x lo hi none){k:AV->aG->Option β}(h:Ea X H t (ev x) (lo.map ev) (hi.map ev) k=some r):∃v H',k v H'=some r/\eO X cf o ev H v H':=by
 unfold Ea at h;split at h
 .rename_i s hu hp;obtain⟨a,b,h1,h2,h3,h4,ha,hb⟩:=oU h;have h4:=h4 (aC _);refine⟨_,_,h1,.quiet λS E bA hr cg=>?_⟩;rw[hop]at cg;obtain⟨hx,hlo,hhi⟩:=qa cg;rw[hp]at hx;have ex:=hx.jr;refine⟨.string ⟨(dX s a b).toArray⟩,λcall=>?_,.str _⟩;unfold jn;rw[hop];show Ev.pn X.P bA o t (bA x) (lo.map bA) (hi.map bA) E=_;unfold Ev.pn;have e1:Ev.vY X.P t=false:=by simp[Ev.vY,hu]
  have e2:Ev.kN X.P t (bA x) (lo.map bA) (hi.map bA)=none:=by rw[ex];simp only[Ev.kN,hu]
  rw[e1,e2];show cB E (gM X.P bA o)=_;have flo:∀y,lo=some y->aZ (bA y)=true:=λy hy=>by
   rcases tM ha hlo with⟨h0,_⟩|⟨z,kk,h0,hz⟩
   .rw[h0]at hy;cases hy
   rw[h0]at hy;cases hy;rw[hz];rfl
  have fhi:∀y,hi=some y->aZ (bA y)=true:=λy hy=>by
   rcases tM hb hhi with⟨h0,_⟩|⟨z,kk,h0,hz⟩
   .rw[h0]at hy;cases hy
   rw[h0]at hy;cases hy;rw[hz];rfl
  rw[wM (v:=.string ⟨(dX s a b).toArray⟩) (λa b=>by rw[hop];simp) ?_ ?_ rfl]
  .rfl
  .rw[hop];simp only[Ev.de,Op.operands,aK];intro y hy;simp only[Array.toList_append,cJ]at hy;rcases hy with ((hy|hy)|hy)|hy
   .simp at hy;subst hy;rw[ex];rfl
   .exact flo y (by cases lo<;>simp at hy ⊢;exact hy.symm)
   .exact fhi y (by cases hi<;>simp at hy ⊢;exact hy.symm)
   simp at hy
  unfold execOp;rw[hop];show bF X.P (Instr.sliceAt t (bA x) (lo.map bA) (hi.map bA) none >>= λx=>pure (Next.value x))=_;rw[bu];have e3:bF X.P (Instr.sliceAt t (bA x) (lo.map bA) (hi.map bA) none)=some (.string ⟨(dX s a b).toArray⟩):=by
   unfold Instr.sliceAt;rw[bu,bT hu];simp only[aW];unfold Instr.slice;rw[bu,bT hu,ex];simp only[aW,Option.isSome_none,cr,ee];rw[bu];have sz:ByteArray.size ⟨s.toArray⟩=s.length:=by simp[ByteArray.size]
   have e4:bF X.P (Instr.sliceBounds false (ByteArray.size ⟨s.toArray⟩) (ByteArray.size ⟨s.toArray⟩) (lo.map bA) (hi.map bA) none)=some (a.toNat,b.toNat,s.length):=by
    rw[sz];have bd:∀(kk:IntKind) (i:Int) (y:Nat) (c:BoundsCode),0<=i->i<=y->bF X.P (Instr.sliceBound (.int kk i) y c)=some i.toNat:=λkk i y c h0 h1=>by
     unfold Instr.sliceBound asIntOf;show bF X.P (if 0<=i/\i<=y then pure i.toNat else boundsPanic kk i y c)=_;rw[ag ⟨h0,h1⟩];rfl
    unfold Instr.sliceBounds;rcases tM ha hlo with⟨rfl,rfl⟩|⟨z,kk,rfl,hz⟩<;>rcases tM hb hhi with⟨rfl,rfl⟩|⟨z',kk',rfl,hz'⟩
    .rfl
    .simp only[eS,bL,hz'];simp only[bu,pH,aW];rw[bd kk' b s.length _ (by omega) h4];rfl
    .simp only[eS,bL,hz];simp only[bu,pH,aW];rw[bd kk a s.length _ (by omega) (by omega)];rfl
    simp only[bL,hz,hz'];simp only[bu,pH,aW];rw[bd kk' b s.length _ (by omega) h4];simp only[aW];rw[bd kk a b.toNat _ (by omega) (by omega)];rfl
   rw[e4];simp only[aW];show some (Value.string _)=_;congr 2
   apply Go.WideShapes.bytes_inj;simp[ByteArray.data_extract,iU,gi,dX]
  rw[e3];rfl
 .rename_i te e l hu hp;rw[au]at h;split at h
  .rename_i hs;have hs:=Ef hs;obtain⟨a,b,h1,h2,h3,h4,ha,hb⟩:=oU h;have h4:=h4 (aC _);rw[au]at h1;split at h1
   .rename_i hac;have hac:=ZG hac;refine⟨_,_,h1,.quiet λS E bA hr cg=>?_⟩;rw[hop]at cg;obtain⟨hx,hlo,hhi⟩:=qa cg;rw[hp]at hx;generalize hA:bA x=A at hx;cases hx with
    |dH _ _ _ hS =>
     rcases hS with⟨rfl,rfl|rfl⟩|⟨i0,pre,mid,post,cap,rfl,hF,hC,hcap⟩
     .refine ⟨.slice none (b.toNat-a.toNat) (0-a.toNat),λcall=>lW hop hu ?_,.dH _ _ _ (.inl ⟨by simp[dX],.inl ?_⟩)⟩
      .rw[hA];exact oV hu hs ha hb h2 h3 (by simpa using h4) hlo hhi none (.inl rfl) (by simp at h4;omega)
      simp at h4;have e1:b.toNat-a.toNat=0:=by omega
      have e2:(0:Nat)-a.toNat=0:=by omega
      rw[e1,e2]
     .refine ⟨.slice (some ⟨0,0,some 0⟩) (b.toNat-a.toNat) (0-a.toNat),λcall=>lW hop hu ?_,.dH _ _ _ (.inl ⟨by simp[dX],.inr ?_⟩)⟩
      .rw[hA];exact Lh hu hs ha hb h2 h3 (by simpa using h4) hlo hhi
      simp at h4;have e1:b.toNat-a.toNat=0:=by omega
      have e2:(0:Nat)-a.toNat=0:=by omega
      rw[e1,e2];rfl
     refine⟨_,λcall=>lW hop hu ?_,.dH _ _ _ (SR.cut (λx c=>CR.length e x c) hF hC h2 h3 h4 hcap)⟩;rw[hA];exact oV hu hs ha hb h2 h3 (by omega) hlo hhi _ (.inr ⟨_,_,rfl⟩) (by omega)
   cases h1
  cases h
 .rename_i te id off len cap hu hp;split at h
  .rename_i t' e l gw ro hg;rw[au]at h;split at h
   .rename_i hs;have hs:=Ef hs;obtain⟨a,b,h1,h2,h3,h4,ha,hb⟩:=oU h;rw[au]at h1;split at h1
    .rename_i hac;have hac:=ZG hac;refine⟨_,_,h1,.quiet λS E bA hr cg=>?_⟩;rw[hop]at cg;obtain⟨hx,hlo,hhi⟩:=qa cg;rw[hp]at hx;generalize hA:bA x=A at hx;obtain⟨g1,⟨_,g,g2,g2'⟩,g3⟩:=hr.row id _ hg;cases hx with
     |rF _ _ _ _ i0 c0 s0 hρ g' hg' hcc Lg =>
      rw[g2]at hg';cases hg';rcases g3 with⟨_,g5,_⟩|⟨i',cap',b',mid,post,q1,q2,q3,q4,q5,q6,q7,q8,q9,yb⟩
      .rw[hρ]at g5;cases g5
      rw[hρ]at q1;cases q1;refine⟨_,λcall=>lW hop hu (by rw[hA];exact oV hu hs ha hb h2 h3 (h4 Lg) hlo hhi _ (.inr ⟨_,_,rfl⟩) (by have:=h4 Lg;omega)),?_⟩;have:=VR.rF (S:=S) id (off+a.toNat) (b.toNat-a.toNat) (cap-a.toNat) i0 c0 e.size hρ g g2 (by have:=h4 Lg;omega) (by have:=h4 Lg;omega);rw[dh]at this;exact this
    cases h1
   cases h
  cases h
 .rename_i te id n hu hp;split at h
  .rename_i t' e l gw ex ro hg;rw[au]at h;split at h
   .rename_i hs;simp only[ak]at hs;obtain⟨hs,hmay⟩:=hs;have hs:=Ef hs;obtain⟨a,b,h1,h2,h3,h4,ha,hb⟩:=oU h;have h4:=h4 (aC _);rw[au]at h1;split at h1
    .rename_i hac;have hac:=ZG hac;refine⟨_,_,h1,λS E bA hr cg=>?_⟩;rw[hop]at cg;obtain⟨hx,hlo,hhi⟩:=qa cg;rw[hp]at hx;obtain⟨S',hle,k1,k2,k3⟩:=ve hr hg;obtain⟨rfl,hv⟩:=k3 n _ hx;rcases hv with⟨rfl,hv⟩|⟨i,mid,post,cap,hv,hF,hC,hcap⟩
     .refine ⟨S',.slice none (b.toNat-a.toNat) (0-a.toNat),E,⟨0,λn _=>lW hop hu ?_⟩,hle,.dH _ _ _ (.inl ⟨by simp[dX],.inl ?_⟩),k1,k2⟩
      .rw[hv];exact oV hu hs ha hb h2 h3 (by simpa using h4) hlo hhi none (.inl rfl) (by simp at h4;omega)
      simp at h4;have e1:b.toNat-a.toNat=0:=by omega
      have e2:(0:Nat)-a.toNat=0:=by omega
      rw[e1,e2]
     have:=SR.cut (pre:=[]) (λx c=>CR.length e x c) hF hC h2 h3 h4 hcap;refine⟨S',_,E,⟨0,λn _=>lW hop hu ?_⟩,hle,.dH _ _ _ this,k1,k2⟩;rw[hv];have:=oV (S:=S) (bA:=bA) hu hs ha hb h2 h3 (show b<=cap by omega) hlo hhi (some ⟨i,0,none⟩) (.inr ⟨_,_,rfl⟩) (by omega);rw[this];simp
    cases h1
   cases h
  cases h
 .rename_i te hu hp;rw[au]at h;split at h
  .rename_i hs;obtain⟨s,hs⟩:=bU.1 hs;obtain⟨a,b,h1,h2,h3,h4,ha,hb⟩:=oU h;have h4:=h4 (aC _);refine⟨_,_,h1,.quiet λS E bA hr cg=>?_⟩;rw[hop]at cg;obtain⟨hx,hlo,hhi⟩:=qa cg;rw[hp]at hx;generalize hA:bA x=A at hx;cases hx with
   |dG =>
    refine⟨.slice none (b.toNat-a.toNat) (0-a.toNat),λcall=>lW hop hu ?_,?_⟩
    .rw[hA];exact oV hu hs ha hb h2 h3 (by simpa using h4) hlo hhi none (.inl rfl) (by omega)
    have e1:b.toNat-a.toNat=0:=by omega
    have e2:(0:Nat)-a.toNat=0:=by omega
    rw[e1,e2];exact .dG
  cases h
 .rename_i n te id n' hu hp;split at h
  .rename_i t' e l gw ro hg;rw[au]at h;split at h
   .rename_i hs;simp only[ak,aO]at hs;obtain⟨hs,rfl⟩:=hs;have hs:=Ef hs;obtain⟨a,b,h1,h2,h3,h4,ha,hb⟩:=oU h;have h4:=h4 (aC _);rw[au]at h1;split at h1
    .rename_i hac;have hac:=ZG hac;refine⟨_,_,h1,.quiet λS E bA hr cg=>?_⟩;rw[hop]at cg;obtain⟨hx,hlo,hhi⟩:=qa cg;rw[hp]at hx;generalize hA:bA x=A at hx;obtain⟨g1,⟨_,g,g2,g2'⟩,g3⟩:=hr.row id _ hg;cases hx with
     |D8 _ _ i0 c0 s0 hρ g' hg' hn' =>
      rw[g2]at hg';cases hg';rcases g3 with⟨_,g5,_⟩|⟨i',cap',b',mid,post,q1,q2,q3,q4,q5,q6,q7,q8,q9,yb⟩
      .rw[hρ]at g5;cases g5
      rw[hρ]at q1;cases q1;have e1:=Li (S:=S) (bA:=bA) hu hs ha hb h2 h3 h4 hlo hhi q2 (q9 rfl).1 hac;have:=VR.rF (S:=S) id a.toNat (b.toNat-a.toNat) (n'-a.toNat) i0 c0 e.size hρ g g2 (by omega) (by omega);refine⟨_,λcall=>?_,this⟩;unfold jn;rw[hop];show Ev.pn X.P bA o t (bA x) (lo.map bA) (hi.map bA) E=_;unfold Ev.pn;have e2:Ev.vY X.P t=true:=by simp[Ev.vY,hu]
      rw[e2,hA,e1];rfl
    cases h1
   cases h
  cases h
 cases h
end
end Go.Tv
namespace Go.Tv
open Go.Ev (Tr ah iG Mem jC alive au dF bF gM jn aZ cB orElse)
theorem xQ {α:Type}:∀(xs l:List α) (off:Nat),off+xs.length<=l.length->me l off xs=l.take off++(xs++l.drop (off+xs.length))
 |[],l,off,_=>by simp[me]
 |x::xs,l,off,h=>by
  simp only[aJ]at h;rw[me,xQ xs (l.set off x) (off+1) (by simp;omega)];have h1:(l.set off x).take (off+1)=l.take off++[x]:=by
   rw[List.take_succ_eq_append_getElem (by simp;omega),List.take_set,List.set_eq_of_length_le (by simp;omega)];simp
  have h2:(l.set off x).drop (off+1+xs.length)=l.drop (off+(x::xs).length):=by
   rw[List.drop_set_of_lt (by omega)];simp only[aJ];congr 1;omega
  rw[h1,h2];simp
theorem th (l xs:List Value)(off:Nat):Ev.oa l off xs=me l off xs:=by
 induction xs generalizing l off with
 |nil=>rfl
 |cons x xs ih=>exact ih _ _
theorem qE {α:Type}:∀(xs l:List α) (off:Nat),(me l off xs).length=l.length
 |[],l,off=>rfl
 |x::xs,l,off=>by rw[me,qE xs];simp
theorem Eg {α:Type}(a c b xs:List α)(fo:Nat)(h:fo+xs.length<=c.length):me (a++(c++b)) (a.length+fo) xs=a++(me c fo xs++b):=by
 rw[xQ xs c fo h,xQ xs _ _ (by simp;omega)];rw[List.take_append,List.drop_append];simp only[Nat.add_sub_cancel_left];have e1:a.take (a.length+fo)=a:=cU (by omega);have e2:a.drop (a.length+fo+xs.length)=[]:=ig (by omega);have e3:a.length+fo+xs.length-a.length=fo+xs.length:=by omega
 rw[e1,e2,e3,fj (by omega),fh (by omega)];simp
theorem mN.set {α:Type}{R:α->List Value->Prop}{l:List α}{j:Nat}{y:α}{a c b:List Value}(hj:j<l.length)(h1:mN R (l.take j) a)(h2:R y c)(h3:mN R (l.drop (j+1)) b):mN R (l.set j y) (a++(c++b)):=by
 have:l.set j y=l.take j++(y::l.drop (j+1)):=by
  rw[List.set_eq_take_append_cons_drop,ag hj]
 rw[this];exact h1.append ⟨c,b,rfl,h2,h3⟩
theorem mN.put {α:Type}{R:α->List Value->Prop}{s:Nat}(hR:∀x c,R x c->c.length=s){l xs:List α}{mid xc:List Value}{off:Nat}(hl:mN R l mid)(hx:mN R xs xc)(h:off+xs.length<=l.length):mN R (me l off xs) (me mid (off*s) xc):=by
 have lm:=hl.length hR;have lx:=hx.length hR;obtain⟨c1,c2,e1,k1,k2⟩:=hl.split hR off;obtain⟨c3,c4,e2,k3,k4⟩:=k2.split hR xs.length;have l1:=k1.length hR;have l3:=k3.length hR;have t1:(l.take off).length=off:=by simp;omega
 have t3:((l.drop off).take xs.length).length=xs.length:=by simp;omega
 rw[t1]at l1;rw[t3]at l3;rw[xQ xs l off h];have:me mid (off*s) xc=c1++(xc++c4):=by
  rw[e1,e2,<-l1];have:=Eg c1 c3 c4 xc 0 (by rw[lx,l3];omega);rw[ow]at this;rw[this,xQ xc c3 0 (by rw[lx,l3];omega)];rw[ig (by rw[lx,l3];omega)];simp
 rw[this];rw[eJ]at k4;exact k1.append (hx.append k4)
theorem CR.plain {F:Nat->Option (List Value)}:∀(e:Ty) (x:e.den) (cs:List Value),CR F e x cs->cs.all Ev.plainCell=true
 |.int _,_,_,h=>by rw[h];rfl
 |.bool,_,_,h=>by rw[h];rfl
 |.str,_,_,h=>by rw[h];rfl
 |.p6,_,_,h=>by rw[h];rfl
 |.unit,_,_,h=>by rw[h];rfl
 |.sl _,_,_,⟨v,h,hs⟩=>by
  rw[h];rcases hs with⟨_,rfl|rfl⟩|⟨i,pre,mid,post,cap,rfl,_⟩<;>rfl
 |.pair a b,_,_,⟨c1,c2,e,h1,h2⟩=>by rw[e,jG,CR.plain a _ _ h1,CR.plain b _ _ h2];rfl
theorem mN.plain {F:Nat->Option (List Value)}{e:Ty}:∀{l:List e.den} {cs:List Value},mN (CR F e) l cs->cs.all Ev.plainCell=true
 |[],_,h=>by rw[h];rfl
 |x::l,_,⟨c1,c2,e',h1,h2⟩=>by rw[e',jG,CR.plain e _ _ h1,h2.plain];rfl
theorem U4 {S:Wo}{v:AV}{x:Value}(h:VR S v x)(hp:su v=true):Ev.plainCell x=true:=by
 cases h with
 |dH e l v hs=>rcases hs with⟨_,rfl|rfl⟩|⟨i,pre,mid,post,cap,rfl,_⟩<;>rfl
 |agg=>cases hp
 |fG=>cases hp
 |jY=>cases hp
 |fl=>cases hp
 |cx=>cases hp
 |zX v hf=>exact hp
 |_=>rfl
theorem Bl {S:Wo}:∀{l:List AV} {m:List Value},LV S l m->l.all su=true->m.all Ev.plainCell=true
 |[],m,h,_=>by rw[h.js];rfl
 |v::l,m,h,hp=>by
  obtain⟨x,m',rfl,h1,h2⟩:=h.cons_inv;simp only[bW,ak]at hp ⊢;exact⟨U4 h1 hp.1,Bl h2 hp.2⟩
theorem xR {S:Wo}{v:AV}{x:Value}{cs:List AV}(h:VR S v x)(hc:D9 v=some cs):LV S cs x.cells.toList:=by
 have one:∀(v:AV) (x:Value),VR S v x->x.cells = #[x]->LV S [v] x.cells.toList:=λv x h e=>by rw[e];exact LV.cons h LV.nil
 cases h with
 |dH e l v hs =>
  cases hc;have:x.cells = #[x]:=by rcases hs with⟨_,rfl|rfl⟩|⟨i,pre,mid,post,cap,rfl,_⟩<;>rfl
  exact one _ _ (.dH e l x hs) this
 |agg l m hl hv=>cases hc;exact⟨by simpa[Value.cells] using hl,by simpa[Value.cells] using hv⟩
 |fG=>cases hc
 |jY=>cases hc
 |fl=>cases hc
 |cx=>cases hc
 |zX v hf =>
  have hc:ah (Ev.plainCell x) (some [AV.zX x]) none=some cs:=hc;rw[au]at hc;split at hc
  .rename_i hp;cases hc;refine one _ _ (.zX x hf) ?_;cases x<;>first|rfl|cases hp
  cases hc
 |_=>cases hc;exact LV.cons (by constructor<;>assumption) LV.nil
section
variable {X:gY} {cf:Nat×Nat->Ev.cG} {o:Oper} {ev:Operand->AV} {H:aG} {β:Type} {r:β}
theorem qp {E:Mem}{i off:Nat}{b:jC}{vs:List Value}(hb:alive E i=some b)(hlk:E.lk<=i)(hlen:off+vs.length<=b.cells.length)(hp:vs.all Ev.plainCell=true) :
 ∃E',Ev.iC E i off vs=some E'/\E'.size=E.size/\E'.lk=E.lk/\∃b',alive E' i=some b'/\b'.cells=me b.cells off vs/\b'.elem=b.elem/\b'.fix=b.fix/\∀j,j≠i->E'.get j=E.get j:=by
 unfold Ev.iC;cases vs with
 |nil=>exact⟨E,rfl,rfl,rfl,b,hb,rfl,rfl,rfl,λ_ _=>rfl⟩
 |cons v vs =>
  rw[aa (by simp),hb];simp only;rw[ag (by rw[hp];simpa using hlen)];obtain⟨E',hE⟩:=Mem.iW (b:={ b with cells:=Ev.oa b.cells off (v::vs) }) (kX hb) hlk;obtain⟨_,_,h3,h4,h5⟩:=Ev.Mem.kQ hE;refine⟨E',hE,h3,h4,{ b with cells:=Ev.oa b.cells off (v::vs) },sw (by rw[h5,ag rfl]) (dF hb).2,th _ _ _,rfl,rfl,λj hj=>by rw[h5,aa hj]⟩
def Wo.gw (S:Wo)(id v:Nat)(g:Sigma λe:Ty=>List e.den):Wo:=⟨S.F,S.ρ,λj w=>if j=id/\w=v then some g else S.Γ j w⟩
theorem Wo.aeR {S:Wo}{id v:Nat}{g:Sigma λe:Ty=>List e.den}(h:S.Γ id v=none):S.le (S.gw id v g) :=
 ⟨λ_ _ h=>h,λ_ _ h=>h,λj w x hx=>by
  show (if j=id/\w=v then some g else S.Γ j w)=_;by_cases hj:j=id/\w=v
  .obtain ⟨rfl,rfl⟩:=hj;rw[h]at hx;cases hx
  rw[aa hj];exact hx⟩
theorem Rel.rewrite {S:Wo}{E E':Mem}(hr:Rel S H E){id:Nat}{t:TypeId}{e:Ty}{l l':List e.den}{gw:Nat}{ex:Bool}(hg:H.get id=some (.list t e l gw ex false)){i cap:Nat}{b b':jC}{mid post:List Value}
 (hρ:S.ρ id=some (i,cap,e.size)) (hb:alive E i=some b) (hs:E'.size=E.size) (hlk:E'.lk=E.lk) (hE:∀j,j≠i->E'.get j=E.get j) (hb':alive E' i=some b') (hel:b'.elem=b.elem) (Kx:b'.fix=b.fix) (hc:b'.cells=mid++post) (hlen:b'.cells.length=b.cells.length)
 (hC:mN (CR S.F e) l' mid) (hl:l'.length=l.length) (hpost:ex=true->post=[]) (Ux:∃l2,mN (CR S.F e) l2 post) :
 S.le (S.gw id (gw+1) ⟨e,l'⟩)/\Rel (S.gw id (gw+1) ⟨e,l'⟩) (H.put id (.list t e l' (gw+1) ex false)) E'/\St S H E (S.gw id (gw+1) ⟨e,l'⟩) (H.put id (.list t e l' (gw+1) ex false)) E':=by
 obtain⟨g1,⟨g0,g,g2,g2'⟩,g3⟩:=hr.row id _ hg;have hle:S.le (S.gw id (gw+1) ⟨e,l'⟩):=Wo.aeR (g0 _ (by omega));rcases g3 with⟨_,g5,_⟩|⟨i',cap',b0,arN,aql,q1,q2,q3,q4,q5,q6,q7,q8,q9,yb⟩
 .rw[hρ]at g5;cases g5
 rw[hρ]at q1;cases q1;rw[hb]at q2;cases q2;refine⟨hle,hr.mod hg rfl hle rfl (λj w hj=>aa (by omega)) hs hlk (λj hj=>hE j (hj _ hρ)) (λj cs h=>.inl h) λq hq=>?_⟩;cases hq;refine⟨ag ⟨rfl,rfl⟩,⟨λv hv=>?_,g,hle.Γ _ _ _ g2,by omega⟩,.inr ⟨i,cap,b',mid,post,hρ,hb',by rw[hel,q3],hc,hC,by rw[hlen,q6],by omega,q8,λhx=>⟨by rw[Kx];exact(q9 hx).1,hpost hx,by have:=(q9 hx).2.2;omega⟩,λh=>(by cases h),Ux⟩⟩;show (if id=id/\v=gw+1 then some _ else S.Γ id v)=none;rw[aa (by omega)];exact g0 v (by omega)
theorem Sh {t:TypeId}{p q:Operand}(hop:o.op = .store t p q){k:AV->aG->Option β}(h:storeT X H t (ev p) (ev q) (λH'=>k .jY H')=some r):∃v H',k v H'=some r/\eO X cf o ev H v H':=by
 unfold storeT at h;split at h
 .rename_i id off n vs hp hn hvs;split at h
  .rename_i t' cs hg;rw[au]at h;split at h
   .rename_i hc;simp only[ak,aO,bt]at hc;obtain⟨⟨⟨hmay,Nw⟩,hpl⟩,hof⟩:=hc;refine⟨_,_,h,λS E bA hr cg=>?_⟩;rw[hop]at cg;have hx:=cg p (by simp[Op.operands]);have hy:=cg q (by simp[Op.operands]);rw[hp]at hx;generalize hA:bA p=A at hx;cases hx with
    |ptr _ _ i c s hρ =>
     obtain⟨i',c',s',b,k1,k2,k3,k4,k5⟩:=hr.row id _ hg;rw[hρ]at k1;cases k1;have n9:=xR hy hvs;have hmay':H.lk<=id:=by simpa[aG.nH,bt] using hmay
     have hlk:=hr.lk id _ _ hg hmay' hρ;have hof':off+n<=cs.length:=hof;obtain⟨E',w1,w2,w3,b',w4,w5,w6,w7,w8⟩:=qp (off:=off) (vs:=(bA q).cells.toList) k2 hlk (by rw[<-n9.1,<-k3.1];omega) (Bl n9 hpl);obtain⟨m1,m2⟩:=hr.mod (S':=S) (E':=E') (r':=.cells t' (me cs off vs)) hg rfl S.le_refl rfl (λ_ _ _=>rfl) w2 w3 (λj hj=>w8 j (hj _ hρ)) (λj cs h=>.inl h) (λq hq=>by
      cases hq;refine⟨i,c,s,b',hρ,w4,?_,w6.trans k4,w7.trans k5⟩;rw[w5,<-th];exact LV.me vs _ off n9 k3)
     refine⟨S,undef,E',⟨0,λ_ _=>?_⟩,S.le_refl,.jY _,m1,m2⟩;unfold jn;rw[hop];show Ev.qi X.P t (bA p) (bA q) E=_;have hsz:(bA q).cells.size=n:=by
      have:=n9.1;simp at this;omega
     simp only[Ev.qi,Ev.r7,hA,hn,hsz,fF,w1]
   cases h
  cases h
 .rename_i id j fo gw cur n vs hp hn hvs;split at h
  .rename_i t' e l ver' ex ro hg;rw[au]at h;split at h
   .rename_i hc;simp only[ak,aO,bt,aS]at hc;obtain⟨⟨⟨⟨⟨hmay,Nw⟩,hpl⟩,hof⟩,rfl⟩,rfl⟩:=hc;split at h
    .rename_i y hun;refine⟨_,_,h,λS E bA hr cg=>?_⟩;rw[hop]at cg;have hx:=cg p (by simp[Op.operands]);have hy:=cg q (by simp[Op.operands]);rw[hp]at hx;generalize hA:bA p=A at hx;cases hx with
     |C9 _ _ _ _ _ i c e' l2 y' hρ hΓ hy' aoh =>
      obtain⟨g1,⟨g0,g,g2,g2'⟩,g3⟩:=hr.row id _ hg;rw[g1]at hΓ;cases hΓ;rcases g3 with⟨_,g5,_⟩|⟨i',cap,b,mid,post,q1,q2,q3,q4,q5,q6,q7,q8,q9,yb⟩
      .rw[hρ]at g5;cases g5
      rw[hρ]at q1;cases q1;obtain⟨a,cc,bb,w1,w2,w3,w4,w5⟩:=q5.get (λx c=>CR.length e x c) hy';subst aoh;have hcc:=CR.length e _ _ w3;have hfl:=tg e y';have n9:=xR hy hvs;have hof':fo+n<=e.size:=by rw[<-hfl];exact hof
      have hmay':H.lk<=id:=by simpa[aG.nH,bt] using hmay
      have hlk:=hr.lk id _ _ hg hmay' hρ;have hbc:b.cells=a++(cc++(bb++post)):=by rw[q4,w1];simp
      have hxl:(bA q).cells.toList.length=n:=by rw[<-n9.1];exact Nw
      obtain⟨E',v1,v2,v3,b',v4,v5,v6,v7,v8⟩:=qp (off:=j*e.size+fo) (vs:=(bA q).cells.toList) q2 hlk (by rw[hbc];simp at hxl ⊢;omega) (Bl n9 hpl);have hnew:me b.cells (j*e.size+fo) (bA q).cells.toList=a++(me cc fo (bA q).cells.toList++(bb++post)):=by
       rw[hbc,<-w2];exact Eg a cc (bb++post) _ fo (by omega)
      have hLV:=LV.me vs _ fo n9 (CR.flat e _ _ w3);rw[th]at hLV;obtain⟨c1,m',e1,r1,r2⟩:=qD e hun hLV;have hm':=r2.js;subst hm';rw[fA]at e1;have hjl:=eL hy';have hC:mN (CR S.F e) (l.set j y) (a++(c1++bb)):=mN.set hjl w4 r1 w5;obtain⟨z1,z2,z3⟩:=hr.rewrite hg hρ q2 v2 v3 v8 v4 v6 v7 (mid:=a++(c1++bb)) (post:=post) (by rw[v5,hnew,e1];simp) (by rw[v5,qE]) hC (by simp) (λhx=>(q9 hx).2.1) yb.2;refine⟨_,undef,E',⟨0,λ_ _=>?_⟩,z1,.jY _,z2,z3⟩;unfold jn;rw[hop];show Ev.qi X.P t (bA p) (bA q) E=_
      have hsz:(bA q).cells.size=n:=by simpa using hxl
      simp only[Ev.qi,Ev.r7,hA,hn,hsz,fF,v1]
    cases h
   cases h
  cases h
 cases h
end
end Go.Tv
namespace Go.Tv
open Go.Ev (Tr ah iG Mem jC alive au dF bF gM jn aZ cB orElse)
section
variable {X:gY} {cf:Nat×Nat->Ev.cG} {o:Oper} {ev:Operand->AV} {H:aG} {β:Type} {r:β}
theorem ajK {a b:Nat}(h:Nat.beq a b=false):a≠b:=λe=>by subst e;rw[ox]at h;cases h
inductive yZ (S:Wo)(H:aG)(E:Mem)(te:TypeId)(e:Ty)(old:List e.den):aG->Value->Prop where
 |nil (h:old=[]):yZ S H E te e old H (.slice none 0 0)
 |U5 (id r) (hg:H.get id=some r) (hro:r.AU=false) (h:old=[]):yZ S H E te e old (H.put id .dead) (.slice none 0 0)
 |row (id r i cap b mid post) (hg:H.get id=some r) (hro:r.AU=false) (hρ:S.ρ id=some (i,cap,e.size)) (hb:alive E i=some b) (hlk:E.lk<=i) (hc:b.cells=mid++post) (hC:mN (CR S.F e) old mid) (hn:b.cells.length=cap*e.size) (hl:old.length<=cap) (hcap:cap<=2000000) (hel:b.elem=te) (Ux:∃l2,mN (CR S.F e) l2 post):yZ S H E te e old (H.put id .dead) (.slice (some ⟨i,0,none⟩) old.length cap)
theorem U6 {S:Wo}{E:Mem}(hr:Rel S H E){te:TypeId}{e:Ty}{s:AV}{old:List e.den}{H':aG}{x:Value}(h:UO H te e s=some (old,H'))(hx:VR S s x):yZ S H E te e old H' x:=by
 unfold UO at h;split at h
 .cases h;cases hx;exact .nil rfl
 .rename_i id n;split at h
  .rename_i t' e' l gw ex hg;rw[au]at h;split at h
   .rename_i hmay;simp only[ak,aO]at hmay;obtain⟨hmay,rfl⟩:=hmay;split at h
    .rename_i l' n9;cases h;obtain⟨he,hc⟩:=bS n9;subst he;have hc:l=old:=hc;subst hc;obtain⟨g1,⟨g0,g,g2,g2'⟩,g3⟩:=hr.row id _ hg;cases hx with
     |own _ _ i0 p7 s0 hρ g' hg' hn' =>
      rw[g2]at hg';cases hg';rcases g3 with⟨_,g5,_⟩|⟨i',cap,b,mid,post,q1,q2,q3,q4,q5,q6,q7,q8,q9,yb⟩
      .rw[hρ]at g5;cases g5
      rw[hρ]at q1;cases q1;have:=yZ.row (S:=S) (H:=H) (E:=E) (te:=t') (e:=e') (old:=l) id _ i0 p7 b mid post hg rfl hρ q2 (hr.lk id _ _ hg (by simpa[aG.nH,bt] using hmay) hρ) q4 q5 q6 q7 q8 q3 yb.2;rw[<-g2',hn']at this;exact this
     |fZ _ g' hg' hn' =>
      rw[g2]at hg';cases hg';have h0:l=[]:=aQ.1 (by omega);exact .U5 id _ hg rfl h0
    cases h
   cases h
  cases h
 .rename_i id len Lf;split at h
  .rename_i t' e' l gw hg;rw[au]at h;split at h
   .rename_i hmay;simp only[ak,aO]at hmay;obtain⟨hmay,rfl⟩:=hmay;split at h
    .rename_i l' n9;cases h;obtain⟨he,hc⟩:=bS n9;subst he;have hc:l=l':=hc;subst hc;obtain⟨g1,⟨g0,g,g2,g2'⟩,g3⟩:=hr.row id _ hg;cases hx with
     |rF _ _ _ _ i0 c0 s0 hρ g' hg' hcc Lg =>
      rw[g2]at hg';cases hg';rcases g3 with⟨_,g5,_⟩|⟨i',cap,b,mid,post,q1,q2,q3,q4,q5,q6,q7,q8,q9,yb⟩
      .rw[hρ]at g5;cases g5
      rw[hρ]at q1;cases q1;obtain⟨c1,c2,e1,k1,k2⟩:=q5.split (λx c=>CR.length e' x c) len;have hlen:(l.take len).length=len:=by simp;omega
      have hcap:Lf=c0:=by have:=(q9 rfl).2.2;omega
      subst hcap;have:=yZ.row (S:=S) (H:=H) (E:=E) (te:=t') (e:=e') (old:=l.take len) id _ i0 Lf b c1 (c2++post) hg rfl hρ q2 (hr.lk id _ _ hg (by simpa[aG.nH,bt] using hmay) hρ) (by rw[q4,e1];simp) k1 q6 (by omega) q8 q3 (yb.2.elim λl2 h2=>⟨_,k2.append h2⟩);rw[hlen]at this;rw[oz];exact this
    cases h
   cases h
  cases h
 cases h
theorem kY {S:Wo}{H:aG}{E':Mem}{te:TypeId}{e:Ty}{l:List e.den}{i cap:Nat}{b:jC}{mid post:List Value}{fx:Bool}(hr:∀v,S.Γ H.next v=none)(hb:alive E' i=some b)(hel:b.elem=te)(hc:b.cells=mid++post)(hC:mN (CR S.F e) l mid)(hn:b.cells.length=cap*e.size)(hl:l.length<=cap)(hcap:cap<=2000000)(hx:fx=true->b.fix=true/\post=[]/\l.length=cap) (Ux:∃l2,mN (CR S.F e) l2 post:=by exact⟨[],rfl⟩) :
 oT (S.new H.next (some (i,cap,e.size)) (some ⟨e,l⟩)) E' H.next (.list te e l 0 fx false):=by
 refine⟨ag ⟨rfl,rfl⟩,⟨λv hv=>?_,⟨e,l⟩,ag ⟨rfl,rfl⟩,rfl⟩,.inr ⟨i,cap,b,mid,post,ag rfl,hb,hel,hc,hC,hn,hl,hcap,hx,λh=>(by cases h),Ux⟩⟩;show (if H.next=H.next/\v=0 then some _ else S.Γ H.next v)=none;rw[aa (by omega)];exact hr v
theorem kZ {S:Wo}{H:aG}{E':Mem}{te:TypeId}{e:Ty}(hr:∀v,S.Γ H.next v=none):oT (S.new H.next none (some ⟨e,([]:List e.den)⟩)) E' H.next (.list te e [] 0 false false):=by
 refine⟨ag ⟨rfl,rfl⟩,⟨λv hv=>?_,⟨e,[]⟩,ag ⟨rfl,rfl⟩,rfl⟩,.inl ⟨rfl,ag rfl,rfl⟩⟩;show (if H.next=H.next/\v=0 then some _ else S.Γ H.next v)=none;rw[aa (by omega)];exact hr v
theorem Lj {S:Wo}{E:Mem}(hr:Rel S H E){st xt te:TypeId}{inf:TypeInfo}{z:Value}{e:Ty}{old new:List e.den}{H':aG}{s' x':Value}(hu:X.P.underlying st=some (.slice te))(Nj:Ev.lB X.P xt=true)(hi:X.P.info? te=some inf)(hz:Ev.l8 X.P te=some z)
 (hsz:inf.size=e.size) (h0:inf.size≠0) (hb0:inf.bytes≠0) (x9:inf.bytes<=100000) (hzc:z.cells.size=inf.size) (U7:old.length+new.length<=2000000)
 (hlen:Ev.vP x'=some new.length) (hnew:∃c,Ev.iM E e.size new.length x'=some c/\mN (CR S.F e) new c) (hbase:yZ S H E te e old H' s') :
 ∃S' vE E',Ev.ry X.P E st xt s' x'=some (vE,E')/\S.le S'/\VR S' (.own H'.next (old.length+new.length)) vE/\Rel S' (H'.push (.list te e (old++new) 0 false false)) E'/\St S H E S' (H'.push (.list te e (old++new) 0 false false)) E':=by
 obtain⟨nc,hn1,hn2⟩:=hnew;have hR:∀x c,CR S.F e x c->c.length=e.size:=λx c=>CR.length e x c
 have U8:=hn2.length hR;have oh:∀v,S.Γ H.next v=none:=λv=>hr.CN _ _ (aC _)
 have ajL:0<e.size:=by omega
 -- the evaluator's own tests
 have vT:∀(base:Option Addr) (sLen sCap:Nat) (oc:List Value),Ev.iM E e.size sLen (.slice base sLen sCap)=some oc->sLen=old.length->sCap<=2000000 ->
  Ev.ry X.P E st xt (.slice base sLen sCap) x'=(if sLen+new.length<=sCap then
   match base with
   |some ⟨b,off,none⟩=>(Ev.iC E b (off+sLen*inf.size) nc).map λH'=>(.slice base (sLen+new.length) sCap,H')
   |none=>if new.length=0 then some (.slice base sLen sCap,E) else none
   |_=>none
   else
    match base with
    |some ⟨b,off,none⟩ =>
     if off=0/\oc.length=sLen*inf.size/\(alive E b).any (λk=>decide (k.cells.length=sCap*inf.size)&&(k.elem==te)) then
      match Ev.kill E b with
      |some H1=>Ev.kM H1 te (oc++nc) (sLen+new.length) (sLen+new.length)
      |none=>none
     else none
    |none=>Ev.kM E te (oc++nc) (sLen+new.length) (sLen+new.length)
    |_=>none):=by
  intro base sLen sCap oc hoc hsl hcap;unfold Ev.ry;simp only[hu,Nj,hi,hz,hlen];rw[hsz,hn1,hoc];simp only;have hcond:¬(e.size=0\/inf.bytes=0\/inf.bytes>100000\/sLen+new.length>2000000\/sCap>2000000\/z.cells.size≠e.size\/(!nc.all Ev.plainCell)=true):=by
   rw[hn2.plain];simp;omega
  rw[aa hcond];rfl
 -- a new row of the evaluator's
 have fresh:∀(E1:Mem),E1.size=E.size->E1.lk=E.lk->∀(oc:List Value),mN (CR S.F e) old oc ->
  ∃E',Ev.kM E1 te (oc++nc) (old.length+new.length) (old.length+new.length)=some (.slice (some ⟨E.size,0,none⟩) (old.length+new.length) (old.length+new.length),E')/\E.size<=E'.size/\E'.lk=E.lk/\(∀j,j<E.size->E'.get j=E1.get j) /\
   oT (S.new H.next (some (E.size,old.length+new.length,e.size)) (some ⟨e,old++new⟩)) E' H.next (.list te e (old++new) 0 false false)/\VR (S.new H.next (some (E.size,old.length+new.length,e.size)) (some ⟨e,old++new⟩)) (.own H.next (old.length+new.length)) (.slice (some ⟨E.size,0,none⟩) (old.length+new.length) (old.length+new.length)):=by
  intro E1 h1 h2 oc hoc;obtain⟨E',hE⟩:=Mem.lV E1 ⟨oc++nc,te,true,false⟩;obtain⟨p1,p2,p3⟩:=Ev.Mem.dN hE;refine⟨E',?_,by omega,by omega,λj hj=>by rw[p3,aa (by omega)],?_,?_⟩
  .unfold Ev.kM;rw[hE];simp only[h1]
  .refine kY (b:=⟨oc++nc,te,true,false⟩) (mid:=oc++nc) (post:=[]) oh (sw (by rw[p3,ag h1.symm]) rfl) rfl (by simp) (hoc.append hn2) ?_ (by simp) U7 (λh=>by cases h);simp only[aA,U8,hoc.length hR,dh]
  exact .own _ _ _ _ e.size (ag rfl) ⟨e,old++new⟩ (ag ⟨rfl,rfl⟩) (by simp)
 cases hbase with
 |nil ho =>
  subst ho;rw[vT none 0 0 [] (by simp[Ev.iM]) rfl (by omega)];by_cases hn:new.length=0
  .have zN:new=[]:=aQ.1 hn;subst zN;obtain⟨a1,a2,a3⟩:=hr.add (r:=.list te e ([]++[]) 0 false false) (x:=none) (g:=some ⟨e,[]⟩) (aC _) rfl (λ_ _=>rfl) (λr' h=>by cases h;exact kZ oh) (λy h=>by cases h) rfl;exact⟨_,_,E,by simp,a1,.fZ _ ⟨e,[]⟩ (ag ⟨rfl,rfl⟩) rfl,a2,a3⟩
  obtain⟨E',e1,e2,e3,e4,e5,e6⟩:=fresh E rfl rfl [] rfl;obtain⟨a1,a2,a3⟩:=hr.add (r:=.list te e ([]++new) 0 false false) (x:=some (E.size,([]:List e.den).length+new.length,e.size)) (g:=some ⟨e,[]++new⟩) e2 e3 e4 (λr' h=>by cases h;exact e5) (λy h=>by cases h;exact aC _) rfl;refine⟨_,_,E',?_,a1,e6,a2,a3⟩;rw[aa (by omega)];exact e1
 |U5 id r0 hg hro ho =>
  subst ho;have Qp:(H.put id .dead).next=H.next:=(aG.gu H id .dead).1
  rw[vT none 0 0 [] (by simp[Ev.iM]) rfl (by omega),Qp];by_cases hn:new.length=0
  .have zN:new=[]:=aQ.1 hn;subst zN;obtain⟨a1,a2,a3⟩:=hr.move (E':=E) (r:=.list te e ([]++[]) 0 false false) (x:=none) (g:=some ⟨e,[]⟩) hg hro (aC _) rfl (λ_ _ _=>rfl) (λy h=>by cases h) (λr' h=>by cases h;exact kZ oh) rfl;exact⟨_,_,E,by simp,a1,.fZ _ ⟨e,[]⟩ (ag ⟨rfl,rfl⟩) rfl,a2,a3⟩
  obtain⟨E',e1,e2,e3,e4,e5,e6⟩:=fresh E rfl rfl [] rfl;obtain⟨a1,a2,a3⟩:=hr.move (E':=E') (r:=.list te e ([]++new) 0 false false) (x:=some (E.size,([]:List e.den).length+new.length,e.size)) (g:=some ⟨e,[]++new⟩) hg hro e2 e3 (λj hj _=>e4 j hj) (λy h=>by cases h;exact .inl (aC _)) (λr' h=>by cases h;exact e5) rfl;refine⟨_,_,E',?_,a1,e6,a2,a3⟩;rw[aa (by omega)];exact e1
 |row id r0 i cap b mid post hg hro hρ hb hlk hc hC hn hl hcap hel Ux =>
  have Qp:(H.put id .dead).next=H.next:=(aG.gu H id .dead).1
  have hml:=hC.length hR;obtain⟨oc,ho1,C8⟩:=z6 (pre:=[]) hR (λ_ _ h=>h.oI) hb (by simpa using hc) hC 0 old.length (by omega);have hoc:Ev.iM E e.size old.length (.slice (some ⟨i,0,none⟩) old.length cap)=some oc:=by simpa[Ev.iM] using ho1
  have ho3:mN (CR S.F e) old oc:=by simpa using C8
  rw[vT _ _ _ oc hoc rfl hcap,Qp];by_cases hroom:old.length+new.length<=cap
  .rw[ag hroom];have hbound:0+old.length*inf.size+nc.length<=b.cells.length:=by
    rw[U8,hn,hsz,bV,<-dh];exact dV _ hroom
   obtain⟨E',w1,w2,w3,b',w4,w5,w6,w7,w8⟩:=qp hb hlk hbound hn2.plain;have hcells:b'.cells=(mid++nc)++post.drop nc.length:=by
    rw[w5,hc];have hoff:0+old.length*inf.size=mid.length:=by rw[hml,hsz];omega
    rw[hoff];have hpl:nc.length<=post.length:=by
     have:b.cells.length=mid.length+post.length:=by rw[hc];simp
     omega
    have:=Eg mid post [] nc 0 (by omega);simp only[fA,ow]at this;rw[this,xQ nc post 0 (by omega)];simp
   have hb'len:b'.cells.length=cap*e.size:=by rw[w5,qE,hn]
   have aeS:∃l2,mN (CR S.F e) l2 (post.drop nc.length):=by
    obtain⟨l2,CI⟩:=Ux;obtain⟨a,bb,e1,f1,f2⟩:=CI.split hR new.length;have h1:=CI.length hR;have h2:=f1.length hR;have hpl:new.length*e.size<=l2.length*e.size:=by
     have:b.cells.length=mid.length+post.length:=by rw[hc];simp
     have J6:0+old.length*inf.size+nc.length<=b.cells.length:=hbound;rw[hsz]at J6;rw[<-h1];omega
    have hle:=Nat.le_of_mul_le_mul_right hpl ajL;rw[bY,gp hle]at h2;have key:post.drop nc.length=bb:=by rw[e1,U8,<-h2];simp
    rw[key];exact⟨_,f2⟩
   obtain⟨a1,a2,a3⟩:=hr.move (E':=E') (r:=.list te e (old++new) 0 false false) (x:=some (i,cap,e.size)) (g:=some ⟨e,old++new⟩) hg hro (by omega) w3 (λj hj hne=>w8 j (hne _ hρ)) (λy h=>by cases h;exact .inr ⟨_,hρ,rfl,hlk⟩)
    (λr' h=>by
     cases h;exact kY oh w4 (by rw[w6,hel]) hcells (hC.append hn2) hb'len (by simpa using hroom) hcap (λh=>by cases h) aeS) rfl
   refine⟨_,_,E',by simp only[w1,bL],a1,.own _ _ i cap e.size (ag rfl) ⟨e,old++new⟩ (ag ⟨rfl,rfl⟩) (by simp),a2,a3⟩
  rw[aa hroom];have hcond:(True/\oc.length=old.length*inf.size/\(alive E i).any (λk=>decide (k.cells.length=cap*inf.size)&&(k.elem==te))=true):=by
   refine⟨trivial,by rw[ho3.length hR,hsz],?_⟩;rw[hb];simp[hn,hsz,hel]
  simp only;rw[ag hcond];obtain⟨hgi,AZ⟩:=dF hb;obtain⟨E1,hE1⟩:=Mem.iW (b:={ b with live:=false,fix:=false }) (kX hb) hlk;obtain⟨_,_,s3,s4,s5⟩:=Ev.Mem.kQ hE1;have fe:Ev.kill E i=some E1:=by unfold Ev.kill;rw[hgi];exact hE1
  rw[fe];obtain⟨E',e1,e2,e3,e4,e5,e6⟩:=fresh E1 s3 s4 oc ho3;obtain⟨a1,a2,a3⟩:=hr.move (E':=E') (r:=.list te e (old++new) 0 false false) (x:=some (E.size,old.length+new.length,e.size)) (g:=some ⟨e,old++new⟩) hg hro e2 e3 (λj hj hne=>by rw[e4 j hj,s5,aa (hne _ hρ)]) (λy h=>by cases h;exact .inl (aC _)) (λr' h=>by cases h;exact e5) rfl;exact⟨_,_,E',e1,a1,e6,a2,a3⟩
theorem Om {c:Call}{s x:Operand}{st xt:TypeId}(hop:o.op = .call c)(hc:c.callee = .builtin .append)(h0:c.args[0]? = some s)(h1:c.args[1]? = some x)(h2:c.argTypes[0]? = some st)(h3:c.argTypes[1]? = some xt){k:AV->aG->Option β}(h:IE X H st xt (ev s) (ev x) k=some r) :
 ∃v H',k v H'=some r/\eO X cf o ev H v H':=by
 unfold IE at h;split at h
 .rename_i te hu Nj;split at h
  .rename_i inf z e hi hz hty;rw[au]at h;split at h
   .rename_i hcs;simp only[ak,aO,bt,aS]at hcs;obtain⟨⟨⟨⟨c1,c2⟩,c3⟩,c4⟩,c5⟩:=hcs;split at h
    .rename_i new old H' hv hb;rw[au]at h;split at h
     .rename_i U7;have U7:=ay U7;refine⟨_,_,h,λS E bA hr cg=>?_⟩;rw[hop]at cg;have mem:∀(y:Operand) (j:Nat),c.args[j]? = some y->y∈(Op.call c).operands:=λy j hy=>by
       have:=aY hy;simp only[Op.operands,Call.operands,hc];simpa using this
      have hs:=cg s (mem s 0 h0);have hx:=cg x (mem x 1 h1);obtain⟨l1,l2⟩:=Ee hr hv hx;obtain⟨nc,n1,n2⟩:=l2 new.length (aC _);rw[kD]at n2;obtain⟨S',vE,E',a1,a2,a3,a4,a5⟩:=Lj (X:=X) hr hu Nj hi hz c1 (ajK c2) (ajK c3) c4 c5 U7 l1 ⟨nc,n1,n2⟩ (U6 hr hb hs);refine⟨S',vE,E',⟨0,λ_ _=>?_⟩,a2,a3,a4,a5⟩;unfold jn;rw[hop];show Ev.eu X.P _ bA o c E=_;unfold Ev.eu;rw[hc];show Ev.se X.P bA c.args c.argTypes E=_;unfold Ev.se;rw[h0,h1,h2,h3];exact a1
     cases h
    cases h
   cases h
  cases h
 cases h
theorem Si {t:TypeId}{x y:Operand}(hop:o.op = .slice t x none (some y) none){k:AV->aG->Option β}(h:Oe X H t (ev x) (ev y) k=some r):∃v H',k v H'=some r/\eO X cf o ev H v H':=by
 unfold Oe at h;split at h
 .rename_i te id n kb b hu hp hq;split at h
  .rename_i t' e l gw ex hg;rw[au]at h;split at h
   .rename_i hs;simp only[ak]at hs;obtain⟨hs,hmay⟩:=hs;have hs:=Ef hs;rw[au]at h;split at h
    .rename_i hb;have hb:=aeP hb;refine⟨_,_,h,λS E bA hr cg=>?_⟩;rw[hop]at cg;obtain⟨hx,hlo,hhi⟩:=qa cg;rw[hp]at hx;have oh:∀v,S.Γ H.next v=none:=λv=>hr.CN _ _ (aC _)
     have Qp:(H.put id .dead).next=H.next:=(aG.gu H id .dead).1
     obtain⟨g1,⟨g0,g,g2,g2'⟩,g3⟩:=hr.row id _ hg;generalize hA:bA x=A at hx;have ha:BR ev 0 none 0:=.none;have hbr:∀len:Nat,BR ev len (some y) b:=λlen=>.some y kb b hq
     cases hx with
     |own _ _ i0 p7 s0 hρ g' hg' hn' =>
      rw[g2]at hg';cases hg';rcases g3 with⟨_,g5,_⟩|⟨i',cap,bk,mid,post,q1,q2,q3,q4,q5,q6,q7,q8,q9,yb⟩
      .rw[hρ]at g5;cases g5
      rw[hρ]at q1;cases q1;obtain⟨c1,c2,e1,k1,k2⟩:=q5.split (λx c=>CR.length e x c) b.toNat;have hlen:(l.take b.toNat).length=b.toNat:=by simp;omega
      obtain⟨a1,a2,a3⟩:=hr.move (E':=E) (r:=.list t' e (l.take b.toNat) 0 false false) (x:=some (i0,p7,e.size)) (g:=some ⟨e,l.take b.toNat⟩) hg rfl (aC _) rfl (λ_ _ _=>rfl) (λy h=>by cases h;exact .inr ⟨_,hρ,rfl,hr.lk id _ _ hg (by simpa[aG.nH,bt] using hmay) hρ⟩)
       (λr' h=>by
        cases h;exact kY (mid:=c1) (post:=c2++post) oh q2 q3 (by rw[q4,e1];simp) k1 q6 (by omega) q8 (λh=>by cases h) (yb.2.elim λl2 h2=>⟨_,k2.append h2⟩)) rfl
      refine⟨_,.slice (some ⟨i0,0,none⟩) b.toNat p7,E,⟨0,λ_ _=>lW hop hu ?_⟩,a1,.own _ _ i0 p7 e.size (ag rfl) ⟨e,l.take b.toNat⟩ (ag ⟨rfl,rfl⟩) hlen,a2,a3⟩;rw[hA];have:=oV (S:=S) (bA:=bA) hu hs ha (hbr n) (by omega) hb.1 (show b<=p7 by omega) hlo hhi (some ⟨i0,0,none⟩) (.inr ⟨_,_,rfl⟩) (by omega);rw[this];simp
     |fZ _ g' hg' hn' =>
      rw[g2]at hg';cases hg';have h0:l=[]:=aQ.1 (by omega);subst h0;have hb0:b.toNat=0:=by simp at hb;omega
      obtain⟨a1,a2,a3⟩:=hr.move (E':=E) (r:=.list t' e (([]:List e.den).take b.toNat) 0 false false) (x:=none) (g:=some ⟨e,[]⟩) hg rfl (aC _) rfl (λ_ _ _=>rfl) (λy h=>by cases h) (λr' h=>by
       cases h;rw[List.take_nil];exact kZ oh) rfl
      refine⟨_,.slice none 0 0,E,⟨0,λ_ _=>lW hop hu ?_⟩,a1,by rw[hb0];exact .fZ _ ⟨e,[]⟩ (ag ⟨rfl,rfl⟩) rfl,a2,a3⟩;rw[hA];have:=oV (S:=S) (bA:=bA) hu hs ha (hbr 0) (by omega) hb.1 (show b<=(0:Nat) by simp at hb;omega) hlo hhi none (.inl rfl) (by omega);rw[this];simp[hb0]
    cases h
   cases h
  cases h
 .rename_i te kb b hu hp hq;refine Bj (lo:=none) (hi:=some y) hop ?_;rw[hp];simp only[eS,bL,hq];exact h
 cases h
theorem U9 {c:Call}{d x:Operand}{dt:TypeId}(hop:o.op = .call c)(hc:c.callee = .builtin .copy)(h0:c.args[0]? = some d)(h1:c.args[1]? = some x)(h2:c.argTypes[0]? = some dt){k:AV->aG->Option β}(h:UP X H dt (ev d) (ev x) k=some r) :
 ∃v H',k v H'=some r/\eO X cf o ev H v H':=by
 unfold UP at h;split at h
 .rename_i te id off len Lf hu hd;split at h
  .rename_i t' e l gw s hg hs;rw[au]at h;split at h
   .rename_i hcs;simp only[ak,aO]at hcs;obtain⟨hmay,rfl⟩:=hcs;split at h
    .rename_i new hv;refine⟨_,_,h,λS E bA hr cg=>?_⟩;rw[hop]at cg;have mem:∀(y:Operand) (j:Nat),c.args[j]? = some y->y∈(Op.call c).operands:=λy j hy=>by
      have:=aY hy;simp only[Op.operands,Call.operands,hc];simpa using this
     have hdd:=cg d (mem d 0 h0);have hx:=cg x (mem x 1 h1);rw[hd]at hdd;generalize hA:bA d=A at hdd;obtain⟨l1,l2⟩:=Ee hr hv hx;obtain⟨nc,n1,n2⟩:=l2 (Nat.min new.length len) (Nat.min_le_left _ _);obtain⟨g1,⟨g0,g,g2,g2'⟩,g3⟩:=hr.row id _ hg;cases hdd with
     |rF _ _ _ _ i0 c0 s0 hρ g' hg' hcc Lg =>
      rw[g2]at hg';cases hg';rcases g3 with⟨_,g5,_⟩|⟨i',cap,b,mid,post,q1,q2,q3,q4,q5,q6,q7,q8,q9,yb⟩
      .rw[hρ]at g5;cases g5
      rw[hρ]at q1;cases q1;have hR:∀x c,CR S.F e x c->c.length=e.size:=λx c=>CR.length e x c
      obtain⟨_,hpost,hlc⟩:=q9 rfl;subst hpost;rw[fA]at q4;have U8:=n2.length hR;have hmin:(new.take (Nat.min new.length len)).length=Nat.min new.length len:=by simp
      have hml:Nat.min new.length len<=len:=Nat.min_le_right _ _;have hlk:=hr.lk id _ _ hg (by simpa[aG.nH,bt] using hmay) hρ;have hbound:off*e.size+nc.length<=b.cells.length:=by
       rw[U8,hmin,q6,<-dh];exact dV _ (by omega)
      obtain⟨E',w1,w2,w3,b',w4,w5,w6,w7,w8⟩:=qp q2 hlk hbound n2.plain;have hput:=mN.put hR q5 n2 (off:=off) (by rw[hmin];omega);obtain⟨z1,z2,z3⟩:=hr.rewrite hg hρ q2 w2 w3 w8 w4 w6 w7 (mid:=me mid (off*e.size) nc) (post:=[]) (by rw[w5,q4];simp) (by rw[w5,qE]) hput (qE _ _ _) (λ_=>rfl) ⟨[],rfl⟩;refine⟨_,goInt (Nat.min new.length len),E',⟨0,λ_ _=>?_⟩,z1,.int _ _,z2,z3⟩;unfold jn;rw[hop];show Ev.eu X.P _ bA o c E=_;unfold Ev.eu;rw[hc];show Ev.AW X.P bA c.args c.argTypes E=_;unfold Ev.AW
      rw[h0,h1,h2];show Ev.F9 X.P E dt (bA d) (bA x)=_;rw[hA];simp only[Ev.F9,hu,l1,hs,n1,w1,bL]
    cases h
   cases h
  cases h
 cases h
end
end Go.Tv
namespace Go.Tv
open Go.Ev (Tr ah iG Mem jC alive au dF bF gM jn aZ cB orElse)
theorem y4 {S:Wo}:∀{v:Value},aZ v=true->VR S (N9 v) v:=by
 intro v h;unfold N9;split
 .exact .int _ _
 .exact .bool _
 .rename_i s;have:=VR.str (S:=S) s.data.toList;obtain⟨⟨l⟩⟩:=s;exact this
 .exact .p6 _
 .exact .nX
 .exact .dG
 exact .zX _ h
theorem Bm:∀{l:List Value},Ev.cE l=true->∀v∈l,aZ v=true
 |[],_,v,hv=>by simp at hv
 |x::l,h,v,hv=>by
  simp only[Ev.cE,ak]at h;rcases bx.1 hv with rfl|hv
  .exact h.1
  exact Bm h.2 v hv
theorem y5 {z:Value}(h:aZ z=true):∀v∈z.cells.toList,aZ v=true:=by
 cases z with
 |agg cs =>
  have h':Ev.cE cs.toList=true:=by
   obtain⟨l⟩:=cs;simpa[Ev.aZ,Ev.mz] using h
  exact Bm h'
 |_=>intro v hv;simp[Value.cells]at hv;subst hv;exact h
theorem y6 {P:Program}{t:TypeId}{z:Value}(h:Ev.l8 P t=some z):aZ z=true/\∃i,P.info? t=some i/\i.zero=some z:=by
 unfold Ev.l8 at h;split at h
 .rename_i i hi;split at h
  .rename_i z' hz;split at h
   .rename_i hf;cases h;exact⟨hf,i,hi,hz⟩
   cases h
  cases h
 cases h
theorem ni {X:gY}{S:Wo}{t:TypeId}{z:List AV}(h:Cj X t=some z):∃zv,Ev.l8 X.P t=some zv/\LV S z zv.cells.toList:=by
 unfold Cj at h;split at h
 .rename_i zv hz;cases h;refine⟨zv,hz,?_⟩;have:=LV.map (S:=S) (f:=N9) (g:=λv=>v) zv.cells.toList λv hv=>y4 (y5 (y6 hz).1 v hv)
  simpa using this
 cases h
section
variable {X:gY} {cf:Nat×Nat->Ev.cG} {o:Oper} {ev:Operand->AV} {H:aG} {β:Type} {r:β}
theorem GB {S:Wo}{E:Mem}(hr:Rel S H E){t:TypeId}{cs:List AV}{C:List Value}(hl:LV S cs C) :
 ∃S' E',Ev.uL E t C=some (.pointer (some ⟨E.size,0,none⟩),E')/\S.le S'/\VR S' (.ptr H.next 0) (.pointer (some ⟨E.size,0,none⟩))/\Rel S' (H.push (.cells t cs)) E'/\St S H E S' (H.push (.cells t cs)) E':=by
 obtain⟨E',hE⟩:=Mem.lV E ⟨C,t,true,true⟩;obtain⟨p1,p2,p3⟩:=Ev.Mem.dN hE;have hle:=Wo.IW hr (some (E.size,0,0)) none;obtain⟨a1,a2,a3⟩:=hr.add (E':=E') (r:=.cells t cs) (x:=some (E.size,0,0)) (g:=none) (by omega) p2 (λj hj=>by rw[p3,aa (by omega)]) (λr' h=>by
  cases h;exact⟨E.size,0,0,⟨C,t,true,true⟩,ag rfl,sw (by rw[p3,ag rfl]) rfl,hl.mono hle,rfl,rfl⟩) (λy h=>by cases h;exact aC _) rfl
 exact⟨_,E',by unfold Ev.uL;rw[hE],a1,.ptr _ _ E.size 0 0 (ag rfl),a2,a3⟩
theorem Sj {t:TypeId}{z:List AV}(hop:o.op = .alloc t)(hz:Cj X t=some z):eO X cf o ev H (.ptr H.next 0) (H.push (.cells t z)):=by
 intro S E bA hr cg;obtain⟨zv,h1,h2⟩:=ni (S:=S) hz;obtain⟨S',E',k1,k2,k3,k4,k5⟩:=GB (t:=t) hr h2;refine⟨S',_,E',⟨0,λ_ _=>?_⟩,k2,k3,k4,k5⟩;unfold jn;rw[hop];show Ev.rz X.P t E=_;unfold Ev.rz;rw[h1];exact k1
theorem Sk {t:TypeId}(hop:o.op = .alloc t){k:AV->aG->Option β}(h:Og X H t k=some r):∃v H',k v H'=some r/\eO X cf o ev H v H':=by
 unfold Og at h;split at h
 .rename_i z n te hz hu;split at h
  .rename_i e hty;split at h
   .rename_i l hun;rw[au]at h;split at h
    .rename_i hn;have hn:n<=2000000:=ay hn;refine⟨_,_,h,λS E bA hr cg=>?_⟩;obtain⟨zv,h1,h2⟩:=ni (S:=S) hz;obtain⟨hC,hlen⟩:=vc e n hun h2;have n9:=hC.length (λx c=>CR.length e x c);have oh:∀v,S.Γ H.next v=none:=λv=>hr.CN _ _ (aC _)
     obtain⟨E',hE⟩:=Mem.lV E ⟨zv.cells.toList,t,true,true⟩;obtain⟨p1,p2,p3⟩:=Ev.Mem.dN hE;obtain⟨a1,a2,a3⟩:=hr.add (E':=E') (r:=.list t e l 0 true false) (x:=some (E.size,n,e.size)) (g:=some ⟨e,l⟩) (by omega) p2 (λj hj=>by rw[p3,aa (by omega)]) (λr' h=>by
      cases h;exact kY (b:=⟨zv.cells.toList,t,true,true⟩) (mid:=zv.cells.toList) (post:=[]) oh (sw (by rw[p3,ag rfl]) rfl) rfl (by simp) hC (by rw[<-hlen];exact n9) (by omega) hn (λ_=>⟨rfl,rfl,hlen⟩)) (λy h=>by cases h;exact aC _) rfl
     refine⟨_,.pointer (some ⟨E.size,0,none⟩),E',⟨0,λ_ _=>?_⟩,a1,.D8 _ _ E.size n e.size (ag rfl) ⟨e,l⟩ (ag ⟨rfl,rfl⟩) hlen,a2,a3⟩;unfold jn;rw[hop];show Ev.rz X.P t E=_;unfold Ev.rz;rw[h1];show Ev.uL E t zv.cells.toList=_;unfold Ev.uL;rw[hE]
    cases h
   cases h
  cases h
 cases h
theorem ZH {t:TypeId}{x:Operand}{n:Nat}{cs:List AV}(hop:o.op = .box t x)(hn:Ev.cQ X.P t=some n)(hc:D9 (ev x)=some cs):eO X cf o ev H (.ptr H.next 0) (H.push (.cells t cs)):=by
 intro S E bA hr cg;rw[hop]at cg;have hx:=cg x (by simp[Op.operands]);obtain⟨S',E',k1,k2,k3,k4,k5⟩:=GB (t:=t) hr (xR hx hc);refine⟨S',_,E',⟨0,λ_ _=>?_⟩,k2,k3,k4,k5⟩;unfold jn;rw[hop];show Ev.Ga X.P t (bA x) E=_;unfold Ev.Ga;rw[hn];exact k1
theorem Ll:∀(xs:List Value) (C:Array Value) (off k:Nat),(xs.zipIdx k).foldl (λcs (c:Value×Nat)=>cs.setIfInBounds (off+c.2) c.1) C=(me C.toList (off+k) xs).toArray
 |[],C,off,k=>by simp[me]
 |x::xs,C,off,k=>by
  rw[List.zipIdx_cons,gm,Ll xs _ off (k+1)];simp only[Array.toList_setIfInBounds];rfl
theorem z7 {S:Wo}{place:Nat->Option (Nat×Nat)}:∀{parts:List (Nat×AV)} {Bn:List (Nat×Value)} {cells cs:List AV} {C:Array Value},LV S cells C.toList->parts.length=Bn.length->(∀(j:Nat) a b,parts[j]? = some a->Bn[j]? = some b->a.1=b.1/\VR S a.2 b.2)->Eb place cells parts=some cs ->
 ∃C',Instr.fill place C Bn=some C'/\LV S cs C'.toList
 |[],Bn,cells,cs,C,hl,hlen,_,h=>by
  have:Bn=[]:=aQ.1 hlen.symm;subst this;simp only[Eb,aq]at h;subst h;exact⟨C,rfl,hl⟩
 |(i,v)::parts,[],cells,cs,C,hl,hlen,_,h=>by simp at hlen
 |(i,v)::parts,(i',x)::Bn,cells,cs,C,hl,hlen,hp,h=>by
  obtain⟨rfl,hv⟩:=hp 0 _ _ rfl rfl;simp only[Eb]at h;split at h
  .rename_i off size vs hpl hvs;rw[au]at h;split at h
   .rename_i hc;simp only[ak,aO,bt]at hc;obtain⟨h1,h2⟩:=hc;have n9:=xR hv hvs;have hsz:x.cells.size=size:=by have:=n9.1;simp at this;omega
    have h2':off+vs.length<=cells.length:=h2;unfold Instr.fill;simp only[hpl];have hcond:¬((decide (x.cells.size≠size)||decide (off+x.cells.size>C.size))=true):=by
     have hcs:cells.length=C.size:=by have:=hl.1;simpa using this
     simp;omega
    rw[aa hcond];have ajM:(x.cells.zipIdx.foldl (λcs (c:Value×Nat)=>cs.setIfInBounds (off+c.2) c.1) C)=(me C.toList off x.cells.toList).toArray:=by
     rw[<-Array.foldl_toList,Array.toList_zipIdx];exact Ll _ _ off 0
    have hl':LV S (me cells off vs) ((me C.toList off x.cells.toList).toArray).toList:=by
     rw[<-th];exact LV.me vs _ off n9 hl
    have:=z7 (C:=(me C.toList off x.cells.toList).toArray) hl' (by simpa using hlen) (λj a b ha hb=>hp (j+1) a b (by simpa using ha) (by simpa using hb)) h;rw[<-ajM]at this;exact this
   cases h
  cases h
theorem Bo {ps:Array (Nat×Operand)}{S:Wo}{bA:Operand->Value}(cg:∀x∈(ps.toList.map (·.2)).toArray,VR S (ev x) (bA x)):(wG ev ps).length=(Ev.nR bA ps).length/\∀(j:Nat) a b,(wG ev ps)[j]? = some a->(Ev.nR bA ps)[j]? = some b->a.1=b.1/\VR S a.2 b.2:=by
 refine⟨by simp[wG,Ev.nR],λj a b ha hb=>?_⟩;simp only[wG,Ev.nR,cz,aL]at ha hb;obtain⟨q,h1,rfl⟩:=ha;obtain⟨q',h2,rfl⟩:=hb;rw[h1]at h2;cases h2;refine⟨rfl,cg q.2 ?_⟩;have:=bh h1;simp only[List.mem_toArray,bZ];exact⟨q,this,rfl⟩
theorem Cm {P:Program}:∀{fs:List Field} {pl:List (Nat×Nat)},placesOf P fs=some pl->fs.mapM (λf=>(P.info? f.type).map λi=>(f.offset,i.size))=some pl
 |[],pl,h=>by simp[placesOf]at h;subst h;rfl
 |f::fs,pl,h=>by
  simp only[placesOf]at h;split at h
  .rename_i i l hi hl;cases h;have:=Cm hl;simp only[List.mapM_cons,hi,bL,this];rfl
  cases h
theorem Sl {t:TypeId}{ps:Array (Nat×Operand)}(hop:o.op = .build t ps){k:AV->Option β}(h:Oh X t (wG ev ps) k=some r):∃v,k v=some r/\eO X cf o ev H v H:=by
 have fin:∀cs,(∀S bA,(∀x∈(ps.toList.map (·.2)).toArray,VR S (ev x) (bA x))->∃C,X.P.built t (Ev.nR bA ps)=some C/\LV S cs C.toList)->(Ev.l8 X.P t).isSome=true->eO X cf o ev H (.agg cs) H:=λcs hb hz=>.quiet λS E bA hr cg=>by
  rw[hop]at cg;obtain⟨C,h1,h2⟩:=hb S bA cg;have hC:C=C.toList.toArray:=by simp
  refine⟨.agg C,λcall=>?_,by rw[hC];exact .agg _ _ h2.1 h2.2⟩;unfold jn;rw[hop];show cB E (Ev.Dz X.P t (Ev.nR bA ps))=_;unfold Ev.Dz;rw[ag hz,h1];rfl
 unfold Oh at h;split at h
 .rename_i z n e hz hu;split at h
  .rename_i ie Y6;split at h
   .rename_i cs hf;obtain⟨zv,Va,_⟩:=ni (S:=⟨λ_=>none,λ_=>none,λ_ _=>none⟩) hz;obtain⟨_,it,hit,aeT⟩:=y6 Va;refine⟨_,h,fin cs (λS bA cg=>?_) (by rw[Va];rfl)⟩;obtain⟨zv',hzv',hl⟩:=ni (S:=S) hz;rw[Va]at hzv';cases hzv';obtain⟨l1,l2⟩:=Bo cg;obtain⟨C',h1,h2⟩:=z7 hl l1 l2 hf;refine⟨C',?_,h2⟩;unfold Program.built;rw[hit,hu];simp only[aeT,Y6];exact h1
   cases h
  cases h
 .rename_i z fs hz hu;split at h
  .rename_i pl hpl;split at h
   .rename_i cs hf;obtain⟨zv,Va,_⟩:=ni (S:=⟨λ_=>none,λ_=>none,λ_ _=>none⟩) hz;obtain⟨_,it,hit,aeT⟩:=y6 Va;refine⟨_,h,fin cs (λS bA cg=>?_) (by rw[Va];rfl)⟩;obtain⟨zv',hzv',hl⟩:=ni (S:=S) hz;rw[Va]at hzv';cases hzv';obtain⟨l1,l2⟩:=Bo cg;obtain⟨C',h1,h2⟩:=z7 hl l1 l2 hf;refine⟨C',?_,h2⟩;unfold Program.built;rw[hit,hu];simp only[aeT,Cm hpl];have:(λx:Nat=>pl.toArray[x]?)=λi:Nat=>pl[i]? := by funext i;simp
    rw[this];exact h1
   cases h
  cases h
 cases h
theorem Eh (z:Array Value)(hz:0<z.size):∀n,(List.range (n*z.size)).map (λi=>z[i%z.size]!)=(List.replicate n z.toList).flatten
 |0=>by simp
 |n+1=>by
  rw[List.replicate_succ',List.flatten_append,<-Eh z hz n,Nat.succ_mul,List.range_add,fC];congr 1
  simp only[ou,j6,List.flatten_nil,fA];apply List.ext_getElem
  .simp
  intro j h1 h2;simp only[cy,List.length_range]at h1;simp only[List.getElem_map,List.getElem_range,Function.comp_apply];have:(n*z.size+j)%z.size=j:=by
   rw[l6,Nat.add_mul_mod_self_right,gW h1]
  rw[this,getElem!_pos z j h1];simp
theorem Qq {S:Wo}{z:List AV}{C:List Value}(h:LV S z C):∀n,LV S (aeD n z) (List.replicate n C).flatten
 |0=>LV.nil
 |n+1=>by
  show LV S (z++aeD n z) _;rw[jk,j6];exact h.append (Qq h n)
theorem Lm {S:Wo}{e:Ty}{x:e.den}{C:List Value}(h:CR S.F e x C):∀n,mN (CR S.F e) (List.replicate n x) (List.replicate n C).flatten
 |0=>rfl
 |n+1=>by
  rw[jk,jk,j6];exact⟨C,_,rfl,h,Lm h n⟩
theorem GC {P:Program}{e:TypeId}{s n:Nat}{z:Value}(hs:Ev.cQ P e=some s)(hz:Ev.l8 P e=some z)(hl:z.cells.size=s):∃zs,Ev.uN P e n=some zs/\zs.toList=(List.replicate n z.cells.toList).flatten:=by
 unfold Ev.uN;rw[hs,hz];simp only;by_cases h0:n*s=0
 .rw[ag h0];refine⟨#[],rfl,?_⟩;rcases Nat.mul_eq_zero.1 h0 with rfl|h1
  .simp
  have:z.cells.toList=[]:=aQ.1 (by rw[lG,hl,h1]);rw[this];simp
 rw[aa h0];refine⟨_,rfl,?_⟩;have hpos:0<z.cells.size:=by
  rcases Nat.eq_zero_or_pos z.cells.size with h|h
  .rw[<-hl,h]at h0;simp at h0
  exact h
 rw[<-Eh z.cells hpos n,hl];simp
theorem Vb {t:TypeId}{p q:Operand}(hop:o.op = .makeSlice t p q){k:AV->aG->Option β}(h:yR X H t (ev p) (ev q) k=some r):∃v H',k v H'=some r/\eO X cf o ev H v H':=by
 unfold yR at h;split at h
 .rename_i te kl l kc c hu hp hq;split at h
  .rename_i inf z e hi hz hty;split at h
   .rename_i x hun;rw[au]at h;split at h
    .rename_i hcs;simp only[ak,aO,bt]at hcs;obtain⟨⟨c1,c2⟩,c3⟩:=hcs;rw[au]at h;split at h
     .rename_i hb;have hb:0<=l/\l<=c/\c<=2000000:=ajI (n:=2000000) hb;refine⟨_,_,h,λS E bA hr cg=>?_⟩;rw[hop]at cg;have hx:=cg p (by simp[Op.operands]);have hy:=cg q (by simp[Op.operands]);rw[hp]at hx;rw[hq]at hy;obtain⟨zv,Va,hzl⟩:=ni (S:=S) hz;have hs:Ev.cQ X.P te=some inf.size:=by simp[Ev.cQ,hi]
      have hzs:zv.cells.size=inf.size:=by have:=hzl.1;simp at this;omega
      obtain⟨zs,hz1,hz2⟩:=GC (n:=c.toNat) hs Va hzs;obtain⟨cc,m',hm,hCR,zN⟩:=qD e hun hzl;have:=zN.js;subst this;rw[fA]at hm;have oh:∀v,S.Γ H.next v=none:=λv=>hr.CN _ _ (aC _)
      obtain⟨E',hE⟩:=Mem.lV E ⟨zs.toList,te,true,true⟩;obtain⟨p1,p2,p3⟩:=Ev.Mem.dN hE;have hC:mN (CR S.F e) (List.replicate c.toNat x) zs.toList:=by rw[hz2,hm];exact Lm hCR _
      have hlen:=hC.length (λx c=>CR.length e x c);rw[iI]at hlen;obtain⟨a1,a2,a3⟩:=hr.add (E':=E') (r:=.list te e (List.replicate c.toNat x) 0 true false) (x:=some (E.size,c.toNat,e.size)) (g:=some ⟨e,List.replicate c.toNat x⟩) (by omega) p2 (λj hj=>by rw[p3,aa (by omega)]) (λr' h=>by
       cases h;exact kY (b:=⟨zs.toList,te,true,true⟩) (mid:=zs.toList) (post:=[]) oh (sw (by rw[p3,ag rfl]) rfl) rfl (by simp) hC hlen (by simp) (by omega) (λ_=>⟨rfl,rfl,by simp⟩)) (λy h=>by cases h;exact aC _) rfl
      have hv:=VR.rF (S:=S.new H.next (some (E.size,c.toNat,e.size)) (some ⟨e,List.replicate c.toNat x⟩)) H.next 0 l.toNat c.toNat E.size c.toNat e.size (ag rfl) ⟨e,List.replicate c.toNat x⟩ (ag ⟨rfl,rfl⟩) (by simp) (by omega)
      rw[oz]at hv;refine⟨_,.slice (some ⟨E.size,0,none⟩) l.toNat c.toNat,E',⟨0,λ_ _=>?_⟩,a1,hv,a2,a3⟩;unfold jn;rw[hop];show Ev.pW X.P E t (bA p) (bA q)=_;rw[hx.fQ,hy.fQ];simp only[Ev.pW,hu,hi,hz1];rw[ag ⟨hb.1,hb.2.1,hb.2.2,c1⟩];unfold Ev.uM;rw[hE]
     cases h
    cases h
   cases h
  cases h
 cases h
theorem oK {S0:Wo}{H0:aG}{E:Mem}:∀{cs cs':List AV} {H H':aG} {S:Wo} {C:List Value},Rel S H E->S0.le S->St S0 H0 E S H E->LV S cs C->jq H cs=some (cs',H')->∃S',S0.le S'/\Rel S' H' E/\St S0 H0 E S' H' E/\LV S' cs' C/\S.le S'
 |[],cs',H,H',S,C,hr,h0,hst,hl,h=>by
  simp only[jq,aq,ax]at h;obtain⟨rfl,rfl⟩:=h;exact⟨S,h0,hr,hst,hl,S.le_refl⟩
 |v::cs,cs',H,H',S,C,hr,h0,hst,hl,h=>by
  obtain⟨x,C',rfl,h1,h2⟩:=hl.cons_inv;have plain:(∀id n,v ≠ .own id n)->(∀id a b c,v ≠ .rF id a b c)->∃S',S0.le S'/\Rel S' H' E/\St S0 H0 E S' H' E/\LV S' cs' (x::C')/\S.le S':=by
   intro hne aoi;unfold jq at h;split at h
   .rename_i hh;cases hh
   .rename_i hh;cases hh;exact absurd rfl (hne _ _)
   .rename_i hh;cases hh;exact absurd rfl (aoi _ _ _ _)
   rename_i v' r' _ _ hh;cases hh;split at h
   .rename_i r'' H'' hf;cases h;obtain⟨S',k1,k2,k3,k4,k5⟩:=oK hr h0 hst h2 hf;exact⟨S',k1,k2,k3,LV.cons (h1.mono k5) k4,k5⟩
   cases h
  cases v with
  |own id n =>
   simp only[jq]at h;split at h
   .rename_i t e l gw ex ro hg;split at h
    .rename_i r'' H'' hf;cases h;obtain⟨S1,k1,k2,k3,k4⟩:=ve hr hg;obtain⟨rfl,hv⟩:=k4 n x h1;have ZI:VR S1 (.dH e l) x:=by
      refine .dH e l x ?_;rcases hv with⟨rfl,rfl⟩|⟨i,mid,post,cap,rfl,hF,hC,hcap⟩
      .exact .inl ⟨rfl,.inl rfl⟩
      exact .inr ⟨i,[],mid,post,cap,rfl,by simpa using hF,hC,hcap⟩
     obtain⟨S',q1,q2,q3,q4,q5⟩:=oK k2 (Wo.le_trans h0 k1) (hst.trans k3) (h2.mono k1) hf;exact⟨S',q1,q2,q3,LV.cons (ZI.mono q5) q4,Wo.le_trans k1 q5⟩
    cases h
   cases h
  |rF id off len cap =>
   simp only[jq]at h;split at h
   .rename_i t e l gw ex ro hg;split at h
    .rename_i r'' H'' hf;cases h;obtain⟨S1,k1,k2,k3,k4⟩:=ve hr hg;obtain⟨_,⟨_,g0,w1,w2⟩,w3⟩:=hr.row id _ hg;have ZI:VR S1 (.dH e ((l.drop off).take len)) x:=by
      cases h1 with
      |rF _ _ _ _ i c s hρ g Vc hc hl' =>
       rw[w1]at Vc;cases Vc;have hs:s=e.size:=by
        rcases w3 with⟨_,g5,_⟩|⟨i',cap',b,mid,post,q1,_⟩
        .rw[hρ]at g5;cases g5
        rw[hρ]at q1;cases q1;rfl
       subst hs;obtain⟨_,hv⟩:=k4 g0.2.length _ (.own id _ i c e.size hρ g0 w1 rfl);rcases hv with⟨_,hv⟩|⟨i1,mid,post,Lf,hv,hF,hC,hcap⟩
       .cases hv
       simp only[Value.slice.injEq,aq,Addr.mk.injEq]at hv;obtain⟨⟨rfl,_⟩,_,_⟩:=hv;obtain⟨a,b,rfl,ha,hb⟩:=hC.split (λx c=>CR.length e x c) off;obtain⟨b1,b2,rfl,x9,_⟩:=hb.split (λx c=>CR.length e x c) len;have hal:=ha.length (λx c=>CR.length e x c);have hlt:(l.take off).length=off:=by rw[bY];omega
       have Nw:((l.drop off).take len).length=len:=by rw[bY,bQ];omega
       refine .dH e _ _ (.inr ⟨i,a,b1,b2++post,cap,?_,?_,x9,by omega⟩)
       .rw[hal,hlt,Nw]
       rw[hF];simp
     obtain⟨S',q1,q2,q3,q4,q5⟩:=oK k2 (Wo.le_trans h0 k1) (hst.trans k3) (h2.mono k1) hf;exact⟨S',q1,q2,q3,LV.cons (ZI.mono q5) q4,Wo.le_trans k1 q5⟩
    cases h
   cases h
  |_=>exact plain (λ_ _=>by simp) (λ_ _ _ _=>by simp)
theorem Ei {t:TypeId}{len:Nat}{ps:Array (Nat×Operand)}(hop:o.op = .buildSlice t len ps){k:AV->aG->Option β}(h:wH X H t len (wG ev ps) k=some r):∃v H',k v H'=some r/\eO X cf o ev H v H':=by
 unfold wH at h;split at h
 .rename_i te hu;split at h
  .rename_i s z e hs hz hty;rw[au]at h;split at h
   .rename_i hcs;simp only[ak,aO,bt]at hcs;obtain⟨⟨⟨c1,c0⟩,c2⟩,c3⟩:=hcs;split at h
    .rename_i cs hf;split at h
     .rename_i cs' H1 hfz;split at h
      .rename_i l hun;refine⟨_,_,h,λS E bA hr cg=>?_⟩;rw[hop]at cg;obtain⟨l1,l2⟩:=Bo cg;obtain⟨zv,Va,hzl⟩:=ni (S:=S) hz;have hzs:zv.cells.size=s:=by have:=hzl.1;simp at this;omega
       obtain⟨zs,hz1,hz2⟩:=GC (n:=len) hs Va hzs;obtain⟨C',f1,f2⟩:=z7 (C:=zs) (by rw[hz2];exact Qq hzl len) l1 l2 hf;obtain⟨S1,k1,k2,k3,k4,_⟩:=oK hr S.le_refl (St.refl _ _ _) f2 hfz;obtain⟨hC,hlen⟩:=vc e len hun k4;have n9:=hC.length (λx c=>CR.length e x c);have oh:∀v,S1.Γ H1.next v=none:=λv=>k2.CN _ _ (aC _)
       obtain⟨E',hE⟩:=Mem.lV E ⟨C'.toList,te,true,true⟩;obtain⟨p1,p2,p3⟩:=Ev.Mem.dN hE;obtain⟨a1,a2,a3⟩:=k2.add (E':=E') (r:=.list te e l 0 X.rm false) (x:=some (E.size,len,e.size)) (g:=some ⟨e,l⟩) (by omega) p2 (λj hj=>by rw[p3,aa (by omega)]) (λr' h=>by
        cases h;exact kY (b:=⟨C'.toList,te,true,true⟩) (mid:=C'.toList) (post:=[]) oh (sw (by rw[p3,ag rfl]) rfl) rfl (by simp) hC (by rw[<-hlen];exact n9) (by omega) c0 (λ_=>⟨rfl,rfl,hlen⟩)) (λy h=>by cases h;exact aC _) rfl
       refine⟨_,.slice (some ⟨E.size,0,none⟩) len len,E',⟨0,λ_ _=>?_⟩,Wo.le_trans k1 a1,.own _ _ E.size len e.size (ag rfl) ⟨e,l⟩ (ag ⟨rfl,rfl⟩) hlen,a2,k3.trans a3⟩;unfold jn;rw[hop];show Ev.mW X.P E t len (Ev.nR bA ps)=_;have hc1:¬(len*s>2 ^ 24):=by
        have:len*s<=16777216:=c1;omega
       simp only[Ev.mW,hu,hs,hz1,aa hc1,f1];unfold Ev.uM;rw[hE]
      cases h
     cases h
    cases h
   cases h
  cases h
 cases h
theorem vf {bA:Operand->Value}{s d:TypeId}{x:Operand}(hop:o.op = .convert s d x){v:Value}(hx:aZ (bA x)=true)(hv:aZ v=true)(h:bF X.P (convert s d (bA x))=some v)(call:Ev.cG)(E:Mem):jn X.P call bA o E=some (v,E):=by
 have hp:gM X.P bA o=some v:=wM (λa b=>by rw[hop];simp) (by rw[hop];simp[Ev.de,Op.operands,hx]) (by
  unfold execOp;rw[hop];show bF X.P (convert s d (bA x) >>= λx=>pure (Next.value x))=_;rw[bu,h];rfl) hv
 unfold jn;rw[hop];show Ev.kO X.P bA o s d (bA x) E=_;unfold Ev.kO;cases hq:X.P.underlying s with
 |none =>
  show (match orElse none (gM X.P bA o) with|some v=>some (v,E)|none=>Ev.jf X.P E s d (bA x))=_;rw[hp];rfl
 |some q =>
  show (match orElse (Ev.nS X.P d (bA x)) (gM X.P bA o) with|some v=>some (v,E)|none=>Ev.jf X.P E s d (bA x))=_;cases hw:Ev.nS X.P d (bA x) with
  |none=>rw[hp];rfl
  |some u =>
   have h1:=Ev.Gg (P:=X.P) (ρ:=λ_=>none) (Ev.dA _ hx) hw s ⟨q,hq⟩ default;have h2:=Ev.oQ (P:=X.P) _ h default;first
    |(rw[h1.1]at h2;cases h2;rfl)
    |(rw[h1]at h2;cases h2;rfl)
theorem oW {bA:Operand->Value}{s d:TypeId}{x:Operand}(hop:o.op = .convert s d x){q:TypeDesc}(hq:X.P.underlying s=some q)(hw:Ev.nS X.P d (bA x)=none)(hp:gM X.P bA o=none)(call:Ev.cG)(E:Mem):jn X.P call bA o E=Ev.jf X.P E s d (bA x):=by
 unfold jn;rw[hop];show Ev.kO X.P bA o s d (bA x) E=_;unfold Ev.kO;show (match orElse (match X.P.underlying s with|some _=>Ev.nS X.P d (bA x)|none=>none) (gM X.P bA o) with|some v=>some (v,E)|none=>Ev.jf X.P E s d (bA x))=_;rw[hq,hp];show (match orElse (Ev.nS X.P d (bA x)) none with|some v=>some (v,E)|none=>Ev.jf X.P E s d (bA x))=_;rw[hw];rfl
theorem rW {P:Program}{o:Oper}{ev:Operand->Value}(h:bF P (execOp ev o)=none\/Ev.de ev o.op=false):gM P ev o=none:=by
 unfold gM;split
 .rfl
 rcases h with h|h
 .rw[h];split<;>rfl
 rw[h];rfl
theorem Bq:∀(l:List Int) (acc:ByteArray),Ev.r8 (l.map λn=>Value.int .u8 n) acc=some ⟨acc.data++(l.map Y4).toArray⟩
 |[],acc=>by simp[Ev.r8]
 |n::l,acc=>by
  simp only[cO,Ev.r8,Ev.C3];rw[Bq l];congr 2
  apply kB.1;simp[ByteArray.push,Y4]
theorem I0 {F:Nat->Option (List Value)}{k:IntKind}:∀{l:List Int} {c:List Value},mN (CR F (.int k)) l c->c=l.map λn=>Value.int k n
 |[],_,h=>h
 |n::l,_,⟨c1,c2,e,h1,h2⟩=>by rw[e,show c1=[Value.int k n] from h1,I0 h2];rfl
theorem Vd {s d:TypeId}{x:Operand}(hop:o.op = .convert s d x){k:AV->aG->Option β}(h:Ec X H s d (ev x) k=some r):∃v H',k v H'=some r/\eO X cf o ev H v H':=by
 unfold Ec at h;split at h
 .rename_i k0 k1 k2 n hu1 hu2 hp;refine⟨_,_,h,.quiet λS E bA hr cg=>?_⟩;rw[hop]at cg;have hx:=cg x (by simp[Op.operands]);rw[hp]at hx;have ex:=hx.fQ;refine⟨.int k1 (k1.wrap n),λcall=>vf hop (by rw[ex];rfl) rfl ?_ call E,.int _ _⟩;rw[ex];unfold convert;rw[bu,bT hu1];simp only[aW];rw[bu,bT hu2];rfl
 .rename_i s0 hu1 hu2 hp;refine⟨_,_,h,.quiet λS E bA hr cg=>?_⟩;rw[hop]at cg;have hx:=cg x (by simp[Op.operands]);rw[hp]at hx;have ex:=hx.jr;refine⟨.string ⟨s0.toArray⟩,λcall=>vf hop (by rw[ex];rfl) rfl ?_ call E,.str _⟩;rw[ex];unfold convert;rw[bu,bT hu1];simp only[aW];rw[bu,bT hu2];rfl
 .rename_i te s0 hu1 hu2 hp;split at h
  .rename_i Im Y5;rw[au]at h;split at h;case isFalse=>cases h
   rename_i hcap;have hcap:=ay hcap;refine⟨_,_,h,λS E bA hr cg=>?_⟩;rw[hop]at cg;have hx:=cg x (by simp[Op.operands]);rw[hp]at hx;have ex:=hx.jr;have oh:∀v,S.Γ H.next v=none:=λv=>hr.CN _ _ (aC _)
   have hC:∀s:List UInt8,mN (CR S.F (.int .u8)) (s.map cY) (s.map λb=>Value.int .u8 b.toNat):=λs=>by
    induction s with
    |nil=>rfl
    |cons b s ih=>exact⟨[_],_,rfl,rfl,ih⟩
   obtain⟨E',hE⟩:=Mem.lV E ⟨s0.map λb=>.int .u8 b.toNat,te,true,false⟩;obtain⟨p1,p2,p3⟩:=Ev.Mem.dN hE;obtain⟨a1,a2,a3⟩:=hr.add (E':=E') (r:=.list te (.int .u8) (s0.map cY) 0 false false) (x:=some (E.size,s0.length,1)) (g:=some ⟨.int .u8,s0.map cY⟩) (by omega) p2 (λj hj=>by rw[p3,aa (by omega)]) (λr' h=>by
    cases h;exact kY (b:=⟨s0.map λb=>.int .u8 b.toNat,te,true,false⟩) (mid:=s0.map λb=>.int .u8 b.toNat) (post:=[]) oh (sw (by rw[p3,ag rfl]) rfl) rfl (by simp) (hC s0) (by simp[Ty.size]) (by simp) hcap (λh=>by cases h)) (λy h=>by cases h;exact aC _) rfl
   refine⟨_,.slice (some ⟨E.size,0,none⟩) s0.length s0.length,E',⟨0,λ_ _=>?_⟩,a1,.own _ _ E.size s0.length 1 (ag rfl) ⟨.int .u8,s0.map cY⟩ (ag ⟨rfl,rfl⟩) (by simp),a2,a3⟩;rw[oW hop hu1 (by rw[ex];simp only[Ev.nS,hu2]) (rW (.inl ?_)),ex]
   .simp only[Ev.jf,hu1,hu2,Im,Y5];unfold Ev.kM;have:(⟨s0.toArray⟩:ByteArray).size=s0.length:=by simp[ByteArray.size]
    rw[this,hE]
   unfold execOp;rw[hop];show bF X.P (convert s d (bA x) >>= λx=>pure (Next.value x))=_;rw[bu,ex];unfold convert;rw[bu,bT hu1];simp only[aW];rw[bu,bT hu2];simp only[aW];rw[bu,bT Im];rfl
  cases h
 .cases h
 .rename_i _ te hu1 hu2 hne;split at h
  .rename_i Im;split at h
   .rename_i l hv;refine⟨_,_,h,.quiet λS E bA hr cg=>?_⟩;rw[hop]at cg;have hx:=cg x (by simp[Op.operands]);have e8:Ev.nS X.P d (bA x)=none:=by simp only[Ev.nS,hu2]
    obtain⟨l1,l2⟩:=Ee hr hv hx;obtain⟨c,c1,c2⟩:=l2 l.length (aC _);rw[kD]at c2;have hc:=I0 c2;refine⟨.string ⟨(l.map Y4).toArray⟩,λcall=>?_,.str _⟩;generalize hA:bA x=A at *;unfold Ev.vP at l1;split at l1
    .rename_i a n cap;cases l1;cases a with
     |none =>
      have h0:l=[]:=by
       simp only[Ev.iM]at c1;split at c1
       .rename_i h0;exact aQ.1 h0
       cases c1
      subst h0;refine vf hop (by rw[hA];rfl) rfl ?_ call E;rw[hA];unfold convert;rw[bu,bT hu1];simp only[aW];rw[bu,bT hu2];simp only[aW];rw[bu,bT Im];rfl
     |some ad =>
      obtain⟨i,off,sp⟩:=ad;cases sp with
      |some q =>
       have h0:l=[]:=by
        simp only[Ev.iM]at c1;split at c1
        .rename_i h0;exact aQ.1 h0
        cases c1
       subst h0;rw[oW (bA:=bA) hop hu1 (by rw[hA];exact e8) (rW (.inr (by rw[hop];simp[Ev.de,Op.operands,hA,aZ]))),hA];simp only[Ev.jf,hu1,hu2,Im];rfl
      |none =>
       rw[oW (bA:=bA) hop hu1 (by rw[hA];exact e8) (rW (.inr (by rw[hop];simp[Ev.de,Op.operands,hA,aZ]))),hA];have c1':Ev.fU E i off l.length=some c:=by simpa[Ev.iM,Ty.size] using c1
       simp only[Ev.jf,hu1,hu2,Im,c1'];rw[hc,Bq];simp
    .rename_i s0;generalize ev x=a at hx hv hne;cases hx with
     |str s1=>exact absurd rfl (hne s1)
     |dH e l v hs=>rcases hs with⟨_,hs|hs⟩|⟨_,_,_,_,_,hs,_⟩<;>cases hs
     |zX v hf=>cases hv
     |fl a v h=>cases hv
     |cx a b v h=>cases hv
     |jY v=>cases hv
    cases l1
   cases h
  cases h
 .rename_i te Zr id n hu1 hu2 hp;split at h
  .rename_i t' e l gw ex ro hg Im;rw[au]at h;split at h
   .rename_i hcond;simp only[ak,aO,bt]at hcond;obtain⟨⟨hmay,rfl⟩,h1⟩:=hcond;rw[hu1]at hu2;cases hu2;refine⟨_,_,h,.quiet λS E bA hr cg=>?_⟩;rw[hop]at cg;have hx:=cg x (by simp[Op.operands]);rw[hp]at hx;generalize hA:bA x=A at hx;obtain⟨q1,⟨q2,g2,q3,q4⟩,q5⟩:=hr.row id _ hg;cases hx with
    |own _ _ i cap s hρ g hg' hn =>
     rcases q5 with⟨_,q6,_⟩|⟨i',cap',b,mid,post,k1,k2,k3,k4,k5,k6,k7,k8,k9⟩
     .rw[hρ]at q6;cases q6
     rw[hρ]at k1;cases k1;have hmay':H.lk<=id:=by simpa[aG.nH,bt] using hmay
     have hlk:=hr.lk id _ _ hg hmay' hρ;refine⟨_,λcall=>?_,.own _ _ i cap _ hρ g hg' hn⟩;rw[oW (bA:=bA) hop hu1 (by simp only[Ev.nS,hu1]) (rW (.inr (by rw[hop];simp[Ev.de,Op.operands,hA,aZ]))),hA];have hb:(Nat.ble E.lk i&&Nat.beq s s)=true:=by simp[bt,hlk]
     simp only[Ev.jf,hu1,k2,Im];rw[au,ag (by simp[bt,hlk])]
    |fZ _ g hg' hn=>omega
   cases h
  cases h
 .rename_i te id hu1 hu2 hp;split at h
  .rename_i t' c0 cs0 n hg hn;rw[au]at h;split at h
   .rename_i hle;refine⟨_,_,h,.quiet λS E bA hr cg=>?_⟩;rw[hop]at cg;have hx:=cg x (by simp[Op.operands]);rw[hp]at hx;generalize hA:bA x=A at hx;cases hx with
    |ptr _ _ i c s0 hρ =>
     obtain⟨i',c',s',b,k1,k2,k3,k4,k5⟩:=hr.row id _ hg;rw[hρ]at k1;cases k1;refine⟨_,λcall=>?_,.ptr _ _ i c s0 hρ⟩;rw[oW (bA:=bA) hop hu1 (by simp only[Ev.nS,hu2]) (rW (.inr (by rw[hop];simp[Ev.de,Op.operands,hA,aZ]))),hA];have hlen:Nat.ble 1 b.cells.length=true:=by rw[<-k3.1];simp
     simp only[Ev.jf,hu1,hu2,k2,hn,hle,hlen,nA,au,fF]
   cases h
  cases h
 .rename_i u id hu1 hu2 hp;split at h
  .rename_i t' cs0 n hg hn;rw[au]at h;split at h
   .rename_i hlies;refine⟨_,_,h,.quiet λS E bA hr cg=>?_⟩;rw[hop]at cg;have hx:=cg x (by simp[Op.operands]);rw[hp]at hx;generalize hA:bA x=A at hx;cases hx with
    |ptr _ _ i c s0 hρ =>
     obtain⟨i',c',s',b,k1,k2,k3,k4,k5⟩:=hr.row id _ hg;rw[hρ]at k1;cases k1;refine⟨_,λcall=>?_,.ptr _ _ i c s0 hρ⟩;rw[oW (bA:=bA) hop hu1 (by simp only[Ev.nS,hu2]) (rW (.inr (by rw[hop];simp[Ev.de,Op.operands,hA,aZ]))),hA];have hl:liesAt X.P X.P.depth b.elem (b.cells.length/X.P.cellsOf b.elem) 0 u 1=true:=by rw[k4,<-k3.1];exact hlies
     simp only[Ev.jf,hu1,hu2,k2,hn,k5,hl,nA,au,fF]
   cases h
  cases h
 cases h
theorem F2 {c:Call}{x:Operand}(hop:o.op = .call c)(hc:c.callee = .builtin .unsafeSliceData)(ha:c.args.toList=[x]){k:AV->Option β}(h:yS H (ev x) k=some r):∃v,k v=some r/\eO X cf o ev H v H:=by
 have mem:x∈(Op.call c).operands:=by
  have:x∈c.args:=by rw[<-fm,ha];simp
  simp only[Op.operands,Call.operands,hc];simpa using this
 have run:∀{bA:Operand->Value} {v:Value} {E:Mem} (call:Ev.cG),Ev.uO (bA x)=some v->jn X.P call bA o E=some (v,E):=by
  intro bA v E call hv;unfold jn;rw[hop];show Ev.eu X.P call bA o c E=_;unfold Ev.eu;rw[hc];show Ev.oN bA c.args E=_;unfold Ev.oN;rw[ha];simp only[hv];rfl
 unfold yS at h;split at h
 .rename_i hp;refine⟨_,h,.quiet λS E bA hr cg=>?_⟩;rw[hop]at cg;have hx:=cg x mem;rw[hp]at hx;generalize hA:bA x=A at hx;cases hx;exact⟨_,λcall=>run call (by rw[hA];rfl),.nX⟩
 .rename_i id n hp;split at h
  .rename_i t e l gw ex ro hg;rw[au]at h;split at h
   .rename_i h1;have h1:=ay h1;refine⟨_,h,.quiet λS E bA hr cg=>?_⟩;rw[hop]at cg;have hx:=cg x mem;rw[hp]at hx;generalize hA:bA x=A at hx;obtain⟨q1,⟨q2,g2,q3,q4⟩,q5⟩:=hr.row id _ hg;cases hx with
    |own _ _ i cap s hρ g hg' hn =>
     rw[q3]at hg';cases hg';refine⟨_,λcall=>run call ?_,.dat id i cap s hρ⟩;rcases q5 with⟨_,q6,_⟩|⟨i',cap',b,mid,post,k1,k2,k3,k4,k5,k6,k7,k8,k9⟩
     .rw[hρ]at q6;cases q6
     rw[hρ]at k1;cases k1;rw[hA];unfold Ev.uO;have:Nat.beq cap 0=false:=by rw[<-eB,aO];omega
     simp only[this]
    |fZ _ g hg' hn=>omega
   cases h
  cases h
 cases h
theorem Sm (k:IntKind):∀l:List Int,((l.map λn=>Value.int k n).any Ev.pg)=false
 |[]=>rfl
 |n::l=>by simp[Ev.pg]
theorem GD:∀l:List Int,l.all UQ=true->(l.map λn=>Value.int .u8 n).all Ev.zx=true
 |[],_=>rfl
 |n::l,h=>by
  simp only[bW,ak]at h;simp only[cO,bW,ak];refine⟨?_,GD l h.2⟩;cases n with
  |ofNat m=>exact h.1
  |negSucc m=>exact absurd h.1 (by simp[UQ])
theorem Ve {c:Call}{p n:Operand}{pt it:TypeId}(hop:o.op = .call c)(hc:c.callee = .builtin .unsafeString)(ha:c.args.toList=[p,n])(jx:c.argTypes.toList=[pt,it]){k:AV->aG->Option β}(h:UR X H pt (ev p) (ev n) k=some r) :
 ∃v H',k v H'=some r/\eO X cf o ev H v H':=by
 have mem:∀y,y=p\/y=n->y∈(Op.call c).operands:=by
  intro y hy;have:y∈c.args:=by rw[<-fm,ha];rcases hy with rfl|rfl<;>simp
  simp only[Op.operands,Call.operands,hc];simpa using this
 have run:∀{bA:Operand->Value} {v:Value} {E E':Mem} (call:Ev.cG),Ev.DD X.P E pt (bA p) (bA n)=some (v,E')->jn X.P call bA o E=some (v,E'):=by
  intro bA v E E' call hv;unfold jn;rw[hop];show Ev.eu X.P call bA o c E=_;unfold Ev.eu;rw[hc];show Ev.AX X.P bA c.args c.argTypes E=_;unfold Ev.AX;rw[ha,jx];exact hv
 unfold UR at h;split at h
 .rename_i m hp hn;rw[au]at h;split at h
  .rename_i h0;have h0:m=0:=by rw[Ev.eF]at h0;simpa using h0
   subst h0;refine⟨_,_,h,λS E bA hr cg=>?_⟩;rw[hop]at cg;have hx:=cg p (mem p (.inl rfl));have hy:=cg n (mem n (.inr rfl));rw[hp]at hx;rw[hn]at hy;have ey:=hy.fQ;generalize hA:bA p=A at hx;cases hx;exact⟨S,.string .empty,E,⟨0,λ_ _=>run _ (by rw[hA,ey];rfl)⟩,S.le_refl,.str [],hr,St.refl _ _ _⟩
  cases h
 .rename_i id m e hp hn hu;split at h
  .rename_i t l gw ex hg;rw[au]at h;split at h
   .rename_i hcond;simp only[ak,aO,bt]at hcond;obtain⟨⟨⟨⟨⟨⟨hmay,rfl⟩,hco⟩,h1⟩,h2⟩,hm⟩,hby⟩:=hcond;have hm:m=(l.length:Int):=by rw[Ev.eF]at hm;simpa using hm
    subst hm;refine⟨_,_,h,λS E bA hr cg=>?_⟩;rw[hop]at cg;have hx:=cg p (mem p (.inl rfl));have hy:=cg n (mem n (.inr rfl));rw[hp]at hx;rw[hn]at hy;have ey:=hy.fQ;generalize hA:bA p=A at hx;obtain⟨q1,⟨q2,g2,q3,q4⟩,q5⟩:=hr.row id _ hg;cases hx with
    |dat _ i c1 s1 hρ =>
     rcases q5 with⟨q5,_,_⟩|⟨i',cap',b,mid,post,k1,k2,k3,k4,k5,k6,k7,k8,k9⟩
     .rw[q5]at h1;simp at h1
     rw[hρ]at k1;cases k1;have hmay':H.lk<=id:=by simpa[aG.nH,bt] using hmay
     have hlk:=hr.lk id _ _ hg hmay' hρ;have hmid:=I0 k5;have hml:mid.length=l.length:=by rw[hmid];simp
     have hread:Ev.fU E i 0 l.length=some mid:=by
      unfold Ev.fU;rw[k2];simp only;have e0:0+l.length<=b.cells.length:=by rw[k4,aA];omega
      have e1:(b.cells.drop 0).take l.length=mid:=by rw[k4,j4,<-hml];simp
      rw[ag e0,e1,hmid,Sm]
     obtain⟨E1,hE1⟩:=Mem.iW (b:={ b with live:=false,fix:=false }) (kX k2) hlk;have fe:Ev.kill E i=some E1:=by unfold Ev.kill;rw[(dF k2).1];exact hE1
     obtain⟨z1,z2,z3,z4,z5⟩:=Ev.nF fe;obtain⟨m1,m2⟩:=hr.mod (S':=S) (E':=E1) (r':=.dead) hg rfl S.le_refl rfl (λ_ _ _=>rfl) z1 z2 (λj hj=>z4 j (hj _ hρ)) (λj cs h=>.inl h) (λq hq=>by cases hq);refine⟨S,.string ⟨(l.map Y4).toArray⟩,E1,⟨0,λ_ _=>run _ ?_⟩,S.le_refl,.str _,m1,m2⟩;obtain⟨k',hk'⟩:∃k',l.length=k'+1:=⟨l.length-1,by omega⟩;rw[hA,ey,hk'];show Ev.DD X.P E pt (.pointer (some ⟨i,0,none⟩)) (.int .i64 (.ofNat (k'+1)))=_;have aeU:((b.elem==t)&&Nat.beq (X.P.cellsOf t) 1&&Nat.ble (k'+1) 2000000&&mid.all Ev.zx)=true:=by
      rw[hmid,GD l hby];have:k'+1<=2000000:=by omega
      simp[k3,hco,bt];omega
     unfold Ev.DD;rw[hk']at hread;simp only[hu,k2,hread,aeU,au,fF,fe];rw[hmid,Bq];simp
   cases h
  cases h
 cases h
end
end Go.Tv

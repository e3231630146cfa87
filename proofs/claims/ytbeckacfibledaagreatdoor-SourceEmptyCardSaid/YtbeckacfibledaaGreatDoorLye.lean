/- The layer's operations beside the evaluator's: slices, rows. The layer's operations beside the evaluator's: those that write. The layer's operations beside the evaluator's: append, copy, slices that go on owning. The layer's operations beside the evaluator's: new rows, structs, conversions. -/
import Derived.Test.YtbeckacfibledaaGreatDoorLyd
set_option linter.unusedVariables false
set_option linter.unusedSimpArgs false

namespace Go.Tv
open Go.Ev (Tr ah iL Mem jJ alive ax dF bF gR jt aZ cE orElse)
section
variable {X:ij} {cf:Nat×Nat->Ev.cH} {o:Oper} {ev:Operand->AV} {H:aG} {β:Type} {r:β}
theorem Aj {α:Type}{R:α->List Value->Prop}{s:Nat}(hR:∀x c,R x c->c.length=s)(hJ:∀(l:List α) c,mU R l c->c.any Ev.pI=false){E:Mem}{i:Nat}{b:jJ}{pre mid post:List Value}{l:List α}(hb:alive E i=some b)(hc:b.cells=pre++(mid++post))(hl:mU R l mid)(a m:Nat)(hm:a+m<=l.length) :
 ∃c,Ev.fW E i (pre.length+a*s) (m*s)=some c/\mU R ((l.drop a).take m) c:=by
 obtain⟨c1,c2,e1,k1,k2⟩:=hl.split hR a;obtain⟨c3,c4,e2,k3,k4⟩:=k2.split hR m;have l1:=k1.length hR;have l3:=k3.length hR;have t1:(l.take a).length=a:=by simp;omega
 have t3:((l.drop a).take m).length=m:=by simp;omega
 rw[t1]at l1;rw[t3]at l3;refine⟨c3,?_,k3⟩;have hcs:b.cells=(pre++c1)++(c3++(c4++post)):=by rw[hc,e1,e2];simp
 unfold Ev.fW;rw[hb];have hlen:pre.length+a*s=(pre++c1).length:=by simp[l1]
 simp only[hlen,hcs,mQ];rw[ag (by simp;omega),<-l3,List.take_left,hJ _ _ k3]
theorem Ep {S:Wo}{E:Mem}(hr:Rel S H E){e:Ty}{v:AV}{l:List e.den}(h:Cv H e v=some l){x:Value}(hx:VR S v x) :
 Ev.vW x=some l.length/\∀m,m<=l.length->∃c,Ev.iR E e.size m x=some c/\mU (CR S.F e) (l.take m) c:=by
 have hR:∀x c,CR S.F e x c->c.length=e.size:=λx c=>CR.length e x c
 unfold Cv at h;split at h
 .rename_i e' l';obtain⟨he,hc⟩:=bT h;subst he;have hc:l'=l:=hc;subst hc;cases hx with
  |dH _ _ _ hS =>
   rcases hS with⟨rfl,rfl|rfl⟩|⟨i0,pre,mid,post,cap,rfl,hF,hC,hcap⟩
   .exact ⟨rfl,λm hm=>⟨[],by simp at hm;simp[Ev.iR,hm],by simp[mU]⟩⟩
   .exact ⟨rfl,λm hm=>⟨[],by simp at hm;simp[Ev.iR,Ev.vd,hm],by simp[mU]⟩⟩
   refine⟨rfl,λm hm=>?_⟩;obtain⟨b,k1,k2⟩:=hr.fz i0 _ hF;obtain⟨c,h1,h2⟩:=Aj hR (λ_ _ h=>h.oO) k1 k2 hC 0 m (by omega);exact⟨c,by simpa[Ev.iR] using h1,by simpa using h2⟩
 .cases h;cases hx;exact⟨rfl,λm hm=>⟨[],by simp at hm;simp[Ev.iR,hm],by simp[mU]⟩⟩
 .rename_i id n;split at h
  .rename_i t' e' l' gC ex ro hg;obtain⟨he,hc⟩:=bT h;subst he;have hc:l'=l:=hc;subst hc;obtain⟨g1,⟨_,g,g2,g2'⟩,g3⟩:=hr.row id _ hg;cases hx with
   |own _ _ i0 qh s0 hρ g' hg' hn' =>
    rw[g2]at hg';cases hg';rcases g3 with⟨_,g5,_⟩|⟨i',cap,b,mid,post,q1,q2,q3,q4,q5,q6,q7,q8,q9,yq⟩
    .rw[hρ]at g5;cases g5
    rw[hρ]at q1;cases q1;refine⟨by simp[Ev.vW];omega,λm hm=>?_⟩;obtain⟨c,h1,h2⟩:=Aj (pre:=[]) hR (λ_ _ h=>h.oO) q2 q4 q5 0 m (by omega);exact⟨c,by simpa[Ev.iR] using h1,by simpa using h2⟩
   |gh _ g' hg' hn' =>
    rw[g2]at hg';cases hg';have h0:l'.length=0:=by omega
    exact⟨by simp[Ev.vW];omega,λm hm=>⟨[],by simp[Ev.iR];omega,by rw[aQ.1 h0];simp[mU]⟩⟩
  cases h
 .rename_i id off len Lv;split at h
  .rename_i t' e' l' gC ex ro hg;split at h
   .rename_i l2 ot;cases h;obtain⟨he,hc⟩:=bT ot;subst he;have hc:l'=l2:=hc;subst hc;obtain⟨g1,⟨_,g,g2,g2'⟩,g3⟩:=hr.row id _ hg;cases hx with
    |rO _ _ _ _ i0 c0 s0 hρ g' hg' hcc Lw =>
     rw[g2]at hg';cases hg';have hlen:((l'.drop off).take len).length=len:=by simp;omega
     rcases g3 with⟨_,g5,_⟩|⟨i',cap,b,mid,post,q1,q2,q3,q4,q5,q6,q7,q8,q9,yq⟩
     .rw[hρ]at g5;cases g5
     rw[hρ]at q1;cases q1;refine⟨by rw[hlen];rfl,λm hm=>?_⟩;rw[hlen]at hm;obtain⟨c,h1,h2⟩:=Aj (pre:=[]) hR (λ_ _ h=>h.oO) q2 q4 q5 off m (by omega);refine⟨c,by simpa[Ev.iR] using h1,?_⟩;rw[pG,gx hm];exact h2
   cases h
  cases h
 .rename_i s;obtain⟨he,hc⟩:=bT h;subst he;have hc:s.map cY=l:=hc;subst hc;rw[hx.jw];refine⟨by simp[Ev.vW,ByteArray.size],λm hm=>?_⟩;have hm':m<=s.length:=by simpa using hm
  refine⟨(s.take m).map λb=>.int .u8 b.toNat,?_,?_⟩
  .simp only[Ev.iR];rw[ag ⟨rfl,by simpa[ByteArray.size] using hm'⟩];simp[ByteArray.data_extract,jb,gm]
  have:∀s:List UInt8,mU (CR S.F (.int .u8)) (s.map cY) (s.map λb=>Value.int .u8 b.toNat):=λs=>by
   induction s with
   |nil=>rfl
   |cons b s ih=>exact⟨[_],_,rfl,rfl,ih⟩
  rw[<-List.map_take];exact this _
 cases h
theorem afk {a:Int}{n:Nat}(h:(!Ev.bC a 0 && !Ev.bC (Int.ofNat n) a)=true):0<=a/\a<=n:=by
 simp only[Ev.cD,ak,aS,bH,dU]at h;omega
theorem akh {a b:Int}{n:Nat}(h:(!Ev.bC a 0 && !Ev.bC b a && !Ev.bC (Int.ofNat n) b)=true):0<=a/\a<=b/\b<=n:=by
 simp only[Ev.cD,ak,aS,bH,dU]at h;omega
theorem aaa {a:Int}{n:Nat}(h:(Ev.bI a 0||Ev.bC a (Int.ofNat n))=true):a=0\/a<n:=by
 simp only[Ev.cD,Ev.eF,cJ,eK,aV,dU]at h;exact h
inductive BR (ev:Operand->AV)(d:Int):Option Operand->Int->Prop where
 |none:BR ev d none d
 |some (x k a) (h:ev x = .int k a):BR ev d (some x) a
theorem o7 {len cap:Nat}{lo hi:Option Operand}{k:Int->Int->Option β}(h:qy len cap (lo.map ev) (hi.map ev) k=some r):∃a b,k a b=some r/\0<=a/\a<=b/\(len<=cap->b<=cap)/\BR ev 0 lo a/\BR ev len hi b:=by
 cases lo with
 |none =>
  cases hi with
  |none=>exact⟨0,len,h,by omega,by omega,λ_=>by omega,.none,.none⟩
  |some y =>
   simp only[eT,bK]at h;unfold qy at h;split at h
   .rename_i h1 h2;cases h2
   .rename_i h1 h2;cases h1
   .rename_i kk b h1 h2;rw[ax]at h;split at h
    .rename_i hb;have hb:=afk hb;exact⟨0,b,h,by omega,hb.1,λ_=>hb.2,.none,.some y kk b (by simpa using h2)⟩
    cases h
   .rename_i h1 h2;cases h1
   cases h
 |some x =>
  cases hi with
  |none =>
   simp only[eT,bK]at h;unfold qy at h;split at h
   .rename_i h1 h2;cases h1
   .rename_i kk a h1 h2;rw[ax]at h;split at h
    .rename_i hb;have hb:=afk hb;exact⟨a,len,h,hb.1,hb.2,λ_=>by omega,.some x kk a (by simpa using h1),.none⟩
    cases h
   .rename_i h1 h2;cases h2
   .rename_i h1 h2;cases h2
   cases h
  |some y =>
   simp only[bK]at h;unfold qy at h;split at h
   .rename_i h1 h2;cases h1
   .rename_i h1 h2;cases h2
   .rename_i h1 h2;cases h1
   .rename_i k1 a k2 b h1 h2;rw[ax]at h;split at h
    .rename_i hb;have hb:=akh hb;exact⟨a,b,h,hb.1,hb.2.1,λ_=>hb.2.2,.some x k1 a (by simpa using h1),.some y k2 b (by simpa using h2)⟩
    cases h
   cases h
theorem tY {S:Wo}{bz:Operand->Value}{d:Int}{x:Option Operand}{a:Int}(h:BR ev d x a)(ck:∀y,x=some y->VR S (ev y) (bz y)):(x=none/\a=d)\/∃y k,x=some y/\bz y = .int k a:=by
 cases h with
 |none=>exact .inl ⟨rfl,rfl⟩
 |some y k _ hy=>exact .inr ⟨y,k,rfl,by have:=ck y rfl;rw[hy]at this;exact this.fT⟩
theorem se {k:IntKind}{a:Int}{y:Nat}(h0:0<=a)(h1:a<=y):Ev.nX (.int k a) y=some a.toNat:=by
 simp only[Ev.nX,h0,h1,and_self,fF]
theorem o8 {P:Program}{S:Wo}{bz:Operand->Value}{t te:TypeId}{s:Nat}(hu:P.underlying t=some (.slice te))(hs:Ev.cR P te=some s){lo hi:Option Operand}{a b:Int}{len cap:Nat}(ha:BR ev 0 lo a)(hb:BR ev len hi b)(h0:0<=a)(h1:a<=b)(h2:b<=cap)
 (hlo:∀y,lo=some y->VR S (ev y) (bz y)) (hhi:∀y,hi=some y->VR S (ev y) (bz y)) (x:Option Addr) (hx:x=none\/∃i off,x=some ⟨i,off,none⟩) (hac:a=0\/a<cap) :
 Ev.kV P t (.slice x len cap) (lo.map bz) (hi.map bz)=some (.slice (x.map λz=>⟨z.block,z.off+a.toNat*s,none⟩) (b.toNat-a.toNat) (cap-a.toNat)):=by
 have c1:∀k,Ev.nX (.int k b) cap=some b.toNat:=λk=>se (by omega) h2
 have c2:∀k,Ev.nX (.int k a) b.toNat=some a.toNat:=λk=>se h0 (by omega)
 have c3:¬((a.toNat=cap/\a.toNat≠0)\/cap<a.toNat):=by omega
 rcases tY ha hlo with⟨rfl,rfl⟩|⟨z,kk,rfl,hz⟩<;>rcases tY hb hhi with⟨rfl,Vp⟩|⟨z',kk',rfl,hz'⟩<;>rcases hx with rfl|⟨i,off,rfl⟩
 .obtain rfl:b=len:=Vp;simp[Ev.kV,hu,hs]
 .obtain rfl:b=len:=Vp;have c4:¬(cap<0):=by omega
  simp[Ev.kV,hu,hs,c4]
 .simp[Ev.kV,hu,hs,hz',c1]
 .simp[Ev.kV,hu,hs,hz',c1]
 .obtain rfl:b=len:=Vp;simp only[bg]at c2;simp[Ev.kV,hu,hs,hz,c2]
 .obtain rfl:b=len:=Vp;simp only[bg]at c2;simp only[Ev.kV,hu,hs,eT,bK,hz,c2,aa c3,bg]
 .simp[Ev.kV,hu,hs,hz,hz',c1,c2]
 simp only[Ev.kV,hu,hs,bK,hz,hz',c1,c2,aa c3]
theorem Lx {P:Program}{S:Wo}{bz:Operand->Value}{t te:TypeId}{s:Nat}(hu:P.underlying t=some (.slice te))(hs:Ev.cR P te=some s){lo hi:Option Operand}{a b:Int}(ha:BR ev 0 lo a)(hb:BR ev (0:Nat) hi b)(h0:0<=a)(h1:a<=b)(h2:b<=(0:Nat))
 (hlo:∀y,lo=some y->VR S (ev y) (bz y)) (hhi:∀y,hi=some y->VR S (ev y) (bz y)) :
 Ev.kV P t Ev.vd (lo.map bz) (hi.map bz)=some (.slice (some ⟨0,0,some 0⟩) (b.toNat-a.toNat) (0-a.toNat)):=by
 have z1:b.toNat=0:=by omega
 have z2:a.toNat=0:=by omega
 have c1:∀k,Ev.nX (.int k b) 0=some 0:=λk=>by have:=se (k:=k) (show 0<=b by omega) h2;rwa[z1]at this
 have c2:∀k,Ev.nX (.int k a) 0=some 0:=λk=>by have:=se (k:=k) h0 (show a<=(0:Nat) by omega);rwa[z2]at this
 unfold Ev.vd;rw[z1,z2];rcases tY ha hlo with⟨rfl,rfl⟩|⟨z,kk,rfl,hz⟩<;>rcases tY hb hhi with⟨rfl,Vp⟩|⟨z',kk',rfl,hz'⟩
 .simp[Ev.kV,hu,hs]
 .simp[Ev.kV,hu,hs,hz',c1]
 .simp[Ev.kV,hu,hs,hz,c2]
 simp[Ev.kV,hu,hs,hz,hz',c1,c2]
theorem Ly {P:Program}{S:Wo}{bz:Operand->Value}{t te:TypeId}{s n:Nat}(hu:P.underlying t=some (.array n te))(hs:Ev.cR P te=some s){lo hi:Option Operand}{a b:Int}(ha:BR ev 0 lo a)(hb:BR ev n hi b)(h0:0<=a)(h1:a<=b)(h2:b<=n)
 (hlo:∀y,lo=some y->VR S (ev y) (bz y)) (hhi:∀y,hi=some y->VR S (ev y) (bz y)) {E:Mem} {i:Nat} {k:jJ} (hk:alive E i=some k) (KO:k.fix=true) (hac:a=0\/a<n) :
 Ev.qF P E t (.pointer (some ⟨i,0,none⟩)) (lo.map bz) (hi.map bz)=some (.slice (some ⟨i,a.toNat*s,none⟩) (b.toNat-a.toNat) (n-a.toNat)):=by
 have c1:∀k,Ev.nX (.int k b) n=some b.toNat:=λk=>se (by omega) h2
 have c2:∀k,Ev.nX (.int k a) b.toNat=some a.toNat:=λk=>se h0 (by omega)
 have c3:ah (Nat.beq n a.toNat) 0 (Nat.add 0 (Nat.mul a.toNat s))=a.toNat*s:=by
  rw[ax];split
  .rename_i hn;simp only[aO]at hn;have:a.toNat=0:=by omega
   rw[this];simp
  show 0+a.toNat*s=_;omega
 rcases tY ha hlo with⟨rfl,rfl⟩|⟨z,kk,rfl,hz⟩<;>rcases tY hb hhi with⟨rfl,Vp⟩|⟨z',kk',rfl,hz'⟩
 .obtain rfl:b=n:=Vp;simp only[mP]at c3;simp only[Ev.qF,hu,hs,hk,KO,eT,c3,mP,bg]
 .simp only[mP]at c3;simp only[Ev.qF,hu,hs,hk,KO,eT,bK,hz',c1,c3,mP]
 .obtain rfl:b=n:=Vp;simp only[bg]at c2;simp only[Ev.qF,hu,hs,hk,KO,eT,bK,hz,c2,c3,bg]
 simp only[Ev.qF,hu,hs,hk,KO,bK,hz,hz',c1,c2,c3]
theorem lZ {P:Program}{bz:Operand->Value}{call:Ev.cH}{t te:TypeId}{x:Operand}{lo hi:Option Operand}{E:Mem}{v:Value}(hop:o.op = .slice t x lo hi none)(hu:P.underlying t=some (.slice te))(h:Ev.kV P t (bz x) (lo.map bz) (hi.map bz)=some v):jt P call bz o E=some (v,E):=by
 unfold jt;rw[hop];show Ev.pJ P bz o t (bz x) (lo.map bz) (hi.map bz) E=_;unfold Ev.pJ;have:Ev.wm P t=false:=by simp[Ev.wm,hu]
 rw[this,h];rfl
theorem qi {t:TypeId}{x:Operand}{lo hi:Option Operand}{S:Wo}{bz:Operand->Value}(ck:∀y∈(Op.slice t x lo hi none).operands,VR S (ev y) (bz y)):VR S (ev x) (bz x)/\(∀y,lo=some y->VR S (ev y) (bz y))/\∀y,hi=some y->VR S (ev y) (bz y) :=
 ⟨ck x (by simp[Op.operands]),λy hy=>ck y (by subst hy;simp[Op.operands]),λy hy=>ck y (by subst hy;simp[Op.operands])⟩
theorem Er {P:Program}{te:TypeId}{n:Nat}(h:(Ev.cR P te==some n)=true):Ev.cR P te=some n:=by simpa using h
theorem SR.cut {α:Type}{R:α->List Value->Prop}{s:Nat}(hR:∀x c,R x c->c.length=s){F:Nat->Option (List Value)}{l:List α}{i:Nat}{pre mid post:List Value}{cap:Nat}(hF:F i=some (pre++(mid++post)))(hC:mU R l mid){a b:Int}(h0:0<=a)(h1:a<=b)(h2:b<=l.length)(h3:l.length<=cap) :
 SR R F (dX l a b) (.slice (some ⟨i,pre.length+a.toNat*s,none⟩) (b.toNat-a.toNat) (cap-a.toNat)):=by
 obtain⟨c1,c2,e1,k1,k2⟩:=hC.split hR a.toNat;obtain⟨c3,c4,e2,k3,k4⟩:=k2.split hR (b.toNat-a.toNat);have l1:=k1.length hR;have t1:(l.take a.toNat).length=a.toNat:=by simp;omega
 have t3:((l.drop a.toNat).take (b.toNat-a.toNat)).length=b.toNat-a.toNat:=by simp;omega
 rw[t1]at l1;refine .inr ⟨i,pre++c1,c3,c4++post,cap-a.toNat,?_,by rw[hF,e1,e2];simp,k3,?_⟩
 .show _=Value.slice (some ⟨i,(pre++c1).length,none⟩) ((l.drop a.toNat).take (b.toNat-a.toNat)).length _;rw[t3,aA,l1]
 show ((l.drop a.toNat).take (b.toNat-a.toNat)).length<=_;rw[t3];omega
def Wo.Kl (S:Wo)(i:Nat)(cs:List Value):Wo:=⟨λj=>if j=i then some cs else S.F j,S.ρ,S.Γ⟩
theorem vo {S:Wo}{E:Mem}(hr:Rel S H E){id:Nat}{t:TypeId}{e:Ty}{l:List e.den}{gC:Nat}{ex ro:Bool}(hg:H.get id=some (.list t e l gC ex ro)) :
 ∃S',S.le S'/\Rel S' (H.put id (.list t e l gC ex true)) E/\St S H E S' (H.put id (.list t e l gC ex true)) E /\
  (∀n v,VR S (.own id n) v->n=l.length/\((l=[]/\v = .slice none 0 0)\/∃i mid post cap,v = .slice (some ⟨i,0,none⟩) l.length cap/\S'.F i=some (mid++post)/\mU (CR S'.F e) l mid/\l.length<=cap)):=by
 obtain⟨g1,⟨g0,g,g2,g2'⟩,g3⟩:=hr.row id _ hg;have afl:∀S',S.le S'->(∀i cap b mid post,S.ρ id=some (i,cap,e.size)->alive E i=some b->b.cells=mid++post->S'.F i=some b.cells)->(∀n v,VR S (.own id n) v->n=l.length/\((l=[]/\v = .slice none 0 0)\/∃i mid post cap,v = .slice (some ⟨i,0,none⟩) l.length cap/\S'.F i=some (mid++post)/\mU (CR S'.F e) l mid/\l.length<=cap)):=by
  intro S' hle hF n v hv;cases hv with
  |own _ _ i0 qh s0 hρ g' hg' hn' =>
   rw[g2]at hg';cases hg';rcases g3 with⟨_,g5,_⟩|⟨i',cap,b,mid,post,q1,q2,q3,q4,q5,q6,q7,q8,q9,yq⟩
   .rw[hρ]at g5;cases g5
   rw[hρ]at q1;cases q1;refine⟨by omega,.inr ⟨i0,mid,post,qh,by rw[<-g2',hn'],?_,q5.mono λx c=>CR.mono hle.F e x c,q7⟩⟩;rw[hF i0 qh b mid post hρ q2 q4,q4]
  |gh _ g' hg' hn' =>
   rw[g2]at hg';cases hg';exact⟨by omega,.inl ⟨aQ.1 (by omega),rfl⟩⟩
 cases hro:ro with
 |true =>
  subst hro;obtain⟨u1,u2,u3,u4⟩:=aG.gB H id (.list t e l gC ex true);have hsame:∀j,(H.put id (.list t e l gC ex true)).get j=H.get j:=λj=>by
   rw[u4];by_cases hj:j=id
   .subst hj;rw[ag rfl,ag (aG.eL hg),hg];rfl
   rw[aa hj]
  obtain⟨k1,k2⟩:=hr.same u1 u2 u3 hsame;refine⟨S,S.le_refl,k1,k2,afl S S.le_refl λi cap b mid post h1 h2 h3=>?_⟩;rcases g3 with⟨_,g5,_⟩|⟨i',cap,b',mid,post,q1,q2,q3,q4,q5,q6,q7,q8,q9,yq⟩
  .rw[h1]at g5;cases g5
  rw[h1]at q1;cases q1;rw[h2]at q2;cases q2;exact yq.1 rfl
 |false =>
  subst hro;rcases g3 with⟨g4,g5,g6⟩|⟨i',cap,b,mid,post,q1,q2,q3,q4,q5,q6,q7,q8,q9,yq⟩
  .obtain ⟨k1,k2⟩:=hr.mod (S':=S) (E':=E) (r':=.list t e l gC ex true) hg rfl S.le_refl rfl (λ_ _ _=>rfl) rfl rfl (λ_ _=>rfl) (λj cs h=>.inl h) (λq hq=>by
    cases hq;exact⟨g1,⟨g0,g,g2,g2'⟩,.inl ⟨g4,g5,g6⟩⟩)
   exact⟨S,S.le_refl,k1,k2,afl S S.le_refl λi cap b mid post h1=>by rw[g5]at h1;cases h1⟩
  have hsep:=hr.sep id _ _ hg rfl q1;have hle:S.le (S.Kl i' b.cells):=⟨λj x hj=>by
   show (if j=i' then some b.cells else S.F j)=_;by_cases hji:j=i'
   .subst hji;rw[hsep]at hj;cases hj
   rw[aa hji];exact hj,λ_ _ h=>h,λ_ _ _ h=>h⟩
  have hFi:(S.Kl i' b.cells).F i'=some b.cells:=ag rfl;obtain⟨k1,k2⟩:=hr.mod (S':=S.Kl i' b.cells) (E':=E) (r':=.list t e l gC ex true) hg rfl hle rfl (λ_ _ _=>rfl) rfl rfl (λ_ _=>rfl)
   (λj cs h=>by
    by_cases hji:j=i'
    .subst hji;rw[hFi]at h;cases h;exact .inr ⟨.inr rfl,⟨_,q1,rfl⟩,b,q2,rfl⟩
    exact .inl (by have h':(if j=i' then some b.cells else S.F j)=some cs:=h;rw[aa hji]at h';exact h'))
   (λq hq=>by
    cases hq;exact⟨g1,⟨g0,g,g2,g2'⟩,.inr ⟨i',cap,b,mid,post,q1,q2,q3,q4,q5.mono λx c=>CR.mono hle.F e x c,q6,q7,q8,q9,λ_=>hFi,yq.2.imp λl2 h2=>h2.mono λx c=>CR.mono hle.F e x c⟩⟩)
  refine⟨_,hle,k1,k2,afl _ hle λi cap' b' mid' post' h1 h2 h3=>?_⟩;rw[q1]at h1;cases h1;rw[q2]at h2;cases h2;exact hFi
theorem Bz {t:TypeId}{x:Operand}{lo hi:Option Operand}(hop:o.op = .slice t x lo hi none){k:AV->aG->Option β}(h:El X H t (ev x) (lo.map ev) (hi.map ev) k=some r):∃v H',k v H'=some r/\eO X cf o ev H v H':=by
 unfold El at h;split at h
 .rename_i s hu hp;obtain⟨a,b,h1,h2,h3,h4,ha,hb⟩:=o7 h;have h4:=h4 (aC _);refine⟨_,_,h1,.quiet λS E bz hr ck=>?_⟩;rw[hop]at ck;obtain⟨hx,hlo,hhi⟩:=qi ck;rw[hp]at hx;have ex:=hx.jw;refine⟨.string ⟨(dX s a b).toArray⟩,λcall=>?_,.str _⟩;unfold jt;rw[hop];show Ev.pJ X.P bz o t (bz x) (lo.map bz) (hi.map bz) E=_;unfold Ev.pJ;have e1:Ev.wm X.P t=false:=by simp[Ev.wm,hu]
  have e2:Ev.kV X.P t (bz x) (lo.map bz) (hi.map bz)=none:=by rw[ex];simp only[Ev.kV,hu]
  rw[e1,e2];show cE E (gR X.P bz o)=_;have flo:∀y,lo=some y->aZ (bz y)=true:=λy hy=>by
   rcases tY ha hlo with⟨h0,_⟩|⟨z,kk,h0,hz⟩
   .rw[h0]at hy;cases hy
   rw[h0]at hy;cases hy;rw[hz];rfl
  have fhi:∀y,hi=some y->aZ (bz y)=true:=λy hy=>by
   rcases tY hb hhi with⟨h0,_⟩|⟨z,kk,h0,hz⟩
   .rw[h0]at hy;cases hy
   rw[h0]at hy;cases hy;rw[hz];rfl
  rw[wU (v:=.string ⟨(dX s a b).toArray⟩) (λa b=>by rw[hop];simp) ?_ ?_ rfl]
  .rfl
  .rw[hop];simp only[Ev.dg,Op.operands,aK];intro y hy;simp only[Array.toList_append,cz]at hy;rcases hy with ((hy|hy)|hy)|hy
   .simp at hy;subst hy;rw[ex];rfl
   .exact flo y (by cases lo<;>simp at hy ⊢;exact hy.symm)
   .exact fhi y (by cases hi<;>simp at hy ⊢;exact hy.symm)
   simp at hy
  unfold execOp;rw[hop];show bF X.P (Instr.sliceAt t (bz x) (lo.map bz) (hi.map bz) none >>= λx=>pure (Next.value x))=_;rw[bw];have e3:bF X.P (Instr.sliceAt t (bz x) (lo.map bz) (hi.map bz) none)=some (.string ⟨(dX s a b).toArray⟩):=by
   unfold Instr.sliceAt;rw[bw,bU hu];simp only[aW];unfold Instr.slice;rw[bw,bU hu,ex];simp only[aW,Option.isSome_none,cu,ee];rw[bw];have sz:ByteArray.size ⟨s.toArray⟩=s.length:=by simp[ByteArray.size]
   have e4:bF X.P (Instr.sliceBounds false (ByteArray.size ⟨s.toArray⟩) (ByteArray.size ⟨s.toArray⟩) (lo.map bz) (hi.map bz) none)=some (a.toNat,b.toNat,s.length):=by
    rw[sz];have bd:∀(kk:IntKind) (i:Int) (y:Nat) (c:BoundsCode),0<=i->i<=y->bF X.P (Instr.sliceBound (.int kk i) y c)=some i.toNat:=λkk i y c h0 h1=>by
     unfold Instr.sliceBound asIntOf;show bF X.P (if 0<=i/\i<=y then pure i.toNat else boundsPanic kk i y c)=_;rw[ag ⟨h0,h1⟩];rfl
    unfold Instr.sliceBounds;rcases tY ha hlo with⟨rfl,rfl⟩|⟨z,kk,rfl,hz⟩<;>rcases tY hb hhi with⟨rfl,rfl⟩|⟨z',kk',rfl,hz'⟩
    .rfl
    .simp only[eT,bK,hz'];simp only[bw,pO,aW];rw[bd kk' b s.length _ (by omega) h4];rfl
    .simp only[eT,bK,hz];simp only[bw,pO,aW];rw[bd kk a s.length _ (by omega) (by omega)];rfl
    simp only[bK,hz,hz'];simp only[bw,pO,aW];rw[bd kk' b s.length _ (by omega) h4];simp only[aW];rw[bd kk a b.toNat _ (by omega) (by omega)];rfl
   rw[e4];simp only[aW];show some (Value.string _)=_;congr 2
   apply Go.WideShapes.bytes_inj;simp[ByteArray.data_extract,jb,gm,dX]
  rw[e3];rfl
 .rename_i te e l hu hp;rw[ax]at h;split at h
  .rename_i hs;have hs:=Er hs;obtain⟨a,b,h1,h2,h3,h4,ha,hb⟩:=o7 h;have h4:=h4 (aC _);rw[ax]at h1;split at h1
   .rename_i hac;have hac:=aaa hac;refine⟨_,_,h1,.quiet λS E bz hr ck=>?_⟩;rw[hop]at ck;obtain⟨hx,hlo,hhi⟩:=qi ck;rw[hp]at hx;generalize hA:bz x=A at hx;cases hx with
    |dH _ _ _ hS =>
     rcases hS with⟨rfl,rfl|rfl⟩|⟨i0,pre,mid,post,cap,rfl,hF,hC,hcap⟩
     .refine ⟨.slice none (b.toNat-a.toNat) (0-a.toNat),λcall=>lZ hop hu ?_,.dH _ _ _ (.inl ⟨by simp[dX],.inl ?_⟩)⟩
      .rw[hA];exact o8 hu hs ha hb h2 h3 (by simpa using h4) hlo hhi none (.inl rfl) (by simp at h4;omega)
      simp at h4;have e1:b.toNat-a.toNat=0:=by omega
      have e2:(0:Nat)-a.toNat=0:=by omega
      rw[e1,e2]
     .refine ⟨.slice (some ⟨0,0,some 0⟩) (b.toNat-a.toNat) (0-a.toNat),λcall=>lZ hop hu ?_,.dH _ _ _ (.inl ⟨by simp[dX],.inr ?_⟩)⟩
      .rw[hA];exact Lx hu hs ha hb h2 h3 (by simpa using h4) hlo hhi
      simp at h4;have e1:b.toNat-a.toNat=0:=by omega
      have e2:(0:Nat)-a.toNat=0:=by omega
      rw[e1,e2];rfl
     refine⟨_,λcall=>lZ hop hu ?_,.dH _ _ _ (SR.cut (λx c=>CR.length e x c) hF hC h2 h3 h4 hcap)⟩;rw[hA];exact o8 hu hs ha hb h2 h3 (by omega) hlo hhi _ (.inr ⟨_,_,rfl⟩) (by omega)
   cases h1
  cases h
 .rename_i te id off len cap hu hp;split at h
  .rename_i t' e l gC ro hg;rw[ax]at h;split at h
   .rename_i hs;have hs:=Er hs;obtain⟨a,b,h1,h2,h3,h4,ha,hb⟩:=o7 h;rw[ax]at h1;split at h1
    .rename_i hac;have hac:=aaa hac;refine⟨_,_,h1,.quiet λS E bz hr ck=>?_⟩;rw[hop]at ck;obtain⟨hx,hlo,hhi⟩:=qi ck;rw[hp]at hx;generalize hA:bz x=A at hx;obtain⟨g1,⟨_,g,g2,g2'⟩,g3⟩:=hr.row id _ hg;cases hx with
     |rO _ _ _ _ i0 c0 s0 hρ g' hg' hcc Lw =>
      rw[g2]at hg';cases hg';rcases g3 with⟨_,g5,_⟩|⟨i',cap',b',mid,post,q1,q2,q3,q4,q5,q6,q7,q8,q9,yq⟩
      .rw[hρ]at g5;cases g5
      rw[hρ]at q1;cases q1;refine⟨_,λcall=>lZ hop hu (by rw[hA];exact o8 hu hs ha hb h2 h3 (h4 Lw) hlo hhi _ (.inr ⟨_,_,rfl⟩) (by have:=h4 Lw;omega)),?_⟩;have:=VR.rO (S:=S) id (off+a.toNat) (b.toNat-a.toNat) (cap-a.toNat) i0 c0 e.size hρ g g2 (by have:=h4 Lw;omega) (by have:=h4 Lw;omega);rw[dm]at this;exact this
    cases h1
   cases h
  cases h
 .rename_i te id n hu hp;split at h
  .rename_i t' e l gC ex ro hg;rw[ax]at h;split at h
   .rename_i hs;simp only[ak]at hs;obtain⟨hs,hmay⟩:=hs;have hs:=Er hs;obtain⟨a,b,h1,h2,h3,h4,ha,hb⟩:=o7 h;have h4:=h4 (aC _);rw[ax]at h1;split at h1
    .rename_i hac;have hac:=aaa hac;refine⟨_,_,h1,λS E bz hr ck=>?_⟩;rw[hop]at ck;obtain⟨hx,hlo,hhi⟩:=qi ck;rw[hp]at hx;obtain⟨S',hle,k1,k2,k3⟩:=vo hr hg;obtain⟨rfl,hv⟩:=k3 n _ hx;rcases hv with⟨rfl,hv⟩|⟨i,mid,post,cap,hv,hF,hC,hcap⟩
     .refine ⟨S',.slice none (b.toNat-a.toNat) (0-a.toNat),E,⟨0,λn _=>lZ hop hu ?_⟩,hle,.dH _ _ _ (.inl ⟨by simp[dX],.inl ?_⟩),k1,k2⟩
      .rw[hv];exact o8 hu hs ha hb h2 h3 (by simpa using h4) hlo hhi none (.inl rfl) (by simp at h4;omega)
      simp at h4;have e1:b.toNat-a.toNat=0:=by omega
      have e2:(0:Nat)-a.toNat=0:=by omega
      rw[e1,e2]
     have:=SR.cut (pre:=[]) (λx c=>CR.length e x c) hF hC h2 h3 h4 hcap;refine⟨S',_,E,⟨0,λn _=>lZ hop hu ?_⟩,hle,.dH _ _ _ this,k1,k2⟩;rw[hv];have:=o8 (S:=S) (bz:=bz) hu hs ha hb h2 h3 (show b<=cap by omega) hlo hhi (some ⟨i,0,none⟩) (.inr ⟨_,_,rfl⟩) (by omega);rw[this];simp
    cases h1
   cases h
  cases h
 .rename_i te hu hp;rw[ax]at h;split at h
  .rename_i hs;obtain⟨s,hs⟩:=bV.1 hs;obtain⟨a,b,h1,h2,h3,h4,ha,hb⟩:=o7 h;have h4:=h4 (aC _);refine⟨_,_,h1,.quiet λS E bz hr ck=>?_⟩;rw[hop]at ck;obtain⟨hx,hlo,hhi⟩:=qi ck;rw[hp]at hx;generalize hA:bz x=A at hx;cases hx with
   |dG =>
    refine⟨.slice none (b.toNat-a.toNat) (0-a.toNat),λcall=>lZ hop hu ?_,?_⟩
    .rw[hA];exact o8 hu hs ha hb h2 h3 (by simpa using h4) hlo hhi none (.inl rfl) (by omega)
    have e1:b.toNat-a.toNat=0:=by omega
    have e2:(0:Nat)-a.toNat=0:=by omega
    rw[e1,e2];exact .dG
  cases h
 .rename_i n te id n' hu hp;split at h
  .rename_i t' e l gC ro hg;rw[ax]at h;split at h
   .rename_i hs;simp only[ak,aO]at hs;obtain⟨hs,rfl⟩:=hs;have hs:=Er hs;obtain⟨a,b,h1,h2,h3,h4,ha,hb⟩:=o7 h;have h4:=h4 (aC _);rw[ax]at h1;split at h1
    .rename_i hac;have hac:=aaa hac;refine⟨_,_,h1,.quiet λS E bz hr ck=>?_⟩;rw[hop]at ck;obtain⟨hx,hlo,hhi⟩:=qi ck;rw[hp]at hx;generalize hA:bz x=A at hx;obtain⟨g1,⟨_,g,g2,g2'⟩,g3⟩:=hr.row id _ hg;cases hx with
     |Ej _ _ i0 c0 s0 hρ g' hg' hn' =>
      rw[g2]at hg';cases hg';rcases g3 with⟨_,g5,_⟩|⟨i',cap',b',mid,post,q1,q2,q3,q4,q5,q6,q7,q8,q9,yq⟩
      .rw[hρ]at g5;cases g5
      rw[hρ]at q1;cases q1;have e1:=Ly (S:=S) (bz:=bz) hu hs ha hb h2 h3 h4 hlo hhi q2 (q9 rfl).1 hac;have:=VR.rO (S:=S) id a.toNat (b.toNat-a.toNat) (n'-a.toNat) i0 c0 e.size hρ g g2 (by omega) (by omega);refine⟨_,λcall=>?_,this⟩;unfold jt;rw[hop];show Ev.pJ X.P bz o t (bz x) (lo.map bz) (hi.map bz) E=_;unfold Ev.pJ;have e2:Ev.wm X.P t=true:=by simp[Ev.wm,hu]
      rw[e2,hA,e1];rfl
    cases h1
   cases h
  cases h
 cases h
end
end Go.Tv
namespace Go.Tv
open Go.Ev (Tr ah iL Mem jJ alive ax dF bF gR jt aZ cE orElse)
theorem x6 {α:Type}:∀(xs l:List α) (off:Nat),off+xs.length<=l.length->mj l off xs=l.take off++(xs++l.drop (off+xs.length))
 |[],l,off,_=>by simp[mj]
 |x::xs,l,off,h=>by
  simp only[aJ]at h;rw[mj,x6 xs (l.set off x) (off+1) (by simp;omega)];have h1:(l.set off x).take (off+1)=l.take off++[x]:=by
   rw[List.take_succ_eq_append_getElem (by simp;omega),List.take_set,List.set_eq_of_length_le (by simp;omega)];simp
  have h2:(l.set off x).drop (off+1+xs.length)=l.drop (off+(x::xs).length):=by
   rw[List.drop_set_of_lt (by omega)];simp only[aJ];congr 1;omega
  rw[h1,h2];simp
theorem tC (l xs:List Value)(off:Nat):Ev.ou l off xs=mj l off xs:=by
 induction xs generalizing l off with
 |nil=>rfl
 |cons x xs ih=>exact ih _ _
theorem qO {α:Type}:∀(xs l:List α) (off:Nat),(mj l off xs).length=l.length
 |[],l,off=>rfl
 |x::xs,l,off=>by rw[mj,qO xs];simp
theorem Es {α:Type}(a c b xs:List α)(fo:Nat)(h:fo+xs.length<=c.length):mj (a++(c++b)) (a.length+fo) xs=a++(mj c fo xs++b):=by
 rw[x6 xs c fo h,x6 xs _ _ (by simp;omega)];rw[List.take_append,List.drop_append];simp only[Nat.add_sub_cancel_left];have e1:a.take (a.length+fo)=a:=cU (by omega);have e2:a.drop (a.length+fo+xs.length)=[]:=iz (by omega);have e3:a.length+fo+xs.length-a.length=fo+xs.length:=by omega
 rw[e1,e2,e3,fk (by omega),fj (by omega)];simp
theorem mU.set {α:Type}{R:α->List Value->Prop}{l:List α}{j:Nat}{y:α}{a c b:List Value}(hj:j<l.length)(h1:mU R (l.take j) a)(h2:R y c)(h3:mU R (l.drop (j+1)) b):mU R (l.set j y) (a++(c++b)):=by
 have:l.set j y=l.take j++(y::l.drop (j+1)):=by
  rw[List.set_eq_take_append_cons_drop,ag hj]
 rw[this];exact h1.append ⟨c,b,rfl,h2,h3⟩
theorem mU.put {α:Type}{R:α->List Value->Prop}{s:Nat}(hR:∀x c,R x c->c.length=s){l xs:List α}{mid xc:List Value}{off:Nat}(hl:mU R l mid)(hx:mU R xs xc)(h:off+xs.length<=l.length):mU R (mj l off xs) (mj mid (off*s) xc):=by
 have lm:=hl.length hR;have lx:=hx.length hR;obtain⟨c1,c2,e1,k1,k2⟩:=hl.split hR off;obtain⟨c3,c4,e2,k3,k4⟩:=k2.split hR xs.length;have l1:=k1.length hR;have l3:=k3.length hR;have t1:(l.take off).length=off:=by simp;omega
 have t3:((l.drop off).take xs.length).length=xs.length:=by simp;omega
 rw[t1]at l1;rw[t3]at l3;rw[x6 xs l off h];have:mj mid (off*s) xc=c1++(xc++c4):=by
  rw[e1,e2,<-l1];have:=Es c1 c3 c4 xc 0 (by rw[lx,l3];omega);rw[oE]at this;rw[this,x6 xc c3 0 (by rw[lx,l3];omega)];rw[iz (by rw[lx,l3];omega)];simp
 rw[this];rw[eJ]at k4;exact k1.append (hx.append k4)
theorem CR.plain {F:Nat->Option (List Value)}:∀(e:Ty) (x:e.den) (cs:List Value),CR F e x cs->cs.all Ev.plainCell=true
 |.int _,_,_,h=>by rw[h];rfl
 |.bool,_,_,h=>by rw[h];rfl
 |.str,_,_,h=>by rw[h];rfl
 |.qg,_,_,h=>by rw[h];rfl
 |.unit,_,_,h=>by rw[h];rfl
 |.sl _,_,_,⟨v,h,hs⟩=>by
  rw[h];rcases hs with⟨_,rfl|rfl⟩|⟨i,pre,mid,post,cap,rfl,_⟩<;>rfl
 |.pair a b,_,_,⟨c1,c2,e,h1,h2⟩=>by rw[e,jL,CR.plain a _ _ h1,CR.plain b _ _ h2];rfl
theorem mU.plain {F:Nat->Option (List Value)}{e:Ty}:∀{l:List e.den} {cs:List Value},mU (CR F e) l cs->cs.all Ev.plainCell=true
 |[],_,h=>by rw[h];rfl
 |x::l,_,⟨c1,c2,e',h1,h2⟩=>by rw[e',jL,CR.plain e _ _ h1,h2.plain];rfl
theorem Vq {S:Wo}{v:AV}{x:Value}(h:VR S v x)(hp:sF v=true):Ev.plainCell x=true:=by
 cases h with
 |dH e l v hs=>rcases hs with⟨_,rfl|rfl⟩|⟨i,pre,mid,post,cap,rfl,_⟩<;>rfl
 |agg=>cases hp
 |fH=>cases hp
 |j5=>cases hp
 |fl=>cases hp
 |cx=>cases hp
 |Ad v hf=>exact hp
 |_=>rfl
theorem BA {S:Wo}:∀{l:List AV} {m:List Value},LV S l m->l.all sF=true->m.all Ev.plainCell=true
 |[],m,h,_=>by rw[h.jx];rfl
 |v::l,m,h,hp=>by
  obtain⟨x,m',rfl,h1,h2⟩:=h.cons_inv;simp only[bY,ak]at hp ⊢;exact⟨Vq h1 hp.1,BA h2 hp.2⟩
theorem x7 {S:Wo}{v:AV}{x:Value}{cs:List AV}(h:VR S v x)(hc:Ek v=some cs):LV S cs x.cells.toList:=by
 have one:∀(v:AV) (x:Value),VR S v x->x.cells = #[x]->LV S [v] x.cells.toList:=λv x h e=>by rw[e];exact LV.cons h LV.nil
 cases h with
 |dH e l v hs =>
  cases hc;have:x.cells = #[x]:=by rcases hs with⟨_,rfl|rfl⟩|⟨i,pre,mid,post,cap,rfl,_⟩<;>rfl
  exact one _ _ (.dH e l x hs) this
 |agg l m hl hv=>cases hc;exact⟨by simpa[Value.cells] using hl,by simpa[Value.cells] using hv⟩
 |fH=>cases hc
 |j5=>cases hc
 |fl=>cases hc
 |cx=>cases hc
 |Ad v hf =>
  have hc:ah (Ev.plainCell x) (some [AV.Ad x]) none=some cs:=hc;rw[ax]at hc;split at hc
  .rename_i hp;cases hc;refine one _ _ (.Ad x hf) ?_;cases x<;>first|rfl|cases hp
  cases hc
 |_=>cases hc;exact LV.cons (by constructor<;>assumption) LV.nil
section
variable {X:ij} {cf:Nat×Nat->Ev.cH} {o:Oper} {ev:Operand->AV} {H:aG} {β:Type} {r:β}
theorem qA {E:Mem}{i off:Nat}{b:jJ}{vs:List Value}(hb:alive E i=some b)(hlk:E.lk<=i)(hlen:off+vs.length<=b.cells.length)(hp:vs.all Ev.plainCell=true) :
 ∃E',Ev.iH E i off vs=some E'/\E'.size=E.size/\E'.lk=E.lk/\∃b',alive E' i=some b'/\b'.cells=mj b.cells off vs/\b'.elem=b.elem/\b'.fix=b.fix/\∀j,j≠i->E'.get j=E.get j:=by
 unfold Ev.iH;cases vs with
 |nil=>exact⟨E,rfl,rfl,rfl,b,hb,rfl,rfl,rfl,λ_ _=>rfl⟩
 |cons v vs =>
  rw[aa (by simp),hb];simp only;rw[ag (by rw[hp];simpa using hlen)];obtain⟨E',hE⟩:=Mem.jc (b:={ b with cells:=Ev.ou b.cells off (v::vs) }) (lq hb) hlk;obtain⟨_,_,h3,h4,h5⟩:=Ev.Mem.kY hE;refine⟨E',hE,h3,h4,{ b with cells:=Ev.ou b.cells off (v::vs) },sH (by rw[h5,ag rfl]) (dF hb).2,tC _ _ _,rfl,rfl,λj hj=>by rw[h5,aa hj]⟩
def Wo.gC (S:Wo)(id v:Nat)(g:Sigma λe:Ty=>List e.den):Wo:=⟨S.F,S.ρ,λj w=>if j=id/\w=v then some g else S.Γ j w⟩
theorem Wo.afm {S:Wo}{id v:Nat}{g:Sigma λe:Ty=>List e.den}(h:S.Γ id v=none):S.le (S.gC id v g) :=
 ⟨λ_ _ h=>h,λ_ _ h=>h,λj w x hx=>by
  show (if j=id/\w=v then some g else S.Γ j w)=_;by_cases hj:j=id/\w=v
  .obtain ⟨rfl,rfl⟩:=hj;rw[h]at hx;cases hx
  rw[aa hj];exact hx⟩
theorem Rel.rewrite {S:Wo}{E E':Mem}(hr:Rel S H E){id:Nat}{t:TypeId}{e:Ty}{l l':List e.den}{gC:Nat}{ex:Bool}(hg:H.get id=some (.list t e l gC ex false)){i cap:Nat}{b b':jJ}{mid post:List Value}
 (hρ:S.ρ id=some (i,cap,e.size)) (hb:alive E i=some b) (hs:E'.size=E.size) (hlk:E'.lk=E.lk) (hE:∀j,j≠i->E'.get j=E.get j) (hb':alive E' i=some b') (hel:b'.elem=b.elem) (KO:b'.fix=b.fix) (hc:b'.cells=mid++post) (hlen:b'.cells.length=b.cells.length)
 (hC:mU (CR S.F e) l' mid) (hl:l'.length=l.length) (hpost:ex=true->post=[]) (UT:∃l2,mU (CR S.F e) l2 post) :
 S.le (S.gC id (gC+1) ⟨e,l'⟩)/\Rel (S.gC id (gC+1) ⟨e,l'⟩) (H.put id (.list t e l' (gC+1) ex false)) E'/\St S H E (S.gC id (gC+1) ⟨e,l'⟩) (H.put id (.list t e l' (gC+1) ex false)) E':=by
 obtain⟨g1,⟨g0,g,g2,g2'⟩,g3⟩:=hr.row id _ hg;have hle:S.le (S.gC id (gC+1) ⟨e,l'⟩):=Wo.afm (g0 _ (by omega));rcases g3 with⟨_,g5,_⟩|⟨i',cap',b0,asq,aqR,q1,q2,q3,q4,q5,q6,q7,q8,q9,yq⟩
 .rw[hρ]at g5;cases g5
 rw[hρ]at q1;cases q1;rw[hb]at q2;cases q2;refine⟨hle,hr.mod hg rfl hle rfl (λj w hj=>aa (by omega)) hs hlk (λj hj=>hE j (hj _ hρ)) (λj cs h=>.inl h) λq hq=>?_⟩;cases hq;refine⟨ag ⟨rfl,rfl⟩,⟨λv hv=>?_,g,hle.Γ _ _ _ g2,by omega⟩,.inr ⟨i,cap,b',mid,post,hρ,hb',by rw[hel,q3],hc,hC,by rw[hlen,q6],by omega,q8,λhx=>⟨by rw[KO];exact(q9 hx).1,hpost hx,by have:=(q9 hx).2.2;omega⟩,λh=>(by cases h),UT⟩⟩;show (if id=id/\v=gC+1 then some _ else S.Γ id v)=none;rw[aa (by omega)];exact g0 v (by omega)
theorem SD {t:TypeId}{p q:Operand}(hop:o.op = .store t p q){k:AV->aG->Option β}(h:storeT X H t (ev p) (ev q) (λH'=>k .j5 H')=some r):∃v H',k v H'=some r/\eO X cf o ev H v H':=by
 unfold storeT at h;split at h
 .rename_i id off n vs hp hn hvs;split at h
  .rename_i t' cs hg;rw[ax]at h;split at h
   .rename_i hc;simp only[ak,aO,bu]at hc;obtain⟨⟨⟨hmay,NZ⟩,hpl⟩,hof⟩:=hc;refine⟨_,_,h,λS E bz hr ck=>?_⟩;rw[hop]at ck;have hx:=ck p (by simp[Op.operands]);have hy:=ck q (by simp[Op.operands]);rw[hp]at hx;generalize hA:bz p=A at hx;cases hx with
    |ptr _ _ i c s hρ =>
     obtain⟨i',c',s',b,k1,k2,k3,k4,k5⟩:=hr.row id _ hg;rw[hρ]at k1;cases k1;have ot:=x7 hy hvs;have hmay':H.lk<=id:=by simpa[aG.nO,bu] using hmay
     have hlk:=hr.lk id _ _ hg hmay' hρ;have hof':off+n<=cs.length:=hof;obtain⟨E',w1,w2,w3,b',w4,w5,w6,w7,w8⟩:=qA (off:=off) (vs:=(bz q).cells.toList) k2 hlk (by rw[<-ot.1,<-k3.1];omega) (BA ot hpl);obtain⟨m1,m2⟩:=hr.mod (S':=S) (E':=E') (r':=.cells t' (mj cs off vs)) hg rfl S.le_refl rfl (λ_ _ _=>rfl) w2 w3 (λj hj=>w8 j (hj _ hρ)) (λj cs h=>.inl h) (λq hq=>by
      cases hq;refine⟨i,c,s,b',hρ,w4,?_,w6.trans k4,w7.trans k5⟩;rw[w5,<-tC];exact LV.mj vs _ off ot k3)
     refine⟨S,undef,E',⟨0,λ_ _=>?_⟩,S.le_refl,.j5 _,m1,m2⟩;unfold jt;rw[hop];show Ev.qt X.P t (bz p) (bz q) E=_;have hsz:(bz q).cells.size=n:=by
      have:=ot.1;simp at this;omega
     simp only[Ev.qt,Ev.su,hA,hn,hsz,fF,w1]
   cases h
  cases h
 .rename_i id j fo gC cur n vs hp hn hvs;split at h
  .rename_i t' e l ver' ex ro hg;rw[ax]at h;split at h
   .rename_i hc;simp only[ak,aO,bu,aS]at hc;obtain⟨⟨⟨⟨⟨hmay,NZ⟩,hpl⟩,hof⟩,rfl⟩,rfl⟩:=hc;split at h
    .rename_i y hun;refine⟨_,_,h,λS E bz hr ck=>?_⟩;rw[hop]at ck;have hx:=ck p (by simp[Op.operands]);have hy:=ck q (by simp[Op.operands]);rw[hp]at hx;generalize hA:bz p=A at hx;cases hx with
     |Dk _ _ _ _ _ i c e' l2 y' hρ hΓ hy' aoM =>
      obtain⟨g1,⟨g0,g,g2,g2'⟩,g3⟩:=hr.row id _ hg;rw[g1]at hΓ;cases hΓ;rcases g3 with⟨_,g5,_⟩|⟨i',cap,b,mid,post,q1,q2,q3,q4,q5,q6,q7,q8,q9,yq⟩
      .rw[hρ]at g5;cases g5
      rw[hρ]at q1;cases q1;obtain⟨a,cc,bb,w1,w2,w3,w4,w5⟩:=q5.get (λx c=>CR.length e x c) hy';subst aoM;have hcc:=CR.length e _ _ w3;have hfl:=tB e y';have ot:=x7 hy hvs;have hof':fo+n<=e.size:=by rw[<-hfl];exact hof
      have hmay':H.lk<=id:=by simpa[aG.nO,bu] using hmay
      have hlk:=hr.lk id _ _ hg hmay' hρ;have hbc:b.cells=a++(cc++(bb++post)):=by rw[q4,w1];simp
      have hxl:(bz q).cells.toList.length=n:=by rw[<-ot.1];exact NZ
      obtain⟨E',v1,v2,v3,b',v4,v5,v6,v7,v8⟩:=qA (off:=j*e.size+fo) (vs:=(bz q).cells.toList) q2 hlk (by rw[hbc];simp at hxl ⊢;omega) (BA ot hpl);have hnew:mj b.cells (j*e.size+fo) (bz q).cells.toList=a++(mj cc fo (bz q).cells.toList++(bb++post)):=by
       rw[hbc,<-w2];exact Es a cc (bb++post) _ fo (by omega)
      have hLV:=LV.mj vs _ fo ot (CR.flat e _ _ w3);rw[tC]at hLV;obtain⟨c1,m',e1,r1,r2⟩:=qN e hun hLV;have hm':=r2.jx;subst hm';rw[fB]at e1;have hjl:=eL hy';have hC:mU (CR S.F e) (l.set j y) (a++(c1++bb)):=mU.set hjl w4 r1 w5;obtain⟨z1,z2,z3⟩:=hr.rewrite hg hρ q2 v2 v3 v8 v4 v6 v7 (mid:=a++(c1++bb)) (post:=post) (by rw[v5,hnew,e1];simp) (by rw[v5,qO]) hC (by simp) (λhx=>(q9 hx).2.1) yq.2;refine⟨_,undef,E',⟨0,λ_ _=>?_⟩,z1,.j5 _,z2,z3⟩;unfold jt;rw[hop];show Ev.qt X.P t (bz p) (bz q) E=_
      have hsz:(bz q).cells.size=n:=by simpa using hxl
      simp only[Ev.qt,Ev.su,hA,hn,hsz,fF,v1]
    cases h
   cases h
  cases h
 cases h
end
end Go.Tv
namespace Go.Tv
open Go.Ev (Tr ah iL Mem jJ alive ax dF bF gR jt aZ cE orElse)
section
variable {X:ij} {cf:Nat×Nat->Ev.cH} {o:Oper} {ev:Operand->AV} {H:aG} {β:Type} {r:β}
theorem akj {a b:Nat}(h:Nat.beq a b=false):a≠b:=λe=>by subst e;rw[oF]at h;cases h
inductive ze (S:Wo)(H:aG)(E:Mem)(te:TypeId)(e:Ty)(old:List e.den):aG->Value->Prop where
 |nil (h:old=[]):ze S H E te e old H (.slice none 0 0)
 |Vr (id r) (hg:H.get id=some r) (hro:r.A8=false) (h:old=[]):ze S H E te e old (H.put id .dead) (.slice none 0 0)
 |row (id r i cap b mid post) (hg:H.get id=some r) (hro:r.A8=false) (hρ:S.ρ id=some (i,cap,e.size)) (hb:alive E i=some b) (hlk:E.lk<=i) (hc:b.cells=mid++post) (hC:mU (CR S.F e) old mid) (hn:b.cells.length=cap*e.size) (hl:old.length<=cap) (hcap:cap<=2000000) (hel:b.elem=te) (UT:∃l2,mU (CR S.F e) l2 post):ze S H E te e old (H.put id .dead) (.slice (some ⟨i,0,none⟩) old.length cap)
theorem Vs {S:Wo}{E:Mem}(hr:Rel S H E){te:TypeId}{e:Ty}{s:AV}{old:List e.den}{H':aG}{x:Value}(h:Vb H te e s=some (old,H'))(hx:VR S s x):ze S H E te e old H' x:=by
 unfold Vb at h;split at h
 .cases h;cases hx;exact .nil rfl
 .rename_i id n;split at h
  .rename_i t' e' l gC ex hg;rw[ax]at h;split at h
   .rename_i hmay;simp only[ak,aO]at hmay;obtain⟨hmay,rfl⟩:=hmay;split at h
    .rename_i l' ot;cases h;obtain⟨he,hc⟩:=bT ot;subst he;have hc:l=old:=hc;subst hc;obtain⟨g1,⟨g0,g,g2,g2'⟩,g3⟩:=hr.row id _ hg;cases hx with
     |own _ _ i0 qh s0 hρ g' hg' hn' =>
      rw[g2]at hg';cases hg';rcases g3 with⟨_,g5,_⟩|⟨i',cap,b,mid,post,q1,q2,q3,q4,q5,q6,q7,q8,q9,yq⟩
      .rw[hρ]at g5;cases g5
      rw[hρ]at q1;cases q1;have:=ze.row (S:=S) (H:=H) (E:=E) (te:=t') (e:=e') (old:=l) id _ i0 qh b mid post hg rfl hρ q2 (hr.lk id _ _ hg (by simpa[aG.nO,bu] using hmay) hρ) q4 q5 q6 q7 q8 q3 yq.2;rw[<-g2',hn']at this;exact this
     |gh _ g' hg' hn' =>
      rw[g2]at hg';cases hg';have h0:l=[]:=aQ.1 (by omega);exact .Vr id _ hg rfl h0
    cases h
   cases h
  cases h
 .rename_i id len Lv;split at h
  .rename_i t' e' l gC hg;rw[ax]at h;split at h
   .rename_i hmay;simp only[ak,aO]at hmay;obtain⟨hmay,rfl⟩:=hmay;split at h
    .rename_i l' ot;cases h;obtain⟨he,hc⟩:=bT ot;subst he;have hc:l=l':=hc;subst hc;obtain⟨g1,⟨g0,g,g2,g2'⟩,g3⟩:=hr.row id _ hg;cases hx with
     |rO _ _ _ _ i0 c0 s0 hρ g' hg' hcc Lw =>
      rw[g2]at hg';cases hg';rcases g3 with⟨_,g5,_⟩|⟨i',cap,b,mid,post,q1,q2,q3,q4,q5,q6,q7,q8,q9,yq⟩
      .rw[hρ]at g5;cases g5
      rw[hρ]at q1;cases q1;obtain⟨c1,c2,e1,k1,k2⟩:=q5.split (λx c=>CR.length e' x c) len;have hlen:(l.take len).length=len:=by simp;omega
      have hcap:Lv=c0:=by have:=(q9 rfl).2.2;omega
      subst hcap;have:=ze.row (S:=S) (H:=H) (E:=E) (te:=t') (e:=e') (old:=l.take len) id _ i0 Lv b c1 (c2++post) hg rfl hρ q2 (hr.lk id _ _ hg (by simpa[aG.nO,bu] using hmay) hρ) (by rw[q4,e1];simp) k1 q6 (by omega) q8 q3 (yq.2.elim λl2 h2=>⟨_,k2.append h2⟩);rw[hlen]at this;rw[oH];exact this
    cases h
   cases h
  cases h
 cases h
theorem lu {S:Wo}{H:aG}{E':Mem}{te:TypeId}{e:Ty}{l:List e.den}{i cap:Nat}{b:jJ}{mid post:List Value}{fx:Bool}(hr:∀v,S.Γ H.next v=none)(hb:alive E' i=some b)(hel:b.elem=te)(hc:b.cells=mid++post)(hC:mU (CR S.F e) l mid)(hn:b.cells.length=cap*e.size)(hl:l.length<=cap)(hcap:cap<=2000000)(hx:fx=true->b.fix=true/\post=[]/\l.length=cap) (UT:∃l2,mU (CR S.F e) l2 post:=by exact⟨[],rfl⟩) :
 o6 (S.new H.next (some (i,cap,e.size)) (some ⟨e,l⟩)) E' H.next (.list te e l 0 fx false):=by
 refine⟨ag ⟨rfl,rfl⟩,⟨λv hv=>?_,⟨e,l⟩,ag ⟨rfl,rfl⟩,rfl⟩,.inr ⟨i,cap,b,mid,post,ag rfl,hb,hel,hc,hC,hn,hl,hcap,hx,λh=>(by cases h),UT⟩⟩;show (if H.next=H.next/\v=0 then some _ else S.Γ H.next v)=none;rw[aa (by omega)];exact hr v
theorem lz {S:Wo}{H:aG}{E':Mem}{te:TypeId}{e:Ty}(hr:∀v,S.Γ H.next v=none):o6 (S.new H.next none (some ⟨e,([]:List e.den)⟩)) E' H.next (.list te e [] 0 false false):=by
 refine⟨ag ⟨rfl,rfl⟩,⟨λv hv=>?_,⟨e,[]⟩,ag ⟨rfl,rfl⟩,rfl⟩,.inl ⟨rfl,ag rfl,rfl⟩⟩;show (if H.next=H.next/\v=0 then some _ else S.Γ H.next v)=none;rw[aa (by omega)];exact hr v
theorem Lz {S:Wo}{E:Mem}(hr:Rel S H E){st xt te:TypeId}{inf:TypeInfo}{z:Value}{e:Ty}{old new:List e.den}{H':aG}{s' x':Value}(hu:X.P.underlying st=some (.slice te))(NG:Ev.lG X.P xt=true)(hi:X.P.info? te=some inf)(hz:Ev.mc X.P te=some z)
 (hsz:inf.size=e.size) (h0:inf.size≠0) (hb0:inf.bytes≠0) (yo:inf.bytes<=100000) (hzc:z.cells.size=inf.size) (Vt:old.length+new.length<=2000000)
 (hlen:Ev.vW x'=some new.length) (hnew:∃c,Ev.iR E e.size new.length x'=some c/\mU (CR S.F e) new c) (hbase:ze S H E te e old H' s') :
 ∃S' vE E',Ev.rH X.P E st xt s' x'=some (vE,E')/\S.le S'/\VR S' (.own H'.next (old.length+new.length)) vE/\Rel S' (H'.push (.list te e (old++new) 0 false false)) E'/\St S H E S' (H'.push (.list te e (old++new) 0 false false)) E':=by
 obtain⟨nc,hn1,hn2⟩:=hnew;have hR:∀x c,CR S.F e x c->c.length=e.size:=λx c=>CR.length e x c
 have Vu:=hn2.length hR;have ox:∀v,S.Γ H.next v=none:=λv=>hr.C3 _ _ (aC _)
 have akk:0<e.size:=by omega
 -- the evaluator's own tests
 have v9:∀(base:Option Addr) (sLen sCap:Nat) (oc:List Value),Ev.iR E e.size sLen (.slice base sLen sCap)=some oc->sLen=old.length->sCap<=2000000 ->
  Ev.rH X.P E st xt (.slice base sLen sCap) x'=(if sLen+new.length<=sCap then
   match base with
   |some ⟨b,off,none⟩=>(Ev.iH E b (off+sLen*inf.size) nc).map λH'=>(.slice base (sLen+new.length) sCap,H')
   |none=>if new.length=0 then some (.slice base sLen sCap,E) else none
   |_=>none
   else
    match base with
    |some ⟨b,off,none⟩ =>
     if off=0/\oc.length=sLen*inf.size/\(alive E b).any (λk=>decide (k.cells.length=sCap*inf.size)&&(k.elem==te)) then
      match Ev.kill E b with
      |some H1=>Ev.kU H1 te (oc++nc) (sLen+new.length) (sLen+new.length)
      |none=>none
     else none
    |none=>Ev.kU E te (oc++nc) (sLen+new.length) (sLen+new.length)
    |_=>none):=by
  intro base sLen sCap oc hoc hsl hcap;unfold Ev.rH;simp only[hu,NG,hi,hz,hlen];rw[hsz,hn1,hoc];simp only;have hcond:¬(e.size=0\/inf.bytes=0\/inf.bytes>100000\/sLen+new.length>2000000\/sCap>2000000\/z.cells.size≠e.size\/(!nc.all Ev.plainCell)=true):=by
   rw[hn2.plain];simp;omega
  rw[aa hcond];rfl
 -- a new row of the evaluator's
 have fresh:∀(E1:Mem),E1.size=E.size->E1.lk=E.lk->∀(oc:List Value),mU (CR S.F e) old oc ->
  ∃E',Ev.kU E1 te (oc++nc) (old.length+new.length) (old.length+new.length)=some (.slice (some ⟨E.size,0,none⟩) (old.length+new.length) (old.length+new.length),E')/\E.size<=E'.size/\E'.lk=E.lk/\(∀j,j<E.size->E'.get j=E1.get j) /\
   o6 (S.new H.next (some (E.size,old.length+new.length,e.size)) (some ⟨e,old++new⟩)) E' H.next (.list te e (old++new) 0 false false)/\VR (S.new H.next (some (E.size,old.length+new.length,e.size)) (some ⟨e,old++new⟩)) (.own H.next (old.length+new.length)) (.slice (some ⟨E.size,0,none⟩) (old.length+new.length) (old.length+new.length)):=by
  intro E1 h1 h2 oc hoc;obtain⟨E',hE⟩:=Mem.lY E1 ⟨oc++nc,te,true,false⟩;obtain⟨p1,p2,p3⟩:=Ev.Mem.dN hE;refine⟨E',?_,by omega,by omega,λj hj=>by rw[p3,aa (by omega)],?_,?_⟩
  .unfold Ev.kU;rw[hE];simp only[h1]
  .refine lu (b:=⟨oc++nc,te,true,false⟩) (mid:=oc++nc) (post:=[]) ox (sH (by rw[p3,ag h1.symm]) rfl) rfl (by simp) (hoc.append hn2) ?_ (by simp) Vt (λh=>by cases h);simp only[aA,Vu,hoc.length hR,dm]
  exact .own _ _ _ _ e.size (ag rfl) ⟨e,old++new⟩ (ag ⟨rfl,rfl⟩) (by simp)
 cases hbase with
 |nil ho =>
  subst ho;rw[v9 none 0 0 [] (by simp[Ev.iR]) rfl (by omega)];by_cases hn:new.length=0
  .have zY:new=[]:=aQ.1 hn;subst zY;obtain⟨a1,a2,a3⟩:=hr.add (r:=.list te e ([]++[]) 0 false false) (x:=none) (g:=some ⟨e,[]⟩) (aC _) rfl (λ_ _=>rfl) (λr' h=>by cases h;exact lz ox) (λy h=>by cases h) rfl;exact⟨_,_,E,by simp,a1,.gh _ ⟨e,[]⟩ (ag ⟨rfl,rfl⟩) rfl,a2,a3⟩
  obtain⟨E',e1,e2,e3,e4,e5,e6⟩:=fresh E rfl rfl [] rfl;obtain⟨a1,a2,a3⟩:=hr.add (r:=.list te e ([]++new) 0 false false) (x:=some (E.size,([]:List e.den).length+new.length,e.size)) (g:=some ⟨e,[]++new⟩) e2 e3 e4 (λr' h=>by cases h;exact e5) (λy h=>by cases h;exact aC _) rfl;refine⟨_,_,E',?_,a1,e6,a2,a3⟩;rw[aa (by omega)];exact e1
 |Vr id r0 hg hro ho =>
  subst ho;have QG:(H.put id .dead).next=H.next:=(aG.gB H id .dead).1
  rw[v9 none 0 0 [] (by simp[Ev.iR]) rfl (by omega),QG];by_cases hn:new.length=0
  .have zY:new=[]:=aQ.1 hn;subst zY;obtain⟨a1,a2,a3⟩:=hr.move (E':=E) (r:=.list te e ([]++[]) 0 false false) (x:=none) (g:=some ⟨e,[]⟩) hg hro (aC _) rfl (λ_ _ _=>rfl) (λy h=>by cases h) (λr' h=>by cases h;exact lz ox) rfl;exact⟨_,_,E,by simp,a1,.gh _ ⟨e,[]⟩ (ag ⟨rfl,rfl⟩) rfl,a2,a3⟩
  obtain⟨E',e1,e2,e3,e4,e5,e6⟩:=fresh E rfl rfl [] rfl;obtain⟨a1,a2,a3⟩:=hr.move (E':=E') (r:=.list te e ([]++new) 0 false false) (x:=some (E.size,([]:List e.den).length+new.length,e.size)) (g:=some ⟨e,[]++new⟩) hg hro e2 e3 (λj hj _=>e4 j hj) (λy h=>by cases h;exact .inl (aC _)) (λr' h=>by cases h;exact e5) rfl;refine⟨_,_,E',?_,a1,e6,a2,a3⟩;rw[aa (by omega)];exact e1
 |row id r0 i cap b mid post hg hro hρ hb hlk hc hC hn hl hcap hel UT =>
  have QG:(H.put id .dead).next=H.next:=(aG.gB H id .dead).1
  have hml:=hC.length hR;obtain⟨oc,ho1,Dj⟩:=Aj (pre:=[]) hR (λ_ _ h=>h.oO) hb (by simpa using hc) hC 0 old.length (by omega);have hoc:Ev.iR E e.size old.length (.slice (some ⟨i,0,none⟩) old.length cap)=some oc:=by simpa[Ev.iR] using ho1
  have ho3:mU (CR S.F e) old oc:=by simpa using Dj
  rw[v9 _ _ _ oc hoc rfl hcap,QG];by_cases hroom:old.length+new.length<=cap
  .rw[ag hroom];have hbound:0+old.length*inf.size+nc.length<=b.cells.length:=by
    rw[Vu,hn,hsz,bX,<-dm];exact dV _ hroom
   obtain⟨E',w1,w2,w3,b',w4,w5,w6,w7,w8⟩:=qA hb hlk hbound hn2.plain;have hcells:b'.cells=(mid++nc)++post.drop nc.length:=by
    rw[w5,hc];have hoff:0+old.length*inf.size=mid.length:=by rw[hml,hsz];omega
    rw[hoff];have hpl:nc.length<=post.length:=by
     have:b.cells.length=mid.length+post.length:=by rw[hc];simp
     omega
    have:=Es mid post [] nc 0 (by omega);simp only[fB,oE]at this;rw[this,x6 nc post 0 (by omega)];simp
   have hb'len:b'.cells.length=cap*e.size:=by rw[w5,qO,hn]
   have afn:∃l2,mU (CR S.F e) l2 (post.drop nc.length):=by
    obtain⟨l2,A6⟩:=UT;obtain⟨a,bb,e1,f1,f2⟩:=A6.split hR new.length;have h1:=A6.length hR;have h2:=f1.length hR;have hpl:new.length*e.size<=l2.length*e.size:=by
     have:b.cells.length=mid.length+post.length:=by rw[hc];simp
     have Kk:0+old.length*inf.size+nc.length<=b.cells.length:=hbound;rw[hsz]at Kk;rw[<-h1];omega
    have hle:=Nat.le_of_mul_le_mul_right hpl akk;rw[bR,gx hle]at h2;have key:post.drop nc.length=bb:=by rw[e1,Vu,<-h2];simp
    rw[key];exact⟨_,f2⟩
   obtain⟨a1,a2,a3⟩:=hr.move (E':=E') (r:=.list te e (old++new) 0 false false) (x:=some (i,cap,e.size)) (g:=some ⟨e,old++new⟩) hg hro (by omega) w3 (λj hj hne=>w8 j (hne _ hρ)) (λy h=>by cases h;exact .inr ⟨_,hρ,rfl,hlk⟩)
    (λr' h=>by
     cases h;exact lu ox w4 (by rw[w6,hel]) hcells (hC.append hn2) hb'len (by simpa using hroom) hcap (λh=>by cases h) afn) rfl
   refine⟨_,_,E',by simp only[w1,bK],a1,.own _ _ i cap e.size (ag rfl) ⟨e,old++new⟩ (ag ⟨rfl,rfl⟩) (by simp),a2,a3⟩
  rw[aa hroom];have hcond:(True/\oc.length=old.length*inf.size/\(alive E i).any (λk=>decide (k.cells.length=cap*inf.size)&&(k.elem==te))=true):=by
   refine⟨trivial,by rw[ho3.length hR,hsz],?_⟩;rw[hb];simp[hn,hsz,hel]
  simp only;rw[ag hcond];obtain⟨hgi,Bc⟩:=dF hb;obtain⟨E1,hE1⟩:=Mem.jc (b:={ b with live:=false,fix:=false }) (lq hb) hlk;obtain⟨_,_,s3,s4,s5⟩:=Ev.Mem.kY hE1;have fh:Ev.kill E i=some E1:=by unfold Ev.kill;rw[hgi];exact hE1
  rw[fh];obtain⟨E',e1,e2,e3,e4,e5,e6⟩:=fresh E1 s3 s4 oc ho3;obtain⟨a1,a2,a3⟩:=hr.move (E':=E') (r:=.list te e (old++new) 0 false false) (x:=some (E.size,old.length+new.length,e.size)) (g:=some ⟨e,old++new⟩) hg hro e2 e3 (λj hj hne=>by rw[e4 j hj,s5,aa (hne _ hρ)]) (λy h=>by cases h;exact .inl (aC _)) (λr' h=>by cases h;exact e5) rfl;exact⟨_,_,E',e1,a1,e6,a2,a3⟩
theorem OJ {c:Call}{s x:Operand}{st xt:TypeId}(hop:o.op = .call c)(hc:c.callee = .builtin .append)(h0:c.args[0]? = some s)(h1:c.args[1]? = some x)(h2:c.argTypes[0]? = some st)(h3:c.argTypes[1]? = some xt){k:AV->aG->Option β}(h:IX X H st xt (ev s) (ev x) k=some r) :
 ∃v H',k v H'=some r/\eO X cf o ev H v H':=by
 unfold IX at h;split at h
 .rename_i te hu NG;split at h
  .rename_i inf z e hi hz hty;rw[ax]at h;split at h
   .rename_i hcs;simp only[ak,aO,bu,aS]at hcs;obtain⟨⟨⟨⟨c1,c2⟩,c3⟩,c4⟩,c5⟩:=hcs;split at h
    .rename_i new old H' hv hb;rw[ax]at h;split at h
     .rename_i Vt;have Vt:=az Vt;refine⟨_,_,h,λS E bz hr ck=>?_⟩;rw[hop]at ck;have mem:∀(y:Operand) (j:Nat),c.args[j]? = some y->y∈(Op.call c).operands:=λy j hy=>by
       have:=aY hy;simp only[Op.operands,Call.operands,hc];simpa using this
      have hs:=ck s (mem s 0 h0);have hx:=ck x (mem x 1 h1);obtain⟨l1,l2⟩:=Ep hr hv hx;obtain⟨nc,n1,n2⟩:=l2 new.length (aC _);rw[kI]at n2;obtain⟨S',vE,E',a1,a2,a3,a4,a5⟩:=Lz (X:=X) hr hu NG hi hz c1 (akj c2) (akj c3) c4 c5 Vt l1 ⟨nc,n1,n2⟩ (Vs hr hb hs);refine⟨S',vE,E',⟨0,λ_ _=>?_⟩,a2,a3,a4,a5⟩;unfold jt;rw[hop];show Ev.ez X.P _ bz o c E=_;unfold Ev.ez;rw[hc];show Ev.sx X.P bz c.args c.argTypes E=_;unfold Ev.sx;rw[h0,h1,h2,h3];exact a1
     cases h
    cases h
   cases h
  cases h
 cases h
theorem SE {t:TypeId}{x y:Operand}(hop:o.op = .slice t x none (some y) none){k:AV->aG->Option β}(h:OA X H t (ev x) (ev y) k=some r):∃v H',k v H'=some r/\eO X cf o ev H v H':=by
 unfold OA at h;split at h
 .rename_i te id n kb b hu hp hq;split at h
  .rename_i t' e l gC ex hg;rw[ax]at h;split at h
   .rename_i hs;simp only[ak]at hs;obtain⟨hs,hmay⟩:=hs;have hs:=Er hs;rw[ax]at h;split at h
    .rename_i hb;have hb:=afk hb;refine⟨_,_,h,λS E bz hr ck=>?_⟩;rw[hop]at ck;obtain⟨hx,hlo,hhi⟩:=qi ck;rw[hp]at hx;have ox:∀v,S.Γ H.next v=none:=λv=>hr.C3 _ _ (aC _)
     have QG:(H.put id .dead).next=H.next:=(aG.gB H id .dead).1
     obtain⟨g1,⟨g0,g,g2,g2'⟩,g3⟩:=hr.row id _ hg;generalize hA:bz x=A at hx;have ha:BR ev 0 none 0:=.none;have hbr:∀len:Nat,BR ev len (some y) b:=λlen=>.some y kb b hq
     cases hx with
     |own _ _ i0 qh s0 hρ g' hg' hn' =>
      rw[g2]at hg';cases hg';rcases g3 with⟨_,g5,_⟩|⟨i',cap,bk,mid,post,q1,q2,q3,q4,q5,q6,q7,q8,q9,yq⟩
      .rw[hρ]at g5;cases g5
      rw[hρ]at q1;cases q1;obtain⟨c1,c2,e1,k1,k2⟩:=q5.split (λx c=>CR.length e x c) b.toNat;have hlen:(l.take b.toNat).length=b.toNat:=by simp;omega
      obtain⟨a1,a2,a3⟩:=hr.move (E':=E) (r:=.list t' e (l.take b.toNat) 0 false false) (x:=some (i0,qh,e.size)) (g:=some ⟨e,l.take b.toNat⟩) hg rfl (aC _) rfl (λ_ _ _=>rfl) (λy h=>by cases h;exact .inr ⟨_,hρ,rfl,hr.lk id _ _ hg (by simpa[aG.nO,bu] using hmay) hρ⟩)
       (λr' h=>by
        cases h;exact lu (mid:=c1) (post:=c2++post) ox q2 q3 (by rw[q4,e1];simp) k1 q6 (by omega) q8 (λh=>by cases h) (yq.2.elim λl2 h2=>⟨_,k2.append h2⟩)) rfl
      refine⟨_,.slice (some ⟨i0,0,none⟩) b.toNat qh,E,⟨0,λ_ _=>lZ hop hu ?_⟩,a1,.own _ _ i0 qh e.size (ag rfl) ⟨e,l.take b.toNat⟩ (ag ⟨rfl,rfl⟩) hlen,a2,a3⟩;rw[hA];have:=o8 (S:=S) (bz:=bz) hu hs ha (hbr n) (by omega) hb.1 (show b<=qh by omega) hlo hhi (some ⟨i0,0,none⟩) (.inr ⟨_,_,rfl⟩) (by omega);rw[this];simp
     |gh _ g' hg' hn' =>
      rw[g2]at hg';cases hg';have h0:l=[]:=aQ.1 (by omega);subst h0;have hb0:b.toNat=0:=by simp at hb;omega
      obtain⟨a1,a2,a3⟩:=hr.move (E':=E) (r:=.list t' e (([]:List e.den).take b.toNat) 0 false false) (x:=none) (g:=some ⟨e,[]⟩) hg rfl (aC _) rfl (λ_ _ _=>rfl) (λy h=>by cases h) (λr' h=>by
       cases h;rw[List.take_nil];exact lz ox) rfl
      refine⟨_,.slice none 0 0,E,⟨0,λ_ _=>lZ hop hu ?_⟩,a1,by rw[hb0];exact .gh _ ⟨e,[]⟩ (ag ⟨rfl,rfl⟩) rfl,a2,a3⟩;rw[hA];have:=o8 (S:=S) (bz:=bz) hu hs ha (hbr 0) (by omega) hb.1 (show b<=(0:Nat) by simp at hb;omega) hlo hhi none (.inl rfl) (by omega);rw[this];simp[hb0]
    cases h
   cases h
  cases h
 .rename_i te kb b hu hp hq;refine Bz (lo:=none) (hi:=some y) hop ?_;rw[hp];simp only[eT,bK,hq];exact h
 cases h
theorem Vv {c:Call}{d x:Operand}{dt:TypeId}(hop:o.op = .call c)(hc:c.callee = .builtin .copy)(h0:c.args[0]? = some d)(h1:c.args[1]? = some x)(h2:c.argTypes[0]? = some dt){k:AV->aG->Option β}(h:Vc X H dt (ev d) (ev x) k=some r) :
 ∃v H',k v H'=some r/\eO X cf o ev H v H':=by
 unfold Vc at h;split at h
 .rename_i te id off len Lv hu hd;split at h
  .rename_i t' e l gC s hg hs;rw[ax]at h;split at h
   .rename_i hcs;simp only[ak,aO]at hcs;obtain⟨hmay,rfl⟩:=hcs;split at h
    .rename_i new hv;refine⟨_,_,h,λS E bz hr ck=>?_⟩;rw[hop]at ck;have mem:∀(y:Operand) (j:Nat),c.args[j]? = some y->y∈(Op.call c).operands:=λy j hy=>by
      have:=aY hy;simp only[Op.operands,Call.operands,hc];simpa using this
     have hdd:=ck d (mem d 0 h0);have hx:=ck x (mem x 1 h1);rw[hd]at hdd;generalize hA:bz d=A at hdd;obtain⟨l1,l2⟩:=Ep hr hv hx;obtain⟨nc,n1,n2⟩:=l2 (Nat.min new.length len) (Nat.min_le_left _ _);obtain⟨g1,⟨g0,g,g2,g2'⟩,g3⟩:=hr.row id _ hg;cases hdd with
     |rO _ _ _ _ i0 c0 s0 hρ g' hg' hcc Lw =>
      rw[g2]at hg';cases hg';rcases g3 with⟨_,g5,_⟩|⟨i',cap,b,mid,post,q1,q2,q3,q4,q5,q6,q7,q8,q9,yq⟩
      .rw[hρ]at g5;cases g5
      rw[hρ]at q1;cases q1;have hR:∀x c,CR S.F e x c->c.length=e.size:=λx c=>CR.length e x c
      obtain⟨_,hpost,hlc⟩:=q9 rfl;subst hpost;rw[fB]at q4;have Vu:=n2.length hR;have hmin:(new.take (Nat.min new.length len)).length=Nat.min new.length len:=by simp
      have hml:Nat.min new.length len<=len:=Nat.min_le_right _ _;have hlk:=hr.lk id _ _ hg (by simpa[aG.nO,bu] using hmay) hρ;have hbound:off*e.size+nc.length<=b.cells.length:=by
       rw[Vu,hmin,q6,<-dm];exact dV _ (by omega)
      obtain⟨E',w1,w2,w3,b',w4,w5,w6,w7,w8⟩:=qA q2 hlk hbound n2.plain;have hput:=mU.put hR q5 n2 (off:=off) (by rw[hmin];omega);obtain⟨z1,z2,z3⟩:=hr.rewrite hg hρ q2 w2 w3 w8 w4 w6 w7 (mid:=mj mid (off*e.size) nc) (post:=[]) (by rw[w5,q4];simp) (by rw[w5,qO]) hput (qO _ _ _) (λ_=>rfl) ⟨[],rfl⟩;refine⟨_,goInt (Nat.min new.length len),E',⟨0,λ_ _=>?_⟩,z1,.int _ _,z2,z3⟩;unfold jt;rw[hop];show Ev.ez X.P _ bz o c E=_;unfold Ev.ez;rw[hc];show Ev.A9 X.P bz c.args c.argTypes E=_;unfold Ev.A9
      rw[h0,h1,h2];show Ev.Gn X.P E dt (bz d) (bz x)=_;rw[hA];simp only[Ev.Gn,hu,l1,hs,n1,w1,bK]
    cases h
   cases h
  cases h
 cases h
end
end Go.Tv
namespace Go.Tv
open Go.Ev (Tr ah iL Mem jJ alive ax dF bF gR jt aZ cE orElse)
theorem zf {S:Wo}:∀{v:Value},aZ v=true->VR S (Ow v) v:=by
 intro v h;unfold Ow;split
 .exact .int _ _
 .exact .bool _
 .rename_i s;have:=VR.str (S:=S) s.data.toList;obtain⟨⟨l⟩⟩:=s;exact this
 .exact .qg _
 .exact .oh
 .exact .dG
 exact .Ad _ h
theorem BB:∀{l:List Value},Ev.cG l=true->∀v∈l,aZ v=true
 |[],_,v,hv=>by simp at hv
 |x::l,h,v,hv=>by
  simp only[Ev.cG,ak]at h;rcases bt.1 hv with rfl|hv
  .exact h.1
  exact BB h.2 v hv
theorem zg {z:Value}(h:aZ z=true):∀v∈z.cells.toList,aZ v=true:=by
 cases z with
 |agg cs =>
  have h':Ev.cG cs.toList=true:=by
   obtain⟨l⟩:=cs;simpa[Ev.aZ,Ev.mF] using h
  exact BB h'
 |_=>intro v hv;simp[Value.cells]at hv;subst hv;exact h
theorem zh {P:Program}{t:TypeId}{z:Value}(h:Ev.mc P t=some z):aZ z=true/\∃i,P.info? t=some i/\i.zero=some z:=by
 unfold Ev.mc at h;split at h
 .rename_i i hi;split at h
  .rename_i z' hz;split at h
   .rename_i hf;cases h;exact⟨hf,i,hi,hz⟩
   cases h
  cases h
 cases h
theorem ny {X:ij}{S:Wo}{t:TypeId}{z:List AV}(h:Cw X t=some z):∃zv,Ev.mc X.P t=some zv/\LV S z zv.cells.toList:=by
 unfold Cw at h;split at h
 .rename_i zv hz;cases h;refine⟨zv,hz,?_⟩;have:=LV.map (S:=S) (f:=Ow) (g:=λv=>v) zv.cells.toList λv hv=>zf (zg (zh hz).1 v hv)
  simpa using this
 cases h
section
variable {X:ij} {cf:Nat×Nat->Ev.cH} {o:Oper} {ev:Operand->AV} {H:aG} {β:Type} {r:β}
theorem GP {S:Wo}{E:Mem}(hr:Rel S H E){t:TypeId}{cs:List AV}{C:List Value}(hl:LV S cs C) :
 ∃S' E',Ev.uU E t C=some (.pointer (some ⟨E.size,0,none⟩),E')/\S.le S'/\VR S' (.ptr H.next 0) (.pointer (some ⟨E.size,0,none⟩))/\Rel S' (H.push (.cells t cs)) E'/\St S H E S' (H.push (.cells t cs)) E':=by
 obtain⟨E',hE⟩:=Mem.lY E ⟨C,t,true,true⟩;obtain⟨p1,p2,p3⟩:=Ev.Mem.dN hE;have hle:=Wo.I8 hr (some (E.size,0,0)) none;obtain⟨a1,a2,a3⟩:=hr.add (E':=E') (r:=.cells t cs) (x:=some (E.size,0,0)) (g:=none) (by omega) p2 (λj hj=>by rw[p3,aa (by omega)]) (λr' h=>by
  cases h;exact⟨E.size,0,0,⟨C,t,true,true⟩,ag rfl,sH (by rw[p3,ag rfl]) rfl,hl.mono hle,rfl,rfl⟩) (λy h=>by cases h;exact aC _) rfl
 exact⟨_,E',by unfold Ev.uU;rw[hE],a1,.ptr _ _ E.size 0 0 (ag rfl),a2,a3⟩
theorem SF {t:TypeId}{z:List AV}(hop:o.op = .alloc t)(hz:Cw X t=some z):eO X cf o ev H (.ptr H.next 0) (H.push (.cells t z)):=by
 intro S E bz hr ck;obtain⟨zv,h1,h2⟩:=ny (S:=S) hz;obtain⟨S',E',k1,k2,k3,k4,k5⟩:=GP (t:=t) hr h2;refine⟨S',_,E',⟨0,λ_ _=>?_⟩,k2,k3,k4,k5⟩;unfold jt;rw[hop];show Ev.rI X.P t E=_;unfold Ev.rI;rw[h1];exact k1
theorem SG {t:TypeId}(hop:o.op = .alloc t){k:AV->aG->Option β}(h:OB X H t k=some r):∃v H',k v H'=some r/\eO X cf o ev H v H':=by
 unfold OB at h;split at h
 .rename_i z n te hz hu;split at h
  .rename_i e hty;split at h
   .rename_i l hun;rw[ax]at h;split at h
    .rename_i hn;have hn:n<=2000000:=az hn;refine⟨_,_,h,λS E bz hr ck=>?_⟩;obtain⟨zv,h1,h2⟩:=ny (S:=S) hz;obtain⟨hC,hlen⟩:=vn e n hun h2;have ot:=hC.length (λx c=>CR.length e x c);have ox:∀v,S.Γ H.next v=none:=λv=>hr.C3 _ _ (aC _)
     obtain⟨E',hE⟩:=Mem.lY E ⟨zv.cells.toList,t,true,true⟩;obtain⟨p1,p2,p3⟩:=Ev.Mem.dN hE;obtain⟨a1,a2,a3⟩:=hr.add (E':=E') (r:=.list t e l 0 true false) (x:=some (E.size,n,e.size)) (g:=some ⟨e,l⟩) (by omega) p2 (λj hj=>by rw[p3,aa (by omega)]) (λr' h=>by
      cases h;exact lu (b:=⟨zv.cells.toList,t,true,true⟩) (mid:=zv.cells.toList) (post:=[]) ox (sH (by rw[p3,ag rfl]) rfl) rfl (by simp) hC (by rw[<-hlen];exact ot) (by omega) hn (λ_=>⟨rfl,rfl,hlen⟩)) (λy h=>by cases h;exact aC _) rfl
     refine⟨_,.pointer (some ⟨E.size,0,none⟩),E',⟨0,λ_ _=>?_⟩,a1,.Ej _ _ E.size n e.size (ag rfl) ⟨e,l⟩ (ag ⟨rfl,rfl⟩) hlen,a2,a3⟩;unfold jt;rw[hop];show Ev.rI X.P t E=_;unfold Ev.rI;rw[h1];show Ev.uU E t zv.cells.toList=_;unfold Ev.uU;rw[hE]
    cases h
   cases h
  cases h
 cases h
theorem aab {t:TypeId}{x:Operand}{n:Nat}{cs:List AV}(hop:o.op = .box t x)(hn:Ev.cR X.P t=some n)(hc:Ek (ev x)=some cs):eO X cf o ev H (.ptr H.next 0) (H.push (.cells t cs)):=by
 intro S E bz hr ck;rw[hop]at ck;have hx:=ck x (by simp[Op.operands]);obtain⟨S',E',k1,k2,k3,k4,k5⟩:=GP (t:=t) hr (x7 hx hc);refine⟨S',_,E',⟨0,λ_ _=>?_⟩,k2,k3,k4,k5⟩;unfold jt;rw[hop];show Ev.Gp X.P t (bz x) E=_;unfold Ev.Gp;rw[hn];exact k1
theorem LA:∀(xs:List Value) (C:Array Value) (off k:Nat),(xs.zipIdx k).foldl (λcs (c:Value×Nat)=>cs.setIfInBounds (off+c.2) c.1) C=(mj C.toList (off+k) xs).toArray
 |[],C,off,k=>by simp[mj]
 |x::xs,C,off,k=>by
  rw[List.zipIdx_cons,gw,LA xs _ off (k+1)];simp only[Array.toList_setIfInBounds];rfl
theorem Ak {S:Wo}{place:Nat->Option (Nat×Nat)}:∀{parts:List (Nat×AV)} {BC:List (Nat×Value)} {cells cs:List AV} {C:Array Value},LV S cells C.toList->parts.length=BC.length->(∀(j:Nat) a b,parts[j]? = some a->BC[j]? = some b->a.1=b.1/\VR S a.2 b.2)->Em place cells parts=some cs ->
 ∃C',Instr.fill place C BC=some C'/\LV S cs C'.toList
 |[],BC,cells,cs,C,hl,hlen,_,h=>by
  have:BC=[]:=aQ.1 hlen.symm;subst this;simp only[Em,aq]at h;subst h;exact⟨C,rfl,hl⟩
 |(i,v)::parts,[],cells,cs,C,hl,hlen,_,h=>by simp at hlen
 |(i,v)::parts,(i',x)::BC,cells,cs,C,hl,hlen,hp,h=>by
  obtain⟨rfl,hv⟩:=hp 0 _ _ rfl rfl;simp only[Em]at h;split at h
  .rename_i off size vs hpl hvs;rw[ax]at h;split at h
   .rename_i hc;simp only[ak,aO,bu]at hc;obtain⟨h1,h2⟩:=hc;have ot:=x7 hv hvs;have hsz:x.cells.size=size:=by have:=ot.1;simp at this;omega
    have h2':off+vs.length<=cells.length:=h2;unfold Instr.fill;simp only[hpl];have hcond:¬((decide (x.cells.size≠size)||decide (off+x.cells.size>C.size))=true):=by
     have hcs:cells.length=C.size:=by have:=hl.1;simpa using this
     simp;omega
    rw[aa hcond];have akl:(x.cells.zipIdx.foldl (λcs (c:Value×Nat)=>cs.setIfInBounds (off+c.2) c.1) C)=(mj C.toList off x.cells.toList).toArray:=by
     rw[<-Array.foldl_toList,Array.toList_zipIdx];exact LA _ _ off 0
    have hl':LV S (mj cells off vs) ((mj C.toList off x.cells.toList).toArray).toList:=by
     rw[<-tC];exact LV.mj vs _ off ot hl
    have:=Ak (C:=(mj C.toList off x.cells.toList).toArray) hl' (by simpa using hlen) (λj a b ha hb=>hp (j+1) a b (by simpa using ha) (by simpa using hb)) h;rw[<-akl]at this;exact this
   cases h
  cases h
theorem BF {ps:Array (Nat×Operand)}{S:Wo}{bz:Operand->Value}(ck:∀x∈(ps.toList.map (·.2)).toArray,VR S (ev x) (bz x)):(wP ev ps).length=(Ev.nY bz ps).length/\∀(j:Nat) a b,(wP ev ps)[j]? = some a->(Ev.nY bz ps)[j]? = some b->a.1=b.1/\VR S a.2 b.2:=by
 refine⟨by simp[wP,Ev.nY],λj a b ha hb=>?_⟩;simp only[wP,Ev.nY,cB,aL]at ha hb;obtain⟨q,h1,rfl⟩:=ha;obtain⟨q',h2,rfl⟩:=hb;rw[h1]at h2;cases h2;refine⟨rfl,ck q.2 ?_⟩;have:=bh h1;simp only[List.mem_toArray,bW];exact⟨q,this,rfl⟩
theorem CA {P:Program}:∀{fs:List Field} {pl:List (Nat×Nat)},placesOf P fs=some pl->fs.mapM (λf=>(P.info? f.type).map λi=>(f.offset,i.size))=some pl
 |[],pl,h=>by simp[placesOf]at h;subst h;rfl
 |f::fs,pl,h=>by
  simp only[placesOf]at h;split at h
  .rename_i i l hi hl;cases h;have:=CA hl;simp only[List.mapM_cons,hi,bK,this];rfl
  cases h
theorem SH {t:TypeId}{ps:Array (Nat×Operand)}(hop:o.op = .build t ps){k:AV->Option β}(h:OC X t (wP ev ps) k=some r):∃v,k v=some r/\eO X cf o ev H v H:=by
 have fin:∀cs,(∀S bz,(∀x∈(ps.toList.map (·.2)).toArray,VR S (ev x) (bz x))->∃C,X.P.built t (Ev.nY bz ps)=some C/\LV S cs C.toList)->(Ev.mc X.P t).isSome=true->eO X cf o ev H (.agg cs) H:=λcs hb hz=>.quiet λS E bz hr ck=>by
  rw[hop]at ck;obtain⟨C,h1,h2⟩:=hb S bz ck;have hC:C=C.toList.toArray:=by simp
  refine⟨.agg C,λcall=>?_,by rw[hC];exact .agg _ _ h2.1 h2.2⟩;unfold jt;rw[hop];show cE E (Ev.DK X.P t (Ev.nY bz ps))=_;unfold Ev.DK;rw[ag hz,h1];rfl
 unfold OC at h;split at h
 .rename_i z n e hz hu;split at h
  .rename_i ie ZA;split at h
   .rename_i cs hf;obtain⟨zv,Vw,_⟩:=ny (S:=⟨λ_=>none,λ_=>none,λ_ _=>none⟩) hz;obtain⟨_,it,hit,afo⟩:=zh Vw;refine⟨_,h,fin cs (λS bz ck=>?_) (by rw[Vw];rfl)⟩;obtain⟨zv',hzv',hl⟩:=ny (S:=S) hz;rw[Vw]at hzv';cases hzv';obtain⟨l1,l2⟩:=BF ck;obtain⟨C',h1,h2⟩:=Ak hl l1 l2 hf;refine⟨C',?_,h2⟩;unfold Program.built;rw[hit,hu];simp only[afo,ZA];exact h1
   cases h
  cases h
 .rename_i z fs hz hu;split at h
  .rename_i pl hpl;split at h
   .rename_i cs hf;obtain⟨zv,Vw,_⟩:=ny (S:=⟨λ_=>none,λ_=>none,λ_ _=>none⟩) hz;obtain⟨_,it,hit,afo⟩:=zh Vw;refine⟨_,h,fin cs (λS bz ck=>?_) (by rw[Vw];rfl)⟩;obtain⟨zv',hzv',hl⟩:=ny (S:=S) hz;rw[Vw]at hzv';cases hzv';obtain⟨l1,l2⟩:=BF ck;obtain⟨C',h1,h2⟩:=Ak hl l1 l2 hf;refine⟨C',?_,h2⟩;unfold Program.built;rw[hit,hu];simp only[afo,CA hpl];have:(λx:Nat=>pl.toArray[x]?)=λi:Nat=>pl[i]? := by funext i;simp
    rw[this];exact h1
   cases h
  cases h
 cases h
theorem Et (z:Array Value)(hz:0<z.size):∀n,(List.range (n*z.size)).map (λi=>z[i%z.size]!)=(List.replicate n z.toList).flatten
 |0=>by simp
 |n+1=>by
  rw[List.replicate_succ',List.flatten_append,<-Et z hz n,oG,List.range_add,eo];congr 1
  simp only[j8,kg,List.flatten_nil,fB];apply List.ext_getElem
  .simp
  intro j h1 h2;simp only[cg,List.length_range]at h1;simp only[List.getElem_map,List.getElem_range,Function.comp_apply];have:(n*z.size+j)%z.size=j:=by
   rw[l8,Nat.add_mul_mod_self_right,ig h1]
  rw[this,getElem!_pos z j h1];simp
theorem QH {S:Wo}{z:List AV}{C:List Value}(h:LV S z C):∀n,LV S (ae8 n z) (List.replicate n C).flatten
 |0=>LV.nil
 |n+1=>by
  show LV S (z++ae8 n z) _;rw[gQ,kg];exact h.append (QH h n)
theorem LB {S:Wo}{e:Ty}{x:e.den}{C:List Value}(h:CR S.F e x C):∀n,mU (CR S.F e) (List.replicate n x) (List.replicate n C).flatten
 |0=>rfl
 |n+1=>by
  rw[gQ,gQ,kg];exact⟨C,_,rfl,h,LB h n⟩
theorem GS {P:Program}{e:TypeId}{s n:Nat}{z:Value}(hs:Ev.cR P e=some s)(hz:Ev.mc P e=some z)(hl:z.cells.size=s):∃zs,Ev.uW P e n=some zs/\zs.toList=(List.replicate n z.cells.toList).flatten:=by
 unfold Ev.uW;rw[hs,hz];simp only;by_cases h0:n*s=0
 .rw[ag h0];refine⟨#[],rfl,?_⟩;rcases Nat.mul_eq_zero.1 h0 with rfl|h1
  .simp
  have:z.cells.toList=[]:=aQ.1 (by rw[lK,hl,h1]);rw[this];simp
 rw[aa h0];refine⟨_,rfl,?_⟩;have hpos:0<z.cells.size:=by
  rcases Nat.eq_zero_or_pos z.cells.size with h|h
  .rw[<-hl,h]at h0;simp at h0
  exact h
 rw[<-Et z.cells hpos n,hl];simp
theorem Vx {t:TypeId}{p q:Operand}(hop:o.op = .makeSlice t p q){k:AV->aG->Option β}(h:y6 X H t (ev p) (ev q) k=some r):∃v H',k v H'=some r/\eO X cf o ev H v H':=by
 unfold y6 at h;split at h
 .rename_i te kl l kc c hu hp hq;split at h
  .rename_i inf z e hi hz hty;split at h
   .rename_i x hun;rw[ax]at h;split at h
    .rename_i hcs;simp only[ak,aO,bu]at hcs;obtain⟨⟨c1,c2⟩,c3⟩:=hcs;rw[ax]at h;split at h
     .rename_i hb;have hb:0<=l/\l<=c/\c<=2000000:=akh (n:=2000000) hb;refine⟨_,_,h,λS E bz hr ck=>?_⟩;rw[hop]at ck;have hx:=ck p (by simp[Op.operands]);have hy:=ck q (by simp[Op.operands]);rw[hp]at hx;rw[hq]at hy;obtain⟨zv,Vw,hzl⟩:=ny (S:=S) hz;have hs:Ev.cR X.P te=some inf.size:=by simp[Ev.cR,hi]
      have hzs:zv.cells.size=inf.size:=by have:=hzl.1;simp at this;omega
      obtain⟨zs,hz1,hz2⟩:=GS (n:=c.toNat) hs Vw hzs;obtain⟨cc,m',hm,hCR,zY⟩:=qN e hun hzl;have:=zY.jx;subst this;rw[fB]at hm;have ox:∀v,S.Γ H.next v=none:=λv=>hr.C3 _ _ (aC _)
      obtain⟨E',hE⟩:=Mem.lY E ⟨zs.toList,te,true,true⟩;obtain⟨p1,p2,p3⟩:=Ev.Mem.dN hE;have hC:mU (CR S.F e) (List.replicate c.toNat x) zs.toList:=by rw[hz2,hm];exact LB hCR _
      have hlen:=hC.length (λx c=>CR.length e x c);rw[iM]at hlen;obtain⟨a1,a2,a3⟩:=hr.add (E':=E') (r:=.list te e (List.replicate c.toNat x) 0 true false) (x:=some (E.size,c.toNat,e.size)) (g:=some ⟨e,List.replicate c.toNat x⟩) (by omega) p2 (λj hj=>by rw[p3,aa (by omega)]) (λr' h=>by
       cases h;exact lu (b:=⟨zs.toList,te,true,true⟩) (mid:=zs.toList) (post:=[]) ox (sH (by rw[p3,ag rfl]) rfl) rfl (by simp) hC hlen (by simp) (by omega) (λ_=>⟨rfl,rfl,by simp⟩)) (λy h=>by cases h;exact aC _) rfl
      have hv:=VR.rO (S:=S.new H.next (some (E.size,c.toNat,e.size)) (some ⟨e,List.replicate c.toNat x⟩)) H.next 0 l.toNat c.toNat E.size c.toNat e.size (ag rfl) ⟨e,List.replicate c.toNat x⟩ (ag ⟨rfl,rfl⟩) (by simp) (by omega)
      rw[oH]at hv;refine⟨_,.slice (some ⟨E.size,0,none⟩) l.toNat c.toNat,E',⟨0,λ_ _=>?_⟩,a1,hv,a2,a3⟩;unfold jt;rw[hop];show Ev.qb X.P E t (bz p) (bz q)=_;rw[hx.fT,hy.fT];simp only[Ev.qb,hu,hi,hz1];rw[ag ⟨hb.1,hb.2.1,hb.2.2,c1⟩];unfold Ev.uV;rw[hE]
     cases h
    cases h
   cases h
  cases h
 cases h
theorem oQ {S0:Wo}{H0:aG}{E:Mem}:∀{cs cs':List AV} {H H':aG} {S:Wo} {C:List Value},Rel S H E->S0.le S->St S0 H0 E S H E->LV S cs C->jv H cs=some (cs',H')->∃S',S0.le S'/\Rel S' H' E/\St S0 H0 E S' H' E/\LV S' cs' C/\S.le S'
 |[],cs',H,H',S,C,hr,h0,hst,hl,h=>by
  simp only[jv,aq,ay]at h;obtain⟨rfl,rfl⟩:=h;exact⟨S,h0,hr,hst,hl,S.le_refl⟩
 |v::cs,cs',H,H',S,C,hr,h0,hst,hl,h=>by
  obtain⟨x,C',rfl,h1,h2⟩:=hl.cons_inv;have plain:(∀id n,v ≠ .own id n)->(∀id a b c,v ≠ .rO id a b c)->∃S',S0.le S'/\Rel S' H' E/\St S0 H0 E S' H' E/\LV S' cs' (x::C')/\S.le S':=by
   intro hne aoN;unfold jv at h;split at h
   .rename_i hh;cases hh
   .rename_i hh;cases hh;exact absurd rfl (hne _ _)
   .rename_i hh;cases hh;exact absurd rfl (aoN _ _ _ _)
   rename_i v' r' _ _ hh;cases hh;split at h
   .rename_i r'' H'' hf;cases h;obtain⟨S',k1,k2,k3,k4,k5⟩:=oQ hr h0 hst h2 hf;exact⟨S',k1,k2,k3,LV.cons (h1.mono k5) k4,k5⟩
   cases h
  cases v with
  |own id n =>
   simp only[jv]at h;split at h
   .rename_i t e l gC ex ro hg;split at h
    .rename_i r'' H'' hf;cases h;obtain⟨S1,k1,k2,k3,k4⟩:=vo hr hg;obtain⟨rfl,hv⟩:=k4 n x h1;have hvr:VR S1 (.dH e l) x:=by
      refine .dH e l x ?_;rcases hv with⟨rfl,rfl⟩|⟨i,mid,post,cap,rfl,hF,hC,hcap⟩
      .exact .inl ⟨rfl,.inl rfl⟩
      exact .inr ⟨i,[],mid,post,cap,rfl,by simpa using hF,hC,hcap⟩
     obtain⟨S',q1,q2,q3,q4,q5⟩:=oQ k2 (Wo.le_trans h0 k1) (hst.trans k3) (h2.mono k1) hf;exact⟨S',q1,q2,q3,LV.cons (hvr.mono q5) q4,Wo.le_trans k1 q5⟩
    cases h
   cases h
  |rO id off len cap =>
   simp only[jv]at h;split at h
   .rename_i t e l gC ex ro hg;split at h
    .rename_i r'' H'' hf;cases h;obtain⟨S1,k1,k2,k3,k4⟩:=vo hr hg;obtain⟨_,⟨_,g0,w1,w2⟩,w3⟩:=hr.row id _ hg;have hvr:VR S1 (.dH e ((l.drop off).take len)) x:=by
      cases h1 with
      |rO _ _ _ _ i c s hρ g Vy hc hl' =>
       rw[w1]at Vy;cases Vy;have hs:s=e.size:=by
        rcases w3 with⟨_,g5,_⟩|⟨i',cap',b,mid,post,q1,_⟩
        .rw[hρ]at g5;cases g5
        rw[hρ]at q1;cases q1;rfl
       subst hs;obtain⟨_,hv⟩:=k4 g0.2.length _ (.own id _ i c e.size hρ g0 w1 rfl);rcases hv with⟨_,hv⟩|⟨i1,mid,post,Lv,hv,hF,hC,hcap⟩
       .cases hv
       simp only[Value.slice.injEq,aq,Addr.mk.injEq]at hv;obtain⟨⟨rfl,_⟩,_,_⟩:=hv;obtain⟨a,b,rfl,ha,hb⟩:=hC.split (λx c=>CR.length e x c) off;obtain⟨b1,b2,rfl,yo,_⟩:=hb.split (λx c=>CR.length e x c) len;have hal:=ha.length (λx c=>CR.length e x c);have hlt:(l.take off).length=off:=by rw[bR];omega
       have NZ:((l.drop off).take len).length=len:=by rw[bR,bQ];omega
       refine .dH e _ _ (.inr ⟨i,a,b1,b2++post,cap,?_,?_,yo,by omega⟩)
       .rw[hal,hlt,NZ]
       rw[hF];simp
     obtain⟨S',q1,q2,q3,q4,q5⟩:=oQ k2 (Wo.le_trans h0 k1) (hst.trans k3) (h2.mono k1) hf;exact⟨S',q1,q2,q3,LV.cons (hvr.mono q5) q4,Wo.le_trans k1 q5⟩
    cases h
   cases h
  |_=>exact plain (λ_ _=>by simp) (λ_ _ _ _=>by simp)
theorem Eu {t:TypeId}{len:Nat}{ps:Array (Nat×Operand)}(hop:o.op = .buildSlice t len ps){k:AV->aG->Option β}(h:wQ X H t len (wP ev ps) k=some r):∃v H',k v H'=some r/\eO X cf o ev H v H':=by
 unfold wQ at h;split at h
 .rename_i te hu;split at h
  .rename_i s z e hs hz hty;rw[ax]at h;split at h
   .rename_i hcs;simp only[ak,aO,bu]at hcs;obtain⟨⟨⟨c1,c0⟩,c2⟩,c3⟩:=hcs;split at h
    .rename_i cs hf;split at h
     .rename_i cs' H1 hfz;split at h
      .rename_i l hun;refine⟨_,_,h,λS E bz hr ck=>?_⟩;rw[hop]at ck;obtain⟨l1,l2⟩:=BF ck;obtain⟨zv,Vw,hzl⟩:=ny (S:=S) hz;have hzs:zv.cells.size=s:=by have:=hzl.1;simp at this;omega
       obtain⟨zs,hz1,hz2⟩:=GS (n:=len) hs Vw hzs;obtain⟨C',f1,f2⟩:=Ak (C:=zs) (by rw[hz2];exact QH hzl len) l1 l2 hf;obtain⟨S1,k1,k2,k3,k4,_⟩:=oQ hr S.le_refl (St.refl _ _ _) f2 hfz;obtain⟨hC,hlen⟩:=vn e len hun k4;have ot:=hC.length (λx c=>CR.length e x c);have ox:∀v,S1.Γ H1.next v=none:=λv=>k2.C3 _ _ (aC _)
       obtain⟨E',hE⟩:=Mem.lY E ⟨C'.toList,te,true,true⟩;obtain⟨p1,p2,p3⟩:=Ev.Mem.dN hE;obtain⟨a1,a2,a3⟩:=k2.add (E':=E') (r:=.list te e l 0 X.rm false) (x:=some (E.size,len,e.size)) (g:=some ⟨e,l⟩) (by omega) p2 (λj hj=>by rw[p3,aa (by omega)]) (λr' h=>by
        cases h;exact lu (b:=⟨C'.toList,te,true,true⟩) (mid:=C'.toList) (post:=[]) ox (sH (by rw[p3,ag rfl]) rfl) rfl (by simp) hC (by rw[<-hlen];exact ot) (by omega) c0 (λ_=>⟨rfl,rfl,hlen⟩)) (λy h=>by cases h;exact aC _) rfl
       refine⟨_,.slice (some ⟨E.size,0,none⟩) len len,E',⟨0,λ_ _=>?_⟩,Wo.le_trans k1 a1,.own _ _ E.size len e.size (ag rfl) ⟨e,l⟩ (ag ⟨rfl,rfl⟩) hlen,a2,k3.trans a3⟩;unfold jt;rw[hop];show Ev.ng X.P E t len (Ev.nY bz ps)=_;have hc1:¬(len*s>2 ^ 24):=by
        have:len*s<=16777216:=c1;omega
       simp only[Ev.ng,hu,hs,hz1,aa hc1,f1];unfold Ev.uV;rw[hE]
      cases h
     cases h
    cases h
   cases h
  cases h
 cases h
theorem vp {bz:Operand->Value}{s d:TypeId}{x:Operand}(hop:o.op = .convert s d x){v:Value}(hx:aZ (bz x)=true)(hv:aZ v=true)(h:bF X.P (convert s d (bz x))=some v)(call:Ev.cH)(E:Mem):jt X.P call bz o E=some (v,E):=by
 have hp:gR X.P bz o=some v:=wU (λa b=>by rw[hop];simp) (by rw[hop];simp[Ev.dg,Op.operands,hx]) (by
  unfold execOp;rw[hop];show bF X.P (convert s d (bz x) >>= λx=>pure (Next.value x))=_;rw[bw,h];rfl) hv
 unfold jt;rw[hop];show Ev.kW X.P bz o s d (bz x) E=_;unfold Ev.kW;cases hq:X.P.underlying s with
 |none =>
  show (match orElse none (gR X.P bz o) with|some v=>some (v,E)|none=>Ev.jk X.P E s d (bz x))=_;rw[hp];rfl
 |some q =>
  show (match orElse (Ev.nZ X.P d (bz x)) (gR X.P bz o) with|some v=>some (v,E)|none=>Ev.jk X.P E s d (bz x))=_;cases hw:Ev.nZ X.P d (bz x) with
  |none=>rw[hp];rfl
  |some u =>
   have h1:=Ev.Gv (P:=X.P) (ρ:=λ_=>none) (Ev.dB _ hx) hw s ⟨q,hq⟩ default;have h2:=Ev.oY (P:=X.P) _ h default;first
    |(rw[h1.1]at h2;cases h2;rfl)
    |(rw[h1]at h2;cases h2;rfl)
theorem o9 {bz:Operand->Value}{s d:TypeId}{x:Operand}(hop:o.op = .convert s d x){q:TypeDesc}(hq:X.P.underlying s=some q)(hw:Ev.nZ X.P d (bz x)=none)(hp:gR X.P bz o=none)(call:Ev.cH)(E:Mem):jt X.P call bz o E=Ev.jk X.P E s d (bz x):=by
 unfold jt;rw[hop];show Ev.kW X.P bz o s d (bz x) E=_;unfold Ev.kW;show (match orElse (match X.P.underlying s with|some _=>Ev.nZ X.P d (bz x)|none=>none) (gR X.P bz o) with|some v=>some (v,E)|none=>Ev.jk X.P E s d (bz x))=_;rw[hq,hp];show (match orElse (Ev.nZ X.P d (bz x)) none with|some v=>some (v,E)|none=>Ev.jk X.P E s d (bz x))=_;rw[hw];rfl
theorem si {P:Program}{o:Oper}{ev:Operand->Value}(h:bF P (execOp ev o)=none\/Ev.dg ev o.op=false):gR P ev o=none:=by
 unfold gR;split
 .rfl
 rcases h with h|h
 .rw[h];split<;>rfl
 rw[h];rfl
theorem BG:∀(l:List Int) (acc:ByteArray),Ev.sv (l.map λn=>Value.int .u8 n) acc=some ⟨acc.data++(l.map Zy).toArray⟩
 |[],acc=>by simp[Ev.sv]
 |n::l,acc=>by
  simp only[cP,Ev.sv,Ev.De];rw[BG l];congr 2
  apply kG.1;simp[ByteArray.push,Zy]
theorem Jc {F:Nat->Option (List Value)}{k:IntKind}:∀{l:List Int} {c:List Value},mU (CR F (.int k)) l c->c=l.map λn=>Value.int k n
 |[],_,h=>h
 |n::l,_,⟨c1,c2,e,h1,h2⟩=>by rw[e,show c1=[Value.int k n] from h1,Jc h2];rfl
theorem Vz {s d:TypeId}{x:Operand}(hop:o.op = .convert s d x){k:AV->aG->Option β}(h:En X H s d (ev x) k=some r):∃v H',k v H'=some r/\eO X cf o ev H v H':=by
 unfold En at h;split at h
 .rename_i k0 k1 k2 n hu1 hu2 hp;refine⟨_,_,h,.quiet λS E bz hr ck=>?_⟩;rw[hop]at ck;have hx:=ck x (by simp[Op.operands]);rw[hp]at hx;have ex:=hx.fT;refine⟨.int k1 (k1.wrap n),λcall=>vp hop (by rw[ex];rfl) rfl ?_ call E,.int _ _⟩;rw[ex];unfold convert;rw[bw,bU hu1];simp only[aW];rw[bw,bU hu2];rfl
 .rename_i s0 hu1 hu2 hp;refine⟨_,_,h,.quiet λS E bz hr ck=>?_⟩;rw[hop]at ck;have hx:=ck x (by simp[Op.operands]);rw[hp]at hx;have ex:=hx.jw;refine⟨.string ⟨s0.toArray⟩,λcall=>vp hop (by rw[ex];rfl) rfl ?_ call E,.str _⟩;rw[ex];unfold convert;rw[bw,bU hu1];simp only[aW];rw[bw,bU hu2];rfl
 .rename_i te s0 hu1 hu2 hp;split at h
  .rename_i ID Zz;rw[ax]at h;split at h;case isFalse=>cases h
   rename_i hcap;have hcap:=az hcap;refine⟨_,_,h,λS E bz hr ck=>?_⟩;rw[hop]at ck;have hx:=ck x (by simp[Op.operands]);rw[hp]at hx;have ex:=hx.jw;have ox:∀v,S.Γ H.next v=none:=λv=>hr.C3 _ _ (aC _)
   have hC:∀s:List UInt8,mU (CR S.F (.int .u8)) (s.map cY) (s.map λb=>Value.int .u8 b.toNat):=λs=>by
    induction s with
    |nil=>rfl
    |cons b s ih=>exact⟨[_],_,rfl,rfl,ih⟩
   obtain⟨E',hE⟩:=Mem.lY E ⟨s0.map λb=>.int .u8 b.toNat,te,true,false⟩;obtain⟨p1,p2,p3⟩:=Ev.Mem.dN hE;obtain⟨a1,a2,a3⟩:=hr.add (E':=E') (r:=.list te (.int .u8) (s0.map cY) 0 false false) (x:=some (E.size,s0.length,1)) (g:=some ⟨.int .u8,s0.map cY⟩) (by omega) p2 (λj hj=>by rw[p3,aa (by omega)]) (λr' h=>by
    cases h;exact lu (b:=⟨s0.map λb=>.int .u8 b.toNat,te,true,false⟩) (mid:=s0.map λb=>.int .u8 b.toNat) (post:=[]) ox (sH (by rw[p3,ag rfl]) rfl) rfl (by simp) (hC s0) (by simp[Ty.size]) (by simp) hcap (λh=>by cases h)) (λy h=>by cases h;exact aC _) rfl
   refine⟨_,.slice (some ⟨E.size,0,none⟩) s0.length s0.length,E',⟨0,λ_ _=>?_⟩,a1,.own _ _ E.size s0.length 1 (ag rfl) ⟨.int .u8,s0.map cY⟩ (ag ⟨rfl,rfl⟩) (by simp),a2,a3⟩;rw[o9 hop hu1 (by rw[ex];simp only[Ev.nZ,hu2]) (si (.inl ?_)),ex]
   .simp only[Ev.jk,hu1,hu2,ID,Zz];unfold Ev.kU;have:(⟨s0.toArray⟩:ByteArray).size=s0.length:=by simp[ByteArray.size]
    rw[this,hE]
   unfold execOp;rw[hop];show bF X.P (convert s d (bz x) >>= λx=>pure (Next.value x))=_;rw[bw,ex];unfold convert;rw[bw,bU hu1];simp only[aW];rw[bw,bU hu2];simp only[aW];rw[bw,bU ID];rfl
  cases h
 .cases h
 .rename_i _ te hu1 hu2 hne;split at h
  .rename_i ID;split at h
   .rename_i l hv;refine⟨_,_,h,.quiet λS E bz hr ck=>?_⟩;rw[hop]at ck;have hx:=ck x (by simp[Op.operands]);have e8:Ev.nZ X.P d (bz x)=none:=by simp only[Ev.nZ,hu2]
    obtain⟨l1,l2⟩:=Ep hr hv hx;obtain⟨c,c1,c2⟩:=l2 l.length (aC _);rw[kI]at c2;have hc:=Jc c2;refine⟨.string ⟨(l.map Zy).toArray⟩,λcall=>?_,.str _⟩;generalize hA:bz x=A at *;unfold Ev.vW at l1;split at l1
    .rename_i a n cap;cases l1;cases a with
     |none =>
      have h0:l=[]:=by
       simp only[Ev.iR]at c1;split at c1
       .rename_i h0;exact aQ.1 h0
       cases c1
      subst h0;refine vp hop (by rw[hA];rfl) rfl ?_ call E;rw[hA];unfold convert;rw[bw,bU hu1];simp only[aW];rw[bw,bU hu2];simp only[aW];rw[bw,bU ID];rfl
     |some ad =>
      obtain⟨i,off,sp⟩:=ad;cases sp with
      |some q =>
       have h0:l=[]:=by
        simp only[Ev.iR]at c1;split at c1
        .rename_i h0;exact aQ.1 h0
        cases c1
       subst h0;rw[o9 (bz:=bz) hop hu1 (by rw[hA];exact e8) (si (.inr (by rw[hop];simp[Ev.dg,Op.operands,hA,aZ]))),hA];simp only[Ev.jk,hu1,hu2,ID];rfl
      |none =>
       rw[o9 (bz:=bz) hop hu1 (by rw[hA];exact e8) (si (.inr (by rw[hop];simp[Ev.dg,Op.operands,hA,aZ]))),hA];have c1':Ev.fW E i off l.length=some c:=by simpa[Ev.iR,Ty.size] using c1
       simp only[Ev.jk,hu1,hu2,ID,c1'];rw[hc,BG];simp
    .rename_i s0;generalize ev x=a at hx hv hne;cases hx with
     |str s1=>exact absurd rfl (hne s1)
     |dH e l v hs=>rcases hs with⟨_,hs|hs⟩|⟨_,_,_,_,_,hs,_⟩<;>cases hs
     |Ad v hf=>cases hv
     |fl a v h=>cases hv
     |cx a b v h=>cases hv
     |j5 v=>cases hv
    cases l1
   cases h
  cases h
 .rename_i te ZV id n hu1 hu2 hp;split at h
  .rename_i t' e l gC ex ro hg ID;rw[ax]at h;split at h
   .rename_i hcond;simp only[ak,aO,bu]at hcond;obtain⟨⟨hmay,rfl⟩,h1⟩:=hcond;rw[hu1]at hu2;cases hu2;refine⟨_,_,h,.quiet λS E bz hr ck=>?_⟩;rw[hop]at ck;have hx:=ck x (by simp[Op.operands]);rw[hp]at hx;generalize hA:bz x=A at hx;obtain⟨q1,⟨q2,g2,q3,q4⟩,q5⟩:=hr.row id _ hg;cases hx with
    |own _ _ i cap s hρ g hg' hn =>
     rcases q5 with⟨_,q6,_⟩|⟨i',cap',b,mid,post,k1,k2,k3,k4,k5,k6,k7,k8,k9⟩
     .rw[hρ]at q6;cases q6
     rw[hρ]at k1;cases k1;have hmay':H.lk<=id:=by simpa[aG.nO,bu] using hmay
     have hlk:=hr.lk id _ _ hg hmay' hρ;refine⟨_,λcall=>?_,.own _ _ i cap _ hρ g hg' hn⟩;rw[o9 (bz:=bz) hop hu1 (by simp only[Ev.nZ,hu1]) (si (.inr (by rw[hop];simp[Ev.dg,Op.operands,hA,aZ]))),hA];have hb:(Nat.ble E.lk i&&Nat.beq s s)=true:=by simp[bu,hlk]
     simp only[Ev.jk,hu1,k2,ID];rw[ax,ag (by simp[bu,hlk])]
    |gh _ g hg' hn=>omega
   cases h
  cases h
 .rename_i te id hu1 hu2 hp;split at h
  .rename_i t' c0 cs0 n hg hn;rw[ax]at h;split at h
   .rename_i hle;refine⟨_,_,h,.quiet λS E bz hr ck=>?_⟩;rw[hop]at ck;have hx:=ck x (by simp[Op.operands]);rw[hp]at hx;generalize hA:bz x=A at hx;cases hx with
    |ptr _ _ i c s0 hρ =>
     obtain⟨i',c',s',b,k1,k2,k3,k4,k5⟩:=hr.row id _ hg;rw[hρ]at k1;cases k1;refine⟨_,λcall=>?_,.ptr _ _ i c s0 hρ⟩;rw[o9 (bz:=bz) hop hu1 (by simp only[Ev.nZ,hu2]) (si (.inr (by rw[hop];simp[Ev.dg,Op.operands,hA,aZ]))),hA];have hlen:Nat.ble 1 b.cells.length=true:=by rw[<-k3.1];simp
     simp only[Ev.jk,hu1,hu2,k2,hn,hle,hlen,nH,ax,fF]
   cases h
  cases h
 .rename_i u id hu1 hu2 hp;split at h
  .rename_i t' cs0 n hg hn;rw[ax]at h;split at h
   .rename_i hlies;refine⟨_,_,h,.quiet λS E bz hr ck=>?_⟩;rw[hop]at ck;have hx:=ck x (by simp[Op.operands]);rw[hp]at hx;generalize hA:bz x=A at hx;cases hx with
    |ptr _ _ i c s0 hρ =>
     obtain⟨i',c',s',b,k1,k2,k3,k4,k5⟩:=hr.row id _ hg;rw[hρ]at k1;cases k1;refine⟨_,λcall=>?_,.ptr _ _ i c s0 hρ⟩;rw[o9 (bz:=bz) hop hu1 (by simp only[Ev.nZ,hu2]) (si (.inr (by rw[hop];simp[Ev.dg,Op.operands,hA,aZ]))),hA];have hl:liesAt X.P X.P.depth b.elem (b.cells.length/X.P.cellsOf b.elem) 0 u 1=true:=by rw[k4,<-k3.1];exact hlies
     simp only[Ev.jk,hu1,hu2,k2,hn,k5,hl,nH,ax,fF]
   cases h
  cases h
 cases h
theorem Gf {c:Call}{x:Operand}(hop:o.op = .call c)(hc:c.callee = .builtin .unsafeSliceData)(ha:c.args.toList=[x]){k:AV->Option β}(h:y7 H (ev x) k=some r):∃v,k v=some r/\eO X cf o ev H v H:=by
 have mem:x∈(Op.call c).operands:=by
  have:x∈c.args:=by rw[<-fq,ha];simp
  simp only[Op.operands,Call.operands,hc];simpa using this
 have run:∀{bz:Operand->Value} {v:Value} {E:Mem} (call:Ev.cH),Ev.uX (bz x)=some v->jt X.P call bz o E=some (v,E):=by
  intro bz v E call hv;unfold jt;rw[hop];show Ev.ez X.P call bz o c E=_;unfold Ev.ez;rw[hc];show Ev.oV bz c.args E=_;unfold Ev.oV;rw[ha];simp only[hv];rfl
 unfold y7 at h;split at h
 .rename_i hp;refine⟨_,h,.quiet λS E bz hr ck=>?_⟩;rw[hop]at ck;have hx:=ck x mem;rw[hp]at hx;generalize hA:bz x=A at hx;cases hx;exact⟨_,λcall=>run call (by rw[hA];rfl),.oh⟩
 .rename_i id n hp;split at h
  .rename_i t e l gC ex ro hg;rw[ax]at h;split at h
   .rename_i h1;have h1:=az h1;refine⟨_,h,.quiet λS E bz hr ck=>?_⟩;rw[hop]at ck;have hx:=ck x mem;rw[hp]at hx;generalize hA:bz x=A at hx;obtain⟨q1,⟨q2,g2,q3,q4⟩,q5⟩:=hr.row id _ hg;cases hx with
    |own _ _ i cap s hρ g hg' hn =>
     rw[q3]at hg';cases hg';refine⟨_,λcall=>run call ?_,.dat id i cap s hρ⟩;rcases q5 with⟨_,q6,_⟩|⟨i',cap',b,mid,post,k1,k2,k3,k4,k5,k6,k7,k8,k9⟩
     .rw[hρ]at q6;cases q6
     rw[hρ]at k1;cases k1;rw[hA];unfold Ev.uX;have:Nat.beq cap 0=false:=by rw[<-eB,aO];omega
     simp only[this]
    |gh _ g hg' hn=>omega
   cases h
  cases h
 cases h
theorem SI (k:IntKind):∀l:List Int,((l.map λn=>Value.int k n).any Ev.pI)=false
 |[]=>rfl
 |n::l=>by simp[Ev.pI]
theorem GU:∀l:List Int,l.all Vd=true->(l.map λn=>Value.int .u8 n).all Ev.zJ=true
 |[],_=>rfl
 |n::l,h=>by
  simp only[bY,ak]at h;simp only[cP,bY,ak];refine⟨?_,GU l h.2⟩;cases n with
  |ofNat m=>exact h.1
  |negSucc m=>exact absurd h.1 (by simp[Vd])
theorem VA {c:Call}{p n:Operand}{pt it:TypeId}(hop:o.op = .call c)(hc:c.callee = .builtin .unsafeString)(ha:c.args.toList=[p,n])(jG:c.argTypes.toList=[pt,it]){k:AV->aG->Option β}(h:Ve X H pt (ev p) (ev n) k=some r) :
 ∃v H',k v H'=some r/\eO X cf o ev H v H':=by
 have mem:∀y,y=p\/y=n->y∈(Op.call c).operands:=by
  intro y hy;have:y∈c.args:=by rw[<-fq,ha];rcases hy with rfl|rfl<;>simp
  simp only[Op.operands,Call.operands,hc];simpa using this
 have run:∀{bz:Operand->Value} {v:Value} {E E':Mem} (call:Ev.cH),Ev.DP X.P E pt (bz p) (bz n)=some (v,E')->jt X.P call bz o E=some (v,E'):=by
  intro bz v E E' call hv;unfold jt;rw[hop];show Ev.ez X.P call bz o c E=_;unfold Ev.ez;rw[hc];show Ev.Ba X.P bz c.args c.argTypes E=_;unfold Ev.Ba;rw[ha,jG];exact hv
 unfold Ve at h;split at h
 .rename_i m hp hn;rw[ax]at h;split at h
  .rename_i h0;have h0:m=0:=by rw[Ev.eF]at h0;simpa using h0
   subst h0;refine⟨_,_,h,λS E bz hr ck=>?_⟩;rw[hop]at ck;have hx:=ck p (mem p (.inl rfl));have hy:=ck n (mem n (.inr rfl));rw[hp]at hx;rw[hn]at hy;have ey:=hy.fT;generalize hA:bz p=A at hx;cases hx;exact⟨S,.string .empty,E,⟨0,λ_ _=>run _ (by rw[hA,ey];rfl)⟩,S.le_refl,.str [],hr,St.refl _ _ _⟩
  cases h
 .rename_i id m e hp hn hu;split at h
  .rename_i t l gC ex hg;rw[ax]at h;split at h
   .rename_i hcond;simp only[ak,aO,bu]at hcond;obtain⟨⟨⟨⟨⟨⟨hmay,rfl⟩,hco⟩,h1⟩,h2⟩,hm⟩,hby⟩:=hcond;have hm:m=(l.length:Int):=by rw[Ev.eF]at hm;simpa using hm
    subst hm;refine⟨_,_,h,λS E bz hr ck=>?_⟩;rw[hop]at ck;have hx:=ck p (mem p (.inl rfl));have hy:=ck n (mem n (.inr rfl));rw[hp]at hx;rw[hn]at hy;have ey:=hy.fT;generalize hA:bz p=A at hx;obtain⟨q1,⟨q2,g2,q3,q4⟩,q5⟩:=hr.row id _ hg;cases hx with
    |dat _ i c1 s1 hρ =>
     rcases q5 with⟨q5,_,_⟩|⟨i',cap',b,mid,post,k1,k2,k3,k4,k5,k6,k7,k8,k9⟩
     .rw[q5]at h1;simp at h1
     rw[hρ]at k1;cases k1;have hmay':H.lk<=id:=by simpa[aG.nO,bu] using hmay
     have hlk:=hr.lk id _ _ hg hmay' hρ;have hmid:=Jc k5;have hml:mid.length=l.length:=by rw[hmid];simp
     have hread:Ev.fW E i 0 l.length=some mid:=by
      unfold Ev.fW;rw[k2];simp only;have e0:0+l.length<=b.cells.length:=by rw[k4,aA];omega
      have e1:(b.cells.drop 0).take l.length=mid:=by rw[k4,ke,<-hml];simp
      rw[ag e0,e1,hmid,SI]
     obtain⟨E1,hE1⟩:=Mem.jc (b:={ b with live:=false,fix:=false }) (lq k2) hlk;have fh:Ev.kill E i=some E1:=by unfold Ev.kill;rw[(dF k2).1];exact hE1
     obtain⟨z1,z2,z3,z4,z5⟩:=Ev.nM fh;obtain⟨m1,m2⟩:=hr.mod (S':=S) (E':=E1) (r':=.dead) hg rfl S.le_refl rfl (λ_ _ _=>rfl) z1 z2 (λj hj=>z4 j (hj _ hρ)) (λj cs h=>.inl h) (λq hq=>by cases hq);refine⟨S,.string ⟨(l.map Zy).toArray⟩,E1,⟨0,λ_ _=>run _ ?_⟩,S.le_refl,.str _,m1,m2⟩;obtain⟨k',hk'⟩:∃k',l.length=k'+1:=⟨l.length-1,by omega⟩;rw[hA,ey,hk'];show Ev.DP X.P E pt (.pointer (some ⟨i,0,none⟩)) (.int .i64 (.ofNat (k'+1)))=_;have afp:((b.elem==t)&&Nat.beq (X.P.cellsOf t) 1&&Nat.ble (k'+1) 2000000&&mid.all Ev.zJ)=true:=by
      rw[hmid,GU l hby];have:k'+1<=2000000:=by omega
      simp[k3,hco,bu];omega
     unfold Ev.DP;rw[hk']at hread;simp only[hu,k2,hread,afp,ax,fF,fh];rw[hmid,BG];simp
   cases h
  cases h
 cases h
end
end Go.Tv

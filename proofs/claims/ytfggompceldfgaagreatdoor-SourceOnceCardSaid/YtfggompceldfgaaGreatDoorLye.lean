/- The layer's operations beside the evaluator's: slices, rows. The layer's operations beside the evaluator's: those that write. The layer's operations beside the evaluator's: append, copy, slices that go on owning. The layer's operations beside the evaluator's: new rows, structs, conversions. -/
import Derived.Test.YtfggompceldfgaaGreatDoorLyd
set_option linter.unusedVariables false
set_option linter.unusedSimpArgs false

namespace Go.Tv
open Go.Ev (Tr ah iD Mem jz alive av dD bF gC jl aY cD orElse)
section
variable {X:gU} {cf:Nat×Nat->Ev.cH} {o:Oper} {ev:Operand->AV} {H:aH} {β:Type} {r:β}
theorem zV {α:Type}{R:α->List Value->Prop}{s:Nat}(hR:∀x c,R x c->c.length=s)(hJ:∀(l:List α) c,mM R l c->c.any Ev.o6=false){E:Mem}{i:Nat}{b:jz}{pre mid post:List Value}{l:List α}(hb:alive E i=some b)(hc:b.cells=pre++(mid++post))(hl:mM R l mid)(a m:Nat)(hm:a+m<=l.length) :
 ∃c,Ev.fT E i (pre.length+a*s) (m*s)=some c/\mM R ((l.drop a).take m) c:=by
 obtain⟨c1,c2,e1,k1,k2⟩:=hl.split hR a;obtain⟨c3,c4,e2,k3,k4⟩:=k2.split hR m;have l1:=k1.length hR;have l3:=k3.length hR;have t1:(l.take a).length=a:=by simp;omega
 have t3:((l.drop a).take m).length=m:=by simp;omega
 rw[t1]at l1;rw[t3]at l3;refine⟨c3,?_,k3⟩;have hcs:b.cells=(pre++c1)++(c3++(c4++post)):=by rw[hc,e1,e2];simp
 unfold Ev.fT;rw[hb];have hlen:pre.length+a*s=(pre++c1).length:=by simp[l1]
 simp only[hlen,hcs,List.drop_left];rw[ag (by simp;omega),<-l3,List.take_left,hJ _ _ k3]
theorem D7 {S:Wo}{E:Mem}(hr:Rel S H E){e:Ty}{v:AV}{l:List e.den}(h:Ca H e v=some l){x:Value}(hx:VR S v x) :
 Ev.vI x=some l.length/\∀m,m<=l.length->∃c,Ev.iH E e.size m x=some c/\mM (CR S.F e) (l.take m) c:=by
 have hR:∀x c,CR S.F e x c->c.length=e.size:=λx c=>CR.length e x c
 unfold Ca at h;split at h
 .rename_i e' l';obtain⟨he,hc⟩:=bT h;subst he;have hc:l'=l:=hc;subst hc;cases hx with
  |dW _ _ _ hS =>
   rcases hS with⟨rfl,rfl|rfl⟩|⟨i0,pre,mid,post,cap,rfl,hF,hC,hcap⟩
   .exact ⟨rfl,λm hm=>⟨[],by simp at hm;simp[Ev.iH,hm],by simp[mM]⟩⟩
   .exact ⟨rfl,λm hm=>⟨[],by simp at hm;simp[Ev.iH,Ev.vd,hm],by simp[mM]⟩⟩
   refine⟨rfl,λm hm=>?_⟩;obtain⟨b,k1,k2⟩:=hr.fz i0 _ hF;obtain⟨c,h1,h2⟩:=zV hR (λ_ _ h=>h.oG) k1 k2 hC 0 m (by omega);exact⟨c,by simpa[Ev.iH] using h1,by simpa using h2⟩
 .cases h;cases hx;exact⟨rfl,λm hm=>⟨[],by simp at hm;simp[Ev.iH,hm],by simp[mM]⟩⟩
 .rename_i id n;split at h
  .rename_i t' e' l' gu ex ro hg;obtain⟨he,hc⟩:=bT h;subst he;have hc:l'=l:=hc;subst hc;obtain⟨g1,⟨_,g,g2,g2'⟩,g3⟩:=hr.row id _ hg;cases hx with
   |own _ _ i0 p5 s0 hρ g' hg' hn' =>
    rw[g2]at hg';cases hg';rcases g3 with⟨_,g5,_⟩|⟨i',cap,b,mid,post,q1,q2,q3,q4,q5,q6,q7,q8,q9,xV⟩
    .rw[hρ]at g5;cases g5
    rw[hρ]at q1;cases q1;refine⟨by simp[Ev.vI];omega,λm hm=>?_⟩;obtain⟨c,h1,h2⟩:=zV (pre:=[]) hR (λ_ _ h=>h.oG) q2 q4 q5 0 m (by omega);exact⟨c,by simpa[Ev.iH] using h1,by simpa using h2⟩
   |fY _ g' hg' hn' =>
    rw[g2]at hg';cases hg';have h0:l'.length=0:=by omega
    exact⟨by simp[Ev.vI];omega,λm hm=>⟨[],by simp[Ev.iH];omega,by rw[aQ.1 h0];simp[mM]⟩⟩
  cases h
 .rename_i id off len KS;split at h
  .rename_i t' e' l' gu ex ro hg;split at h
   .rename_i l2 nY;cases h;obtain⟨he,hc⟩:=bT nY;subst he;have hc:l'=l2:=hc;subst hc;obtain⟨g1,⟨_,g,g2,g2'⟩,g3⟩:=hr.row id _ hg;cases hx with
    |rH _ _ _ _ i0 c0 s0 hρ g' hg' hcc KU =>
     rw[g2]at hg';cases hg';have hlen:((l'.drop off).take len).length=len:=by simp;omega
     rcases g3 with⟨_,g5,_⟩|⟨i',cap,b,mid,post,q1,q2,q3,q4,q5,q6,q7,q8,q9,xV⟩
     .rw[hρ]at g5;cases g5
     rw[hρ]at q1;cases q1;refine⟨by rw[hlen];rfl,λm hm=>?_⟩;rw[hlen]at hm;obtain⟨c,h1,h2⟩:=zV (pre:=[]) hR (λ_ _ h=>h.oG) q2 q4 q5 off m (by omega);refine⟨c,by simpa[Ev.iH] using h1,?_⟩;rw[o5,gm hm];exact h2
   cases h
  cases h
 .rename_i s;obtain⟨he,hc⟩:=bT h;subst he;have hc:s.map cU=l:=hc;subst hc;rw[hx.jo];refine⟨by simp[Ev.vI,ByteArray.size],λm hm=>?_⟩;have hm':m<=s.length:=by simpa using hm
  refine⟨(s.take m).map λb=>.int .u8 b.toNat,?_,?_⟩
  .simp only[Ev.iH];rw[ag ⟨rfl,by simpa[ByteArray.size] using hm'⟩];simp[ByteArray.data_extract,iQ,gh]
  have:∀s:List UInt8,mM (CR S.F (.int .u8)) (s.map cU) (s.map λb=>Value.int .u8 b.toNat):=λs=>by
   induction s with
   |nil=>rfl
   |cons b s ih=>exact⟨[_],_,rfl,rfl,ih⟩
  rw[<-List.map_take];exact this _
 cases h
theorem ad2 {a:Int}{n:Nat}(h:(!Ev.bB a 0 && !Ev.bB (Int.ofNat n) a)=true):0<=a/\a<=n:=by
 simp only[Ev.cB,ak,aS,bH,dQ]at h;omega
theorem aiR {a b:Int}{n:Nat}(h:(!Ev.bB a 0 && !Ev.bB b a && !Ev.bB (Int.ofNat n) b)=true):0<=a/\a<=b/\b<=n:=by
 simp only[Ev.cB,ak,aS,bH,dQ]at h;omega
theorem Zc {a:Int}{n:Nat}(h:(Ev.bI a 0||Ev.bB a (Int.ofNat n))=true):a=0\/a<n:=by
 simp only[Ev.cB,Ev.eT,cJ,eI,aV,dQ]at h;exact h
inductive BR (ev:Operand->AV)(d:Int):Option Operand->Int->Prop where
 |none:BR ev d none d
 |some (x k a) (h:ev x = .int k a):BR ev d (some x) a
theorem oT {len cap:Nat}{lo hi:Option Operand}{k:Int->Int->Option β}(h:qp len cap (lo.map ev) (hi.map ev) k=some r):∃a b,k a b=some r/\0<=a/\a<=b/\(len<=cap->b<=cap)/\BR ev 0 lo a/\BR ev len hi b:=by
 cases lo with
 |none =>
  cases hi with
  |none=>exact⟨0,len,h,by omega,by omega,λ_=>by omega,.none,.none⟩
  |some y =>
   simp only[eR,bK]at h;unfold qp at h;split at h
   .rename_i h1 h2;cases h2
   .rename_i h1 h2;cases h1
   .rename_i kk b h1 h2;rw[av]at h;split at h
    .rename_i hb;have hb:=ad2 hb;exact⟨0,b,h,by omega,hb.1,λ_=>hb.2,.none,.some y kk b (by simpa using h2)⟩
    cases h
   .rename_i h1 h2;cases h1
   cases h
 |some x =>
  cases hi with
  |none =>
   simp only[eR,bK]at h;unfold qp at h;split at h
   .rename_i h1 h2;cases h1
   .rename_i kk a h1 h2;rw[av]at h;split at h
    .rename_i hb;have hb:=ad2 hb;exact⟨a,len,h,hb.1,hb.2,λ_=>by omega,.some x kk a (by simpa using h1),.none⟩
    cases h
   .rename_i h1 h2;cases h2
   .rename_i h1 h2;cases h2
   cases h
  |some y =>
   simp only[bK]at h;unfold qp at h;split at h
   .rename_i h1 h2;cases h1
   .rename_i h1 h2;cases h2
   .rename_i h1 h2;cases h1
   .rename_i k1 a k2 b h1 h2;rw[av]at h;split at h
    .rename_i hb;have hb:=aiR hb;exact⟨a,b,h,hb.1,hb.2.1,λ_=>hb.2.2,.some x k1 a (by simpa using h1),.some y k2 b (by simpa using h2)⟩
    cases h
   cases h
theorem tJ {S:Wo}{bA:Operand->Value}{d:Int}{x:Option Operand}{a:Int}(h:BR ev d x a)(cj:∀y,x=some y->VR S (ev y) (bA y)):(x=none/\a=d)\/∃y k,x=some y/\bA y = .int k a:=by
 cases h with
 |none=>exact .inl ⟨rfl,rfl⟩
 |some y k _ hy=>exact .inr ⟨y,k,rfl,by have:=cj y rfl;rw[hy]at this;exact this.fR⟩
theorem rU {k:IntKind}{a:Int}{y:Nat}(h0:0<=a)(h1:a<=y):Ev.nQ (.int k a) y=some a.toNat:=by
 simp only[Ev.nQ,h0,h1,and_self,fD]
theorem oU {P:Program}{S:Wo}{bA:Operand->Value}{t te:TypeId}{s:Nat}(hu:P.underlying t=some (.slice te))(hs:Ev.cP P te=some s){lo hi:Option Operand}{a b:Int}{len cap:Nat}(ha:BR ev 0 lo a)(hb:BR ev len hi b)(h0:0<=a)(h1:a<=b)(h2:b<=cap)
 (hlo:∀y,lo=some y->VR S (ev y) (bA y)) (hhi:∀y,hi=some y->VR S (ev y) (bA y)) (x:Option Addr) (hx:x=none\/∃i off,x=some ⟨i,off,none⟩) (hac:a=0\/a<cap) :
 Ev.kM P t (.slice x len cap) (lo.map bA) (hi.map bA)=some (.slice (x.map λz=>⟨z.block,z.off+a.toNat*s,none⟩) (b.toNat-a.toNat) (cap-a.toNat)):=by
 have c1:∀k,Ev.nQ (.int k b) cap=some b.toNat:=λk=>rU (by omega) h2
 have c2:∀k,Ev.nQ (.int k a) b.toNat=some a.toNat:=λk=>rU h0 (by omega)
 have c3:¬((a.toNat=cap/\a.toNat≠0)\/cap<a.toNat):=by omega
 rcases tJ ha hlo with⟨rfl,rfl⟩|⟨z,kk,rfl,hz⟩<;>rcases tJ hb hhi with⟨rfl,Uz⟩|⟨z',kk',rfl,hz'⟩<;>rcases hx with rfl|⟨i,off,rfl⟩
 .obtain rfl:b=len:=Uz;simp[Ev.kM,hu,hs]
 .obtain rfl:b=len:=Uz;have c4:¬(cap<0):=by omega
  simp[Ev.kM,hu,hs,c4]
 .simp[Ev.kM,hu,hs,hz',c1]
 .simp[Ev.kM,hu,hs,hz',c1]
 .obtain rfl:b=len:=Uz;simp only[bh]at c2;simp[Ev.kM,hu,hs,hz,c2]
 .obtain rfl:b=len:=Uz;simp only[bh]at c2;simp only[Ev.kM,hu,hs,eR,bK,hz,c2,aa c3,bh]
 .simp[Ev.kM,hu,hs,hz,hz',c1,c2]
 simp only[Ev.kM,hu,hs,bK,hz,hz',c1,c2,aa c3]
theorem KV {P:Program}{S:Wo}{bA:Operand->Value}{t te:TypeId}{s:Nat}(hu:P.underlying t=some (.slice te))(hs:Ev.cP P te=some s){lo hi:Option Operand}{a b:Int}(ha:BR ev 0 lo a)(hb:BR ev (0:Nat) hi b)(h0:0<=a)(h1:a<=b)(h2:b<=(0:Nat))
 (hlo:∀y,lo=some y->VR S (ev y) (bA y)) (hhi:∀y,hi=some y->VR S (ev y) (bA y)) :
 Ev.kM P t Ev.vd (lo.map bA) (hi.map bA)=some (.slice (some ⟨0,0,some 0⟩) (b.toNat-a.toNat) (0-a.toNat)):=by
 have z1:b.toNat=0:=by omega
 have z2:a.toNat=0:=by omega
 have c1:∀k,Ev.nQ (.int k b) 0=some 0:=λk=>by have:=rU (k:=k) (show 0<=b by omega) h2;rwa[z1]at this
 have c2:∀k,Ev.nQ (.int k a) 0=some 0:=λk=>by have:=rU (k:=k) h0 (show a<=(0:Nat) by omega);rwa[z2]at this
 unfold Ev.vd;rw[z1,z2];rcases tJ ha hlo with⟨rfl,rfl⟩|⟨z,kk,rfl,hz⟩<;>rcases tJ hb hhi with⟨rfl,Uz⟩|⟨z',kk',rfl,hz'⟩
 .simp[Ev.kM,hu,hs]
 .simp[Ev.kM,hu,hs,hz',c1]
 .simp[Ev.kM,hu,hs,hz,c2]
 simp[Ev.kM,hu,hs,hz,hz',c1,c2]
theorem KW {P:Program}{S:Wo}{bA:Operand->Value}{t te:TypeId}{s n:Nat}(hu:P.underlying t=some (.array n te))(hs:Ev.cP P te=some s){lo hi:Option Operand}{a b:Int}(ha:BR ev 0 lo a)(hb:BR ev n hi b)(h0:0<=a)(h1:a<=b)(h2:b<=n)
 (hlo:∀y,lo=some y->VR S (ev y) (bA y)) (hhi:∀y,hi=some y->VR S (ev y) (bA y)) {E:Mem} {i:Nat} {k:jz} (hk:alive E i=some k) (Kc:k.fix=true) (hac:a=0\/a<n) :
 Ev.qx P E t (.pointer (some ⟨i,0,none⟩)) (lo.map bA) (hi.map bA)=some (.slice (some ⟨i,a.toNat*s,none⟩) (b.toNat-a.toNat) (n-a.toNat)):=by
 have c1:∀k,Ev.nQ (.int k b) n=some b.toNat:=λk=>rU (by omega) h2
 have c2:∀k,Ev.nQ (.int k a) b.toNat=some a.toNat:=λk=>rU h0 (by omega)
 have c3:ah (Nat.beq n a.toNat) 0 (Nat.add 0 (Nat.mul a.toNat s))=a.toNat*s:=by
  rw[av];split
  .rename_i hn;simp only[aN]at hn;have:a.toNat=0:=by omega
   rw[this];simp
  show 0+a.toNat*s=_;omega
 rcases tJ ha hlo with⟨rfl,rfl⟩|⟨z,kk,rfl,hz⟩<;>rcases tJ hb hhi with⟨rfl,Uz⟩|⟨z',kk',rfl,hz'⟩
 .obtain rfl:b=n:=Uz;simp only[mJ]at c3;simp only[Ev.qx,hu,hs,hk,Kc,eR,c3,mJ,bh]
 .simp only[mJ]at c3;simp only[Ev.qx,hu,hs,hk,Kc,eR,bK,hz',c1,c3,mJ]
 .obtain rfl:b=n:=Uz;simp only[bh]at c2;simp only[Ev.qx,hu,hs,hk,Kc,eR,bK,hz,c2,c3,bh]
 simp only[Ev.qx,hu,hs,hk,Kc,bK,hz,hz',c1,c2,c3]
theorem lV {P:Program}{bA:Operand->Value}{call:Ev.cH}{t te:TypeId}{x:Operand}{lo hi:Option Operand}{E:Mem}{v:Value}(hop:o.op = .slice t x lo hi none)(hu:P.underlying t=some (.slice te))(h:Ev.kM P t (bA x) (lo.map bA) (hi.map bA)=some v):jl P call bA o E=some (v,E):=by
 unfold jl;rw[hop];show Ev.o7 P bA o t (bA x) (lo.map bA) (hi.map bA) E=_;unfold Ev.o7;have:Ev.vR P t=false:=by simp[Ev.vR,hu]
 rw[this,h];rfl
theorem p6 {t:TypeId}{x:Operand}{lo hi:Option Operand}{S:Wo}{bA:Operand->Value}(cj:∀y∈(Op.slice t x lo hi none).operands,VR S (ev y) (bA y)):VR S (ev x) (bA x)/\(∀y,lo=some y->VR S (ev y) (bA y))/\∀y,hi=some y->VR S (ev y) (bA y) :=
 ⟨cj x (by simp[Op.operands]),λy hy=>cj y (by subst hy;simp[Op.operands]),λy hy=>cj y (by subst hy;simp[Op.operands])⟩
theorem D8 {P:Program}{te:TypeId}{n:Nat}(h:(Ev.cP P te==some n)=true):Ev.cP P te=some n:=by simpa using h
theorem SR.cut {α:Type}{R:α->List Value->Prop}{s:Nat}(hR:∀x c,R x c->c.length=s){F:Nat->Option (List Value)}{l:List α}{i:Nat}{pre mid post:List Value}{cap:Nat}(hF:F i=some (pre++(mid++post)))(hC:mM R l mid){a b:Int}(h0:0<=a)(h1:a<=b)(h2:b<=l.length)(h3:l.length<=cap) :
 SR R F (eA l a b) (.slice (some ⟨i,pre.length+a.toNat*s,none⟩) (b.toNat-a.toNat) (cap-a.toNat)):=by
 obtain⟨c1,c2,e1,k1,k2⟩:=hC.split hR a.toNat;obtain⟨c3,c4,e2,k3,k4⟩:=k2.split hR (b.toNat-a.toNat);have l1:=k1.length hR;have t1:(l.take a.toNat).length=a.toNat:=by simp;omega
 have t3:((l.drop a.toNat).take (b.toNat-a.toNat)).length=b.toNat-a.toNat:=by simp;omega
 rw[t1]at l1;refine .inr ⟨i,pre++c1,c3,c4++post,cap-a.toNat,?_,by rw[hF,e1,e2];simp,k3,?_⟩
 .show _=Value.slice (some ⟨i,(pre++c1).length,none⟩) ((l.drop a.toNat).take (b.toNat-a.toNat)).length _;rw[t3,aA,l1]
 show ((l.drop a.toNat).take (b.toNat-a.toNat)).length<=_;rw[t3];omega
def Wo.JL (S:Wo)(i:Nat)(cs:List Value):Wo:=⟨λj=>if j=i then some cs else S.F j,S.ρ,S.Γ⟩
theorem uZ {S:Wo}{E:Mem}(hr:Rel S H E){id:Nat}{t:TypeId}{e:Ty}{l:List e.den}{gu:Nat}{ex ro:Bool}(hg:H.get id=some (.list t e l gu ex ro)) :
 ∃S',S.le S'/\Rel S' (H.put id (.list t e l gu ex true)) E/\St S H E S' (H.put id (.list t e l gu ex true)) E /\
  (∀n v,VR S (.own id n) v->n=l.length/\((l=[]/\v = .slice none 0 0)\/∃i mid post cap,v = .slice (some ⟨i,0,none⟩) l.length cap/\S'.F i=some (mid++post)/\mM (CR S'.F e) l mid/\l.length<=cap)):=by
 obtain⟨g1,⟨g0,g,g2,g2'⟩,g3⟩:=hr.row id _ hg;have ad3:∀S',S.le S'->(∀i cap b mid post,S.ρ id=some (i,cap,e.size)->alive E i=some b->b.cells=mid++post->S'.F i=some b.cells)->(∀n v,VR S (.own id n) v->n=l.length/\((l=[]/\v = .slice none 0 0)\/∃i mid post cap,v = .slice (some ⟨i,0,none⟩) l.length cap/\S'.F i=some (mid++post)/\mM (CR S'.F e) l mid/\l.length<=cap)):=by
  intro S' hle hF n v hv;cases hv with
  |own _ _ i0 p5 s0 hρ g' hg' hn' =>
   rw[g2]at hg';cases hg';rcases g3 with⟨_,g5,_⟩|⟨i',cap,b,mid,post,q1,q2,q3,q4,q5,q6,q7,q8,q9,xV⟩
   .rw[hρ]at g5;cases g5
   rw[hρ]at q1;cases q1;refine⟨by omega,.inr ⟨i0,mid,post,p5,by rw[<-g2',hn'],?_,q5.mono λx c=>CR.mono hle.F e x c,q7⟩⟩;rw[hF i0 p5 b mid post hρ q2 q4,q4]
  |fY _ g' hg' hn' =>
   rw[g2]at hg';cases hg';exact⟨by omega,.inl ⟨aQ.1 (by omega),rfl⟩⟩
 cases hro:ro with
 |true =>
  subst hro;obtain⟨u1,u2,u3,u4⟩:=aH.gq H id (.list t e l gu ex true);have hsame:∀j,(H.put id (.list t e l gu ex true)).get j=H.get j:=λj=>by
   rw[u4];by_cases hj:j=id
   .subst hj;rw[ag rfl,ag (aH.eJ hg),hg];rfl
   rw[aa hj]
  obtain⟨k1,k2⟩:=hr.same u1 u2 u3 hsame;refine⟨S,S.le_refl,k1,k2,ad3 S S.le_refl λi cap b mid post h1 h2 h3=>?_⟩;rcases g3 with⟨_,g5,_⟩|⟨i',cap,b',mid,post,q1,q2,q3,q4,q5,q6,q7,q8,q9,xV⟩
  .rw[h1]at g5;cases g5
  rw[h1]at q1;cases q1;rw[h2]at q2;cases q2;exact xV.1 rfl
 |false =>
  subst hro;rcases g3 with⟨g4,g5,g6⟩|⟨i',cap,b,mid,post,q1,q2,q3,q4,q5,q6,q7,q8,q9,xV⟩
  .obtain ⟨k1,k2⟩:=hr.mod (S':=S) (E':=E) (r':=.list t e l gu ex true) hg rfl S.le_refl rfl (λ_ _ _=>rfl) rfl rfl (λ_ _=>rfl) (λj cs h=>.inl h) (λq hq=>by
    cases hq;exact⟨g1,⟨g0,g,g2,g2'⟩,.inl ⟨g4,g5,g6⟩⟩)
   exact⟨S,S.le_refl,k1,k2,ad3 S S.le_refl λi cap b mid post h1=>by rw[g5]at h1;cases h1⟩
  have hsep:=hr.sep id _ _ hg rfl q1;have hle:S.le (S.JL i' b.cells):=⟨λj x hj=>by
   show (if j=i' then some b.cells else S.F j)=_;by_cases hji:j=i'
   .subst hji;rw[hsep]at hj;cases hj
   rw[aa hji];exact hj,λ_ _ h=>h,λ_ _ _ h=>h⟩
  have hFi:(S.JL i' b.cells).F i'=some b.cells:=ag rfl;obtain⟨k1,k2⟩:=hr.mod (S':=S.JL i' b.cells) (E':=E) (r':=.list t e l gu ex true) hg rfl hle rfl (λ_ _ _=>rfl) rfl rfl (λ_ _=>rfl)
   (λj cs h=>by
    by_cases hji:j=i'
    .subst hji;rw[hFi]at h;cases h;exact .inr ⟨.inr rfl,⟨_,q1,rfl⟩,b,q2,rfl⟩
    exact .inl (by have h':(if j=i' then some b.cells else S.F j)=some cs:=h;rw[aa hji]at h';exact h'))
   (λq hq=>by
    cases hq;exact⟨g1,⟨g0,g,g2,g2'⟩,.inr ⟨i',cap,b,mid,post,q1,q2,q3,q4,q5.mono λx c=>CR.mono hle.F e x c,q6,q7,q8,q9,λ_=>hFi,xV.2.imp λl2 h2=>h2.mono λx c=>CR.mono hle.F e x c⟩⟩)
  refine⟨_,hle,k1,k2,ad3 _ hle λi cap' b' mid' post' h1 h2 h3=>?_⟩;rw[q1]at h1;cases h1;rw[q2]at h2;cases h2;exact hFi
theorem Bd {t:TypeId}{x:Operand}{lo hi:Option Operand}(hop:o.op = .slice t x lo hi none){k:AV->aH->Option β}(h:D3 X H t (ev x) (lo.map ev) (hi.map ev) k=some r):∃v H',k v H'=some r/\eM X cf o ev H v H':=by
 unfold D3 at h;split at h
 .rename_i s hu hp;obtain⟨a,b,h1,h2,h3,h4,ha,hb⟩:=oT h;have h4:=h4 (aG _);refine⟨_,_,h1,.quiet λS E bA hr cj=>?_⟩;rw[hop]at cj;obtain⟨hx,hlo,hhi⟩:=p6 cj;rw[hp]at hx;have ex:=hx.jo;refine⟨.string ⟨(eA s a b).toArray⟩,λcall=>?_,.str _⟩;unfold jl;rw[hop];show Ev.o7 X.P bA o t (bA x) (lo.map bA) (hi.map bA) E=_;unfold Ev.o7;have e1:Ev.vR X.P t=false:=by simp[Ev.vR,hu]
  have e2:Ev.kM X.P t (bA x) (lo.map bA) (hi.map bA)=none:=by rw[ex];simp only[Ev.kM,hu]
  rw[e1,e2];show cD E (gC X.P bA o)=_;have flo:∀y,lo=some y->aY (bA y)=true:=λy hy=>by
   rcases tJ ha hlo with⟨h0,_⟩|⟨z,kk,h0,hz⟩
   .rw[h0]at hy;cases hy
   rw[h0]at hy;cases hy;rw[hz];rfl
  have fhi:∀y,hi=some y->aY (bA y)=true:=λy hy=>by
   rcases tJ hb hhi with⟨h0,_⟩|⟨z,kk,h0,hz⟩
   .rw[h0]at hy;cases hy
   rw[h0]at hy;cases hy;rw[hz];rfl
  rw[wE (v:=.string ⟨(eA s a b).toArray⟩) (λa b=>by rw[hop];simp) ?_ ?_ rfl]
  .rfl
  .rw[hop];simp only[Ev.cZ,Op.operands,aP];intro y hy;simp only[Array.toList_append,cr]at hy;rcases hy with ((hy|hy)|hy)|hy
   .simp at hy;subst hy;rw[ex];rfl
   .exact flo y (by cases lo<;>simp at hy ⊢;exact hy.symm)
   .exact fhi y (by cases hi<;>simp at hy ⊢;exact hy.symm)
   simp at hy
  unfold execOp;rw[hop];show bF X.P (Instr.sliceAt t (bA x) (lo.map bA) (hi.map bA) none >>= λx=>pure (Next.value x))=_;rw[bt];have e3:bF X.P (Instr.sliceAt t (bA x) (lo.map bA) (hi.map bA) none)=some (.string ⟨(eA s a b).toArray⟩):=by
   unfold Instr.sliceAt;rw[bt,bU hu];simp only[aW];unfold Instr.slice;rw[bt,bU hu,ex];simp only[aW,Option.isSome_none,ct,dY];rw[bt];have sz:ByteArray.size ⟨s.toArray⟩=s.length:=by simp[ByteArray.size]
   have e4:bF X.P (Instr.sliceBounds false (ByteArray.size ⟨s.toArray⟩) (ByteArray.size ⟨s.toArray⟩) (lo.map bA) (hi.map bA) none)=some (a.toNat,b.toNat,s.length):=by
    rw[sz];have bd:∀(kk:IntKind) (i:Int) (y:Nat) (c:BoundsCode),0<=i->i<=y->bF X.P (Instr.sliceBound (.int kk i) y c)=some i.toNat:=λkk i y c h0 h1=>by
     unfold Instr.sliceBound asIntOf;show bF X.P (if 0<=i/\i<=y then pure i.toNat else boundsPanic kk i y c)=_;rw[ag ⟨h0,h1⟩];rfl
    unfold Instr.sliceBounds;rcases tJ ha hlo with⟨rfl,rfl⟩|⟨z,kk,rfl,hz⟩<;>rcases tJ hb hhi with⟨rfl,rfl⟩|⟨z',kk',rfl,hz'⟩
    .rfl
    .simp only[eR,bK,hz'];simp only[bt,pq,aW];rw[bd kk' b s.length _ (by omega) h4];rfl
    .simp only[eR,bK,hz];simp only[bt,pq,aW];rw[bd kk a s.length _ (by omega) (by omega)];rfl
    simp only[bK,hz,hz'];simp only[bt,pq,aW];rw[bd kk' b s.length _ (by omega) h4];simp only[aW];rw[bd kk a b.toNat _ (by omega) (by omega)];rfl
   rw[e4];simp only[aW];show some (Value.string _)=_;congr 2
   apply Go.WideShapes.bytes_inj;simp[ByteArray.data_extract,iQ,gh,eA]
  rw[e3];rfl
 .rename_i te e l hu hp;rw[av]at h;split at h
  .rename_i hs;have hs:=D8 hs;obtain⟨a,b,h1,h2,h3,h4,ha,hb⟩:=oT h;have h4:=h4 (aG _);rw[av]at h1;split at h1
   .rename_i hac;have hac:=Zc hac;refine⟨_,_,h1,.quiet λS E bA hr cj=>?_⟩;rw[hop]at cj;obtain⟨hx,hlo,hhi⟩:=p6 cj;rw[hp]at hx;generalize hA:bA x=A at hx;cases hx with
    |dW _ _ _ hS =>
     rcases hS with⟨rfl,rfl|rfl⟩|⟨i0,pre,mid,post,cap,rfl,hF,hC,hcap⟩
     .refine ⟨.slice none (b.toNat-a.toNat) (0-a.toNat),λcall=>lV hop hu ?_,.dW _ _ _ (.inl ⟨by simp[eA],.inl ?_⟩)⟩
      .rw[hA];exact oU hu hs ha hb h2 h3 (by simpa using h4) hlo hhi none (.inl rfl) (by simp at h4;omega)
      simp at h4;have e1:b.toNat-a.toNat=0:=by omega
      have e2:(0:Nat)-a.toNat=0:=by omega
      rw[e1,e2]
     .refine ⟨.slice (some ⟨0,0,some 0⟩) (b.toNat-a.toNat) (0-a.toNat),λcall=>lV hop hu ?_,.dW _ _ _ (.inl ⟨by simp[eA],.inr ?_⟩)⟩
      .rw[hA];exact KV hu hs ha hb h2 h3 (by simpa using h4) hlo hhi
      simp at h4;have e1:b.toNat-a.toNat=0:=by omega
      have e2:(0:Nat)-a.toNat=0:=by omega
      rw[e1,e2];rfl
     refine⟨_,λcall=>lV hop hu ?_,.dW _ _ _ (SR.cut (λx c=>CR.length e x c) hF hC h2 h3 h4 hcap)⟩;rw[hA];exact oU hu hs ha hb h2 h3 (by omega) hlo hhi _ (.inr ⟨_,_,rfl⟩) (by omega)
   cases h1
  cases h
 .rename_i te id off len cap hu hp;split at h
  .rename_i t' e l gu ro hg;rw[av]at h;split at h
   .rename_i hs;have hs:=D8 hs;obtain⟨a,b,h1,h2,h3,h4,ha,hb⟩:=oT h;rw[av]at h1;split at h1
    .rename_i hac;have hac:=Zc hac;refine⟨_,_,h1,.quiet λS E bA hr cj=>?_⟩;rw[hop]at cj;obtain⟨hx,hlo,hhi⟩:=p6 cj;rw[hp]at hx;generalize hA:bA x=A at hx;obtain⟨g1,⟨_,g,g2,g2'⟩,g3⟩:=hr.row id _ hg;cases hx with
     |rH _ _ _ _ i0 c0 s0 hρ g' hg' hcc KU =>
      rw[g2]at hg';cases hg';rcases g3 with⟨_,g5,_⟩|⟨i',cap',b',mid,post,q1,q2,q3,q4,q5,q6,q7,q8,q9,xV⟩
      .rw[hρ]at g5;cases g5
      rw[hρ]at q1;cases q1;refine⟨_,λcall=>lV hop hu (by rw[hA];exact oU hu hs ha hb h2 h3 (h4 KU) hlo hhi _ (.inr ⟨_,_,rfl⟩) (by have:=h4 KU;omega)),?_⟩;have:=VR.rH (S:=S) id (off+a.toNat) (b.toNat-a.toNat) (cap-a.toNat) i0 c0 e.size hρ g g2 (by have:=h4 KU;omega) (by have:=h4 KU;omega);rw[de]at this;exact this
    cases h1
   cases h
  cases h
 .rename_i te id n hu hp;split at h
  .rename_i t' e l gu ex ro hg;rw[av]at h;split at h
   .rename_i hs;simp only[ak]at hs;obtain⟨hs,hmay⟩:=hs;have hs:=D8 hs;obtain⟨a,b,h1,h2,h3,h4,ha,hb⟩:=oT h;have h4:=h4 (aG _);rw[av]at h1;split at h1
    .rename_i hac;have hac:=Zc hac;refine⟨_,_,h1,λS E bA hr cj=>?_⟩;rw[hop]at cj;obtain⟨hx,hlo,hhi⟩:=p6 cj;rw[hp]at hx;obtain⟨S',hle,k1,k2,k3⟩:=uZ hr hg;obtain⟨rfl,hv⟩:=k3 n _ hx;rcases hv with⟨rfl,hv⟩|⟨i,mid,post,cap,hv,hF,hC,hcap⟩
     .refine ⟨S',.slice none (b.toNat-a.toNat) (0-a.toNat),E,⟨0,λn _=>lV hop hu ?_⟩,hle,.dW _ _ _ (.inl ⟨by simp[eA],.inl ?_⟩),k1,k2⟩
      .rw[hv];exact oU hu hs ha hb h2 h3 (by simpa using h4) hlo hhi none (.inl rfl) (by simp at h4;omega)
      simp at h4;have e1:b.toNat-a.toNat=0:=by omega
      have e2:(0:Nat)-a.toNat=0:=by omega
      rw[e1,e2]
     have:=SR.cut (pre:=[]) (λx c=>CR.length e x c) hF hC h2 h3 h4 hcap;refine⟨S',_,E,⟨0,λn _=>lV hop hu ?_⟩,hle,.dW _ _ _ this,k1,k2⟩;rw[hv];have:=oU (S:=S) (bA:=bA) hu hs ha hb h2 h3 (show b<=cap by omega) hlo hhi (some ⟨i,0,none⟩) (.inr ⟨_,_,rfl⟩) (by omega);rw[this];simp
    cases h1
   cases h
  cases h
 .rename_i te hu hp;rw[av]at h;split at h
  .rename_i hs;obtain⟨s,hs⟩:=bV.1 hs;obtain⟨a,b,h1,h2,h3,h4,ha,hb⟩:=oT h;have h4:=h4 (aG _);refine⟨_,_,h1,.quiet λS E bA hr cj=>?_⟩;rw[hop]at cj;obtain⟨hx,hlo,hhi⟩:=p6 cj;rw[hp]at hx;generalize hA:bA x=A at hx;cases hx with
   |dg =>
    refine⟨.slice none (b.toNat-a.toNat) (0-a.toNat),λcall=>lV hop hu ?_,?_⟩
    .rw[hA];exact oU hu hs ha hb h2 h3 (by simpa using h4) hlo hhi none (.inl rfl) (by omega)
    have e1:b.toNat-a.toNat=0:=by omega
    have e2:(0:Nat)-a.toNat=0:=by omega
    rw[e1,e2];exact .dg
  cases h
 .rename_i n te id n' hu hp;split at h
  .rename_i t' e l gu ro hg;rw[av]at h;split at h
   .rename_i hs;simp only[ak,aN]at hs;obtain⟨hs,rfl⟩:=hs;have hs:=D8 hs;obtain⟨a,b,h1,h2,h3,h4,ha,hb⟩:=oT h;have h4:=h4 (aG _);rw[av]at h1;split at h1
    .rename_i hac;have hac:=Zc hac;refine⟨_,_,h1,.quiet λS E bA hr cj=>?_⟩;rw[hop]at cj;obtain⟨hx,hlo,hhi⟩:=p6 cj;rw[hp]at hx;generalize hA:bA x=A at hx;obtain⟨g1,⟨_,g,g2,g2'⟩,g3⟩:=hr.row id _ hg;cases hx with
     |D1 _ _ i0 c0 s0 hρ g' hg' hn' =>
      rw[g2]at hg';cases hg';rcases g3 with⟨_,g5,_⟩|⟨i',cap',b',mid,post,q1,q2,q3,q4,q5,q6,q7,q8,q9,xV⟩
      .rw[hρ]at g5;cases g5
      rw[hρ]at q1;cases q1;have e1:=KW (S:=S) (bA:=bA) hu hs ha hb h2 h3 h4 hlo hhi q2 (q9 rfl).1 hac;have:=VR.rH (S:=S) id a.toNat (b.toNat-a.toNat) (n'-a.toNat) i0 c0 e.size hρ g g2 (by omega) (by omega);refine⟨_,λcall=>?_,this⟩;unfold jl;rw[hop];show Ev.o7 X.P bA o t (bA x) (lo.map bA) (hi.map bA) E=_;unfold Ev.o7;have e2:Ev.vR X.P t=true:=by simp[Ev.vR,hu]
      rw[e2,hA,e1];rfl
    cases h1
   cases h
  cases h
 cases h
end
end Go.Tv
namespace Go.Tv
open Go.Ev (Tr ah iD Mem jz alive av dD bF gC jl aY cD orElse)
theorem xF {α:Type}:∀(xs l:List α) (off:Nat),off+xs.length<=l.length->mc l off xs=l.take off++(xs++l.drop (off+xs.length))
 |[],l,off,_=>by simp[mc]
 |x::xs,l,off,h=>by
  simp only[aJ]at h;rw[mc,xF xs (l.set off x) (off+1) (by simp;omega)];have h1:(l.set off x).take (off+1)=l.take off++[x]:=by
   rw[List.take_succ_eq_append_getElem (by simp;omega),List.take_set,List.set_eq_of_length_le (by simp;omega)];simp
  have h2:(l.set off x).drop (off+1+xs.length)=l.drop (off+(x::xs).length):=by
   rw[List.drop_set_of_lt (by omega)];simp only[aJ];congr 1;omega
  rw[h1,h2];simp
theorem tc (l xs:List Value)(off:Nat):Ev.nZ l off xs=mc l off xs:=by
 induction xs generalizing l off with
 |nil=>rfl
 |cons x xs ih=>exact ih _ _
theorem qG {α:Type}:∀(xs l:List α) (off:Nat),(mc l off xs).length=l.length
 |[],l,off=>rfl
 |x::xs,l,off=>by rw[mc,qG xs];simp
theorem D9 {α:Type}(a c b xs:List α)(fo:Nat)(h:fo+xs.length<=c.length):mc (a++(c++b)) (a.length+fo) xs=a++(mc c fo xs++b):=by
 rw[xF xs c fo h,xF xs _ _ (by simp;omega)];rw[List.take_append,List.drop_append];simp only[Nat.add_sub_cancel_left];have e1:a.take (a.length+fo)=a:=cS (by omega);have e2:a.drop (a.length+fo+xs.length)=[]:=hU (by omega);have e3:a.length+fo+xs.length-a.length=fo+xs.length:=by omega
 rw[e1,e2,e3,fj (by omega),fh (by omega)];simp
theorem mM.set {α:Type}{R:α->List Value->Prop}{l:List α}{j:Nat}{y:α}{a c b:List Value}(hj:j<l.length)(h1:mM R (l.take j) a)(h2:R y c)(h3:mM R (l.drop (j+1)) b):mM R (l.set j y) (a++(c++b)):=by
 have:l.set j y=l.take j++(y::l.drop (j+1)):=by
  rw[List.set_eq_take_append_cons_drop,ag hj]
 rw[this];exact h1.append ⟨c,b,rfl,h2,h3⟩
theorem mM.put {α:Type}{R:α->List Value->Prop}{s:Nat}(hR:∀x c,R x c->c.length=s){l xs:List α}{mid xc:List Value}{off:Nat}(hl:mM R l mid)(hx:mM R xs xc)(h:off+xs.length<=l.length):mM R (mc l off xs) (mc mid (off*s) xc):=by
 have lm:=hl.length hR;have lx:=hx.length hR;obtain⟨c1,c2,e1,k1,k2⟩:=hl.split hR off;obtain⟨c3,c4,e2,k3,k4⟩:=k2.split hR xs.length;have l1:=k1.length hR;have l3:=k3.length hR;have t1:(l.take off).length=off:=by simp;omega
 have t3:((l.drop off).take xs.length).length=xs.length:=by simp;omega
 rw[t1]at l1;rw[t3]at l3;rw[xF xs l off h];have:mc mid (off*s) xc=c1++(xc++c4):=by
  rw[e1,e2,<-l1];have:=D9 c1 c3 c4 xc 0 (by rw[lx,l3];omega);rw[ou]at this;rw[this,xF xc c3 0 (by rw[lx,l3];omega)];rw[hU (by rw[lx,l3];omega)];simp
 rw[this];rw[eH]at k4;exact k1.append (hx.append k4)
theorem CR.plain {F:Nat->Option (List Value)}:∀(e:Ty) (x:e.den) (cs:List Value),CR F e x cs->cs.all Ev.plainCell=true
 |.int _,_,_,h=>by rw[h];rfl
 |.bool,_,_,h=>by rw[h];rfl
 |.str,_,_,h=>by rw[h];rfl
 |.pZ,_,_,h=>by rw[h];rfl
 |.unit,_,_,h=>by rw[h];rfl
 |.sl _,_,_,⟨v,h,hs⟩=>by
  rw[h];rcases hs with⟨_,rfl|rfl⟩|⟨i,pre,mid,post,cap,rfl,_⟩<;>rfl
 |.pair a b,_,_,⟨c1,c2,e,h1,h2⟩=>by rw[e,jF,CR.plain a _ _ h1,CR.plain b _ _ h2];rfl
theorem mM.plain {F:Nat->Option (List Value)}{e:Ty}:∀{l:List e.den} {cs:List Value},mM (CR F e) l cs->cs.all Ev.plainCell=true
 |[],_,h=>by rw[h];rfl
 |x::l,_,⟨c1,c2,e',h1,h2⟩=>by rw[e',jF,CR.plain e _ _ h1,h2.plain];rfl
theorem UA {S:Wo}{v:AV}{x:Value}(h:VR S v x)(hp:sq v=true):Ev.plainCell x=true:=by
 cases h with
 |dW e l v hs=>rcases hs with⟨_,rfl|rfl⟩|⟨i,pre,mid,post,cap,rfl,_⟩<;>rfl
 |agg=>cases hp
 |fH=>cases hp
 |jZ=>cases hp
 |fl=>cases hp
 |cx=>cases hp
 |zR v hf=>exact hp
 |_=>rfl
theorem Be {S:Wo}:∀{l:List AV} {m:List Value},LV S l m->l.all sq=true->m.all Ev.plainCell=true
 |[],m,h,_=>by rw[h.jq];rfl
 |v::l,m,h,hp=>by
  obtain⟨x,m',rfl,h1,h2⟩:=h.cons_inv;simp only[bY,ak]at hp ⊢;exact⟨UA h1 hp.1,Be h2 hp.2⟩
theorem xG {S:Wo}{v:AV}{x:Value}{cs:List AV}(h:VR S v x)(hc:D2 v=some cs):LV S cs x.cells.toList:=by
 have one:∀(v:AV) (x:Value),VR S v x->x.cells = #[x]->LV S [v] x.cells.toList:=λv x h e=>by rw[e];exact LV.cons h LV.nil
 cases h with
 |dW e l v hs =>
  cases hc;have:x.cells = #[x]:=by rcases hs with⟨_,rfl|rfl⟩|⟨i,pre,mid,post,cap,rfl,_⟩<;>rfl
  exact one _ _ (.dW e l x hs) this
 |agg l m hl hv=>cases hc;exact⟨by simpa[Value.cells] using hl,by simpa[Value.cells] using hv⟩
 |fH=>cases hc
 |jZ=>cases hc
 |fl=>cases hc
 |cx=>cases hc
 |zR v hf =>
  have hc:ah (Ev.plainCell x) (some [AV.zR x]) none=some cs:=hc;rw[av]at hc;split at hc
  .rename_i hp;cases hc;refine one _ _ (.zR x hf) ?_;cases x<;>first|rfl|cases hp
  cases hc
 |_=>cases hc;exact LV.cons (by constructor<;>assumption) LV.nil
section
variable {X:gU} {cf:Nat×Nat->Ev.cH} {o:Oper} {ev:Operand->AV} {H:aH} {β:Type} {r:β}
theorem qq {E:Mem}{i off:Nat}{b:jz}{vs:List Value}(hb:alive E i=some b)(hlk:E.lk<=i)(hlen:off+vs.length<=b.cells.length)(hp:vs.all Ev.plainCell=true) :
 ∃E',Ev.iw E i off vs=some E'/\E'.size=E.size/\E'.lk=E.lk/\∃b',alive E' i=some b'/\b'.cells=mc b.cells off vs/\b'.elem=b.elem/\b'.fix=b.fix/\∀j,j≠i->E'.get j=E.get j:=by
 unfold Ev.iw;cases vs with
 |nil=>exact⟨E,rfl,rfl,rfl,b,hb,rfl,rfl,rfl,λ_ _=>rfl⟩
 |cons v vs =>
  rw[aa (by simp),hb];simp only;rw[ag (by rw[hp];simpa using hlen)];obtain⟨E',hE⟩:=Mem.iS (b:={ b with cells:=Ev.nZ b.cells off (v::vs) }) (kW hb) hlk;obtain⟨_,_,h3,h4,h5⟩:=Ev.Mem.kP hE;refine⟨E',hE,h3,h4,{ b with cells:=Ev.nZ b.cells off (v::vs) },sv (by rw[h5,ag rfl]) (dD hb).2,tc _ _ _,rfl,rfl,λj hj=>by rw[h5,aa hj]⟩
def Wo.gu (S:Wo)(id v:Nat)(g:Sigma λe:Ty=>List e.den):Wo:=⟨S.F,S.ρ,λj w=>if j=id/\w=v then some g else S.Γ j w⟩
theorem Wo.ad4 {S:Wo}{id v:Nat}{g:Sigma λe:Ty=>List e.den}(h:S.Γ id v=none):S.le (S.gu id v g) :=
 ⟨λ_ _ h=>h,λ_ _ h=>h,λj w x hx=>by
  show (if j=id/\w=v then some g else S.Γ j w)=_;by_cases hj:j=id/\w=v
  .obtain ⟨rfl,rfl⟩:=hj;rw[h]at hx;cases hx
  rw[aa hj];exact hx⟩
theorem Rel.rewrite {S:Wo}{E E':Mem}(hr:Rel S H E){id:Nat}{t:TypeId}{e:Ty}{l l':List e.den}{gu:Nat}{ex:Bool}(hg:H.get id=some (.list t e l gu ex false)){i cap:Nat}{b b':jz}{mid post:List Value}
 (hρ:S.ρ id=some (i,cap,e.size)) (hb:alive E i=some b) (hs:E'.size=E.size) (hlk:E'.lk=E.lk) (hE:∀j,j≠i->E'.get j=E.get j) (hb':alive E' i=some b') (hel:b'.elem=b.elem) (Kc:b'.fix=b.fix) (hc:b'.cells=mid++post) (hlen:b'.cells.length=b.cells.length)
 (hC:mM (CR S.F e) l' mid) (hl:l'.length=l.length) (hpost:ex=true->post=[]) (T4:∃l2,mM (CR S.F e) l2 post) :
 S.le (S.gu id (gu+1) ⟨e,l'⟩)/\Rel (S.gu id (gu+1) ⟨e,l'⟩) (H.put id (.list t e l' (gu+1) ex false)) E'/\St S H E (S.gu id (gu+1) ⟨e,l'⟩) (H.put id (.list t e l' (gu+1) ex false)) E':=by
 obtain⟨g1,⟨g0,g,g2,g2'⟩,g3⟩:=hr.row id _ hg;have hle:S.le (S.gu id (gu+1) ⟨e,l'⟩):=Wo.ad4 (g0 _ (by omega));rcases g3 with⟨_,g5,_⟩|⟨i',cap',b0,aqE,ape,q1,q2,q3,q4,q5,q6,q7,q8,q9,xV⟩
 .rw[hρ]at g5;cases g5
 rw[hρ]at q1;cases q1;rw[hb]at q2;cases q2;refine⟨hle,hr.mod hg rfl hle rfl (λj w hj=>aa (by omega)) hs hlk (λj hj=>hE j (hj _ hρ)) (λj cs h=>.inl h) λq hq=>?_⟩;cases hq;refine⟨ag ⟨rfl,rfl⟩,⟨λv hv=>?_,g,hle.Γ _ _ _ g2,by omega⟩,.inr ⟨i,cap,b',mid,post,hρ,hb',by rw[hel,q3],hc,hC,by rw[hlen,q6],by omega,q8,λhx=>⟨by rw[Kc];exact(q9 hx).1,hpost hx,by have:=(q9 hx).2.2;omega⟩,λh=>(by cases h),T4⟩⟩;show (if id=id/\v=gu+1 then some _ else S.Γ id v)=none;rw[aa (by omega)];exact g0 v (by omega)
theorem RO {t:TypeId}{p q:Operand}(hop:o.op = .store t p q){k:AV->aH->Option β}(h:storeT X H t (ev p) (ev q) (λH'=>k .jZ H')=some r):∃v H',k v H'=some r/\eM X cf o ev H v H':=by
 unfold storeT at h;split at h
 .rename_i id off n vs hp hn hvs;split at h
  .rename_i t' cs hg;rw[av]at h;split at h
   .rename_i hc;simp only[ak,aN,br]at hc;obtain⟨⟨⟨hmay,MW⟩,hpl⟩,hof⟩:=hc;refine⟨_,_,h,λS E bA hr cj=>?_⟩;rw[hop]at cj;have hx:=cj p (by simp[Op.operands]);have hy:=cj q (by simp[Op.operands]);rw[hp]at hx;generalize hA:bA p=A at hx;cases hx with
    |ptr _ _ i c s hρ =>
     obtain⟨i',c',s',b,k1,k2,k3,k4,k5⟩:=hr.row id _ hg;rw[hρ]at k1;cases k1;have nY:=xG hy hvs;have hmay':H.lk<=id:=by simpa[aH.nH,br] using hmay
     have hlk:=hr.lk id _ _ hg hmay' hρ;have hof':off+n<=cs.length:=hof;obtain⟨E',w1,w2,w3,b',w4,w5,w6,w7,w8⟩:=qq (off:=off) (vs:=(bA q).cells.toList) k2 hlk (by rw[<-nY.1,<-k3.1];omega) (Be nY hpl);obtain⟨m1,m2⟩:=hr.mod (S':=S) (E':=E') (r':=.cells t' (mc cs off vs)) hg rfl S.le_refl rfl (λ_ _ _=>rfl) w2 w3 (λj hj=>w8 j (hj _ hρ)) (λj cs h=>.inl h) (λq hq=>by
      cases hq;refine⟨i,c,s,b',hρ,w4,?_,w6.trans k4,w7.trans k5⟩;rw[w5,<-tc];exact LV.mc vs _ off nY k3)
     refine⟨S,undef,E',⟨0,λ_ _=>?_⟩,S.le_refl,.jZ _,m1,m2⟩;unfold jl;rw[hop];show Ev.qk X.P t (bA p) (bA q) E=_;have hsz:(bA q).cells.size=n:=by
      have:=nY.1;simp at this;omega
     simp only[Ev.qk,Ev.rZ,hA,hn,hsz,fD,w1]
   cases h
  cases h
 .rename_i id j fo gu cur n vs hp hn hvs;split at h
  .rename_i t' e l ver' ex ro hg;rw[av]at h;split at h
   .rename_i hc;simp only[ak,aN,br,aS]at hc;obtain⟨⟨⟨⟨⟨hmay,MW⟩,hpl⟩,hof⟩,rfl⟩,rfl⟩:=hc;split at h
    .rename_i y hun;refine⟨_,_,h,λS E bA hr cj=>?_⟩;rw[hop]at cj;have hx:=cj p (by simp[Op.operands]);have hy:=cj q (by simp[Op.operands]);rw[hp]at hx;generalize hA:bA p=A at hx;cases hx with
     |CX _ _ _ _ _ i c e' l2 y' hρ hΓ hy' am2 =>
      obtain⟨g1,⟨g0,g,g2,g2'⟩,g3⟩:=hr.row id _ hg;rw[g1]at hΓ;cases hΓ;rcases g3 with⟨_,g5,_⟩|⟨i',cap,b,mid,post,q1,q2,q3,q4,q5,q6,q7,q8,q9,xV⟩
      .rw[hρ]at g5;cases g5
      rw[hρ]at q1;cases q1;obtain⟨a,cc,bb,w1,w2,w3,w4,w5⟩:=q5.get (λx c=>CR.length e x c) hy';subst am2;have hcc:=CR.length e _ _ w3;have hfl:=s9 e y';have nY:=xG hy hvs;have hof':fo+n<=e.size:=by rw[<-hfl];exact hof
      have hmay':H.lk<=id:=by simpa[aH.nH,br] using hmay
      have hlk:=hr.lk id _ _ hg hmay' hρ;have hbc:b.cells=a++(cc++(bb++post)):=by rw[q4,w1];simp
      have hxl:(bA q).cells.toList.length=n:=by rw[<-nY.1];exact MW
      obtain⟨E',v1,v2,v3,b',v4,v5,v6,v7,v8⟩:=qq (off:=j*e.size+fo) (vs:=(bA q).cells.toList) q2 hlk (by rw[hbc];simp at hxl ⊢;omega) (Be nY hpl);have hnew:mc b.cells (j*e.size+fo) (bA q).cells.toList=a++(mc cc fo (bA q).cells.toList++(bb++post)):=by
       rw[hbc,<-w2];exact D9 a cc (bb++post) _ fo (by omega)
      have hLV:=LV.mc vs _ fo nY (CR.flat e _ _ w3);rw[tc]at hLV;obtain⟨c1,m',e1,r1,r2⟩:=qF e hun hLV;have hm':=r2.jq;subst hm';rw[eO]at e1;have hjl:=eJ hy';have hC:mM (CR S.F e) (l.set j y) (a++(c1++bb)):=mM.set hjl w4 r1 w5;obtain⟨z1,z2,z3⟩:=hr.rewrite hg hρ q2 v2 v3 v8 v4 v6 v7 (mid:=a++(c1++bb)) (post:=post) (by rw[v5,hnew,e1];simp) (by rw[v5,qG]) hC (by simp) (λhx=>(q9 hx).2.1) xV.2;refine⟨_,undef,E',⟨0,λ_ _=>?_⟩,z1,.jZ _,z2,z3⟩;unfold jl;rw[hop];show Ev.qk X.P t (bA p) (bA q) E=_
      have hsz:(bA q).cells.size=n:=by simpa using hxl
      simp only[Ev.qk,Ev.rZ,hA,hn,hsz,fD,v1]
    cases h
   cases h
  cases h
 cases h
end
end Go.Tv
namespace Go.Tv
open Go.Ev (Tr ah iD Mem jz alive av dD bF gC jl aY cD orElse)
section
variable {X:gU} {cf:Nat×Nat->Ev.cH} {o:Oper} {ev:Operand->AV} {H:aH} {β:Type} {r:β}
theorem aiT {a b:Nat}(h:Nat.beq a b=false):a≠b:=λe=>by subst e;rw[ov]at h;cases h
inductive yO (S:Wo)(H:aH)(E:Mem)(te:TypeId)(e:Ty)(old:List e.den):aH->Value->Prop where
 |nil (h:old=[]):yO S H E te e old H (.slice none 0 0)
 |UB (id r) (hg:H.get id=some r) (hro:r.AJ=false) (h:old=[]):yO S H E te e old (H.put id .dead) (.slice none 0 0)
 |row (id r i cap b mid post) (hg:H.get id=some r) (hro:r.AJ=false) (hρ:S.ρ id=some (i,cap,e.size)) (hb:alive E i=some b) (hlk:E.lk<=i) (hc:b.cells=mid++post) (hC:mM (CR S.F e) old mid) (hn:b.cells.length=cap*e.size) (hl:old.length<=cap) (hcap:cap<=2000000) (hel:b.elem=te) (T4:∃l2,mM (CR S.F e) l2 post):yO S H E te e old (H.put id .dead) (.slice (some ⟨i,0,none⟩) old.length cap)
theorem UC {S:Wo}{E:Mem}(hr:Rel S H E){te:TypeId}{e:Ty}{s:AV}{old:List e.den}{H':aH}{x:Value}(h:Ul H te e s=some (old,H'))(hx:VR S s x):yO S H E te e old H' x:=by
 unfold Ul at h;split at h
 .cases h;cases hx;exact .nil rfl
 .rename_i id n;split at h
  .rename_i t' e' l gu ex hg;rw[av]at h;split at h
   .rename_i hmay;simp only[ak,aN]at hmay;obtain⟨hmay,rfl⟩:=hmay;split at h
    .rename_i l' nY;cases h;obtain⟨he,hc⟩:=bT nY;subst he;have hc:l=old:=hc;subst hc;obtain⟨g1,⟨g0,g,g2,g2'⟩,g3⟩:=hr.row id _ hg;cases hx with
     |own _ _ i0 p5 s0 hρ g' hg' hn' =>
      rw[g2]at hg';cases hg';rcases g3 with⟨_,g5,_⟩|⟨i',cap,b,mid,post,q1,q2,q3,q4,q5,q6,q7,q8,q9,xV⟩
      .rw[hρ]at g5;cases g5
      rw[hρ]at q1;cases q1;have:=yO.row (S:=S) (H:=H) (E:=E) (te:=t') (e:=e') (old:=l) id _ i0 p5 b mid post hg rfl hρ q2 (hr.lk id _ _ hg (by simpa[aH.nH,br] using hmay) hρ) q4 q5 q6 q7 q8 q3 xV.2;rw[<-g2',hn']at this;exact this
     |fY _ g' hg' hn' =>
      rw[g2]at hg';cases hg';have h0:l=[]:=aQ.1 (by omega);exact .UB id _ hg rfl h0
    cases h
   cases h
  cases h
 .rename_i id len KS;split at h
  .rename_i t' e' l gu hg;rw[av]at h;split at h
   .rename_i hmay;simp only[ak,aN]at hmay;obtain⟨hmay,rfl⟩:=hmay;split at h
    .rename_i l' nY;cases h;obtain⟨he,hc⟩:=bT nY;subst he;have hc:l=l':=hc;subst hc;obtain⟨g1,⟨g0,g,g2,g2'⟩,g3⟩:=hr.row id _ hg;cases hx with
     |rH _ _ _ _ i0 c0 s0 hρ g' hg' hcc KU =>
      rw[g2]at hg';cases hg';rcases g3 with⟨_,g5,_⟩|⟨i',cap,b,mid,post,q1,q2,q3,q4,q5,q6,q7,q8,q9,xV⟩
      .rw[hρ]at g5;cases g5
      rw[hρ]at q1;cases q1;obtain⟨c1,c2,e1,k1,k2⟩:=q5.split (λx c=>CR.length e' x c) len;have hlen:(l.take len).length=len:=by simp;omega
      have hcap:KS=c0:=by have:=(q9 rfl).2.2;omega
      subst hcap;have:=yO.row (S:=S) (H:=H) (E:=E) (te:=t') (e:=e') (old:=l.take len) id _ i0 KS b c1 (c2++post) hg rfl hρ q2 (hr.lk id _ _ hg (by simpa[aH.nH,br] using hmay) hρ) (by rw[q4,e1];simp) k1 q6 (by omega) q8 q3 (xV.2.elim λl2 h2=>⟨_,k2.append h2⟩);rw[hlen]at this;rw[ox];exact this
    cases h
   cases h
  cases h
 cases h
theorem kX {S:Wo}{H:aH}{E':Mem}{te:TypeId}{e:Ty}{l:List e.den}{i cap:Nat}{b:jz}{mid post:List Value}{fx:Bool}(hr:∀v,S.Γ H.next v=none)(hb:alive E' i=some b)(hel:b.elem=te)(hc:b.cells=mid++post)(hC:mM (CR S.F e) l mid)(hn:b.cells.length=cap*e.size)(hl:l.length<=cap)(hcap:cap<=2000000)(hx:fx=true->b.fix=true/\post=[]/\l.length=cap) (T4:∃l2,mM (CR S.F e) l2 post:=by exact⟨[],rfl⟩) :
 oS (S.new H.next (some (i,cap,e.size)) (some ⟨e,l⟩)) E' H.next (.list te e l 0 fx false):=by
 refine⟨ag ⟨rfl,rfl⟩,⟨λv hv=>?_,⟨e,l⟩,ag ⟨rfl,rfl⟩,rfl⟩,.inr ⟨i,cap,b,mid,post,ag rfl,hb,hel,hc,hC,hn,hl,hcap,hx,λh=>(by cases h),T4⟩⟩;show (if H.next=H.next/\v=0 then some _ else S.Γ H.next v)=none;rw[aa (by omega)];exact hr v
theorem kY {S:Wo}{H:aH}{E':Mem}{te:TypeId}{e:Ty}(hr:∀v,S.Γ H.next v=none):oS (S.new H.next none (some ⟨e,([]:List e.den)⟩)) E' H.next (.list te e [] 0 false false):=by
 refine⟨ag ⟨rfl,rfl⟩,⟨λv hv=>?_,⟨e,[]⟩,ag ⟨rfl,rfl⟩,rfl⟩,.inl ⟨rfl,ag rfl,rfl⟩⟩;show (if H.next=H.next/\v=0 then some _ else S.Γ H.next v)=none;rw[aa (by omega)];exact hr v
theorem KX {S:Wo}{E:Mem}(hr:Rel S H E){st xt te:TypeId}{inf:TypeInfo}{z:Value}{e:Ty}{old new:List e.den}{H':aH}{s' x':Value}(hu:X.P.underlying st=some (.slice te))(MK:Ev.lA X.P xt=true)(hi:X.P.info? te=some inf)(hz:Ev.l7 X.P te=some z)
 (hsz:inf.size=e.size) (h0:inf.size≠0) (hb0:inf.bytes≠0) (xS:inf.bytes<=100000) (hzc:z.cells.size=inf.size) (UD:old.length+new.length<=2000000)
 (hlen:Ev.vI x'=some new.length) (hnew:∃c,Ev.iH E e.size new.length x'=some c/\mM (CR S.F e) new c) (hbase:yO S H E te e old H' s') :
 ∃S' vE E',Ev.rA X.P E st xt s' x'=some (vE,E')/\S.le S'/\VR S' (.own H'.next (old.length+new.length)) vE/\Rel S' (H'.push (.list te e (old++new) 0 false false)) E'/\St S H E S' (H'.push (.list te e (old++new) 0 false false)) E':=by
 obtain⟨nc,hn1,hn2⟩:=hnew;have hR:∀x c,CR S.F e x c->c.length=e.size:=λx c=>CR.length e x c
 have UE:=hn2.length hR;have od:∀v,S.Γ H.next v=none:=λv=>hr.CE _ _ (aG _)
 have aiU:0<e.size:=by omega
 -- the evaluator's own tests
 have vM:∀(base:Option Addr) (sLen sCap:Nat) (oc:List Value),Ev.iH E e.size sLen (.slice base sLen sCap)=some oc->sLen=old.length->sCap<=2000000 ->
  Ev.rA X.P E st xt (.slice base sLen sCap) x'=(if sLen+new.length<=sCap then
   match base with
   |some ⟨b,off,none⟩=>(Ev.iw E b (off+sLen*inf.size) nc).map λH'=>(.slice base (sLen+new.length) sCap,H')
   |none=>if new.length=0 then some (.slice base sLen sCap,E) else none
   |_=>none
   else
    match base with
    |some ⟨b,off,none⟩ =>
     if off=0/\oc.length=sLen*inf.size/\(alive E b).any (λk=>decide (k.cells.length=sCap*inf.size)&&(k.elem==te)) then
      match Ev.kill E b with
      |some H1=>Ev.kL H1 te (oc++nc) (sLen+new.length) (sLen+new.length)
      |none=>none
     else none
    |none=>Ev.kL E te (oc++nc) (sLen+new.length) (sLen+new.length)
    |_=>none):=by
  intro base sLen sCap oc hoc hsl hcap;unfold Ev.rA;simp only[hu,MK,hi,hz,hlen];rw[hsz,hn1,hoc];simp only;have hcond:¬(e.size=0\/inf.bytes=0\/inf.bytes>100000\/sLen+new.length>2000000\/sCap>2000000\/z.cells.size≠e.size\/(!nc.all Ev.plainCell)=true):=by
   rw[hn2.plain];simp;omega
  rw[aa hcond];rfl
 -- a new row of the evaluator's
 have fresh:∀(E1:Mem),E1.size=E.size->E1.lk=E.lk->∀(oc:List Value),mM (CR S.F e) old oc ->
  ∃E',Ev.kL E1 te (oc++nc) (old.length+new.length) (old.length+new.length)=some (.slice (some ⟨E.size,0,none⟩) (old.length+new.length) (old.length+new.length),E')/\E.size<=E'.size/\E'.lk=E.lk/\(∀j,j<E.size->E'.get j=E1.get j) /\
   oS (S.new H.next (some (E.size,old.length+new.length,e.size)) (some ⟨e,old++new⟩)) E' H.next (.list te e (old++new) 0 false false)/\VR (S.new H.next (some (E.size,old.length+new.length,e.size)) (some ⟨e,old++new⟩)) (.own H.next (old.length+new.length)) (.slice (some ⟨E.size,0,none⟩) (old.length+new.length) (old.length+new.length)):=by
  intro E1 h1 h2 oc hoc;obtain⟨E',hE⟩:=Mem.lU E1 ⟨oc++nc,te,true,false⟩;obtain⟨p1,p2,p3⟩:=Ev.Mem.dL hE;refine⟨E',?_,by omega,by omega,λj hj=>by rw[p3,aa (by omega)],?_,?_⟩
  .unfold Ev.kL;rw[hE];simp only[h1]
  .refine kX (b:=⟨oc++nc,te,true,false⟩) (mid:=oc++nc) (post:=[]) od (sv (by rw[p3,ag h1.symm]) rfl) rfl (by simp) (hoc.append hn2) ?_ (by simp) UD (λh=>by cases h);simp only[aA,UE,hoc.length hR,de]
  exact .own _ _ _ _ e.size (ag rfl) ⟨e,old++new⟩ (ag ⟨rfl,rfl⟩) (by simp)
 cases hbase with
 |nil ho =>
  subst ho;rw[vM none 0 0 [] (by simp[Ev.iH]) rfl (by omega)];by_cases hn:new.length=0
  .have zH:new=[]:=aQ.1 hn;subst zH;obtain⟨a1,a2,a3⟩:=hr.add (r:=.list te e ([]++[]) 0 false false) (x:=none) (g:=some ⟨e,[]⟩) (aG _) rfl (λ_ _=>rfl) (λr' h=>by cases h;exact kY od) (λy h=>by cases h) rfl;exact⟨_,_,E,by simp,a1,.fY _ ⟨e,[]⟩ (ag ⟨rfl,rfl⟩) rfl,a2,a3⟩
  obtain⟨E',e1,e2,e3,e4,e5,e6⟩:=fresh E rfl rfl [] rfl;obtain⟨a1,a2,a3⟩:=hr.add (r:=.list te e ([]++new) 0 false false) (x:=some (E.size,([]:List e.den).length+new.length,e.size)) (g:=some ⟨e,[]++new⟩) e2 e3 e4 (λr' h=>by cases h;exact e5) (λy h=>by cases h;exact aG _) rfl;refine⟨_,_,E',?_,a1,e6,a2,a3⟩;rw[aa (by omega)];exact e1
 |UB id r0 hg hro ho =>
  subst ho;have PT:(H.put id .dead).next=H.next:=(aH.gq H id .dead).1
  rw[vM none 0 0 [] (by simp[Ev.iH]) rfl (by omega),PT];by_cases hn:new.length=0
  .have zH:new=[]:=aQ.1 hn;subst zH;obtain⟨a1,a2,a3⟩:=hr.move (E':=E) (r:=.list te e ([]++[]) 0 false false) (x:=none) (g:=some ⟨e,[]⟩) hg hro (aG _) rfl (λ_ _ _=>rfl) (λy h=>by cases h) (λr' h=>by cases h;exact kY od) rfl;exact⟨_,_,E,by simp,a1,.fY _ ⟨e,[]⟩ (ag ⟨rfl,rfl⟩) rfl,a2,a3⟩
  obtain⟨E',e1,e2,e3,e4,e5,e6⟩:=fresh E rfl rfl [] rfl;obtain⟨a1,a2,a3⟩:=hr.move (E':=E') (r:=.list te e ([]++new) 0 false false) (x:=some (E.size,([]:List e.den).length+new.length,e.size)) (g:=some ⟨e,[]++new⟩) hg hro e2 e3 (λj hj _=>e4 j hj) (λy h=>by cases h;exact .inl (aG _)) (λr' h=>by cases h;exact e5) rfl;refine⟨_,_,E',?_,a1,e6,a2,a3⟩;rw[aa (by omega)];exact e1
 |row id r0 i cap b mid post hg hro hρ hb hlk hc hC hn hl hcap hel T4 =>
  have PT:(H.put id .dead).next=H.next:=(aH.gq H id .dead).1
  have hml:=hC.length hR;obtain⟨oc,ho1,CW⟩:=zV (pre:=[]) hR (λ_ _ h=>h.oG) hb (by simpa using hc) hC 0 old.length (by omega);have hoc:Ev.iH E e.size old.length (.slice (some ⟨i,0,none⟩) old.length cap)=some oc:=by simpa[Ev.iH] using ho1
  have ho3:mM (CR S.F e) old oc:=by simpa using CW
  rw[vM _ _ _ oc hoc rfl hcap,PT];by_cases hroom:old.length+new.length<=cap
  .rw[ag hroom];have hbound:0+old.length*inf.size+nc.length<=b.cells.length:=by
    rw[UE,hn,hsz,bW,<-de];exact dR _ hroom
   obtain⟨E',w1,w2,w3,b',w4,w5,w6,w7,w8⟩:=qq hb hlk hbound hn2.plain;have hcells:b'.cells=(mid++nc)++post.drop nc.length:=by
    rw[w5,hc];have hoff:0+old.length*inf.size=mid.length:=by rw[hml,hsz];omega
    rw[hoff];have hpl:nc.length<=post.length:=by
     have:b.cells.length=mid.length+post.length:=by rw[hc];simp
     omega
    have:=D9 mid post [] nc 0 (by omega);simp only[eO,ou]at this;rw[this,xF nc post 0 (by omega)];simp
   have hb'len:b'.cells.length=cap*e.size:=by rw[w5,qG,hn]
   have ad5:∃l2,mM (CR S.F e) l2 (post.drop nc.length):=by
    obtain⟨l2,CA⟩:=T4;obtain⟨a,bb,e1,f1,f2⟩:=CA.split hR new.length;have h1:=CA.length hR;have h2:=f1.length hR;have hpl:new.length*e.size<=l2.length*e.size:=by
     have:b.cells.length=mid.length+post.length:=by rw[hc];simp
     have JK:0+old.length*inf.size+nc.length<=b.cells.length:=hbound;rw[hsz]at JK;rw[<-h1];omega
    have hle:=Nat.le_of_mul_le_mul_right hpl aiU;rw[bZ,gm hle]at h2;have key:post.drop nc.length=bb:=by rw[e1,UE,<-h2];simp
    rw[key];exact⟨_,f2⟩
   obtain⟨a1,a2,a3⟩:=hr.move (E':=E') (r:=.list te e (old++new) 0 false false) (x:=some (i,cap,e.size)) (g:=some ⟨e,old++new⟩) hg hro (by omega) w3 (λj hj hne=>w8 j (hne _ hρ)) (λy h=>by cases h;exact .inr ⟨_,hρ,rfl,hlk⟩)
    (λr' h=>by
     cases h;exact kX od w4 (by rw[w6,hel]) hcells (hC.append hn2) hb'len (by simpa using hroom) hcap (λh=>by cases h) ad5) rfl
   refine⟨_,_,E',by simp only[w1,bK],a1,.own _ _ i cap e.size (ag rfl) ⟨e,old++new⟩ (ag ⟨rfl,rfl⟩) (by simp),a2,a3⟩
  rw[aa hroom];have hcond:(True/\oc.length=old.length*inf.size/\(alive E i).any (λk=>decide (k.cells.length=cap*inf.size)&&(k.elem==te))=true):=by
   refine⟨trivial,by rw[ho3.length hR,hsz],?_⟩;rw[hb];simp[hn,hsz,hel]
  simp only;rw[ag hcond];obtain⟨hgi,AP⟩:=dD hb;obtain⟨E1,hE1⟩:=Mem.iS (b:={ b with live:=false,fix:=false }) (kW hb) hlk;obtain⟨_,_,s3,s4,s5⟩:=Ev.Mem.kP hE1;have fe:Ev.kill E i=some E1:=by unfold Ev.kill;rw[hgi];exact hE1
  rw[fe];obtain⟨E',e1,e2,e3,e4,e5,e6⟩:=fresh E1 s3 s4 oc ho3;obtain⟨a1,a2,a3⟩:=hr.move (E':=E') (r:=.list te e (old++new) 0 false false) (x:=some (E.size,old.length+new.length,e.size)) (g:=some ⟨e,old++new⟩) hg hro e2 e3 (λj hj hne=>by rw[e4 j hj,s5,aa (hne _ hρ)]) (λy h=>by cases h;exact .inl (aG _)) (λr' h=>by cases h;exact e5) rfl;exact⟨_,_,E',e1,a1,e6,a2,a3⟩
theorem NK {c:Call}{s x:Operand}{st xt:TypeId}(hop:o.op = .call c)(hc:c.callee = .builtin .append)(h0:c.args[0]? = some s)(h1:c.args[1]? = some x)(h2:c.argTypes[0]? = some st)(h3:c.argTypes[1]? = some xt){k:AV->aH->Option β}(h:Ii X H st xt (ev s) (ev x) k=some r) :
 ∃v H',k v H'=some r/\eM X cf o ev H v H':=by
 unfold Ii at h;split at h
 .rename_i te hu MK;split at h
  .rename_i inf z e hi hz hty;rw[av]at h;split at h
   .rename_i hcs;simp only[ak,aN,br,aS]at hcs;obtain⟨⟨⟨⟨c1,c2⟩,c3⟩,c4⟩,c5⟩:=hcs;split at h
    .rename_i new old H' hv hb;rw[av]at h;split at h
     .rename_i UD;have UD:=az UD;refine⟨_,_,h,λS E bA hr cj=>?_⟩;rw[hop]at cj;have mem:∀(y:Operand) (j:Nat),c.args[j]? = some y->y∈(Op.call c).operands:=λy j hy=>by
       have:=aX hy;simp only[Op.operands,Call.operands,hc];simpa using this
      have hs:=cj s (mem s 0 h0);have hx:=cj x (mem x 1 h1);obtain⟨l1,l2⟩:=D7 hr hv hx;obtain⟨nc,n1,n2⟩:=l2 new.length (aG _);rw[kD]at n2;obtain⟨S',vE,E',a1,a2,a3,a4,a5⟩:=KX (X:=X) hr hu MK hi hz c1 (aiT c2) (aiT c3) c4 c5 UD l1 ⟨nc,n1,n2⟩ (UC hr hb hs);refine⟨S',vE,E',⟨0,λ_ _=>?_⟩,a2,a3,a4,a5⟩;unfold jl;rw[hop];show Ev.eo X.P _ bA o c E=_;unfold Ev.eo;rw[hc];show Ev.r9 X.P bA c.args c.argTypes E=_;unfold Ev.r9;rw[h0,h1,h2,h3];exact a1
     cases h
    cases h
   cases h
  cases h
 cases h
theorem RP {t:TypeId}{x y:Operand}(hop:o.op = .slice t x none (some y) none){k:AV->aH->Option β}(h:Nz X H t (ev x) (ev y) k=some r):∃v H',k v H'=some r/\eM X cf o ev H v H':=by
 unfold Nz at h;split at h
 .rename_i te id n kb b hu hp hq;split at h
  .rename_i t' e l gu ex hg;rw[av]at h;split at h
   .rename_i hs;simp only[ak]at hs;obtain⟨hs,hmay⟩:=hs;have hs:=D8 hs;rw[av]at h;split at h
    .rename_i hb;have hb:=ad2 hb;refine⟨_,_,h,λS E bA hr cj=>?_⟩;rw[hop]at cj;obtain⟨hx,hlo,hhi⟩:=p6 cj;rw[hp]at hx;have od:∀v,S.Γ H.next v=none:=λv=>hr.CE _ _ (aG _)
     have PT:(H.put id .dead).next=H.next:=(aH.gq H id .dead).1
     obtain⟨g1,⟨g0,g,g2,g2'⟩,g3⟩:=hr.row id _ hg;generalize hA:bA x=A at hx;have ha:BR ev 0 none 0:=.none;have hbr:∀len:Nat,BR ev len (some y) b:=λlen=>.some y kb b hq
     cases hx with
     |own _ _ i0 p5 s0 hρ g' hg' hn' =>
      rw[g2]at hg';cases hg';rcases g3 with⟨_,g5,_⟩|⟨i',cap,bk,mid,post,q1,q2,q3,q4,q5,q6,q7,q8,q9,xV⟩
      .rw[hρ]at g5;cases g5
      rw[hρ]at q1;cases q1;obtain⟨c1,c2,e1,k1,k2⟩:=q5.split (λx c=>CR.length e x c) b.toNat;have hlen:(l.take b.toNat).length=b.toNat:=by simp;omega
      obtain⟨a1,a2,a3⟩:=hr.move (E':=E) (r:=.list t' e (l.take b.toNat) 0 false false) (x:=some (i0,p5,e.size)) (g:=some ⟨e,l.take b.toNat⟩) hg rfl (aG _) rfl (λ_ _ _=>rfl) (λy h=>by cases h;exact .inr ⟨_,hρ,rfl,hr.lk id _ _ hg (by simpa[aH.nH,br] using hmay) hρ⟩)
       (λr' h=>by
        cases h;exact kX (mid:=c1) (post:=c2++post) od q2 q3 (by rw[q4,e1];simp) k1 q6 (by omega) q8 (λh=>by cases h) (xV.2.elim λl2 h2=>⟨_,k2.append h2⟩)) rfl
      refine⟨_,.slice (some ⟨i0,0,none⟩) b.toNat p5,E,⟨0,λ_ _=>lV hop hu ?_⟩,a1,.own _ _ i0 p5 e.size (ag rfl) ⟨e,l.take b.toNat⟩ (ag ⟨rfl,rfl⟩) hlen,a2,a3⟩;rw[hA];have:=oU (S:=S) (bA:=bA) hu hs ha (hbr n) (by omega) hb.1 (show b<=p5 by omega) hlo hhi (some ⟨i0,0,none⟩) (.inr ⟨_,_,rfl⟩) (by omega);rw[this];simp
     |fY _ g' hg' hn' =>
      rw[g2]at hg';cases hg';have h0:l=[]:=aQ.1 (by omega);subst h0;have hb0:b.toNat=0:=by simp at hb;omega
      obtain⟨a1,a2,a3⟩:=hr.move (E':=E) (r:=.list t' e (([]:List e.den).take b.toNat) 0 false false) (x:=none) (g:=some ⟨e,[]⟩) hg rfl (aG _) rfl (λ_ _ _=>rfl) (λy h=>by cases h) (λr' h=>by
       cases h;rw[List.take_nil];exact kY od) rfl
      refine⟨_,.slice none 0 0,E,⟨0,λ_ _=>lV hop hu ?_⟩,a1,by rw[hb0];exact .fY _ ⟨e,[]⟩ (ag ⟨rfl,rfl⟩) rfl,a2,a3⟩;rw[hA];have:=oU (S:=S) (bA:=bA) hu hs ha (hbr 0) (by omega) hb.1 (show b<=(0:Nat) by simp at hb;omega) hlo hhi none (.inl rfl) (by omega);rw[this];simp[hb0]
    cases h
   cases h
  cases h
 .rename_i te kb b hu hp hq;refine Bd (lo:=none) (hi:=some y) hop ?_;rw[hp];simp only[eR,bK,hq];exact h
 cases h
theorem UF {c:Call}{d x:Operand}{dt:TypeId}(hop:o.op = .call c)(hc:c.callee = .builtin .copy)(h0:c.args[0]? = some d)(h1:c.args[1]? = some x)(h2:c.argTypes[0]? = some dt){k:AV->aH->Option β}(h:Um X H dt (ev d) (ev x) k=some r) :
 ∃v H',k v H'=some r/\eM X cf o ev H v H':=by
 unfold Um at h;split at h
 .rename_i te id off len KS hu hd;split at h
  .rename_i t' e l gu s hg hs;rw[av]at h;split at h
   .rename_i hcs;simp only[ak,aN]at hcs;obtain⟨hmay,rfl⟩:=hcs;split at h
    .rename_i new hv;refine⟨_,_,h,λS E bA hr cj=>?_⟩;rw[hop]at cj;have mem:∀(y:Operand) (j:Nat),c.args[j]? = some y->y∈(Op.call c).operands:=λy j hy=>by
      have:=aX hy;simp only[Op.operands,Call.operands,hc];simpa using this
     have hdd:=cj d (mem d 0 h0);have hx:=cj x (mem x 1 h1);rw[hd]at hdd;generalize hA:bA d=A at hdd;obtain⟨l1,l2⟩:=D7 hr hv hx;obtain⟨nc,n1,n2⟩:=l2 (Nat.min new.length len) (Nat.min_le_left _ _);obtain⟨g1,⟨g0,g,g2,g2'⟩,g3⟩:=hr.row id _ hg;cases hdd with
     |rH _ _ _ _ i0 c0 s0 hρ g' hg' hcc KU =>
      rw[g2]at hg';cases hg';rcases g3 with⟨_,g5,_⟩|⟨i',cap,b,mid,post,q1,q2,q3,q4,q5,q6,q7,q8,q9,xV⟩
      .rw[hρ]at g5;cases g5
      rw[hρ]at q1;cases q1;have hR:∀x c,CR S.F e x c->c.length=e.size:=λx c=>CR.length e x c
      obtain⟨_,hpost,hlc⟩:=q9 rfl;subst hpost;rw[eO]at q4;have UE:=n2.length hR;have hmin:(new.take (Nat.min new.length len)).length=Nat.min new.length len:=by simp
      have hml:Nat.min new.length len<=len:=Nat.min_le_right _ _;have hlk:=hr.lk id _ _ hg (by simpa[aH.nH,br] using hmay) hρ;have hbound:off*e.size+nc.length<=b.cells.length:=by
       rw[UE,hmin,q6,<-de];exact dR _ (by omega)
      obtain⟨E',w1,w2,w3,b',w4,w5,w6,w7,w8⟩:=qq q2 hlk hbound n2.plain;have hput:=mM.put hR q5 n2 (off:=off) (by rw[hmin];omega);obtain⟨z1,z2,z3⟩:=hr.rewrite hg hρ q2 w2 w3 w8 w4 w6 w7 (mid:=mc mid (off*e.size) nc) (post:=[]) (by rw[w5,q4];simp) (by rw[w5,qG]) hput (qG _ _ _) (λ_=>rfl) ⟨[],rfl⟩;refine⟨_,goInt (Nat.min new.length len),E',⟨0,λ_ _=>?_⟩,z1,.int _ _,z2,z3⟩;unfold jl;rw[hop];show Ev.eo X.P _ bA o c E=_;unfold Ev.eo;rw[hc];show Ev.AK X.P bA c.args c.argTypes E=_;unfold Ev.AK
      rw[h0,h1,h2];show Ev.FT X.P E dt (bA d) (bA x)=_;rw[hA];simp only[Ev.FT,hu,l1,hs,n1,w1,bK]
    cases h
   cases h
  cases h
 cases h
end
end Go.Tv
namespace Go.Tv
open Go.Ev (Tr ah iD Mem jz alive av dD bF gC jl aY cD orElse)
theorem yP {S:Wo}:∀{v:Value},aY v=true->VR S (Nv v) v:=by
 intro v h;unfold Nv;split
 .exact .int _ _
 .exact .bool _
 .rename_i s;have:=VR.str (S:=S) s.data.toList;obtain⟨⟨l⟩⟩:=s;exact this
 .exact .pZ _
 .exact .nX
 .exact .dg
 exact .zR _ h
theorem Bf:∀{l:List Value},Ev.cF l=true->∀v∈l,aY v=true
 |[],_,v,hv=>by simp at hv
 |x::l,h,v,hv=>by
  simp only[Ev.cF,ak]at h;rcases bw.1 hv with rfl|hv
  .exact h.1
  exact Bf h.2 v hv
theorem yQ {z:Value}(h:aY z=true):∀v∈z.cells.toList,aY v=true:=by
 cases z with
 |agg cs =>
  have h':Ev.cF cs.toList=true:=by
   obtain⟨l⟩:=cs;simpa[Ev.aY,Ev.mw] using h
  exact Bf h'
 |_=>intro v hv;simp[Value.cells]at hv;subst hv;exact h
theorem yR {P:Program}{t:TypeId}{z:Value}(h:Ev.l7 P t=some z):aY z=true/\∃i,P.info? t=some i/\i.zero=some z:=by
 unfold Ev.l7 at h;split at h
 .rename_i i hi;split at h
  .rename_i z' hz;split at h
   .rename_i hf;cases h;exact⟨hf,i,hi,hz⟩
   cases h
  cases h
 cases h
theorem ni {X:gU}{S:Wo}{t:TypeId}{z:List AV}(h:Cb X t=some z):∃zv,Ev.l7 X.P t=some zv/\LV S z zv.cells.toList:=by
 unfold Cb at h;split at h
 .rename_i zv hz;cases h;refine⟨zv,hz,?_⟩;have:=LV.map (S:=S) (f:=Nv) (g:=λv=>v) zv.cells.toList λv hv=>yP (yQ (yR hz).1 v hv)
  simpa using this
 cases h
section
variable {X:gU} {cf:Nat×Nat->Ev.cH} {o:Oper} {ev:Operand->AV} {H:aH} {β:Type} {r:β}
theorem Gm {S:Wo}{E:Mem}(hr:Rel S H E){t:TypeId}{cs:List AV}{C:List Value}(hl:LV S cs C) :
 ∃S' E',Ev.uH E t C=some (.pointer (some ⟨E.size,0,none⟩),E')/\S.le S'/\VR S' (.ptr H.next 0) (.pointer (some ⟨E.size,0,none⟩))/\Rel S' (H.push (.cells t cs)) E'/\St S H E S' (H.push (.cells t cs)) E':=by
 obtain⟨E',hE⟩:=Mem.lU E ⟨C,t,true,true⟩;obtain⟨p1,p2,p3⟩:=Ev.Mem.dL hE;have hle:=Wo.Iw hr (some (E.size,0,0)) none;obtain⟨a1,a2,a3⟩:=hr.add (E':=E') (r:=.cells t cs) (x:=some (E.size,0,0)) (g:=none) (by omega) p2 (λj hj=>by rw[p3,aa (by omega)]) (λr' h=>by
  cases h;exact⟨E.size,0,0,⟨C,t,true,true⟩,ag rfl,sv (by rw[p3,ag rfl]) rfl,hl.mono hle,rfl,rfl⟩) (λy h=>by cases h;exact aG _) rfl
 exact⟨_,E',by unfold Ev.uH;rw[hE],a1,.ptr _ _ E.size 0 0 (ag rfl),a2,a3⟩
theorem RQ {t:TypeId}{z:List AV}(hop:o.op = .alloc t)(hz:Cb X t=some z):eM X cf o ev H (.ptr H.next 0) (H.push (.cells t z)):=by
 intro S E bA hr cj;obtain⟨zv,h1,h2⟩:=ni (S:=S) hz;obtain⟨S',E',k1,k2,k3,k4,k5⟩:=Gm (t:=t) hr h2;refine⟨S',_,E',⟨0,λ_ _=>?_⟩,k2,k3,k4,k5⟩;unfold jl;rw[hop];show Ev.rB X.P t E=_;unfold Ev.rB;rw[h1];exact k1
theorem RR {t:TypeId}(hop:o.op = .alloc t){k:AV->aH->Option β}(h:NB X H t k=some r):∃v H',k v H'=some r/\eM X cf o ev H v H':=by
 unfold NB at h;split at h
 .rename_i z n te hz hu;split at h
  .rename_i e hty;split at h
   .rename_i l hun;rw[av]at h;split at h
    .rename_i hn;have hn:n<=2000000:=az hn;refine⟨_,_,h,λS E bA hr cj=>?_⟩;obtain⟨zv,h1,h2⟩:=ni (S:=S) hz;obtain⟨hC,hlen⟩:=uY e n hun h2;have nY:=hC.length (λx c=>CR.length e x c);have od:∀v,S.Γ H.next v=none:=λv=>hr.CE _ _ (aG _)
     obtain⟨E',hE⟩:=Mem.lU E ⟨zv.cells.toList,t,true,true⟩;obtain⟨p1,p2,p3⟩:=Ev.Mem.dL hE;obtain⟨a1,a2,a3⟩:=hr.add (E':=E') (r:=.list t e l 0 true false) (x:=some (E.size,n,e.size)) (g:=some ⟨e,l⟩) (by omega) p2 (λj hj=>by rw[p3,aa (by omega)]) (λr' h=>by
      cases h;exact kX (b:=⟨zv.cells.toList,t,true,true⟩) (mid:=zv.cells.toList) (post:=[]) od (sv (by rw[p3,ag rfl]) rfl) rfl (by simp) hC (by rw[<-hlen];exact nY) (by omega) hn (λ_=>⟨rfl,rfl,hlen⟩)) (λy h=>by cases h;exact aG _) rfl
     refine⟨_,.pointer (some ⟨E.size,0,none⟩),E',⟨0,λ_ _=>?_⟩,a1,.D1 _ _ E.size n e.size (ag rfl) ⟨e,l⟩ (ag ⟨rfl,rfl⟩) hlen,a2,a3⟩;unfold jl;rw[hop];show Ev.rB X.P t E=_;unfold Ev.rB;rw[h1];show Ev.uH E t zv.cells.toList=_;unfold Ev.uH;rw[hE]
    cases h
   cases h
  cases h
 cases h
theorem Zd {t:TypeId}{x:Operand}{n:Nat}{cs:List AV}(hop:o.op = .box t x)(hn:Ev.cP X.P t=some n)(hc:D2 (ev x)=some cs):eM X cf o ev H (.ptr H.next 0) (H.push (.cells t cs)):=by
 intro S E bA hr cj;rw[hop]at cj;have hx:=cj x (by simp[Op.operands]);obtain⟨S',E',k1,k2,k3,k4,k5⟩:=Gm (t:=t) hr (xG hx hc);refine⟨S',_,E',⟨0,λ_ _=>?_⟩,k2,k3,k4,k5⟩;unfold jl;rw[hop];show Ev.FU X.P t (bA x) E=_;unfold Ev.FU;rw[hn];exact k1
theorem KY:∀(xs:List Value) (C:Array Value) (off k:Nat),(xs.zipIdx k).foldl (λcs (c:Value×Nat)=>cs.setIfInBounds (off+c.2) c.1) C=(mc C.toList (off+k) xs).toArray
 |[],C,off,k=>by simp[mc]
 |x::xs,C,off,k=>by
  rw[List.zipIdx_cons,gk,KY xs _ off (k+1)];simp only[Array.toList_setIfInBounds];rfl
theorem zW {S:Wo}{place:Nat->Option (Nat×Nat)}:∀{parts:List (Nat×AV)} {Bg:List (Nat×Value)} {cells cs:List AV} {C:Array Value},LV S cells C.toList->parts.length=Bg.length->(∀(j:Nat) a b,parts[j]? = some a->Bg[j]? = some b->a.1=b.1/\VR S a.2 b.2)->D4 place cells parts=some cs ->
 ∃C',Instr.fill place C Bg=some C'/\LV S cs C'.toList
 |[],Bg,cells,cs,C,hl,hlen,_,h=>by
  have:Bg=[]:=aQ.1 hlen.symm;subst this;simp only[D4,aq]at h;subst h;exact⟨C,rfl,hl⟩
 |(i,v)::parts,[],cells,cs,C,hl,hlen,_,h=>by simp at hlen
 |(i,v)::parts,(i',x)::Bg,cells,cs,C,hl,hlen,hp,h=>by
  obtain⟨rfl,hv⟩:=hp 0 _ _ rfl rfl;simp only[D4]at h;split at h
  .rename_i off size vs hpl hvs;rw[av]at h;split at h
   .rename_i hc;simp only[ak,aN,br]at hc;obtain⟨h1,h2⟩:=hc;have nY:=xG hv hvs;have hsz:x.cells.size=size:=by have:=nY.1;simp at this;omega
    have h2':off+vs.length<=cells.length:=h2;unfold Instr.fill;simp only[hpl];have hcond:¬((decide (x.cells.size≠size)||decide (off+x.cells.size>C.size))=true):=by
     have hcs:cells.length=C.size:=by have:=hl.1;simpa using this
     simp;omega
    rw[aa hcond];have aiV:(x.cells.zipIdx.foldl (λcs (c:Value×Nat)=>cs.setIfInBounds (off+c.2) c.1) C)=(mc C.toList off x.cells.toList).toArray:=by
     rw[<-Array.foldl_toList,Array.toList_zipIdx];exact KY _ _ off 0
    have hl':LV S (mc cells off vs) ((mc C.toList off x.cells.toList).toArray).toList:=by
     rw[<-tc];exact LV.mc vs _ off nY hl
    have:=zW (C:=(mc C.toList off x.cells.toList).toArray) hl' (by simpa using hlen) (λj a b ha hb=>hp (j+1) a b (by simpa using ha) (by simpa using hb)) h;rw[<-aiV]at this;exact this
   cases h
  cases h
theorem Bh {ps:Array (Nat×Operand)}{S:Wo}{bA:Operand->Value}(cj:∀x∈(ps.toList.map (·.2)).toArray,VR S (ev x) (bA x)):(wz ev ps).length=(Ev.nR bA ps).length/\∀(j:Nat) a b,(wz ev ps)[j]? = some a->(Ev.nR bA ps)[j]? = some b->a.1=b.1/\VR S a.2 b.2:=by
 refine⟨by simp[wz,Ev.nR],λj a b ha hb=>?_⟩;simp only[wz,Ev.nR,cA,aK]at ha hb;obtain⟨q,h1,rfl⟩:=ha;obtain⟨q',h2,rfl⟩:=hb;rw[h1]at h2;cases h2;refine⟨rfl,cj q.2 ?_⟩;have:=bg h1;simp only[List.mem_toArray,bJ];exact⟨q,this,rfl⟩
theorem Cf {P:Program}:∀{fs:List Field} {pl:List (Nat×Nat)},placesOf P fs=some pl->fs.mapM (λf=>(P.info? f.type).map λi=>(f.offset,i.size))=some pl
 |[],pl,h=>by simp[placesOf]at h;subst h;rfl
 |f::fs,pl,h=>by
  simp only[placesOf]at h;split at h
  .rename_i i l hi hl;cases h;have:=Cf hl;simp only[List.mapM_cons,hi,bK,this];rfl
  cases h
theorem RU {t:TypeId}{ps:Array (Nat×Operand)}(hop:o.op = .build t ps){k:AV->Option β}(h:NF X t (wz ev ps) k=some r):∃v,k v=some r/\eM X cf o ev H v H:=by
 have fin:∀cs,(∀S bA,(∀x∈(ps.toList.map (·.2)).toArray,VR S (ev x) (bA x))->∃C,X.P.built t (Ev.nR bA ps)=some C/\LV S cs C.toList)->(Ev.l7 X.P t).isSome=true->eM X cf o ev H (.agg cs) H:=λcs hb hz=>.quiet λS E bA hr cj=>by
  rw[hop]at cj;obtain⟨C,h1,h2⟩:=hb S bA cj;have hC:C=C.toList.toArray:=by simp
  refine⟨.agg C,λcall=>?_,by rw[hC];exact .agg _ _ h2.1 h2.2⟩;unfold jl;rw[hop];show cD E (Ev.Dr X.P t (Ev.nR bA ps))=_;unfold Ev.Dr;rw[ag hz,h1];rfl
 unfold NF at h;split at h
 .rename_i z n e hz hu;split at h
  .rename_i ie YF;split at h
   .rename_i cs hf;obtain⟨zv,UG,_⟩:=ni (S:=⟨λ_=>none,λ_=>none,λ_ _=>none⟩) hz;obtain⟨_,it,hit,ad6⟩:=yR UG;refine⟨_,h,fin cs (λS bA cj=>?_) (by rw[UG];rfl)⟩;obtain⟨zv',hzv',hl⟩:=ni (S:=S) hz;rw[UG]at hzv';cases hzv';obtain⟨l1,l2⟩:=Bh cj;obtain⟨C',h1,h2⟩:=zW hl l1 l2 hf;refine⟨C',?_,h2⟩;unfold Program.built;rw[hit,hu];simp only[ad6,YF];exact h1
   cases h
  cases h
 .rename_i z fs hz hu;split at h
  .rename_i pl hpl;split at h
   .rename_i cs hf;obtain⟨zv,UG,_⟩:=ni (S:=⟨λ_=>none,λ_=>none,λ_ _=>none⟩) hz;obtain⟨_,it,hit,ad6⟩:=yR UG;refine⟨_,h,fin cs (λS bA cj=>?_) (by rw[UG];rfl)⟩;obtain⟨zv',hzv',hl⟩:=ni (S:=S) hz;rw[UG]at hzv';cases hzv';obtain⟨l1,l2⟩:=Bh cj;obtain⟨C',h1,h2⟩:=zW hl l1 l2 hf;refine⟨C',?_,h2⟩;unfold Program.built;rw[hit,hu];simp only[ad6,Cf hpl];have:(λx:Nat=>pl.toArray[x]?)=λi:Nat=>pl[i]? := by funext i;simp
    rw[this];exact h1
   cases h
  cases h
 cases h
theorem Ea (z:Array Value)(hz:0<z.size):∀n,(List.range (n*z.size)).map (λi=>z[i%z.size]!)=(List.replicate n z.toList).flatten
 |0=>by simp
 |n+1=>by
  rw[List.replicate_succ',List.flatten_append,<-Ea z hz n,Nat.succ_mul,List.range_add,ei];congr 1
  simp only[oq,j7,List.flatten_nil,eO];apply List.ext_getElem
  .simp
  intro j h1 h2;simp only[cz,List.length_range]at h1;simp only[List.getElem_map,List.getElem_range,Function.comp_apply];have:(n*z.size+j)%z.size=j:=by
   rw[l5,Nat.add_mul_mod_self_right,gR h1]
  rw[this,getElem!_pos z j h1];simp
theorem PU {S:Wo}{z:List AV}{C:List Value}(h:LV S z C):∀n,LV S (adQ n z) (List.replicate n C).flatten
 |0=>LV.nil
 |n+1=>by
  show LV S (z++adQ n z) _;rw[ji,j7];exact h.append (PU h n)
theorem KZ {S:Wo}{e:Ty}{x:e.den}{C:List Value}(h:CR S.F e x C):∀n,mM (CR S.F e) (List.replicate n x) (List.replicate n C).flatten
 |0=>rfl
 |n+1=>by
  rw[ji,ji,j7];exact⟨C,_,rfl,h,KZ h n⟩
theorem Gn {P:Program}{e:TypeId}{s n:Nat}{z:Value}(hs:Ev.cP P e=some s)(hz:Ev.l7 P e=some z)(hl:z.cells.size=s):∃zs,Ev.uJ P e n=some zs/\zs.toList=(List.replicate n z.cells.toList).flatten:=by
 unfold Ev.uJ;rw[hs,hz];simp only;by_cases h0:n*s=0
 .rw[ag h0];refine⟨#[],rfl,?_⟩;rcases Nat.mul_eq_zero.1 h0 with rfl|h1
  .simp
  have:z.cells.toList=[]:=aQ.1 (by rw[lF,hl,h1]);rw[this];simp
 rw[aa h0];refine⟨_,rfl,?_⟩;have hpos:0<z.cells.size:=by
  rcases Nat.eq_zero_or_pos z.cells.size with h|h
  .rw[<-hl,h]at h0;simp at h0
  exact h
 rw[<-Ea z.cells hpos n,hl];simp
theorem UH {t:TypeId}{p q:Operand}(hop:o.op = .makeSlice t p q){k:AV->aH->Option β}(h:yI X H t (ev p) (ev q) k=some r):∃v H',k v H'=some r/\eM X cf o ev H v H':=by
 unfold yI at h;split at h
 .rename_i te kl l kc c hu hp hq;split at h
  .rename_i inf z e hi hz hty;split at h
   .rename_i x hun;rw[av]at h;split at h
    .rename_i hcs;simp only[ak,aN,br]at hcs;obtain⟨⟨c1,c2⟩,c3⟩:=hcs;rw[av]at h;split at h
     .rename_i hb;have hb:0<=l/\l<=c/\c<=2000000:=aiR (n:=2000000) hb;refine⟨_,_,h,λS E bA hr cj=>?_⟩;rw[hop]at cj;have hx:=cj p (by simp[Op.operands]);have hy:=cj q (by simp[Op.operands]);rw[hp]at hx;rw[hq]at hy;obtain⟨zv,UG,hzl⟩:=ni (S:=S) hz;have hs:Ev.cP X.P te=some inf.size:=by simp[Ev.cP,hi]
      have hzs:zv.cells.size=inf.size:=by have:=hzl.1;simp at this;omega
      obtain⟨zs,hz1,hz2⟩:=Gn (n:=c.toNat) hs UG hzs;obtain⟨cc,m',hm,hCR,zH⟩:=qF e hun hzl;have:=zH.jq;subst this;rw[eO]at hm;have od:∀v,S.Γ H.next v=none:=λv=>hr.CE _ _ (aG _)
      obtain⟨E',hE⟩:=Mem.lU E ⟨zs.toList,te,true,true⟩;obtain⟨p1,p2,p3⟩:=Ev.Mem.dL hE;have hC:mM (CR S.F e) (List.replicate c.toNat x) zs.toList:=by rw[hz2,hm];exact KZ hCR _
      have hlen:=hC.length (λx c=>CR.length e x c);rw[List.length_replicate]at hlen;obtain⟨a1,a2,a3⟩:=hr.add (E':=E') (r:=.list te e (List.replicate c.toNat x) 0 true false) (x:=some (E.size,c.toNat,e.size)) (g:=some ⟨e,List.replicate c.toNat x⟩) (by omega) p2 (λj hj=>by rw[p3,aa (by omega)]) (λr' h=>by
       cases h;exact kX (b:=⟨zs.toList,te,true,true⟩) (mid:=zs.toList) (post:=[]) od (sv (by rw[p3,ag rfl]) rfl) rfl (by simp) hC hlen (by simp) (by omega) (λ_=>⟨rfl,rfl,by simp⟩)) (λy h=>by cases h;exact aG _) rfl
      have hv:=VR.rH (S:=S.new H.next (some (E.size,c.toNat,e.size)) (some ⟨e,List.replicate c.toNat x⟩)) H.next 0 l.toNat c.toNat E.size c.toNat e.size (ag rfl) ⟨e,List.replicate c.toNat x⟩ (ag ⟨rfl,rfl⟩) (by simp) (by omega)
      rw[ox]at hv;refine⟨_,.slice (some ⟨E.size,0,none⟩) l.toNat c.toNat,E',⟨0,λ_ _=>?_⟩,a1,hv,a2,a3⟩;unfold jl;rw[hop];show Ev.pU X.P E t (bA p) (bA q)=_;rw[hx.fR,hy.fR];simp only[Ev.pU,hu,hi,hz1];rw[ag ⟨hb.1,hb.2.1,hb.2.2,c1⟩];unfold Ev.uI;rw[hE]
     cases h
    cases h
   cases h
  cases h
 cases h
theorem oI {S0:Wo}{H0:aH}{E:Mem}:∀{cs cs':List AV} {H H':aH} {S:Wo} {C:List Value},Rel S H E->S0.le S->St S0 H0 E S H E->LV S cs C->jn H cs=some (cs',H')->∃S',S0.le S'/\Rel S' H' E/\St S0 H0 E S' H' E/\LV S' cs' C/\S.le S'
 |[],cs',H,H',S,C,hr,h0,hst,hl,h=>by
  simp only[jn,aq,ax]at h;obtain⟨rfl,rfl⟩:=h;exact⟨S,h0,hr,hst,hl,S.le_refl⟩
 |v::cs,cs',H,H',S,C,hr,h0,hst,hl,h=>by
  obtain⟨x,C',rfl,h1,h2⟩:=hl.cons_inv;have plain:(∀id n,v ≠ .own id n)->(∀id a b c,v ≠ .rH id a b c)->∃S',S0.le S'/\Rel S' H' E/\St S0 H0 E S' H' E/\LV S' cs' (x::C')/\S.le S':=by
   intro hne am3;unfold jn at h;split at h
   .rename_i hh;cases hh
   .rename_i hh;cases hh;exact absurd rfl (hne _ _)
   .rename_i hh;cases hh;exact absurd rfl (am3 _ _ _ _)
   rename_i v' r' _ _ hh;cases hh;split at h
   .rename_i r'' H'' hf;cases h;obtain⟨S',k1,k2,k3,k4,k5⟩:=oI hr h0 hst h2 hf;exact⟨S',k1,k2,k3,LV.cons (h1.mono k5) k4,k5⟩
   cases h
  cases v with
  |own id n =>
   simp only[jn]at h;split at h
   .rename_i t e l gu ex ro hg;split at h
    .rename_i r'' H'' hf;cases h;obtain⟨S1,k1,k2,k3,k4⟩:=uZ hr hg;obtain⟨rfl,hv⟩:=k4 n x h1;have Ze:VR S1 (.dW e l) x:=by
      refine .dW e l x ?_;rcases hv with⟨rfl,rfl⟩|⟨i,mid,post,cap,rfl,hF,hC,hcap⟩
      .exact .inl ⟨rfl,.inl rfl⟩
      exact .inr ⟨i,[],mid,post,cap,rfl,by simpa using hF,hC,hcap⟩
     obtain⟨S',q1,q2,q3,q4,q5⟩:=oI k2 (Wo.le_trans h0 k1) (hst.trans k3) (h2.mono k1) hf;exact⟨S',q1,q2,q3,LV.cons (Ze.mono q5) q4,Wo.le_trans k1 q5⟩
    cases h
   cases h
  |rH id off len cap =>
   simp only[jn]at h;split at h
   .rename_i t e l gu ex ro hg;split at h
    .rename_i r'' H'' hf;cases h;obtain⟨S1,k1,k2,k3,k4⟩:=uZ hr hg;obtain⟨_,⟨_,g0,w1,w2⟩,w3⟩:=hr.row id _ hg;have Ze:VR S1 (.dW e ((l.drop off).take len)) x:=by
      cases h1 with
      |rH _ _ _ _ i c s hρ g UI hc hl' =>
       rw[w1]at UI;cases UI;have hs:s=e.size:=by
        rcases w3 with⟨_,g5,_⟩|⟨i',cap',b,mid,post,q1,_⟩
        .rw[hρ]at g5;cases g5
        rw[hρ]at q1;cases q1;rfl
       subst hs;obtain⟨_,hv⟩:=k4 g0.2.length _ (.own id _ i c e.size hρ g0 w1 rfl);rcases hv with⟨_,hv⟩|⟨i1,mid,post,KS,hv,hF,hC,hcap⟩
       .cases hv
       simp only[Value.slice.injEq,aq,Addr.mk.injEq]at hv;obtain⟨⟨rfl,_⟩,_,_⟩:=hv;obtain⟨a,b,rfl,ha,hb⟩:=hC.split (λx c=>CR.length e x c) off;obtain⟨b1,b2,rfl,xS,_⟩:=hb.split (λx c=>CR.length e x c) len;have hal:=ha.length (λx c=>CR.length e x c);have hlt:(l.take off).length=off:=by rw[bZ];omega
       have MW:((l.drop off).take len).length=len:=by rw[bZ,bR];omega
       refine .dW e _ _ (.inr ⟨i,a,b1,b2++post,cap,?_,?_,xS,by omega⟩)
       .rw[hal,hlt,MW]
       rw[hF];simp
     obtain⟨S',q1,q2,q3,q4,q5⟩:=oI k2 (Wo.le_trans h0 k1) (hst.trans k3) (h2.mono k1) hf;exact⟨S',q1,q2,q3,LV.cons (Ze.mono q5) q4,Wo.le_trans k1 q5⟩
    cases h
   cases h
  |_=>exact plain (λ_ _=>by simp) (λ_ _ _ _=>by simp)
theorem Eb {t:TypeId}{len:Nat}{ps:Array (Nat×Operand)}(hop:o.op = .buildSlice t len ps){k:AV->aH->Option β}(h:wA X H t len (wz ev ps) k=some r):∃v H',k v H'=some r/\eM X cf o ev H v H':=by
 unfold wA at h;split at h
 .rename_i te hu;split at h
  .rename_i s z e hs hz hty;rw[av]at h;split at h
   .rename_i hcs;simp only[ak,aN,br]at hcs;obtain⟨⟨⟨c1,c0⟩,c2⟩,c3⟩:=hcs;split at h
    .rename_i cs hf;split at h
     .rename_i cs' H1 hfz;split at h
      .rename_i l hun;refine⟨_,_,h,λS E bA hr cj=>?_⟩;rw[hop]at cj;obtain⟨l1,l2⟩:=Bh cj;obtain⟨zv,UG,hzl⟩:=ni (S:=S) hz;have hzs:zv.cells.size=s:=by have:=hzl.1;simp at this;omega
       obtain⟨zs,hz1,hz2⟩:=Gn (n:=len) hs UG hzs;obtain⟨C',f1,f2⟩:=zW (C:=zs) (by rw[hz2];exact PU hzl len) l1 l2 hf;obtain⟨S1,k1,k2,k3,k4,_⟩:=oI hr S.le_refl (St.refl _ _ _) f2 hfz;obtain⟨hC,hlen⟩:=uY e len hun k4;have nY:=hC.length (λx c=>CR.length e x c);have od:∀v,S1.Γ H1.next v=none:=λv=>k2.CE _ _ (aG _)
       obtain⟨E',hE⟩:=Mem.lU E ⟨C'.toList,te,true,true⟩;obtain⟨p1,p2,p3⟩:=Ev.Mem.dL hE;obtain⟨a1,a2,a3⟩:=k2.add (E':=E') (r:=.list te e l 0 X.rm false) (x:=some (E.size,len,e.size)) (g:=some ⟨e,l⟩) (by omega) p2 (λj hj=>by rw[p3,aa (by omega)]) (λr' h=>by
        cases h;exact kX (b:=⟨C'.toList,te,true,true⟩) (mid:=C'.toList) (post:=[]) od (sv (by rw[p3,ag rfl]) rfl) rfl (by simp) hC (by rw[<-hlen];exact nY) (by omega) c0 (λ_=>⟨rfl,rfl,hlen⟩)) (λy h=>by cases h;exact aG _) rfl
       refine⟨_,.slice (some ⟨E.size,0,none⟩) len len,E',⟨0,λ_ _=>?_⟩,Wo.le_trans k1 a1,.own _ _ E.size len e.size (ag rfl) ⟨e,l⟩ (ag ⟨rfl,rfl⟩) hlen,a2,k3.trans a3⟩;unfold jl;rw[hop];show Ev.mV X.P E t len (Ev.nR bA ps)=_;have hc1:¬(len*s>2 ^ 24):=by
        have:len*s<=16777216:=c1;omega
       simp only[Ev.mV,hu,hs,hz1,aa hc1,f1];unfold Ev.uI;rw[hE]
      cases h
     cases h
    cases h
   cases h
  cases h
 cases h
theorem u7 {bA:Operand->Value}{s d:TypeId}{x:Operand}(hop:o.op = .convert s d x){v:Value}(hx:aY (bA x)=true)(hv:aY v=true)(h:bF X.P (convert s d (bA x))=some v)(call:Ev.cH)(E:Mem):jl X.P call bA o E=some (v,E):=by
 have hp:gC X.P bA o=some v:=wE (λa b=>by rw[hop];simp) (by rw[hop];simp[Ev.cZ,Op.operands,hx]) (by
  unfold execOp;rw[hop];show bF X.P (convert s d (bA x) >>= λx=>pure (Next.value x))=_;rw[bt,h];rfl) hv
 unfold jl;rw[hop];show Ev.kN X.P bA o s d (bA x) E=_;unfold Ev.kN;cases hq:X.P.underlying s with
 |none =>
  show (match orElse none (gC X.P bA o) with|some v=>some (v,E)|none=>Ev.jc X.P E s d (bA x))=_;rw[hp];rfl
 |some q =>
  show (match orElse (Ev.nS X.P d (bA x)) (gC X.P bA o) with|some v=>some (v,E)|none=>Ev.jc X.P E s d (bA x))=_;cases hw:Ev.nS X.P d (bA x) with
  |none=>rw[hp];rfl
  |some u =>
   have h1:=Ev.F1 (P:=X.P) (ρ:=λ_=>none) (Ev.dz _ hx) hw s ⟨q,hq⟩ default;have h2:=Ev.oP (P:=X.P) _ h default;first
    |(rw[h1.1]at h2;cases h2;rfl)
    |(rw[h1]at h2;cases h2;rfl)
theorem oV {bA:Operand->Value}{s d:TypeId}{x:Operand}(hop:o.op = .convert s d x){q:TypeDesc}(hq:X.P.underlying s=some q)(hw:Ev.nS X.P d (bA x)=none)(hp:gC X.P bA o=none)(call:Ev.cH)(E:Mem):jl X.P call bA o E=Ev.jc X.P E s d (bA x):=by
 unfold jl;rw[hop];show Ev.kN X.P bA o s d (bA x) E=_;unfold Ev.kN;show (match orElse (match X.P.underlying s with|some _=>Ev.nS X.P d (bA x)|none=>none) (gC X.P bA o) with|some v=>some (v,E)|none=>Ev.jc X.P E s d (bA x))=_;rw[hq,hp];show (match orElse (Ev.nS X.P d (bA x)) none with|some v=>some (v,E)|none=>Ev.jc X.P E s d (bA x))=_;rw[hw];rfl
theorem rV {P:Program}{o:Oper}{ev:Operand->Value}(h:bF P (execOp ev o)=none\/Ev.cZ ev o.op=false):gC P ev o=none:=by
 unfold gC;split
 .rfl
 rcases h with h|h
 .rw[h];split<;>rfl
 rw[h];rfl
theorem Bi:∀(l:List Int) (acc:ByteArray),Ev.r7 (l.map λn=>Value.int .u8 n) acc=some ⟨acc.data++(l.map iU8).toArray⟩
 |[],acc=>by simp[Ev.r7]
 |n::l,acc=>by
  simp only[cu,Ev.r7,Ev.CQ];rw[Bi l];congr 2
  apply kB.1;simp[ByteArray.push,iU8]
theorem IB {F:Nat->Option (List Value)}{k:IntKind}:∀{l:List Int} {c:List Value},mM (CR F (.int k)) l c->c=l.map λn=>Value.int k n
 |[],_,h=>h
 |n::l,_,⟨c1,c2,e,h1,h2⟩=>by rw[e,show c1=[Value.int k n] from h1,IB h2];rfl
theorem UJ {s d:TypeId}{x:Operand}(hop:o.op = .convert s d x){k:AV->aH->Option β}(h:D5 X H s d (ev x) k=some r):∃v H',k v H'=some r/\eM X cf o ev H v H':=by
 unfold D5 at h;split at h
 .rename_i k0 k1 k2 n hu1 hu2 hp;refine⟨_,_,h,.quiet λS E bA hr cj=>?_⟩;rw[hop]at cj;have hx:=cj x (by simp[Op.operands]);rw[hp]at hx;have ex:=hx.fR;refine⟨.int k1 (k1.wrap n),λcall=>u7 hop (by rw[ex];rfl) rfl ?_ call E,.int _ _⟩;rw[ex];unfold convert;rw[bt,bU hu1];simp only[aW];rw[bt,bU hu2];rfl
 .rename_i s0 hu1 hu2 hp;refine⟨_,_,h,.quiet λS E bA hr cj=>?_⟩;rw[hop]at cj;have hx:=cj x (by simp[Op.operands]);rw[hp]at hx;have ex:=hx.jo;refine⟨.string ⟨s0.toArray⟩,λcall=>u7 hop (by rw[ex];rfl) rfl ?_ call E,.str _⟩;rw[ex];unfold convert;rw[bt,bU hu1];simp only[aW];rw[bt,bU hu2];rfl
 .rename_i te s0 hu1 hu2 hp;split at h
  .rename_i HX YE;rw[av]at h;split at h;case isFalse=>cases h
   rename_i hcap;have hcap:=az hcap;refine⟨_,_,h,λS E bA hr cj=>?_⟩;rw[hop]at cj;have hx:=cj x (by simp[Op.operands]);rw[hp]at hx;have ex:=hx.jo;have od:∀v,S.Γ H.next v=none:=λv=>hr.CE _ _ (aG _)
   have hC:∀s:List UInt8,mM (CR S.F (.int .u8)) (s.map cU) (s.map λb=>Value.int .u8 b.toNat):=λs=>by
    induction s with
    |nil=>rfl
    |cons b s ih=>exact⟨[_],_,rfl,rfl,ih⟩
   obtain⟨E',hE⟩:=Mem.lU E ⟨s0.map λb=>.int .u8 b.toNat,te,true,false⟩;obtain⟨p1,p2,p3⟩:=Ev.Mem.dL hE;obtain⟨a1,a2,a3⟩:=hr.add (E':=E') (r:=.list te (.int .u8) (s0.map cU) 0 false false) (x:=some (E.size,s0.length,1)) (g:=some ⟨.int .u8,s0.map cU⟩) (by omega) p2 (λj hj=>by rw[p3,aa (by omega)]) (λr' h=>by
    cases h;exact kX (b:=⟨s0.map λb=>.int .u8 b.toNat,te,true,false⟩) (mid:=s0.map λb=>.int .u8 b.toNat) (post:=[]) od (sv (by rw[p3,ag rfl]) rfl) rfl (by simp) (hC s0) (by simp[Ty.size]) (by simp) hcap (λh=>by cases h)) (λy h=>by cases h;exact aG _) rfl
   refine⟨_,.slice (some ⟨E.size,0,none⟩) s0.length s0.length,E',⟨0,λ_ _=>?_⟩,a1,.own _ _ E.size s0.length 1 (ag rfl) ⟨.int .u8,s0.map cU⟩ (ag ⟨rfl,rfl⟩) (by simp),a2,a3⟩;rw[oV hop hu1 (by rw[ex];simp only[Ev.nS,hu2]) (rV (.inl ?_)),ex]
   .simp only[Ev.jc,hu1,hu2,HX,YE];unfold Ev.kL;have:(⟨s0.toArray⟩:ByteArray).size=s0.length:=by simp[ByteArray.size]
    rw[this,hE]
   unfold execOp;rw[hop];show bF X.P (convert s d (bA x) >>= λx=>pure (Next.value x))=_;rw[bt,ex];unfold convert;rw[bt,bU hu1];simp only[aW];rw[bt,bU hu2];simp only[aW];rw[bt,bU HX];rfl
  cases h
 .cases h
 .rename_i _ te hu1 hu2 hne;split at h
  .rename_i HX;split at h
   .rename_i l hv;refine⟨_,_,h,.quiet λS E bA hr cj=>?_⟩;rw[hop]at cj;have hx:=cj x (by simp[Op.operands]);have e8:Ev.nS X.P d (bA x)=none:=by simp only[Ev.nS,hu2]
    obtain⟨l1,l2⟩:=D7 hr hv hx;obtain⟨c,c1,c2⟩:=l2 l.length (aG _);rw[kD]at c2;have hc:=IB c2;refine⟨.string ⟨(l.map iU8).toArray⟩,λcall=>?_,.str _⟩;generalize hA:bA x=A at *;unfold Ev.vI at l1;split at l1
    .rename_i a n cap;cases l1;cases a with
     |none =>
      have h0:l=[]:=by
       simp only[Ev.iH]at c1;split at c1
       .rename_i h0;exact aQ.1 h0
       cases c1
      subst h0;refine u7 hop (by rw[hA];rfl) rfl ?_ call E;rw[hA];unfold convert;rw[bt,bU hu1];simp only[aW];rw[bt,bU hu2];simp only[aW];rw[bt,bU HX];rfl
     |some ad =>
      obtain⟨i,off,sp⟩:=ad;cases sp with
      |some q =>
       have h0:l=[]:=by
        simp only[Ev.iH]at c1;split at c1
        .rename_i h0;exact aQ.1 h0
        cases c1
       subst h0;rw[oV (bA:=bA) hop hu1 (by rw[hA];exact e8) (rV (.inr (by rw[hop];simp[Ev.cZ,Op.operands,hA,aY]))),hA];simp only[Ev.jc,hu1,hu2,HX];rfl
      |none =>
       rw[oV (bA:=bA) hop hu1 (by rw[hA];exact e8) (rV (.inr (by rw[hop];simp[Ev.cZ,Op.operands,hA,aY]))),hA];have c1':Ev.fT E i off l.length=some c:=by simpa[Ev.iH,Ty.size] using c1
       simp only[Ev.jc,hu1,hu2,HX,c1'];rw[hc,Bi];simp
    .rename_i s0;generalize ev x=a at hx hv hne;cases hx with
     |str s1=>exact absurd rfl (hne s1)
     |dW e l v hs=>rcases hs with⟨_,hs|hs⟩|⟨_,_,_,_,_,hs,_⟩<;>cases hs
     |zR v hf=>cases hv
     |fl a v h=>cases hv
     |cx a b v h=>cases hv
     |jZ v=>cases hv
    cases l1
   cases h
  cases h
 .rename_i te YX id n hu1 hu2 hp;split at h
  .rename_i t' e l gu ex ro hg HX;rw[av]at h;split at h
   .rename_i hcond;simp only[ak,aN,br]at hcond;obtain⟨⟨hmay,rfl⟩,h1⟩:=hcond;rw[hu1]at hu2;cases hu2;refine⟨_,_,h,.quiet λS E bA hr cj=>?_⟩;rw[hop]at cj;have hx:=cj x (by simp[Op.operands]);rw[hp]at hx;generalize hA:bA x=A at hx;obtain⟨q1,⟨q2,g2,q3,q4⟩,q5⟩:=hr.row id _ hg;cases hx with
    |own _ _ i cap s hρ g hg' hn =>
     rcases q5 with⟨_,q6,_⟩|⟨i',cap',b,mid,post,k1,k2,k3,k4,k5,k6,k7,k8,k9⟩
     .rw[hρ]at q6;cases q6
     rw[hρ]at k1;cases k1;have hmay':H.lk<=id:=by simpa[aH.nH,br] using hmay
     have hlk:=hr.lk id _ _ hg hmay' hρ;refine⟨_,λcall=>?_,.own _ _ i cap _ hρ g hg' hn⟩;rw[oV (bA:=bA) hop hu1 (by simp only[Ev.nS,hu1]) (rV (.inr (by rw[hop];simp[Ev.cZ,Op.operands,hA,aY]))),hA];have hb:(Nat.ble E.lk i&&Nat.beq s s)=true:=by simp[br,hlk]
     simp only[Ev.jc,hu1,k2,HX];rw[av,ag (by simp[br,hlk])]
    |fY _ g hg' hn=>omega
   cases h
  cases h
 .rename_i te id hu1 hu2 hp;split at h
  .rename_i t' c0 cs0 n hg hn;rw[av]at h;split at h
   .rename_i hle;refine⟨_,_,h,.quiet λS E bA hr cj=>?_⟩;rw[hop]at cj;have hx:=cj x (by simp[Op.operands]);rw[hp]at hx;generalize hA:bA x=A at hx;cases hx with
    |ptr _ _ i c s0 hρ =>
     obtain⟨i',c',s',b,k1,k2,k3,k4,k5⟩:=hr.row id _ hg;rw[hρ]at k1;cases k1;refine⟨_,λcall=>?_,.ptr _ _ i c s0 hρ⟩;rw[oV (bA:=bA) hop hu1 (by simp only[Ev.nS,hu2]) (rV (.inr (by rw[hop];simp[Ev.cZ,Op.operands,hA,aY]))),hA];have hlen:Nat.ble 1 b.cells.length=true:=by rw[<-k3.1];simp
     simp only[Ev.jc,hu1,hu2,k2,hn,hle,hlen,nA,av,fD]
   cases h
  cases h
 .rename_i u id hu1 hu2 hp;split at h
  .rename_i t' cs0 n hg hn;rw[av]at h;split at h
   .rename_i hlies;refine⟨_,_,h,.quiet λS E bA hr cj=>?_⟩;rw[hop]at cj;have hx:=cj x (by simp[Op.operands]);rw[hp]at hx;generalize hA:bA x=A at hx;cases hx with
    |ptr _ _ i c s0 hρ =>
     obtain⟨i',c',s',b,k1,k2,k3,k4,k5⟩:=hr.row id _ hg;rw[hρ]at k1;cases k1;refine⟨_,λcall=>?_,.ptr _ _ i c s0 hρ⟩;rw[oV (bA:=bA) hop hu1 (by simp only[Ev.nS,hu2]) (rV (.inr (by rw[hop];simp[Ev.cZ,Op.operands,hA,aY]))),hA];have hl:liesAt X.P X.P.depth b.elem (b.cells.length/X.P.cellsOf b.elem) 0 u 1=true:=by rw[k4,<-k3.1];exact hlies
     simp only[Ev.jc,hu1,hu2,k2,hn,k5,hl,nA,av,fD]
   cases h
  cases h
 cases h
theorem FK {c:Call}{x:Operand}(hop:o.op = .call c)(hc:c.callee = .builtin .unsafeSliceData)(ha:c.args.toList=[x]){k:AV->Option β}(h:yJ H (ev x) k=some r):∃v,k v=some r/\eM X cf o ev H v H:=by
 have mem:x∈(Op.call c).operands:=by
  have:x∈c.args:=by rw[<-fu,ha];simp
  simp only[Op.operands,Call.operands,hc];simpa using this
 have run:∀{bA:Operand->Value} {v:Value} {E:Mem} (call:Ev.cH),Ev.uK (bA x)=some v->jl X.P call bA o E=some (v,E):=by
  intro bA v E call hv;unfold jl;rw[hop];show Ev.eo X.P call bA o c E=_;unfold Ev.eo;rw[hc];show Ev.oM bA c.args E=_;unfold Ev.oM;rw[ha];simp only[hv];rfl
 unfold yJ at h;split at h
 .rename_i hp;refine⟨_,h,.quiet λS E bA hr cj=>?_⟩;rw[hop]at cj;have hx:=cj x mem;rw[hp]at hx;generalize hA:bA x=A at hx;cases hx;exact⟨_,λcall=>run call (by rw[hA];rfl),.nX⟩
 .rename_i id n hp;split at h
  .rename_i t e l gu ex ro hg;rw[av]at h;split at h
   .rename_i h1;have h1:=az h1;refine⟨_,h,.quiet λS E bA hr cj=>?_⟩;rw[hop]at cj;have hx:=cj x mem;rw[hp]at hx;generalize hA:bA x=A at hx;obtain⟨q1,⟨q2,g2,q3,q4⟩,q5⟩:=hr.row id _ hg;cases hx with
    |own _ _ i cap s hρ g hg' hn =>
     rw[q3]at hg';cases hg';refine⟨_,λcall=>run call ?_,.dat id i cap s hρ⟩;rcases q5 with⟨_,q6,_⟩|⟨i',cap',b,mid,post,k1,k2,k3,k4,k5,k6,k7,k8,k9⟩
     .rw[hρ]at q6;cases q6
     rw[hρ]at k1;cases k1;rw[hA];unfold Ev.uK;have:Nat.beq cap 0=false:=by rw[<-ez,aN];omega
     simp only[this]
    |fY _ g hg' hn=>omega
   cases h
  cases h
 cases h
theorem RV (k:IntKind):∀l:List Int,((l.map λn=>Value.int k n).any Ev.o6)=false
 |[]=>rfl
 |n::l=>by simp[Ev.o6]
theorem Gp:∀l:List Int,l.all Un=true->(l.map λn=>Value.int .u8 n).all Ev.zm=true
 |[],_=>rfl
 |n::l,h=>by
  simp only[bY,ak]at h;simp only[cu,bY,ak];refine⟨?_,Gp l h.2⟩;cases n with
  |ofNat m=>exact h.1
  |negSucc m=>exact absurd h.1 (by simp[Un])
theorem UK {c:Call}{p n:Operand}{pt it:TypeId}(hop:o.op = .call c)(hc:c.callee = .builtin .unsafeString)(ha:c.args.toList=[p,n])(jw:c.argTypes.toList=[pt,it]){k:AV->aH->Option β}(h:Uo X H pt (ev p) (ev n) k=some r) :
 ∃v H',k v H'=some r/\eM X cf o ev H v H':=by
 have mem:∀y,y=p\/y=n->y∈(Op.call c).operands:=by
  intro y hy;have:y∈c.args:=by rw[<-fu,ha];rcases hy with rfl|rfl<;>simp
  simp only[Op.operands,Call.operands,hc];simpa using this
 have run:∀{bA:Operand->Value} {v:Value} {E E':Mem} (call:Ev.cH),Ev.Dw X.P E pt (bA p) (bA n)=some (v,E')->jl X.P call bA o E=some (v,E'):=by
  intro bA v E E' call hv;unfold jl;rw[hop];show Ev.eo X.P call bA o c E=_;unfold Ev.eo;rw[hc];show Ev.AL X.P bA c.args c.argTypes E=_;unfold Ev.AL;rw[ha,jw];exact hv
 unfold Uo at h;split at h
 .rename_i m hp hn;rw[av]at h;split at h
  .rename_i h0;have h0:m=0:=by rw[Ev.eT]at h0;simpa using h0
   subst h0;refine⟨_,_,h,λS E bA hr cj=>?_⟩;rw[hop]at cj;have hx:=cj p (mem p (.inl rfl));have hy:=cj n (mem n (.inr rfl));rw[hp]at hx;rw[hn]at hy;have ey:=hy.fR;generalize hA:bA p=A at hx;cases hx;exact⟨S,.string .empty,E,⟨0,λ_ _=>run _ (by rw[hA,ey];rfl)⟩,S.le_refl,.str [],hr,St.refl _ _ _⟩
  cases h
 .rename_i id m e hp hn hu;split at h
  .rename_i t l gu ex hg;rw[av]at h;split at h
   .rename_i hcond;simp only[ak,aN,br]at hcond;obtain⟨⟨⟨⟨⟨⟨hmay,rfl⟩,hco⟩,h1⟩,h2⟩,hm⟩,hby⟩:=hcond;have hm:m=(l.length:Int):=by rw[Ev.eT]at hm;simpa using hm
    subst hm;refine⟨_,_,h,λS E bA hr cj=>?_⟩;rw[hop]at cj;have hx:=cj p (mem p (.inl rfl));have hy:=cj n (mem n (.inr rfl));rw[hp]at hx;rw[hn]at hy;have ey:=hy.fR;generalize hA:bA p=A at hx;obtain⟨q1,⟨q2,g2,q3,q4⟩,q5⟩:=hr.row id _ hg;cases hx with
    |dat _ i c1 s1 hρ =>
     rcases q5 with⟨q5,_,_⟩|⟨i',cap',b,mid,post,k1,k2,k3,k4,k5,k6,k7,k8,k9⟩
     .rw[q5]at h1;simp at h1
     rw[hρ]at k1;cases k1;have hmay':H.lk<=id:=by simpa[aH.nH,br] using hmay
     have hlk:=hr.lk id _ _ hg hmay' hρ;have hmid:=IB k5;have hml:mid.length=l.length:=by rw[hmid];simp
     have hread:Ev.fT E i 0 l.length=some mid:=by
      unfold Ev.fT;rw[k2];simp only;have e0:0+l.length<=b.cells.length:=by rw[k4,aA];omega
      have e1:(b.cells.drop 0).take l.length=mid:=by rw[k4,mK,<-hml];simp
      rw[ag e0,e1,hmid,RV]
     obtain⟨E1,hE1⟩:=Mem.iS (b:={ b with live:=false,fix:=false }) (kW k2) hlk;have fe:Ev.kill E i=some E1:=by unfold Ev.kill;rw[(dD k2).1];exact hE1
     obtain⟨z1,z2,z3,z4,z5⟩:=Ev.nF fe;obtain⟨m1,m2⟩:=hr.mod (S':=S) (E':=E1) (r':=.dead) hg rfl S.le_refl rfl (λ_ _ _=>rfl) z1 z2 (λj hj=>z4 j (hj _ hρ)) (λj cs h=>.inl h) (λq hq=>by cases hq);refine⟨S,.string ⟨(l.map iU8).toArray⟩,E1,⟨0,λ_ _=>run _ ?_⟩,S.le_refl,.str _,m1,m2⟩;obtain⟨k',hk'⟩:∃k',l.length=k'+1:=⟨l.length-1,by omega⟩;rw[hA,ey,hk'];show Ev.Dw X.P E pt (.pointer (some ⟨i,0,none⟩)) (.int .i64 (.ofNat (k'+1)))=_;have ad7:((b.elem==t)&&Nat.beq (X.P.cellsOf t) 1&&Nat.ble (k'+1) 2000000&&mid.all Ev.zm)=true:=by
      rw[hmid,Gp l hby];have:k'+1<=2000000:=by omega
      simp[k3,hco,br];omega
     unfold Ev.Dw;rw[hk']at hread;simp only[hu,k2,hread,ad7,av,fD,fe];rw[hmid,Bi];simp
   cases h
  cases h
 cases h
end
end Go.Tv

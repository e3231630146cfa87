/- The layer's operations beside the evaluator's: slices, rows. -/
import Derived.Test.YtbeckacfibledaaGreatDoorLyd
set_option linter.unusedVariables false
set_option linter.unusedSimpArgs false

namespace Go.Tv
open Go.Ev (Tr ah jx Mem kV alive ay eA bQ iX kD br dh orElse)
section
variable {X:ji} {cf:Nat×Nat->Ev.dx} {o:Oper} {ev:Operand->AV} {H:aH} {β:Type} {r:β}
theorem BH {α:Type}{R:α->aW->Prop}{s:Nat}(d:∀x c,R x c->c.length=s)(k:∀(l:List α) c,ow R l c->c.any Ev.qT=false){E:Mem}{i:Nat}{b:kV}{pre mid post:aW}{l:List α}(n:alive E i=some b)(p:b.cells=pre++(mid++post))(q:ow R l mid)(a m:Nat)(z:a+m<=l.length) :
 ∃c,Ev.ia E i (pre.length+a*s) (m*s)=some c/\ow R ((l.drop a).take m) c:=by
 obtain⟨c1,c2,t,u,k2⟩:=q.split d a;obtain⟨g,v,e2,e,A⟩:=k2.split d m;have h:=u.length d;have j:=e.length d;have w:(l.take a).length=a:=by simp;omega
 have y:((l.drop a).take m).length=m:=by simp;omega
 rw[w]at h;rw[y]at j;refine⟨g,?_,e⟩;have f:b.cells=(pre++c1)++(g++(v++post)):=by rw[p,t,e2];simp
 unfold Ev.ia;rw[n];have hlen:pre.length+a*s=(pre++c1).length:=by simp[h]
 simp only[hlen,f,eI];rw[ag (by simp;omega),<-j,qQ,k _ _ e]
theorem FH {S:Wo}{E:Mem}(w:Rel S H E){e:Ty}{v:AV}{l:List e.den}(h:DB H e v=some l){x:Value}(k:VR S v x) :
 Ev.xl x=some l.length/\∀m,m<=l.length->∃c,Ev.jJ E e.size m x=some c/\ow (CR S.F e) (l.take m) c:=by
 have y:∀x c,CR S.F e x c->c.length=e.size:=λx c=>CR.length e x c
 unfold DB at h;split at h
 .rename_i K i;obtain⟨j,f⟩:=cr h;subst j;have f:i=l:=f;subst f;cases k with
  |eC _ _ _ N =>
   rcases N with⟨rfl,rfl|rfl⟩|⟨z,pre,mid,post,cap,rfl,O,P,L⟩
   .exact ⟨rfl,λm d=>⟨[],by simp at d;simp[Ev.jJ,d],by simp[ow]⟩⟩
   .exact ⟨rfl,λm d=>⟨[],by simp at d;simp[Ev.jJ,Ev.vd,d],by simp[ow]⟩⟩
   refine⟨rfl,λm d=>?_⟩;obtain⟨b,Q,k2⟩:=w.fz z _ O;obtain⟨c,p,q⟩:=BH y (λ_ _ h=>h.qp) Q k2 P 0 m (by omega);exact⟨c,by simpa[Ev.jJ] using p,by simpa using q⟩
 .cases h;cases k;exact⟨rfl,λm d=>⟨[],by simp at d;simp[Ev.jJ,d],by simp[ow]⟩⟩
 .rename_i id n;split at h
  .rename_i R K i iL ex T A;obtain⟨j,f⟩:=cr h;subst j;have f:i=l:=f;subst f;obtain⟨g1,⟨_,g,u,B⟩,C⟩:=w.row id _ A;cases k with
   |own _ _ z rM U hρ M a D =>
    rw[u]at a;cases a;rcases C with⟨_,t,_⟩|⟨V,cap,b,mid,post,q1,q2,q3,G,I,W,Y,Z,q9,zw⟩
    .rw[hρ]at t;cases t
    rw[hρ]at q1;cases q1;refine⟨by simp[Ev.xl];omega,λm d=>?_⟩;obtain⟨c,p,q⟩:=BH (pre:=[]) y (λ_ _ h=>h.qp) q2 G I 0 m (by omega);exact⟨c,by simpa[Ev.jJ] using p,by simpa using q⟩
   |iw _ M a D =>
    rw[u]at a;cases a;have h0:i.length=0:=by omega
    exact⟨by simp[Ev.xl];omega,λm d=>⟨[],by simp[Ev.jJ];omega,by rw[aS.1 h0];simp[ow]⟩⟩
  cases h
 .rename_i id off len Nj;split at h
  .rename_i R K i iL ex T A;split at h
   .rename_i l2 pX;cases h;obtain⟨j,f⟩:=cr pX;subst j;have f:i=l2:=f;subst f;obtain⟨g1,⟨_,g,u,B⟩,C⟩:=w.row id _ A;cases k with
    |tc _ _ _ _ z c0 U hρ M a hcc Nk =>
     rw[u]at a;cases a;have hlen:((i.drop off).take len).length=len:=by simp;omega
     rcases C with⟨_,t,_⟩|⟨V,cap,b,mid,post,q1,q2,q3,G,I,W,Y,Z,q9,zw⟩
     .rw[hρ]at t;cases t
     rw[hρ]at q1;cases q1;refine⟨by rw[hlen];rfl,λm d=>?_⟩;rw[hlen]at d;obtain⟨c,p,q⟩:=BH (pre:=[]) y (λ_ _ h=>h.qp) q2 G I off m (by omega);refine⟨c,by simpa[Ev.jJ] using p,?_⟩;rw[oq,iG d];exact q
   cases h
  cases h
 .rename_i s;obtain⟨j,f⟩:=cr h;subst j;have f:s.map cS=l:=f;subst f;rw[k.kH];refine⟨by simp[Ev.xl,ByteArray.size],λm d=>?_⟩;have J:m<=s.length:=by simpa using d
  refine⟨(s.take m).map λb=>.int .u8 b.toNat,?_,?_⟩
  .simp only[Ev.jJ];rw[ag ⟨rfl,by simpa[ByteArray.size] using J⟩];simp[ByteArray.data_extract,j4,iB]
  have:∀s:au,ow (CR S.F (.int .u8)) (s.map cS) (s.map λb=>Value.int .u8 b.toNat):=λs=>by
   induction s with
   |nil=>rfl
   |cons b s ih=>exact⟨[_],_,rfl,rfl,ih⟩
  rw[<-List.map_take];exact this _
 cases h
theorem ah6 {a:Int}{n:Nat}(h:(!Ev.bN a 0 && !Ev.bN (Int.ofNat n) a)=true):0<=a/\a<=n:=by
 simp only[Ev.dc,ak,aU,bJ,eR]at h;omega
theorem anu {a b:Int}{n:Nat}(h:(!Ev.bN a 0 && !Ev.bN b a && !Ev.bN (Int.ofNat n) b)=true):0<=a/\a<=b/\b<=n:=by
 simp only[Ev.dc,ak,aU,bJ,eR]at h;omega
theorem acK {a:Int}{n:Nat}(h:(Ev.bS a 0||Ev.bN a (Int.ofNat n))=true):a=0\/a<n:=by
 simp only[Ev.dc,Ev.fD,dA,fL,aZ,eR]at h;exact h
inductive BR (ev:Operand->AV)(d:Int):Option Operand->Int->Prop where
 |none:BR ev d none d
 |some (x k a) (h:ev x = .int k a):BR ev d (some x) a
theorem qE {len cap:Nat}{lo hi:Option Operand}{k:Int->Int->Option β}(h:r7 len cap (lo.map ev) (hi.map ev) k=some r):∃a b,k a b=some r/\0<=a/\a<=b/\(len<=cap->b<=cap)/\BR ev 0 lo a/\BR ev len hi b:=by
 cases lo with
 |none =>
  cases hi with
  |none=>exact⟨0,len,h,by omega,by omega,λ_=>by omega,.none,.none⟩
  |some y =>
   simp only[fR,bP]at h;unfold r7 at h;split at h
   .rename_i c d;cases d
   .rename_i c d;cases c
   .rename_i f b c d;rw[ay]at h;split at h
    .rename_i e;have e:=ah6 e;exact⟨0,b,h,by omega,e.1,λ_=>e.2,.none,.some y f b (by simpa using d)⟩
    cases h
   .rename_i c d;cases c
   cases h
 |some x =>
  cases hi with
  |none =>
   simp only[fR,bP]at h;unfold r7 at h;split at h
   .rename_i c d;cases c
   .rename_i f a c d;rw[ay]at h;split at h
    .rename_i e;have e:=ah6 e;exact⟨a,len,h,e.1,e.2,λ_=>by omega,.some x f a (by simpa using c),.none⟩
    cases h
   .rename_i c d;cases d
   .rename_i c d;cases d
   cases h
  |some y =>
   simp only[bP]at h;unfold r7 at h;split at h
   .rename_i c d;cases c
   .rename_i c d;cases d
   .rename_i c d;cases c
   .rename_i g a k2 b c d;rw[ay]at h;split at h
    .rename_i e;have e:=anu e;exact⟨a,b,h,e.1,e.2.1,λ_=>e.2.2,.some x g a (by simpa using c),.some y k2 b (by simpa using d)⟩
    cases h
   cases h
theorem vh {S:Wo}{bM:Operand->Value}{d:Int}{x:Option Operand}{a:Int}(h:BR ev d x a)(b:∀y,x=some y->VR S (ev y) (bM y)):(x=none/\a=d)\/∃y k,x=some y/\bM y = .int k a:=by
 cases h with
 |none=>exact .inl ⟨rfl,rfl⟩
 |some y k _ hy=>exact .inr ⟨y,k,rfl,by have:=b y rfl;rw[hy]at this;exact this.gW⟩
theorem tH {k:IntKind}{a:Int}{y:Nat}(b:0<=a)(c:a<=y):Ev.pJ (.int k a) y=some a.toNat:=by
 simp only[Ev.pJ,b,c,and_self,gy]
theorem qF {P:Program}{S:Wo}{bM:Operand->Value}{t te:TypeId}{s:Nat}(d:P.underlying t=some (.slice te))(e:Ev.dJ P te=some s){lo hi:Option Operand}{a b:Int}{len cap:Nat}(m:BR ev 0 lo a)(n:BR ev len hi b)(p:0<=a)(B:a<=b)(q:b<=cap)
 (h:∀y,lo=some y->VR S (ev y) (bM y)) (j:∀y,hi=some y->VR S (ev y) (bM y)) (x:Option Addr) (u:x=none\/∃i off,x=some ⟨i,off,none⟩) (v:a=0\/a<cap) :
 Ev.mz P t (.slice x len cap) (lo.map bM) (hi.map bM)=some (.slice (x.map λz=>⟨z.block,z.off+a.toNat*s,none⟩) (b.toNat-a.toNat) (cap-a.toNat)):=by
 have c1:∀k,Ev.pJ (.int k b) cap=some b.toNat:=λk=>tH (by omega) q
 have c2:∀k,Ev.pJ (.int k a) b.toNat=some a.toNat:=λk=>tH p (by omega)
 have l:¬((a.toNat=cap/\a.toNat≠0)\/cap<a.toNat):=by omega
 rcases vh m h with⟨rfl,rfl⟩|⟨z,C,rfl,f⟩<;>rcases vh n j with⟨rfl,g⟩|⟨D,w,rfl,c⟩<;>rcases u with rfl|⟨i,off,rfl⟩
 .obtain rfl:b=len:=g;simp[Ev.mz,d,e]
 .obtain rfl:b=len:=g;have A:¬(cap<0):=by omega
  simp[Ev.mz,d,e,A]
 .simp[Ev.mz,d,e,c,c1]
 .simp[Ev.mz,d,e,c,c1]
 .obtain rfl:b=len:=g;simp only[bf]at c2;simp[Ev.mz,d,e,f,c2]
 .obtain rfl:b=len:=g;simp only[bf]at c2;simp only[Ev.mz,d,e,fR,bP,f,c2,aa l,bf]
 .simp[Ev.mz,d,e,f,c,c1,c2]
 simp only[Ev.mz,d,e,bP,f,c,c1,c2,aa l]
theorem Nl {P:Program}{S:Wo}{bM:Operand->Value}{t te:TypeId}{s:Nat}(d:P.underlying t=some (.slice te))(e:Ev.dJ P te=some s){lo hi:Option Operand}{a b:Int}(l:BR ev 0 lo a)(m:BR ev (0:Nat) hi b)(n:0<=a)(u:a<=b)(p:b<=(0:Nat))
 (f:∀y,lo=some y->VR S (ev y) (bM y)) (g:∀y,hi=some y->VR S (ev y) (bM y)) :
 Ev.mz P t Ev.vd (lo.map bM) (hi.map bM)=some (.slice (some ⟨0,0,some 0⟩) (b.toNat-a.toNat) (0-a.toNat)):=by
 have h:b.toNat=0:=by omega
 have i:a.toNat=0:=by omega
 have c1:∀k,Ev.pJ (.int k b) 0=some 0:=λk=>by have:=tH (k:=k) (show 0<=b by omega) p;rwa[h]at this
 have c2:∀k,Ev.pJ (.int k a) 0=some 0:=λk=>by have:=tH (k:=k) n (show a<=(0:Nat) by omega);rwa[i]at this
 unfold Ev.vd;rw[h,i];rcases vh l f with⟨rfl,rfl⟩|⟨z,v,rfl,j⟩<;>rcases vh m g with⟨rfl,w⟩|⟨x,q,rfl,c⟩
 .simp[Ev.mz,d,e]
 .simp[Ev.mz,d,e,c,c1]
 .simp[Ev.mz,d,e,j,c2]
 simp[Ev.mz,d,e,j,c,c1,c2]
theorem Nm {P:Program}{S:Wo}{bM:Operand->Value}{t te:TypeId}{s n:Nat}(e:P.underlying t=some (.array n te))(f:Ev.dJ P te=some s){lo hi:Option Operand}{a b:Int}(q:BR ev 0 lo a)(u:BR ev n hi b)(v:0<=a)(C:a<=b)(w:b<=n)
 (j:∀y,lo=some y->VR S (ev y) (bM y)) (l:∀y,hi=some y->VR S (ev y) (bM y)) {E:Mem} {i:Nat} {k:kV} (g:alive E i=some k) (h:k.fix=true) (x:a=0\/a<n) :
 Ev.sk P E t (.pointer (some ⟨i,0,none⟩)) (lo.map bM) (hi.map bM)=some (.slice (some ⟨i,a.toNat*s,none⟩) (b.toNat-a.toNat) (n-a.toNat)):=by
 have c1:∀k,Ev.pJ (.int k b) n=some b.toNat:=λk=>tH (by omega) w
 have c2:∀k,Ev.pJ (.int k a) b.toNat=some a.toNat:=λk=>tH v (by omega)
 have c:ah (Nat.beq n a.toNat) 0 (Nat.add 0 (Nat.mul a.toNat s))=a.toNat*s:=by
  rw[ay];split
  .rename_i A;simp only[aQ]at A;have:a.toNat=0:=by omega
   rw[this];simp
  show 0+a.toNat*s=_;omega
 rcases vh q j with⟨rfl,rfl⟩|⟨z,D,rfl,m⟩<;>rcases vh u l with⟨rfl,p⟩|⟨F,B,rfl,d⟩
 .obtain rfl:b=n:=p;simp only[oo]at c;simp only[Ev.sk,e,f,g,h,fR,c,oo,bf]
 .simp only[oo]at c;simp only[Ev.sk,e,f,g,h,fR,bP,d,c1,c,oo]
 .obtain rfl:b=n:=p;simp only[bf]at c2;simp only[Ev.sk,e,f,g,h,fR,bP,m,c2,c,bf]
 simp only[Ev.sk,e,f,g,h,bP,m,d,c1,c2,c]
theorem nv {P:Program}{bM:Operand->Value}{call:Ev.dx}{t te:TypeId}{x:Operand}{lo hi:Option Operand}{E:Mem}{v:Value}(a:o.op = .slice t x lo hi none)(b:P.underlying t=some (.slice te))(h:Ev.mz P t (bM x) (lo.map bM) (hi.map bM)=some v):kD P call bM o E=some (v,E):=by
 unfold kD;rw[a];show Ev.qU P bM o t (bM x) (lo.map bM) (hi.map bM) E=_;unfold Ev.qU;have:Ev.xC P t=false:=by simp[Ev.xC,b]
 rw[this,h];rfl
theorem rN {t:TypeId}{x:Operand}{lo hi:Option Operand}{S:Wo}{bM:Operand->Value}(a:∀y∈(Op.slice t x lo hi none).operands,VR S (ev y) (bM y)):VR S (ev x) (bM x)/\(∀y,lo=some y->VR S (ev y) (bM y))/\∀y,hi=some y->VR S (ev y) (bM y) :=
 ⟨a x (by simp[Op.operands]),λy hy=>a y (by subst hy;simp[Op.operands]),λy hy=>a y (by subst hy;simp[Op.operands])⟩
theorem FI {P:Program}{te:TypeId}{n:Nat}(h:(Ev.dJ P te==some n)=true):Ev.dJ P te=some n:=by simpa using h
theorem SR.cut {α:Type}{R:α->aW->Prop}{s:Nat}(d:∀x c,R x c->c.length=s){F:Nat->Option aW}{l:List α}{i:Nat}{pre mid post:aW}{cap:Nat}(g:F i=some (pre++(mid++post)))(h:ow R l mid){a b:Int}(t:0<=a)(u:a<=b)(v:b<=l.length)(w:l.length<=cap) :
 SR R F (dZ l a b) (.slice (some ⟨i,pre.length+a.toNat*s,none⟩) (b.toNat-a.toNat) (cap-a.toNat)):=by
 obtain⟨c1,c2,j,k,k2⟩:=h.split d a.toNat;obtain⟨m,n,e2,p,y⟩:=k2.split d (b.toNat-a.toNat);have e:=k.length d;have q:(l.take a.toNat).length=a.toNat:=by simp;omega
 have f:((l.drop a.toNat).take (b.toNat-a.toNat)).length=b.toNat-a.toNat:=by simp;omega
 rw[q]at e;refine .inr ⟨i,pre++c1,m,n++post,cap-a.toNat,?_,by rw[g,j,e2];simp,p,?_⟩
 .show _=Value.slice (some ⟨i,(pre++c1).length,none⟩) ((l.drop a.toNat).take (b.toNat-a.toNat)).length _;rw[f,aA,e]
 show ((l.drop a.toNat).take (b.toNat-a.toNat)).length<=_;rw[f];omega
def Wo.Mc (S:Wo)(i:Nat)(cs:aW):Wo:=⟨λj=>if j=i then some cs else S.F j,S.ρ,S.Γ⟩
theorem wK {S:Wo}{E:Mem}(C:Rel S H E){id:Nat}{t:TypeId}{e:Ty}{l:List e.den}{iL:Nat}{ex W:Bool}(z:H.get id=some (.list t e l iL ex W)) :
 ∃S',S.le S'/\Rel S' (H.put id (.list t e l iL ex true)) E/\St S H E S' (H.put id (.list t e l iL ex true)) E /\
  (∀n v,VR S (.own id n) v->n=l.length/\((l=[]/\v = .slice none 0 0)\/∃i mid post cap,v = .slice (some ⟨i,0,none⟩) l.length cap/\S'.F i=some (mid++post)/\ow (CR S'.F e) l mid/\l.length<=cap)):=by
 obtain⟨g1,⟨g0,g,L,s⟩,P⟩:=C.row id _ z;have u:∀S',S.le S'->(∀i cap b mid post,S.ρ id=some (i,cap,e.size)->alive E i=some b->b.cells=mid++post->S'.F i=some b.cells)->(∀n v,VR S (.own id n) v->n=l.length/\((l=[]/\v = .slice none 0 0)\/∃i mid post cap,v = .slice (some ⟨i,0,none⟩) l.length cap/\S'.F i=some (mid++post)/\ow (CR S'.F e) l mid/\l.length<=cap)):=by
  intro S' a hF n v hv;cases hv with
  |own _ _ Y Z s0 hρ g' d D =>
   rw[L]at d;cases d;rcases P with⟨_,m,_⟩|⟨f,cap,b,mid,post,q1,q2,q3,G,M,Q,N,R,T,O⟩
   .rw[hρ]at m;cases m
   rw[hρ]at q1;cases q1;refine⟨by omega,.inr ⟨Y,mid,post,Z,by rw[<-s,D],?_,M.mono λx c=>CR.mono a.F e x c,N⟩⟩;rw[hF Y Z b mid post hρ q2 G,G]
  |iw _ g' d D =>
   rw[L]at d;cases d;exact⟨by omega,.inl ⟨aS.1 (by omega),rfl⟩⟩
 cases I:W with
 |true =>
  subst I;obtain⟨u1,u2,u3,u4⟩:=aH.iK H id (.list t e l iL ex true);have w:∀j,(H.put id (.list t e l iL ex true)).get j=H.get j:=λj=>by
   rw[u4];by_cases A:j=id
   .subst A;rw[ag rfl,ag (aH.fM z),z];rfl
   rw[aa A]
  obtain⟨J,k2⟩:=C.same u1 u2 u3 w;refine⟨S,S.le_refl,J,k2,u S S.le_refl λi cap b mid post p B h3=>?_⟩;rcases P with⟨_,m,_⟩|⟨f,cap,b',mid,post,q1,q2,q3,G,M,Q,N,R,T,O⟩
  .rw[p]at m;cases m
  rw[p]at q1;cases q1;rw[B]at q2;cases q2;exact O.1 rfl
 |false =>
  subst I;rcases P with⟨g4,m,g6⟩|⟨f,cap,b,mid,post,q1,q2,q3,G,M,Q,N,R,T,O⟩
  .obtain ⟨J,k2⟩:=C.mod (S':=S) (E':=E) (r':=.list t e l iL ex true) z rfl S.le_refl rfl (λ_ _ _=>rfl) rfl rfl (λ_ _=>rfl) (λj cs h=>.inl h) (λq U=>by
    cases U;exact⟨g1,⟨g0,g,L,s⟩,.inl ⟨g4,m,g6⟩⟩)
   exact⟨S,S.le_refl,J,k2,u S S.le_refl λi cap b mid post p=>by rw[m]at p;cases p⟩
  have K:=C.sep id _ _ z rfl q1;have a:S.le (S.Mc f b.cells):=⟨λj x A=>by
   show (if j=f then some b.cells else S.F j)=_;by_cases k:j=f
   .subst k;rw[K]at A;cases A
   rw[aa k];exact A,λ_ _ h=>h,λ_ _ _ h=>h⟩
  have y:(S.Mc f b.cells).F f=some b.cells:=ag rfl;obtain⟨J,k2⟩:=C.mod (S':=S.Mc f b.cells) (E':=E) (r':=.list t e l iL ex true) z rfl a rfl (λ_ _ _=>rfl) rfl rfl (λ_ _=>rfl)
   (λj cs h=>by
    by_cases k:j=f
    .subst k;rw[y]at h;cases h;exact .inr ⟨.inr rfl,⟨_,q1,rfl⟩,b,q2,rfl⟩
    exact .inl (by have h':(if j=f then some b.cells else S.F j)=some cs:=h;rw[aa k]at h';exact h'))
   (λq U=>by
    cases U;exact⟨g1,⟨g0,g,L,s⟩,.inr ⟨f,cap,b,mid,post,q1,q2,q3,G,M.mono λx c=>CR.mono a.F e x c,Q,N,R,T,λ_=>y,O.2.imp λl2 B=>B.mono λx c=>CR.mono a.F e x c⟩⟩)
  refine⟨_,a,J,k2,u _ a λi cap' b' mid' V p B h3=>?_⟩;rw[q1]at p;cases p;rw[q2]at B;cases B;exact y
theorem CJ {t:TypeId}{x:Operand}{lo hi:Option Operand}(d:o.op = .slice t x lo hi none){k:AV->aH->Option β}(h:FD X H t (ev x) (lo.map ev) (hi.map ev) k=some r):∃v H',k v H'=some r/\fO X cf o ev H v H':=by
 unfold FD at h;split at h
 .rename_i s q J;obtain⟨a,b,u,D,F,f,G,I⟩:=qE h;have f:=f (aG _);refine⟨_,_,u,.quiet λS E bM O C=>?_⟩;rw[d]at C;obtain⟨B,j,m⟩:=rN C;rw[J]at B;have ex:=B.kH;refine⟨.string ⟨(dZ s a b).toArray⟩,λcall=>?_,.str _⟩;unfold kD;rw[d];show Ev.qU X.P bM o t (bM x) (lo.map bM) (hi.map bM) E=_;unfold Ev.qU;have K:Ev.xC X.P t=false:=by simp[Ev.xC,q]
  have e2:Ev.mz X.P t (bM x) (lo.map bM) (hi.map bM)=none:=by rw[ex];simp only[Ev.mz,q]
  rw[K,e2];show dh E (iX X.P bM o)=_;have flo:∀y,lo=some y->br (bM y)=true:=λy hy=>by
   rcases vh G j with⟨N,_⟩|⟨z,Q,N,R⟩
   .rw[N]at hy;cases hy
   rw[N]at hy;cases hy;rw[R];rfl
  have fhi:∀y,hi=some y->br (bM y)=true:=λy hy=>by
   rcases vh I m with⟨N,_⟩|⟨z,Q,N,R⟩
   .rw[N]at hy;cases hy
   rw[N]at hy;cases hy;rw[R];rfl
  rw[x6 (v:=.string ⟨(dZ s a b).toArray⟩) (λa b=>by rw[d];simp) ?_ ?_ rfl]
  .rfl
  .rw[d];simp only[Ev.dU,Op.operands,aN];intro y hy;simp only[Array.toList_append,cg]at hy;rcases hy with ((hy|hy)|hy)|hy
   .simp at hy;subst hy;rw[ex];rfl
   .exact flo y (by cases lo<;>simp at hy ⊢;exact hy.symm)
   .exact fhi y (by cases hi<;>simp at hy ⊢;exact hy.symm)
   simp at hy
  unfold execOp;rw[d];show bQ X.P (Instr.sliceAt t (bM x) (lo.map bM) (hi.map bM) none >>= λx=>pure (Next.value x))=_;rw[bG];have e3:bQ X.P (Instr.sliceAt t (bM x) (lo.map bM) (hi.map bM) none)=some (.string ⟨(dZ s a b).toArray⟩):=by
   unfold Instr.sliceAt;rw[bG,ct q];simp only[bh];unfold Instr.slice;rw[bG,ct q,ex];simp only[bh,Option.isSome_none,cT,eY];rw[bG];have sz:ByteArray.size ⟨s.toArray⟩=s.length:=by simp[ByteArray.size]
   have e4:bQ X.P (Instr.sliceBounds false (ByteArray.size ⟨s.toArray⟩) (ByteArray.size ⟨s.toArray⟩) (lo.map bM) (hi.map bM) none)=some (a.toNat,b.toNat,s.length):=by
    rw[sz];have bd:∀(Q:IntKind) (i:Int) (y:Nat) (c:BoundsCode),0<=i->i<=y->bQ X.P (Instr.sliceBound (.int Q i) y c)=some i.toNat:=λQ i y c N u=>by
     unfold Instr.sliceBound asIntOf;show bQ X.P (if 0<=i/\i<=y then pure i.toNat else boundsPanic Q i y c)=_;rw[ag ⟨N,u⟩];rfl
    unfold Instr.sliceBounds;rcases vh G j with⟨rfl,rfl⟩|⟨z,Q,rfl,R⟩<;>rcases vh I m with⟨rfl,rfl⟩|⟨z',T,rfl,U⟩
    .rfl
    .simp only[fR,bP,U];simp only[bG,qZ,bh];rw[bd T b s.length _ (by omega) f];rfl
    .simp only[fR,bP,R];simp only[bG,qZ,bh];rw[bd Q a s.length _ (by omega) (by omega)];rfl
    simp only[bP,R,U];simp only[bG,qZ,bh];rw[bd T b s.length _ (by omega) f];simp only[bh];rw[bd Q a b.toNat _ (by omega) (by omega)];rfl
   rw[e4];simp only[bh];show some (Value.string _)=_;congr 2
   apply Go.WideShapes.bytes_inj;simp[ByteArray.data_extract,j4,iB,dZ]
  rw[e3];rfl
 .rename_i te e l q J;rw[ay]at h;split at h
  .rename_i p;have p:=FI p;obtain⟨a,b,u,D,F,f,G,I⟩:=qE h;have f:=f (aG _);rw[ay]at u;split at u
   .rename_i w;have w:=acK w;refine⟨_,_,u,.quiet λS E bM O C=>?_⟩;rw[d]at C;obtain⟨B,j,m⟩:=rN C;rw[J]at B;generalize hA:bM x=A at B;cases B with
    |eC _ _ _ hS =>
     rcases hS with⟨rfl,rfl|rfl⟩|⟨i0,pre,mid,post,cap,rfl,hF,hC,L⟩
     .refine ⟨.slice none (b.toNat-a.toNat) (0-a.toNat),λcall=>nv d q ?_,.eC _ _ _ (.inl ⟨by simp[dZ],.inl ?_⟩)⟩
      .rw[hA];exact qF q p G I D F (by simpa using f) j m none (.inl rfl) (by simp at f;omega)
      simp at f;have K:b.toNat-a.toNat=0:=by omega
      have e2:(0:Nat)-a.toNat=0:=by omega
      rw[K,e2]
     .refine ⟨.slice (some ⟨0,0,some 0⟩) (b.toNat-a.toNat) (0-a.toNat),λcall=>nv d q ?_,.eC _ _ _ (.inl ⟨by simp[dZ],.inr ?_⟩)⟩
      .rw[hA];exact Nl q p G I D F (by simpa using f) j m
      simp at f;have K:b.toNat-a.toNat=0:=by omega
      have e2:(0:Nat)-a.toNat=0:=by omega
      rw[K,e2];rfl
     refine⟨_,λcall=>nv d q ?_,.eC _ _ _ (SR.cut (λx c=>CR.length e x c) hF hC D F f L)⟩;rw[hA];exact qF q p G I D F (by omega) j m _ (.inr ⟨_,_,rfl⟩) (by omega)
   cases u
  cases h
 .rename_i te id off len cap q J;split at h
  .rename_i t' e l iL ro V;rw[ay]at h;split at h
   .rename_i p;have p:=FI p;obtain⟨a,b,u,D,F,f,G,I⟩:=qE h;rw[ay]at u;split at u
    .rename_i w;have w:=acK w;refine⟨_,_,u,.quiet λS E bM O C=>?_⟩;rw[d]at C;obtain⟨B,j,m⟩:=rN C;rw[J]at B;generalize hA:bM x=A at B;obtain⟨g1,⟨_,g,W,g2'⟩,g3⟩:=O.row id _ V;cases B with
     |tc _ _ _ _ i0 c0 s0 hρ g' M hcc Nk =>
      rw[W]at M;cases M;rcases g3 with⟨_,Y,_⟩|⟨i',Z,b',mid,post,q1,q2,q3,q4,q5,q6,q7,q8,q9,zw⟩
      .rw[hρ]at Y;cases Y
      rw[hρ]at q1;cases q1;refine⟨_,λcall=>nv d q (by rw[hA];exact qF q p G I D F (f Nk) j m _ (.inr ⟨_,_,rfl⟩) (by have:=f Nk;omega)),?_⟩;have:=VR.tc (S:=S) id (off+a.toNat) (b.toNat-a.toNat) (cap-a.toNat) i0 c0 e.size hρ g W (by have:=f Nk;omega) (by have:=f Nk;omega);rw[dX]at this;exact this
    cases u
   cases h
  cases h
 .rename_i te id n q J;split at h
  .rename_i t' e l iL ex ro V;rw[ay]at h;split at h
   .rename_i p;simp only[ak]at p;obtain⟨p,hmay⟩:=p;have p:=FI p;obtain⟨a,b,u,D,F,f,G,I⟩:=qE h;have f:=f (aG _);rw[ay]at u;split at u
    .rename_i w;have w:=acK w;refine⟨_,_,u,λS E bM O C=>?_⟩;rw[d]at C;obtain⟨B,j,m⟩:=rN C;rw[J]at B;obtain⟨S',hle,k1,k2,k3⟩:=wK O V;obtain⟨rfl,hv⟩:=k3 n _ B;rcases hv with⟨rfl,hv⟩|⟨i,mid,post,cap,hv,hF,hC,L⟩
     .refine ⟨S',.slice none (b.toNat-a.toNat) (0-a.toNat),E,⟨0,λn _=>nv d q ?_⟩,hle,.eC _ _ _ (.inl ⟨by simp[dZ],.inl ?_⟩),k1,k2⟩
      .rw[hv];exact qF q p G I D F (by simpa using f) j m none (.inl rfl) (by simp at f;omega)
      simp at f;have K:b.toNat-a.toNat=0:=by omega
      have e2:(0:Nat)-a.toNat=0:=by omega
      rw[K,e2]
     have:=SR.cut (pre:=[]) (λx c=>CR.length e x c) hF hC D F f L;refine⟨S',_,E,⟨0,λn _=>nv d q ?_⟩,hle,.eC _ _ _ this,k1,k2⟩;rw[hv];have:=qF (S:=S) (bM:=bM) q p G I D F (show b<=cap by omega) j m (some ⟨i,0,none⟩) (.inr ⟨_,_,rfl⟩) (by omega);rw[this];simp
    cases u
   cases h
  cases h
 .rename_i te q J;rw[ay]at h;split at h
  .rename_i p;obtain⟨s,p⟩:=cw.1 p;obtain⟨a,b,u,D,F,f,G,I⟩:=qE h;have f:=f (aG _);refine⟨_,_,u,.quiet λS E bM O C=>?_⟩;rw[d]at C;obtain⟨B,j,m⟩:=rN C;rw[J]at B;generalize hA:bM x=A at B;cases B with
   |eB =>
    refine⟨.slice none (b.toNat-a.toNat) (0-a.toNat),λcall=>nv d q ?_,?_⟩
    .rw[hA];exact qF q p G I D F (by simpa using f) j m none (.inl rfl) (by omega)
    have K:b.toNat-a.toNat=0:=by omega
    have e2:(0:Nat)-a.toNat=0:=by omega
    rw[K,e2];exact .eB
  cases h
 .rename_i n te id n' q J;split at h
  .rename_i t' e l iL ro V;rw[ay]at h;split at h
   .rename_i p;simp only[ak,aQ]at p;obtain⟨p,rfl⟩:=p;have p:=FI p;obtain⟨a,b,u,D,F,f,G,I⟩:=qE h;have f:=f (aG _);rw[ay]at u;split at u
    .rename_i w;have w:=acK w;refine⟨_,_,u,.quiet λS E bM O C=>?_⟩;rw[d]at C;obtain⟨B,j,m⟩:=rN C;rw[J]at B;generalize hA:bM x=A at B;obtain⟨g1,⟨_,g,W,g2'⟩,g3⟩:=O.row id _ V;cases B with
     |FB _ _ i0 c0 s0 hρ g' M hn' =>
      rw[W]at M;cases M;rcases g3 with⟨_,Y,_⟩|⟨i',Z,b',mid,post,q1,q2,q3,q4,q5,q6,q7,q8,q9,zw⟩
      .rw[hρ]at Y;cases Y
      rw[hρ]at q1;cases q1;have K:=Nm (S:=S) (bM:=bM) q p G I D F f j m q2 (q9 rfl).1 w;have:=VR.tc (S:=S) id a.toNat (b.toNat-a.toNat) (n'-a.toNat) i0 c0 e.size hρ g W (by omega) (by omega);refine⟨_,λcall=>?_,this⟩;unfold kD;rw[d];show Ev.qU X.P bM o t (bM x) (lo.map bM) (hi.map bM) E=_;unfold Ev.qU;have e2:Ev.xC X.P t=true:=by simp[Ev.xC,q]
      rw[e2,hA,K];rfl
    cases u
   cases h
  cases h
 cases h
end
end Go.Tv
namespace Go.Tv
open Go.Ev (Tr ah jx Mem kV alive ay eA bQ iX kD br dh orElse)
theorem y6 {α:Type}:∀(xs l:List α) (off:Nat),off+xs.length<=l.length->nM l off xs=l.take off++(xs++l.drop (off+xs.length))
 |[],l,off,_=>by simp[nM]
 |x::xs,l,off,h=>by
  simp only[aJ]at h;rw[nM,y6 xs (l.set off x) (off+1) (by simp;omega)];have a:(l.set off x).take (off+1)=l.take off++[x]:=by
   rw[List.take_succ_eq_append_getElem (by simp;omega),List.take_set,List.set_eq_of_length_le (by simp;omega)];simp
  have b:(l.set off x).drop (off+1+xs.length)=l.drop (off+(x::xs).length):=by
   rw[List.drop_set_of_lt (by omega)];simp only[aJ];congr 1;omega
  rw[a,b];simp
theorem uO (l xs:aW)(off:Nat):Ev.pY l off xs=nM l off xs:=by
 induction xs generalizing l off with
 |nil=>rfl
 |cons x xs a=>exact a _ _
theorem sB {α:Type}:∀(xs l:List α) (off:Nat),(nM l off xs).length=l.length
 |[],l,off=>rfl
 |x::xs,l,off=>by rw[nM,sB xs];simp
theorem FJ {α:Type}(a c b xs:List α)(d:Nat)(h:d+xs.length<=c.length):nM (a++(c++b)) (a.length+d) xs=a++(nM c d xs++b):=by
 rw[y6 xs c d h,y6 xs _ _ (by simp;omega)];rw[pH,List.drop_append];simp only[kY];have e:a.take (a.length+d)=a:=cz (by omega);have e2:a.drop (a.length+d+xs.length)=[]:=gO (by omega);have f:a.length+d+xs.length-a.length=d+xs.length:=by omega
 rw[e,e2,f,eo (by omega),ek (by omega)];simp
theorem ow.set {α:Type}{R:α->aW->Prop}{l:List α}{j:Nat}{y:α}{a c b:aW}(d:j<l.length)(e:ow R (l.take j) a)(f:R y c)(g:ow R (l.drop (j+1)) b):ow R (l.set j y) (a++(c++b)):=by
 have:l.set j y=l.take j++(y::l.drop (j+1)):=by
  rw[List.set_eq_take_append_cons_drop,ag d]
 rw[this];exact e.append ⟨c,b,rfl,f,g⟩
theorem ow.put {α:Type}{R:α->aW->Prop}{s:Nat}(a:∀x c,R x c->c.length=s){l xs:List α}{mid b:aW}{off:Nat}(f:ow R l mid)(g:ow R xs b)(h:off+xs.length<=l.length):ow R (nM l off xs) (nM mid (off*s) b):=by
 have v:=f.length a;have e:=g.length a;obtain⟨c1,c2,p,i,k2⟩:=f.split a off;obtain⟨j,k,e2,q,m⟩:=k2.split a xs.length;have n:=i.length a;have d:=q.length a;have t:(l.take off).length=off:=by simp;omega
 have u:((l.drop off).take xs.length).length=xs.length:=by simp;omega
 rw[t]at n;rw[u]at d;rw[y6 xs l off h];have:nM mid (off*s) b=c1++(b++k):=by
  rw[p,e2,<-n];have:=FJ c1 j k b 0 (by rw[e,d];omega);rw[nE]at this;rw[this,y6 b j 0 (by rw[e,d];omega)];rw[gO (by rw[e,d];omega)];simp
 rw[this];rw[dB]at m;exact i.append (g.append m)
theorem CR.plain {F:Nat->Option aW}:∀(e:Ty) (x:e.den) (cs:aW),CR F e x cs->cs.all Ev.plainCell=true
 |.int _,_,_,h=>by rw[h];rfl
 |.bool,_,_,h=>by rw[h];rfl
 |.str,_,_,h=>by rw[h];rfl
 |.rL,_,_,h=>by rw[h];rfl
 |.unit,_,_,h=>by rw[h];rfl
 |.sl _,_,_,⟨v,h,c⟩=>by
  rw[h];rcases c with⟨_,rfl|rfl⟩|⟨i,pre,mid,post,cap,rfl,_⟩<;>rfl
 |.pair a b,_,_,⟨c1,c2,e,d,f⟩=>by rw[e,kX,CR.plain a _ _ d,CR.plain b _ _ f];rfl
theorem ow.plain {F:Nat->Option aW}{e:Ty}:∀{l:List e.den} {cs:aW},ow (CR F e) l cs->cs.all Ev.plainCell=true
 |[],_,h=>by rw[h];rfl
 |x::l,_,⟨c1,c2,a,b,c⟩=>by rw[a,kX,CR.plain e _ _ b,c.plain];rfl
theorem XB {S:Wo}{v:AV}{x:Value}(h:VR S v x)(a:tX v=true):Ev.plainCell x=true:=by
 cases h with
 |eC e l v b=>rcases b with⟨_,rfl|rfl⟩|⟨i,pre,mid,post,cap,rfl,_⟩<;>rfl
 |agg=>cases a
 |gI=>cases a
 |lG=>cases a
 |fl=>cases a
 |cx=>cases a
 |BB v c=>exact a
 |_=>rfl
theorem CK {S:Wo}:∀{l:aI} {m:aW},LV S l m->l.all tX=true->m.all Ev.plainCell=true
 |[],m,h,_=>by rw[h.kI];rfl
 |v::l,m,h,a=>by
  obtain⟨x,d,rfl,b,c⟩:=h.cons_inv;simp only[ck,ak]at a ⊢;exact⟨XB b a.1,CK c a.2⟩
theorem y7 {S:Wo}{v:AV}{x:Value}{cs:aI}(h:VR S v x)(a:FC v=some cs):LV S cs x.cells.toList:=by
 have one:∀(v:AV) (x:Value),VR S v x->x.cells = #[x]->LV S [v] x.cells.toList:=λv x h e=>by rw[e];exact LV.cons h LV.nil
 cases h with
 |eC e l v b =>
  cases a;have:x.cells = #[x]:=by rcases b with⟨_,rfl|rfl⟩|⟨i,pre,mid,post,cap,rfl,_⟩<;>rfl
  exact one _ _ (.eC e l x b) this
 |agg l m c d=>cases a;exact⟨by simpa[Value.cells] using c,by simpa[Value.cells] using d⟩
 |gI=>cases a
 |lG=>cases a
 |fl=>cases a
 |cx=>cases a
 |BB v f =>
  have a:ah (Ev.plainCell x) (some [AV.BB x]) none=some cs:=a;rw[ay]at a;split at a
  .rename_i g;cases a;refine one _ _ (.BB x f) ?_;cases x<;>first|rfl|cases g
  cases a
 |_=>cases a;exact LV.cons (by constructor<;>assumption) LV.nil
section
variable {X:ji} {cf:Nat×Nat->Ev.dx} {o:Oper} {ev:Operand->AV} {H:aH} {β:Type} {r:β}
theorem r9 {E:Mem}{i off:Nat}{b:kV}{vs:aW}(a:alive E i=some b)(d:E.lk<=i)(hlen:off+vs.length<=b.cells.length)(g:vs.all Ev.plainCell=true) :
 ∃E',Ev.js E i off vs=some E'/\E'.size=E.size/\E'.lk=E.lk/\∃c,alive E' i=some c/\c.cells=nM b.cells off vs/\c.elem=b.elem/\c.fix=b.fix/\∀j,j≠i->E'.get j=E.get j:=by
 unfold Ev.js;cases vs with
 |nil=>exact⟨E,rfl,rfl,rfl,b,a,rfl,rfl,rfl,λ_ _=>rfl⟩
 |cons v vs =>
  rw[aa (by simp),a];simp only;rw[ag (by rw[g];simpa using hlen)];obtain⟨E',e⟩:=Mem.j5 (b:={ b with cells:=Ev.pY b.cells off (v::vs) }) (mI a) d;obtain⟨_,_,h,k,f⟩:=Ev.Mem.mE e;refine⟨E',e,h,k,{ b with cells:=Ev.pY b.cells off (v::vs) },tZ (by rw[f,ag rfl]) (eA a).2,uO _ _ _,rfl,rfl,λj l=>by rw[f,aa l]⟩
def Wo.iL (S:Wo)(id v:Nat)(g:Sigma λe:Ty=>List e.den):Wo:=⟨S.F,S.ρ,λj w=>if j=id/\w=v then some g else S.Γ j w⟩
theorem Wo.ah8 {S:Wo}{id v:Nat}{g:Sigma λe:Ty=>List e.den}(h:S.Γ id v=none):S.le (S.iL id v g) :=
 ⟨λ_ _ h=>h,λ_ _ h=>h,λj w x a=>by
  show (if j=id/\w=v then some g else S.Γ j w)=_;by_cases b:j=id/\w=v
  .obtain ⟨rfl,rfl⟩:=b;rw[h]at a;cases a
  rw[aa b];exact a⟩
theorem Rel.rewrite {S:Wo}{E E':Mem}(s:Rel S H E){id:Nat}{t:TypeId}{e:Ty}{l a:List e.den}{iL:Nat}{ex:Bool}(u:H.get id=some (.list t e l iL ex false)){i cap:Nat}{b f:kV}{mid post:aW}
 (hρ:S.ρ id=some (i,cap,e.size)) (B:alive E i=some b) (C:E'.size=E.size) (k:E'.lk=E.lk) (D:∀j,j≠i->E'.get j=E.get j) (m:alive E' i=some f) (n:f.elem=b.elem) (G:f.fix=b.fix) (I:f.cells=mid++post) (hlen:f.cells.length=b.cells.length)
 (J:ow (CR S.F e) a mid) (V:a.length=l.length) (c:ex=true->post=[]) (K:∃L,ow (CR S.F e) L post) :
 S.le (S.iL id (iL+1) ⟨e,a⟩)/\Rel (S.iL id (iL+1) ⟨e,a⟩) (H.put id (.list t e a (iL+1) ex false)) E'/\St S H E (S.iL id (iL+1) ⟨e,a⟩) (H.put id (.list t e a (iL+1) ex false)) E':=by
 obtain⟨g1,⟨g0,g,M,N⟩,O⟩:=s.row id _ u;have d:S.le (S.iL id (iL+1) ⟨e,a⟩):=Wo.ah8 (g0 _ (by omega));rcases O with⟨_,x,_⟩|⟨W,y,b0,P,Q,q1,q2,q3,Y,Z,R,q7,T,z,zw⟩
 .rw[hρ]at x;cases x
 rw[hρ]at q1;cases q1;rw[B]at q2;cases q2;refine⟨d,s.mod u rfl d rfl (λj w A=>aa (by omega)) C k (λj A=>D j (A _ hρ)) (λj cs h=>.inl h) λq U=>?_⟩;cases U;refine⟨ag ⟨rfl,rfl⟩,⟨λv hv=>?_,g,d.Γ _ _ _ M,by omega⟩,.inr ⟨i,cap,f,mid,post,hρ,m,by rw[n,q3],I,J,by rw[hlen,R],by omega,T,λp=>⟨by rw[G];exact(z p).1,c p,by have:=(z p).2.2;omega⟩,λh=>(by cases h),K⟩⟩;show (if id=id/\v=iL+1 then some _ else S.Γ id v)=none;rw[aa (by omega)];exact g0 v (by omega)
theorem UU {t:TypeId}{p q:Operand}(m:o.op = .store t p q){k:AV->aH->Option β}(h:storeT X H t (ev p) (ev q) (λW=>k .lG W)=some r):∃v W,k v W=some r/\fO X cf o ev H v W:=by
 unfold storeT at h;split at h
 .rename_i id off n vs Y Z z;split at h
  .rename_i t' cs B;rw[ay]at h;split at h
   .rename_i M;simp only[ak,aQ,bF]at M;obtain⟨⟨⟨f,P5⟩,C⟩,D⟩:=M;refine⟨_,_,h,λS E bM G I=>?_⟩;rw[m]at I;have u:=I p (by simp[Op.operands]);have hy:=I q (by simp[Op.operands]);rw[Y]at u;generalize hA:bM p=A at u;cases u with
    |ptr _ _ i c s hρ =>
     obtain⟨i',c',s',b,k1,k2,k3,k4,k5⟩:=G.row id _ B;rw[hρ]at k1;cases k1;have w:=y7 hy z;have d:H.lk<=id:=by simpa[aH.o7,bF] using f
     have J:=G.lk id _ _ B d hρ;have N:off+n<=cs.length:=D;obtain⟨E',w1,w2,w3,b',w4,w5,w6,w7,w8⟩:=r9 (off:=off) (vs:=(bM q).cells.toList) k2 J (by rw[<-w.1,<-k3.1];omega) (CK w C);obtain⟨m1,m2⟩:=G.mod (S':=S) (E':=E') (r':=.cells t' (nM cs off vs)) B rfl S.le_refl rfl (λ_ _ _=>rfl) w2 w3 (λj hj=>w8 j (hj _ hρ)) (λj cs h=>.inl h) (λq hq=>by
      cases hq;refine⟨i,c,s,b',hρ,w4,?_,w6.trans k4,w7.trans k5⟩;rw[w5,<-uO];exact LV.nM vs _ off w k3)
     refine⟨S,undef,E',⟨0,λ_ _=>?_⟩,S.le_refl,.lG _,m1,m2⟩;unfold kD;rw[m];show Ev.rU X.P t (bM p) (bM q) E=_;have K:(bM q).cells.size=n:=by
      have:=w.1;simp at this;omega
     simp only[Ev.rU,Ev.tN,hA,Z,K,gy,w1]
   cases h
  cases h
 .rename_i id j L iL cur n vs Y Z z;split at h
  .rename_i t' e l ver' ex ro B;rw[ay]at h;split at h
   .rename_i M;simp only[ak,aQ,bF,aU]at M;obtain⟨⟨⟨⟨⟨f,P5⟩,C⟩,D⟩,rfl⟩,rfl⟩:=M;split at h
    .rename_i y hun;refine⟨_,_,h,λS E bM G I=>?_⟩;rw[m]at I;have u:=I p (by simp[Op.operands]);have hy:=I q (by simp[Op.operands]);rw[Y]at u;generalize hA:bM p=A at u;cases u with
     |Er _ _ _ _ _ i c e' l2 y' hρ hΓ O aso =>
      obtain⟨g1,⟨g0,g,g2,g2'⟩,g3⟩:=G.row id _ B;rw[g1]at hΓ;cases hΓ;rcases g3 with⟨_,g5,_⟩|⟨i',cap,b,mid,post,q1,q2,q3,q4,q5,q6,q7,q8,q9,zw⟩
      .rw[hρ]at g5;cases g5
      rw[hρ]at q1;cases q1;obtain⟨a,cc,Q,w1,w2,w3,w4,w5⟩:=q5.get (λx c=>CR.length e x c) O;subst aso;have hcc:=CR.length e _ _ w3;have hfl:=uN e y';have w:=y7 hy z;have N:L+n<=e.size:=by rw[<-hfl];exact D
      have d:H.lk<=id:=by simpa[aH.o7,bF] using f
      have J:=G.lk id _ _ B d hρ;have R:b.cells=a++(cc++(Q++post)):=by rw[q4,w1];simp
      have T:(bM q).cells.toList.length=n:=by rw[<-w.1];exact P5
      obtain⟨E',v1,v2,v3,b',v4,v5,v6,v7,v8⟩:=r9 (off:=j*e.size+L) (vs:=(bM q).cells.toList) q2 J (by rw[R];simp at T ⊢;omega) (CK w C);have U:nM b.cells (j*e.size+L) (bM q).cells.toList=a++(nM cc L (bM q).cells.toList++(Q++post)):=by
       rw[R,<-w2];exact FJ a cc (Q++post) _ L (by omega)
      have V:=LV.nM vs _ L w (CR.flat e _ _ w3);rw[uO]at V;obtain⟨c1,m',e1,r1,r2⟩:=sA e hun V;have hm':=r2.kI;subst hm';rw[dS]at e1;have hjl:=fM O;have hC:ow (CR S.F e) (l.set j y) (a++(c1++Q)):=ow.set hjl w4 r1 w5;obtain⟨z1,z2,z3⟩:=G.rewrite B hρ q2 v2 v3 v8 v4 v6 v7 (mid:=a++(c1++Q)) (post:=post) (by rw[v5,U,e1];simp) (by rw[v5,sB]) hC (by simp) (λu=>(q9 u).2.1) zw.2;refine⟨_,undef,E',⟨0,λ_ _=>?_⟩,z1,.lG _,z2,z3⟩;unfold kD;rw[m];show Ev.rU X.P t (bM p) (bM q) E=_
      have K:(bM q).cells.size=n:=by simpa using T
      simp only[Ev.rU,Ev.tN,hA,Z,K,gy,v1]
    cases h
   cases h
  cases h
 cases h
end
end Go.Tv
namespace Go.Tv
open Go.Ev (Tr ah jx Mem kV alive ay eA bQ iX kD br dh orElse)
section
variable {X:ji} {cf:Nat×Nat->Ev.dx} {o:Oper} {ev:Operand->AV} {H:aH} {β:Type} {r:β}
theorem anw {a b:Nat}(h:Nat.beq a b=false):a≠b:=λe=>by subst e;rw[qg]at h;cases h
inductive Aq (S:Wo)(H:aH)(E:Mem)(te:TypeId)(e:Ty)(old:List e.den):aH->Value->Prop where
 |nil (h:old=[]):Aq S H E te e old H (.slice none 0 0)
 |XC (id r) (hg:H.get id=some r) (hro:r.Cm=false) (h:old=[]):Aq S H E te e old (H.put id .dead) (.slice none 0 0)
 |row (id r i cap b mid post) (hg:H.get id=some r) (hro:r.Cm=false) (hρ:S.ρ id=some (i,cap,e.size)) (hb:alive E i=some b) (hlk:E.lk<=i) (hc:b.cells=mid++post) (hC:ow (CR S.F e) old mid) (hn:b.cells.length=cap*e.size) (hl:old.length<=cap) (hcap:cap<=2000000) (hel:b.elem=te) (W5:∃l2,ow (CR S.F e) l2 post):Aq S H E te e old (H.put id .dead) (.slice (some ⟨i,0,none⟩) old.length cap)
theorem XD {S:Wo}{E:Mem}(q:Rel S H E){te:TypeId}{e:Ty}{s:AV}{old:List e.den}{J:aH}{x:Value}(h:Xm H te e s=some (old,J))(v:VR S s x):Aq S H E te e old J x:=by
 unfold Xm at h;split at h
 .cases h;cases v;exact .nil rfl
 .rename_i id n;split at h
  .rename_i w t l iL ex f;rw[ay]at h;split at h
   .rename_i a;simp only[ak,aQ]at a;obtain⟨a,rfl⟩:=a;split at h
    .rename_i K y;cases h;obtain⟨z,i⟩:=cr y;subst z;have i:l=old:=i;subst i;obtain⟨g1,⟨g0,g,u,j⟩,A⟩:=q.row id _ f;cases v with
     |own _ _ B P Q hρ L d k =>
      rw[u]at d;cases d;rcases A with⟨_,m,_⟩|⟨R,cap,b,mid,post,q1,q2,q3,C,D,F,M,G,N,I⟩
      .rw[hρ]at m;cases m
      rw[hρ]at q1;cases q1;have:=Aq.row (S:=S) (H:=H) (E:=E) (te:=w) (e:=t) (old:=l) id _ B P b mid post f rfl hρ q2 (q.lk id _ _ f (by simpa[aH.o7,bF] using a) hρ) C D F M G q3 I.2;rw[<-j,k]at this;exact this
     |iw _ L d k =>
      rw[u]at d;cases d;have T:l=[]:=aS.1 (by omega);exact .XC id _ f rfl T
    cases h
   cases h
  cases h
 .rename_i id len O;split at h
  .rename_i w t l iL f;rw[ay]at h;split at h
   .rename_i a;simp only[ak,aQ]at a;obtain⟨a,rfl⟩:=a;split at h
    .rename_i K y;cases h;obtain⟨z,i⟩:=cr y;subst z;have i:l=K:=i;subst i;obtain⟨g1,⟨g0,g,u,j⟩,A⟩:=q.row id _ f;cases v with
     |tc _ _ _ _ B c0 Q hρ L d U Z =>
      rw[u]at d;cases d;rcases A with⟨_,m,_⟩|⟨R,cap,b,mid,post,q1,q2,q3,C,D,F,M,G,N,I⟩
      .rw[hρ]at m;cases m
      rw[hρ]at q1;cases q1;obtain⟨c1,c2,V,W,k2⟩:=D.split (λx c=>CR.length t x c) len;have hlen:(l.take len).length=len:=by simp;omega
      have p:O=c0:=by have:=(N rfl).2.2;omega
      subst p;have:=Aq.row (S:=S) (H:=H) (E:=E) (te:=w) (e:=t) (old:=l.take len) id _ B O b c1 (c2++post) f rfl hρ q2 (q.lk id _ _ f (by simpa[aH.o7,bF] using a) hρ) (by rw[C,V];simp) W F (by omega) G q3 (I.2.elim λl2 Y=>⟨_,k2.append Y⟩);rw[hlen]at this;rw[qi];exact this
    cases h
   cases h
  cases h
 cases h
theorem mJ {S:Wo}{H:aH}{E':Mem}{te:TypeId}{e:Ty}{l:List e.den}{i cap:Nat}{b:kV}{mid post:aW}{d:Bool}(f:∀v,S.Γ H.next v=none)(g:alive E' i=some b)(c:b.elem=te)(j:b.cells=mid++post)(k:ow (CR S.F e) l mid)(m:b.cells.length=cap*e.size)(n:l.length<=cap)(a:cap<=2000000)(p:d=true->b.fix=true/\post=[]/\l.length=cap) (q:∃s,ow (CR S.F e) s post:=by exact⟨[],rfl⟩) :
 qD (S.new H.next (some (i,cap,e.size)) (some ⟨e,l⟩)) E' H.next (.list te e l 0 d false):=by
 refine⟨ag ⟨rfl,rfl⟩,⟨λv t=>?_,⟨e,l⟩,ag ⟨rfl,rfl⟩,rfl⟩,.inr ⟨i,cap,b,mid,post,ag rfl,g,c,j,k,m,n,a,p,λh=>(by cases h),q⟩⟩;show (if H.next=H.next/\v=0 then some _ else S.Γ H.next v)=none;rw[aa (by omega)];exact f v
theorem mK {S:Wo}{H:aH}{E':Mem}{te:TypeId}{e:Ty}(a:∀v,S.Γ H.next v=none):qD (S.new H.next none (some ⟨e,([]:List e.den)⟩)) E' H.next (.list te e [] 0 false false):=by
 refine⟨ag ⟨rfl,rfl⟩,⟨λv b=>?_,⟨e,[]⟩,ag ⟨rfl,rfl⟩,rfl⟩,.inl ⟨rfl,ag rfl,rfl⟩⟩;show (if H.next=H.next/\v=0 then some _ else S.Γ H.next v)=none;rw[aa (by omega)];exact a v
theorem Nn {S:Wo}{E:Mem}(K:Rel S H E){st xt te:TypeId}{f:TypeInfo}{z:Value}{e:Ty}{old new:List e.den}{R:aH}{s' x':Value}(hu:X.P.underlying st=some (.slice te))(PL:Ev.mP X.P xt=true)(hi:X.P.info? te=some f)(hz:Ev.nI X.P te=some z)
 (t:f.size=e.size) (h0:f.size≠0) (hb0:f.bytes≠0) (zq:f.bytes<=100000) (hzc:z.cells.size=f.size) (XE:old.length+new.length<=2000000)
 (hlen:Ev.xl x'=some new.length) (T:∃c,Ev.jJ E e.size new.length x'=some c/\ow (CR S.F e) new c) (L:Aq S H E te e old R s') :
 ∃S' vE E',Ev.sX X.P E st xt s' x'=some (vE,E')/\S.le S'/\VR S' (.own R.next (old.length+new.length)) vE/\Rel S' (R.push (.list te e (old++new) 0 false false)) E'/\St S H E S' (R.push (.list te e (old++new) 0 false false)) E':=by
 obtain⟨q,hn1,w⟩:=T;have J:∀x c,CR S.F e x c->c.length=e.size:=λx c=>CR.length e x c
 have XF:=w.length J;have p6:∀v,S.Γ H.next v=none:=λv=>K.D5 _ _ (aG _)
 have anx:0<e.size:=by omega
 -- the m own tests
 have xu:∀(base:Option Addr) (d l:Nat) (p:aW),Ev.jJ E e.size d (.slice base d l)=some p->d=old.length->l<=2000000 ->
  Ev.sX X.P E st xt (.slice base d l) x'=(if d+new.length<=l then
   match base with
   |some ⟨b,off,none⟩=>(Ev.js E b (off+d*f.size) q).map λR=>(.slice base (d+new.length) l,R)
   |none=>if new.length=0 then some (.slice base d l,E) else none
   |_=>none
   else
    match base with
    |some ⟨b,off,none⟩ =>
     if off=0/\p.length=d*f.size/\(alive E b).any (λk=>decide (k.cells.length=l*f.size)&&(k.elem==te)) then
      match Ev.kill E b with
      |some H1=>Ev.mw H1 te (p++q) (d+new.length) (d+new.length)
      |none=>none
     else none
    |none=>Ev.mw E te (p++q) (d+new.length) (d+new.length)
    |_=>none):=by
  intro base d l p u hsl A;unfold Ev.sX;simp only[hu,PL,hi,hz,hlen];rw[t,hn1,u];simp only;have s:¬(e.size=0\/f.bytes=0\/f.bytes>100000\/d+new.length>2000000\/l>2000000\/z.cells.size≠e.size\/(!q.all Ev.plainCell)=true):=by
   rw[w.plain];simp;omega
  rw[aa s];rfl
 -- a new row of the m
 have fresh:∀(D:Mem),D.size=E.size->D.lk=E.lk->∀(p:aW),ow (CR S.F e) old p ->
  ∃E',Ev.mw D te (p++q) (old.length+new.length) (old.length+new.length)=some (.slice (some ⟨E.size,0,none⟩) (old.length+new.length) (old.length+new.length),E')/\E.size<=E'.size/\E'.lk=E.lk/\(∀j,j<E.size->E'.get j=D.get j) /\
   qD (S.new H.next (some (E.size,old.length+new.length,e.size)) (some ⟨e,old++new⟩)) E' H.next (.list te e (old++new) 0 false false)/\VR (S.new H.next (some (E.size,old.length+new.length,e.size)) (some ⟨e,old++new⟩)) (.own H.next (old.length+new.length)) (.slice (some ⟨E.size,0,none⟩) (old.length+new.length) (old.length+new.length)):=by
  intro D h1 h2 p u;obtain⟨E',hE⟩:=Mem.nu D ⟨p++q,te,true,false⟩;obtain⟨p1,p2,p3⟩:=Ev.Mem.eG hE;refine⟨E',?_,by omega,by omega,λj U=>by rw[p3,aa (by omega)],?_,?_⟩
  .unfold Ev.mw;rw[hE];simp only[h1]
  .refine mJ (b:=⟨p++q,te,true,false⟩) (mid:=p++q) (post:=[]) p6 (tZ (by rw[p3,ag h1.symm]) rfl) rfl (by simp) (u.append w) ?_ (by simp) XE (λh=>by cases h);simp only[aA,XF,u.length J,dX]
  exact .own _ _ _ _ e.size (ag rfl) ⟨e,old++new⟩ (ag ⟨rfl,rfl⟩) (by simp)
 cases L with
 |nil ho =>
  subst ho;rw[xu none 0 0 [] (by simp[Ev.jJ]) rfl (by omega)];by_cases M:new.length=0
  .have Bn:new=[]:=aS.1 M;subst Bn;obtain⟨a1,a2,B⟩:=K.add (r:=.list te e ([]++[]) 0 false false) (x:=none) (g:=some ⟨e,[]⟩) (aG _) rfl (λ_ _=>rfl) (λr' h=>by cases h;exact mK p6) (λy h=>by cases h) rfl;exact⟨_,_,E,by simp,a1,.iw _ ⟨e,[]⟩ (ag ⟨rfl,rfl⟩) rfl,a2,B⟩
  obtain⟨E',N,e2,V,W,Y,Z⟩:=fresh E rfl rfl [] rfl;obtain⟨a1,a2,B⟩:=K.add (r:=.list te e ([]++new) 0 false false) (x:=some (E.size,([]:List e.den).length+new.length,e.size)) (g:=some ⟨e,[]++new⟩) e2 V W (λr' h=>by cases h;exact Y) (λy h=>by cases h;exact aG _) rfl;refine⟨_,_,E',?_,a1,Z,a2,B⟩;rw[aa (by omega)];exact N
 |XC id r0 hg C ho =>
  subst ho;have SH:(H.put id .dead).next=H.next:=(aH.iK H id .dead).1
  rw[xu none 0 0 [] (by simp[Ev.jJ]) rfl (by omega),SH];by_cases M:new.length=0
  .have Bn:new=[]:=aS.1 M;subst Bn;obtain⟨a1,a2,B⟩:=K.move (E':=E) (r:=.list te e ([]++[]) 0 false false) (x:=none) (g:=some ⟨e,[]⟩) hg C (aG _) rfl (λ_ _ _=>rfl) (λy h=>by cases h) (λr' h=>by cases h;exact mK p6) rfl;exact⟨_,_,E,by simp,a1,.iw _ ⟨e,[]⟩ (ag ⟨rfl,rfl⟩) rfl,a2,B⟩
  obtain⟨E',N,e2,V,W,Y,Z⟩:=fresh E rfl rfl [] rfl;obtain⟨a1,a2,B⟩:=K.move (E':=E') (r:=.list te e ([]++new) 0 false false) (x:=some (E.size,([]:List e.den).length+new.length,e.size)) (g:=some ⟨e,[]++new⟩) hg C e2 V (λj U _=>W j U) (λy h=>by cases h;exact .inl (aG _)) (λr' h=>by cases h;exact Y) rfl;refine⟨_,_,E',?_,a1,Z,a2,B⟩;rw[aa (by omega)];exact N
 |row id r0 i cap b mid post hg C hρ hb O hc hC M hl A hel W5 =>
  have SH:(H.put id .dead).next=H.next:=(aH.iK H id .dead).1
  have hml:=hC.length J;obtain⟨p,ho1,Eo⟩:=BH (pre:=[]) J (λ_ _ h=>h.qp) hb (by simpa using hc) hC 0 old.length (by omega);have u:Ev.jJ E e.size old.length (.slice (some ⟨i,0,none⟩) old.length cap)=some p:=by simpa[Ev.jJ] using ho1
  have ho3:ow (CR S.F e) old p:=by simpa using Eo
  rw[xu _ _ _ p u rfl A,SH];by_cases n:old.length+new.length<=cap
  .rw[ag n];have hbound:0+old.length*f.size+q.length<=b.cells.length:=by
    rw[XF,M,t,cj,<-dX];exact eS _ n
   obtain⟨E',w1,w2,w3,b',w4,w5,w6,w7,w8⟩:=r9 hb O hbound w.plain;have G:b'.cells=(mid++q)++post.drop q.length:=by
    rw[w5,hc];have hoff:0+old.length*f.size=mid.length:=by rw[hml,t];omega
    rw[hoff];have hpl:q.length<=post.length:=by
     have:b.cells.length=mid.length+post.length:=by rw[hc];simp
     omega
    have:=FJ mid post [] q 0 (by omega);simp only[dS,nE]at this;rw[this,y6 q post 0 (by omega)];simp
   have I:b'.cells.length=cap*e.size:=by rw[w5,sB,M]
   have ah9:∃l2,ow (CR S.F e) l2 (post.drop q.length):=by
    obtain⟨l2,Ck⟩:=W5;obtain⟨a,bb,N,f1,f2⟩:=Ck.split J new.length;have h1:=Ck.length J;have h2:=f1.length J;have hpl:new.length*e.size<=l2.length*e.size:=by
     have:b.cells.length=mid.length+post.length:=by rw[hc];simp
     have Mb:0+old.length*f.size+q.length<=b.cells.length:=hbound;rw[t]at Mb;rw[<-h1];omega
    have hle:=Nat.le_of_mul_le_mul_right hpl anx;rw[bV,iG hle]at h2;have key:post.drop q.length=bb:=by rw[N,XF,<-h2];simp
    rw[key];exact⟨_,f2⟩
   obtain⟨a1,a2,B⟩:=K.move (E':=E') (r:=.list te e (old++new) 0 false false) (x:=some (i,cap,e.size)) (g:=some ⟨e,old++new⟩) hg C (by omega) w3 (λj U Q=>w8 j (Q _ hρ)) (λy h=>by cases h;exact .inr ⟨_,hρ,rfl,O⟩)
    (λr' h=>by
     cases h;exact mJ p6 w4 (by rw[w6,hel]) G (hC.append w) I (by simpa using n) A (λh=>by cases h) ah9) rfl
   refine⟨_,_,E',by simp only[w1,bP],a1,.own _ _ i cap e.size (ag rfl) ⟨e,old++new⟩ (ag ⟨rfl,rfl⟩) (by simp),a2,B⟩
  rw[aa n];have s:(True/\p.length=old.length*f.size/\(alive E i).any (λk=>decide (k.cells.length=cap*f.size)&&(k.elem==te))=true):=by
   refine⟨trivial,by rw[ho3.length J,t],?_⟩;rw[hb];simp[M,t,hel]
  simp only;rw[ag s];obtain⟨hgi,Cq⟩:=eA hb;obtain⟨D,hE1⟩:=Mem.j5 (b:={ b with live:=false,fix:=false }) (mI hb) O;obtain⟨_,_,s3,s4,s5⟩:=Ev.Mem.mE hE1;have gb:Ev.kill E i=some D:=by unfold Ev.kill;rw[hgi];exact hE1
  rw[gb];obtain⟨E',N,e2,V,W,Y,Z⟩:=fresh D s3 s4 p ho3;obtain⟨a1,a2,B⟩:=K.move (E':=E') (r:=.list te e (old++new) 0 false false) (x:=some (E.size,old.length+new.length,e.size)) (g:=some ⟨e,old++new⟩) hg C e2 V (λj U Q=>by rw[W j U,s5,aa (Q _ hρ)]) (λy h=>by cases h;exact .inl (aG _)) (λr' h=>by cases h;exact Y) rfl;exact⟨_,_,E',N,a1,Z,a2,B⟩
theorem QD {c:Call}{s x:Operand}{st l:TypeId}(a:o.op = .call c)(m:c.callee = .builtin .append)(n:c.args[0]? = some s)(p:c.args[1]? = some x)(q:c.argTypes[0]? = some st)(t:c.argTypes[1]? = some l){k:AV->aH->Option β}(h:Ks X H st l (ev s) (ev x) k=some r) :
 ∃v d,k v d=some r/\fO X cf o ev H v d:=by
 unfold Ks at h;split at h
 .rename_i te u w;split at h
  .rename_i A z e hi B C;rw[ay]at h;split at h
   .rename_i b;simp only[ak,aQ,bF,aU]at b;obtain⟨⟨⟨⟨c1,c2⟩,D⟩,F⟩,c5⟩:=b;split at h
    .rename_i new old d G I;rw[ay]at h;split at h
     .rename_i f;have f:=aB f;refine⟨_,_,h,λS E bM g i=>?_⟩;rw[a]at i;have mem:∀(y:Operand) (j:Nat),c.args[j]? = some y->y∈(Op.call c).operands:=λy j hy=>by
       have:=bq hy;simp only[Op.operands,Call.operands,m];simpa using this
      have J:=i s (mem s 0 n);have K:=i x (mem x 1 p);obtain⟨L,M⟩:=FH g G K;obtain⟨N,n1,n2⟩:=M new.length (aG _);rw[l9]at n2;obtain⟨S',O,E',a1,a2,Q,R,T⟩:=Nn (X:=X) g u w hi B c1 (anw c2) (anw D) F c5 f L ⟨N,n1,n2⟩ (XD g I J);refine⟨S',O,E',⟨0,λ_ _=>?_⟩,a2,Q,R,T⟩;unfold kD;rw[a];show Ev.fu X.P _ bM o c E=_;unfold Ev.fu;rw[m];show Ev.tQ X.P bM c.args c.argTypes E=_;unfold Ev.tQ;rw[n,p,q,t];exact a1
     cases h
    cases h
   cases h
  cases h
 cases h
theorem UW {t:TypeId}{x y:Operand}(d:o.op = .slice t x none (some y) none){k:AV->aH->Option β}(h:Qw X H t (ev x) (ev y) k=some r):∃v K,k v K=some r/\fO X cf o ev H v K:=by
 unfold Qw at h;split at h
 .rename_i te id n kb b j D F;split at h
  .rename_i L e l iL ex z;rw[ay]at h;split at h
   .rename_i f;simp only[ak]at f;obtain⟨f,m⟩:=f;have f:=FI f;rw[ay]at h;split at h
    .rename_i i;have i:=ah6 i;refine⟨_,_,h,λS E bM p M=>?_⟩;rw[d]at M;obtain⟨G,q,s⟩:=rN M;rw[D]at G;have N:∀v,S.Γ H.next v=none:=λv=>p.D5 _ _ (aG _)
     have SH:(H.put id .dead).next=H.next:=(aH.iK H id .dead).1
     obtain⟨g1,⟨g0,g,O,R⟩,T⟩:=p.row id _ z;generalize hA:bM x=A at G;have P:BR ev 0 none 0:=.none;have u:∀len:Nat,BR ev len (some y) b:=λlen=>.some y kb b F
     cases G with
     |own _ _ B C s0 hρ U a I =>
      rw[O]at a;cases a;rcases T with⟨_,Q,_⟩|⟨i',cap,bk,mid,post,q1,q2,q3,V,W,Y,q7,Z,q9,zw⟩
      .rw[hρ]at Q;cases Q
      rw[hρ]at q1;cases q1;obtain⟨c1,c2,e1,k1,k2⟩:=W.split (λx c=>CR.length e x c) b.toNat;have hlen:(l.take b.toNat).length=b.toNat:=by simp;omega
      obtain⟨a1,a2,J⟩:=p.move (E':=E) (r:=.list L e (l.take b.toNat) 0 false false) (x:=some (B,C,e.size)) (g:=some ⟨e,l.take b.toNat⟩) z rfl (aG _) rfl (λ_ _ _=>rfl) (λy h=>by cases h;exact .inr ⟨_,hρ,rfl,p.lk id _ _ z (by simpa[aH.o7,bF] using m) hρ⟩)
       (λr' h=>by
        cases h;exact mJ (mid:=c1) (post:=c2++post) N q2 q3 (by rw[V,e1];simp) k1 Y (by omega) Z (λh=>by cases h) (zw.2.elim λl2 h2=>⟨_,k2.append h2⟩)) rfl
      refine⟨_,.slice (some ⟨B,0,none⟩) b.toNat C,E,⟨0,λ_ _=>nv d j ?_⟩,a1,.own _ _ B C e.size (ag rfl) ⟨e,l.take b.toNat⟩ (ag ⟨rfl,rfl⟩) hlen,a2,J⟩;rw[hA];have:=qF (S:=S) (bM:=bM) j f P (u n) (by omega) i.1 (show b<=C by omega) q s (some ⟨B,0,none⟩) (.inr ⟨_,_,rfl⟩) (by omega);rw[this];simp
     |iw _ U a I =>
      rw[O]at a;cases a;have h0:l=[]:=aS.1 (by omega);subst h0;have w:b.toNat=0:=by simp at i;omega
      obtain⟨a1,a2,J⟩:=p.move (E':=E) (r:=.list L e (([]:List e.den).take b.toNat) 0 false false) (x:=none) (g:=some ⟨e,[]⟩) z rfl (aG _) rfl (λ_ _ _=>rfl) (λy h=>by cases h) (λr' h=>by
       cases h;rw[List.take_nil];exact mK N) rfl
      refine⟨_,.slice none 0 0,E,⟨0,λ_ _=>nv d j ?_⟩,a1,by rw[w];exact .iw _ ⟨e,[]⟩ (ag ⟨rfl,rfl⟩) rfl,a2,J⟩;rw[hA];have:=qF (S:=S) (bM:=bM) j f P (u 0) (by omega) i.1 (show b<=(0:Nat) by simp at i;omega) q s none (.inl rfl) (by omega);rw[this];simp[w]
    cases h
   cases h
  cases h
 .rename_i te kb b j D F;refine CJ (lo:=none) (hi:=some y) d ?_;rw[D];simp only[fR,bP,F];exact h
 cases h
theorem XG {c:Call}{d x:Operand}{dt:TypeId}(m:o.op = .call c)(C:c.callee = .builtin .copy)(D:c.args[0]? = some d)(G:c.args[1]? = some x)(O:c.argTypes[0]? = some dt){k:AV->aH->Option β}(h:Xn X H dt (ev d) (ev x) k=some r) :
 ∃v I,k v I=some r/\fO X cf o ev H v I:=by
 unfold Xn at h;split at h
 .rename_i te id off len Nj Q R;split at h
  .rename_i t' e l iL s w T;rw[ay]at h;split at h
   .rename_i n;simp only[ak,aQ]at n;obtain⟨p,rfl⟩:=n;split at h
    .rename_i new U;refine⟨_,_,h,λS E bM u z=>?_⟩;rw[m]at z;have mem:∀(y:Operand) (j:Nat),c.args[j]? = some y->y∈(Op.call c).operands:=λy j hy=>by
      have:=bq hy;simp only[Op.operands,Call.operands,C];simpa using this
     have f:=z d (mem d 0 D);have V:=z x (mem x 1 G);rw[R]at f;generalize hA:bM d=A at f;obtain⟨W,Y⟩:=FH u U V;obtain⟨J,n1,n2⟩:=Y (Nat.min new.length len) (Nat.min_le_left _ _);obtain⟨g1,⟨g0,g,Z,g2'⟩,g3⟩:=u.row id _ w;cases f with
     |tc _ _ _ _ i0 c0 s0 hρ g' q hcc Nk =>
      rw[Z]at q;cases q;rcases g3 with⟨_,K,_⟩|⟨i',cap,b,mid,post,q1,q2,q3,L,q5,q6,q7,q8,q9,zw⟩
      .rw[hρ]at K;cases K
      rw[hρ]at q1;cases q1;have M:∀x c,CR S.F e x c->c.length=e.size:=λx c=>CR.length e x c
      obtain⟨_,i,hlc⟩:=q9 rfl;subst i;rw[dS]at L;have XF:=n2.length M;have a:(new.take (Nat.min new.length len)).length=Nat.min new.length len:=by simp
      have hml:Nat.min new.length len<=len:=Nat.min_le_right _ _;have B:=u.lk id _ _ w (by simpa[aH.o7,bF] using p) hρ;have hbound:off*e.size+J.length<=b.cells.length:=by
       rw[XF,a,q6,<-dX];exact eS _ (by omega)
      obtain⟨E',w1,w2,w3,b',w4,N,w6,w7,w8⟩:=r9 q2 B hbound n2.plain;have t:=ow.put M q5 n2 (off:=off) (by rw[a];omega);obtain⟨z1,z2,z3⟩:=u.rewrite w hρ q2 w2 w3 w8 w4 w6 w7 (mid:=nM mid (off*e.size) J) (post:=[]) (by rw[N,L];simp) (by rw[N,sB]) t (sB _ _ _) (λ_=>rfl) ⟨[],rfl⟩;refine⟨_,goInt (Nat.min new.length len),E',⟨0,λ_ _=>?_⟩,z1,.int _ _,z2,z3⟩;unfold kD;rw[m];show Ev.fu X.P _ bM o c E=_;unfold Ev.fu;rw[C];show Ev.Cn X.P bM c.args c.argTypes E=_;unfold Ev.Cn
      rw[D,G,O];show Ev.Ia X.P E dt (bM d) (bM x)=_;rw[hA];simp only[Ev.Ia,Q,W,T,n1,w1,bP]
    cases h
   cases h
  cases h
 cases h
end
end Go.Tv
namespace Go.Tv
open Go.Ev (Tr ah jx Mem kV alive ay eA bQ iX kD br dh orElse)
theorem Ar {S:Wo}:∀{v:Value},br v=true->VR S (Qs v) v:=by
 intro v h;unfold Qs;split
 .exact .int _ _
 .exact .bool _
 .rename_i s;have:=VR.str (S:=S) s.data.toList;obtain⟨⟨l⟩⟩:=s;exact this
 .exact .rL _
 .exact .pU
 .exact .eB
 exact .BB _ h
theorem CL:∀{l:aW},Ev.dm l=true->∀v∈l,br v=true
 |[],_,v,a=>by simp at a
 |x::l,h,v,a=>by
  simp only[Ev.dm,ak]at h;rcases bD.1 a with rfl|a
  .exact h.1
  exact CL h.2 v a
theorem Au {z:Value}(h:br z=true):∀v∈z.cells.toList,br v=true:=by
 cases z with
 |agg cs =>
  have b:Ev.dm cs.toList=true:=by
   obtain⟨l⟩:=cs;simpa[Ev.br,Ev.nU] using h
  exact CL b
 |_=>intro v a;simp[Value.cells]at a;subst a;exact h
theorem Av {P:Program}{t:TypeId}{z:Value}(h:Ev.nI P t=some z):br z=true/\∃i,P.info? t=some i/\i.zero=some z:=by
 unfold Ev.nI at h;split at h
 .rename_i i hi;split at h
  .rename_i c a;split at h
   .rename_i b;cases h;exact⟨b,i,hi,a⟩
   cases h
  cases h
 cases h
theorem oK {X:ji}{S:Wo}{t:TypeId}{z:aI}(h:DC X t=some z):∃a,Ev.nI X.P t=some a/\LV S z a.cells.toList:=by
 unfold DC at h;split at h
 .rename_i a b;cases h;refine⟨a,b,?_⟩;have:=LV.map (S:=S) (f:=Qs) (g:=λv=>v) a.cells.toList λv c=>Ar (Au (Av b).1 v c)
  simpa using this
 cases h
section
variable {X:ji} {cf:Nat×Nat->Ev.dx} {o:Oper} {ev:Operand->AV} {H:aH} {β:Type} {r:β}
theorem II {S:Wo}{E:Mem}(b:Rel S H E){t:TypeId}{cs:aI}{C:aW}(d:LV S cs C) :
 ∃S' E',Ev.wh E t C=some (.pointer (some ⟨E.size,0,none⟩),E')/\S.le S'/\VR S' (.ptr H.next 0) (.pointer (some ⟨E.size,0,none⟩))/\Rel S' (H.push (.cells t cs)) E'/\St S H E S' (H.push (.cells t cs)) E':=by
 obtain⟨E',c⟩:=Mem.nu E ⟨C,t,true,true⟩;obtain⟨i,e,p3⟩:=Ev.Mem.eG c;have a:=Wo.KD b (some (E.size,0,0)) none;obtain⟨a1,a2,f⟩:=b.add (E':=E') (r:=.cells t cs) (x:=some (E.size,0,0)) (g:=none) (by omega) e (λj k=>by rw[p3,aa (by omega)]) (λr' h=>by
  cases h;exact⟨E.size,0,0,⟨C,t,true,true⟩,ag rfl,tZ (by rw[p3,ag rfl]) rfl,d.mono a,rfl,rfl⟩) (λy h=>by cases h;exact aG _) rfl
 exact⟨_,E',by unfold Ev.wh;rw[c],a1,.ptr _ _ E.size 0 0 (ag rfl),a2,f⟩
theorem UX {t:TypeId}{z:aI}(a:o.op = .alloc t)(b:DC X t=some z):fO X cf o ev H (.ptr H.next 0) (H.push (.cells t z)):=by
 intro S E bM c j;obtain⟨k,d,e⟩:=oK (S:=S) b;obtain⟨S',E',f,k2,g,h,i⟩:=II (t:=t) c e;refine⟨S',_,E',⟨0,λ_ _=>?_⟩,k2,g,h,i⟩;unfold kD;rw[a];show Ev.sY X.P t E=_;unfold Ev.sY;rw[d];exact f
theorem UY {t:TypeId}(d:o.op = .alloc t){k:AV->aH->Option β}(h:Qx X H t k=some r):∃v m,k v m=some r/\fO X cf o ev H v m:=by
 unfold Qx at h;split at h
 .rename_i z n te u I;split at h
  .rename_i e w;split at h
   .rename_i l f;rw[ay]at h;split at h
    .rename_i i;have i:n<=2000000:=aB i;refine⟨_,_,h,λS E bM p J=>?_⟩;obtain⟨a,A,B⟩:=oK (S:=S) u;obtain⟨q,hlen⟩:=wJ e n f B;have C:=q.length (λx c=>CR.length e x c);have D:∀v,S.Γ H.next v=none:=λv=>p.D5 _ _ (aG _)
     obtain⟨E',s⟩:=Mem.nu E ⟨a.cells.toList,t,true,true⟩;obtain⟨K,F,p3⟩:=Ev.Mem.eG s;obtain⟨a1,a2,G⟩:=p.add (E':=E') (r:=.list t e l 0 true false) (x:=some (E.size,n,e.size)) (g:=some ⟨e,l⟩) (by omega) F (λj L=>by rw[p3,aa (by omega)]) (λr' h=>by
      cases h;exact mJ (b:=⟨a.cells.toList,t,true,true⟩) (mid:=a.cells.toList) (post:=[]) D (tZ (by rw[p3,ag rfl]) rfl) rfl (by simp) q (by rw[<-hlen];exact C) (by omega) i (λ_=>⟨rfl,rfl,hlen⟩)) (λy h=>by cases h;exact aG _) rfl
     refine⟨_,.pointer (some ⟨E.size,0,none⟩),E',⟨0,λ_ _=>?_⟩,a1,.FB _ _ E.size n e.size (ag rfl) ⟨e,l⟩ (ag ⟨rfl,rfl⟩) hlen,a2,G⟩;unfold kD;rw[d];show Ev.sY X.P t E=_;unfold Ev.sY;rw[A];show Ev.wh E t a.cells.toList=_;unfold Ev.wh;rw[s]
    cases h
   cases h
  cases h
 cases h
theorem acL {t:TypeId}{x:Operand}{n:Nat}{cs:aI}(a:o.op = .box t x)(c:Ev.dJ X.P t=some n)(d:FC (ev x)=some cs):fO X cf o ev H (.ptr H.next 0) (H.push (.cells t cs)):=by
 intro S E bM e b;rw[a]at b;have f:=b x (by simp[Op.operands]);obtain⟨S',E',g,k2,h,i,j⟩:=II (t:=t) e (y7 f d);refine⟨S',_,E',⟨0,λ_ _=>?_⟩,k2,h,i,j⟩;unfold kD;rw[a];show Ev.Ib X.P t (bM x) E=_;unfold Ev.Ib;rw[c];exact g
theorem Np:∀(xs:aW) (C:dW) (off k:Nat),(xs.zipIdx k).foldl (λcs (c:Value×Nat)=>cs.setIfInBounds (off+c.2) c.1) C=(nM C.toList (off+k) xs).toArray
 |[],C,off,k=>by simp[nM]
 |x::xs,C,off,k=>by
  rw[List.zipIdx_cons,iF,Np xs _ off (k+1)];simp only[Array.toList_setIfInBounds];rfl
theorem BI {S:Wo}{place:Nat->Option (Nat×Nat)}:∀{parts:List (Nat×AV)} {e:List (Nat×Value)} {cells cs:aI} {C:dW},LV S cells C.toList->parts.length=e.length->(∀(j:Nat) a b,parts[j]? = some a->e[j]? = some b->a.1=b.1/\VR S a.2 b.2)->FE place cells parts=some cs ->
 ∃n,Instr.fill place C e=some n/\LV S cs n.toList
 |[],e,cells,cs,C,f,hlen,_,h=>by
  have:e=[]:=aS.1 hlen.symm;subst this;simp only[FE,aq]at h;subst h;exact⟨C,rfl,f⟩
 |(i,v)::parts,[],cells,cs,C,f,hlen,_,h=>by simp at hlen
 |(i,v)::parts,(D,x)::e,cells,cs,C,f,hlen,p,h=>by
  obtain⟨rfl,t⟩:=p 0 _ _ rfl rfl;simp only[FE]at h;split at h
  .rename_i off size vs g k;rw[ay]at h;split at h
   .rename_i q;simp only[ak,aQ,bF]at q;obtain⟨E,u⟩:=q;have s:=y7 t k;have w:x.cells.size=size:=by have:=s.1;simp at this;omega
    have y:off+vs.length<=cells.length:=u;unfold Instr.fill;simp only[g];have d:¬((decide (x.cells.size≠size)||decide (off+x.cells.size>C.size))=true):=by
     have z:cells.length=C.size:=by have:=f.1;simpa using this
     simp;omega
    rw[aa d];have l:(x.cells.zipIdx.foldl (λcs (c:Value×Nat)=>cs.setIfInBounds (off+c.2) c.1) C)=(nM C.toList off x.cells.toList).toArray:=by
     rw[<-Array.foldl_toList,Array.toList_zipIdx];exact Np _ _ off 0
    have m:LV S (nM cells off vs) ((nM C.toList off x.cells.toList).toArray).toList:=by
     rw[<-uO];exact LV.nM vs _ off s f
    have:=BI (C:=(nM C.toList off x.cells.toList).toArray) m (by simpa using hlen) (λj a b A B=>p (j+1) a b (by simpa using A) (by simpa using B)) h;rw[<-l]at this;exact this
   cases h
  cases h
theorem CN {ps:Array (Nat×Operand)}{S:Wo}{bM:Operand->Value}(g:∀x∈(ps.toList.map (·.2)).toArray,VR S (ev x) (bM x)):(xW ev ps).length=(Ev.pK bM ps).length/\∀(j:Nat) a b,(xW ev ps)[j]? = some a->(Ev.pK bM ps)[j]? = some b->a.1=b.1/\VR S a.2 b.2:=by
 refine⟨by simp[xW,Ev.pK],λj a b c d=>?_⟩;simp only[xW,Ev.pK,dg,aO]at c d;obtain⟨q,e,rfl⟩:=c;obtain⟨h,f,rfl⟩:=d;rw[e]at f;cases f;refine⟨rfl,g q.2 ?_⟩;have:=bu e;simp only[List.mem_toArray,cG];exact⟨q,this,rfl⟩
theorem DF {P:Program}:∀{b:List Field} {a:List (Nat×Nat)},placesOf P b=some a->b.mapM (λf=>(P.info? f.type).map λi=>(f.offset,i.size))=some a
 |[],a,h=>by simp[placesOf]at h;subst h;rfl
 |f::b,a,h=>by
  simp only[placesOf]at h;split at h
  .rename_i i l hi c;cases h;have:=DF c;simp only[List.mapM_cons,hi,bP,this];rfl
  cases h
theorem UZ {t:TypeId}{ps:Array (Nat×Operand)}(l:o.op = .build t ps){k:AV->Option β}(h:Qy X t (xW ev ps) k=some r):∃v,k v=some r/\fO X cf o ev H v H:=by
 have fin:∀cs,(∀S bM,(∀x∈(ps.toList.map (·.2)).toArray,VR S (ev x) (bM x))->∃C,X.P.built t (Ev.pK bM ps)=some C/\LV S cs C.toList)->(Ev.nI X.P t).isSome=true->fO X cf o ev H (.agg cs) H:=λcs F b=>.quiet λS E bM K g=>by
  rw[l]at g;obtain⟨C,m,j⟩:=F S bM g;have G:C=C.toList.toArray:=by simp
  refine⟨.agg C,λcall=>?_,by rw[G];exact .agg _ _ j.1 j.2⟩;unfold kD;rw[l];show dh E (Ev.ES X.P t (Ev.pK bM ps))=_;unfold Ev.ES;rw[ag b,m];rfl
 unfold Qy at h;split at h
 .rename_i z n e b p;split at h
  .rename_i L I;split at h
   .rename_i cs q;obtain⟨J,c,_⟩:=oK (S:=⟨λ_=>none,λ_=>none,λ_ _=>none⟩) b;obtain⟨_,it,d,f⟩:=Av c;refine⟨_,h,fin cs (λS bM g=>?_) (by rw[c];rfl)⟩;obtain⟨s,a,u⟩:=oK (S:=S) b;rw[c]at a;cases a;obtain⟨w,y⟩:=CN g;obtain⟨A,m,j⟩:=BI u w y q;refine⟨A,?_,j⟩;unfold Program.built;rw[d,p];simp only[f,I];exact m
   cases h
  cases h
 .rename_i z M b p;split at h
  .rename_i D B;split at h
   .rename_i cs q;obtain⟨J,c,_⟩:=oK (S:=⟨λ_=>none,λ_=>none,λ_ _=>none⟩) b;obtain⟨_,it,d,f⟩:=Av c;refine⟨_,h,fin cs (λS bM g=>?_) (by rw[c];rfl)⟩;obtain⟨s,a,u⟩:=oK (S:=S) b;rw[c]at a;cases a;obtain⟨w,y⟩:=CN g;obtain⟨A,m,j⟩:=BI u w y q;refine⟨A,?_,j⟩;unfold Program.built;rw[d,p];simp only[f,DF B];have:(λx:Nat=>D.toArray[x]?)=λi:Nat=>D[i]? := by funext i;simp
    rw[this];exact m
   cases h
  cases h
 cases h
theorem FK (z:dW)(b:0<z.size):∀n,(List.range (n*z.size)).map (λi=>z[i%z.size]!)=(List.replicate n z.toList).flatten
 |0=>by simp
 |n+1=>by
  rw[List.replicate_succ',List.flatten_append,<-FK z b n,qh,List.range_add,fj];congr 1
  simp only[nC,jH,List.flatten_nil,dS];apply List.ext_getElem
  .simp
  intro j a c;simp only[cO,List.length_range]at a;simp only[List.getElem_map,List.getElem_range,Function.comp_apply];have:(n*z.size+j)%z.size=j:=by
   rw[nD,Nat.add_mul_mod_self_right,jh a]
  rw[this,getElem!_pos z j a];simp
theorem SI {S:Wo}{z:aI}{C:aW}(h:LV S z C):∀n,LV S (ahU n z) (List.replicate n C).flatten
 |0=>LV.nil
 |n+1=>by
  show LV S (z++ahU n z) _;rw[eX,jH];exact h.append (SI h n)
theorem Nq {S:Wo}{e:Ty}{x:e.den}{C:aW}(h:CR S.F e x C):∀n,ow (CR S.F e) (List.replicate n x) (List.replicate n C).flatten
 |0=>rfl
 |n+1=>by
  rw[eX,eX,jH];exact⟨C,_,rfl,h,Nq h n⟩
theorem IJ {P:Program}{e:TypeId}{s n:Nat}{z:Value}(f:Ev.dJ P e=some s)(g:Ev.nI P e=some z)(c:z.cells.size=s):∃d,Ev.wk P e n=some d/\d.toList=(List.replicate n z.cells.toList).flatten:=by
 unfold Ev.wk;rw[f,g];simp only;by_cases a:n*s=0
 .rw[ag a];refine⟨#[],rfl,?_⟩;rcases Nat.mul_eq_zero.1 a with rfl|i
  .simp
  have:z.cells.toList=[]:=aS.1 (by rw[mU,c,i]);rw[this];simp
 rw[aa a];refine⟨_,rfl,?_⟩;have b:0<z.cells.size:=by
  rcases nZ z.cells.size with h|h
  .rw[<-c,h]at a;simp at a
  exact h
 rw[<-FK z.cells b n,c];simp
theorem XI {t:TypeId}{p q:Operand}(a:o.op = .makeSlice t p q){k:AV->aH->Option β}(h:Af X H t (ev p) (ev q) k=some r):∃v G,k v G=some r/\fO X cf o ev H v G:=by
 unfold Af at h;split at h
 .rename_i te kl l kc c O Q R;split at h
  .rename_i d z e hi T U;split at h
   .rename_i x u;rw[ay]at h;split at h
    .rename_i f;simp only[ak,aQ,bF]at f;obtain⟨⟨c1,c2⟩,c3⟩:=f;rw[ay]at h;split at h
     .rename_i i;have i:0<=l/\l<=c/\c<=2000000:=anu (n:=2000000) i;refine⟨_,_,h,λS E bM I w=>?_⟩;rw[a]at w;have J:=w p (by simp[Op.operands]);have hy:=w q (by simp[Op.operands]);rw[Q]at J;rw[R]at hy;obtain⟨V,W,m⟩:=oK (S:=S) T;have Y:Ev.dJ X.P te=some d.size:=by simp[Ev.dJ,hi]
      have A:V.cells.size=d.size:=by have:=m.1;simp at this;omega
      obtain⟨s,B,C⟩:=IJ (n:=c.toNat) Y W A;obtain⟨cc,m',K,D,Z⟩:=sA e u m;have:=Z.kI;subst this;rw[dS]at K;have p6:∀v,S.Γ H.next v=none:=λv=>I.D5 _ _ (aG _)
      obtain⟨E',L⟩:=Mem.nu E ⟨s.toList,te,true,true⟩;obtain⟨p1,p2,p3⟩:=Ev.Mem.eG L;have M:ow (CR S.F e) (List.replicate c.toNat x) s.toList:=by rw[C,K];exact Nq D _
      have hlen:=M.length (λx c=>CR.length e x c);rw[jz]at hlen;obtain⟨a1,a2,a3⟩:=I.add (E':=E') (r:=.list te e (List.replicate c.toNat x) 0 true false) (x:=some (E.size,c.toNat,e.size)) (g:=some ⟨e,List.replicate c.toNat x⟩) (by omega) p2 (λj hj=>by rw[p3,aa (by omega)]) (λr' h=>by
       cases h;exact mJ (b:=⟨s.toList,te,true,true⟩) (mid:=s.toList) (post:=[]) p6 (tZ (by rw[p3,ag rfl]) rfl) rfl (by simp) M hlen (by simp) (by omega) (λ_=>⟨rfl,rfl,by simp⟩)) (λy h=>by cases h;exact aG _) rfl
      have N:=VR.tc (S:=S.new H.next (some (E.size,c.toNat,e.size)) (some ⟨e,List.replicate c.toNat x⟩)) H.next 0 l.toNat c.toNat E.size c.toNat e.size (ag rfl) ⟨e,List.replicate c.toNat x⟩ (ag ⟨rfl,rfl⟩) (by simp) (by omega)
      rw[qi]at N;refine⟨_,.slice (some ⟨E.size,0,none⟩) l.toNat c.toNat,E',⟨0,λ_ _=>?_⟩,a1,N,a2,a3⟩;unfold kD;rw[a];show Ev.rG X.P E t (bM p) (bM q)=_;rw[J.gW,hy.gW];simp only[Ev.rG,O,hi,B];rw[ag ⟨i.1,i.2.1,i.2.2,c1⟩];unfold Ev.wj;rw[L]
     cases h
    cases h
   cases h
  cases h
 cases h
theorem qs {w:Wo}{K:aH}{E:Mem}:∀{cs d:aI} {H p:aH} {S:Wo} {C:aW},Rel S H E->w.le S->St w K E S H E->LV S cs C->kG H cs=some (d,p)->∃S',w.le S'/\Rel S' p E/\St w K E S' p E/\LV S' d C/\S.le S'
 |[],d,H,p,S,C,y,z,f,L,h=>by
  simp only[kG,aq,az]at h;obtain⟨rfl,rfl⟩:=h;exact⟨S,z,y,f,L,S.le_refl⟩
 |v::cs,d,H,p,S,C,y,z,f,L,h=>by
  obtain⟨x,C',rfl,M,N⟩:=L.cons_inv;have plain:(∀id n,v ≠ .own id n)->(∀id a b c,v ≠ .tc id a b c)->∃S',w.le S'/\Rel S' p E/\St w K E S' p E/\LV S' d (x::C')/\S.le S':=by
   intro O P;unfold kG at h;split at h
   .rename_i q;cases q
   .rename_i q;cases q;exact absurd rfl (O _ _)
   .rename_i q;cases q;exact absurd rfl (P _ _ _ _)
   rename_i v' r' _ _ q;cases q;split at h
   .rename_i A B D;cases h;obtain⟨S',j,k2,F,G,W⟩:=qs y z f N D;exact⟨S',j,k2,F,LV.cons (M.mono W) G,W⟩
   cases h
  cases v with
  |own id n =>
   simp only[kG]at h;split at h
   .rename_i t e l iL ex ro J;split at h
    .rename_i A B D;cases h;obtain⟨S1,j,k2,F,G⟩:=wK y J;obtain⟨rfl,k⟩:=G n x M;have u:VR S1 (.eC e l) x:=by
      refine .eC e l x ?_;rcases k with⟨rfl,rfl⟩|⟨i,mid,post,cap,rfl,Q,R,m⟩
      .exact .inl ⟨rfl,.inl rfl⟩
      exact .inr ⟨i,[],mid,post,cap,rfl,by simpa using Q,R,m⟩
     obtain⟨S',q1,q2,q3,T,I⟩:=qs k2 (Wo.le_trans z j) (f.trans F) (N.mono j) D;exact⟨S',q1,q2,q3,LV.cons (u.mono I) T,Wo.le_trans j I⟩
    cases h
   cases h
  |tc id off len cap =>
   simp only[kG]at h;split at h
   .rename_i t e l iL ex ro J;split at h
    .rename_i A B D;cases h;obtain⟨S1,j,k2,F,G⟩:=wK y J;obtain⟨_,⟨_,g0,Y,w2⟩,w3⟩:=y.row id _ J;have u:VR S1 (.eC e ((l.drop off).take len)) x:=by
      cases M with
      |tc _ _ _ _ i c s hρ g Z hc hl' =>
       rw[Y]at Z;cases Z;have hs:s=e.size:=by
        rcases w3 with⟨_,g5,_⟩|⟨i',cap',b,mid,post,q1,_⟩
        .rw[hρ]at g5;cases g5
        rw[hρ]at q1;cases q1;rfl
       subst hs;obtain⟨_,k⟩:=G g0.2.length _ (.own id _ i c e.size hρ g0 Y rfl);rcases k with⟨_,k⟩|⟨i1,mid,post,Nj,k,Q,R,m⟩
       .cases k
       simp only[Value.slice.injEq,aq,Addr.mk.injEq]at k;obtain⟨⟨rfl,_⟩,_,_⟩:=k;obtain⟨a,b,rfl,ha,hb⟩:=R.split (λx c=>CR.length e x c) off;obtain⟨b1,b2,rfl,zq,_⟩:=hb.split (λx c=>CR.length e x c) len;have U:=ha.length (λx c=>CR.length e x c);have V:(l.take off).length=off:=by rw[bV];omega
       have P5:((l.drop off).take len).length=len:=by rw[bV,bB];omega
       refine .eC e _ _ (.inr ⟨i,a,b1,b2++post,cap,?_,?_,zq,by omega⟩)
       .rw[U,V,P5]
       rw[Q];simp
     obtain⟨S',q1,q2,q3,T,I⟩:=qs k2 (Wo.le_trans z j) (f.trans F) (N.mono j) D;exact⟨S',q1,q2,q3,LV.cons (u.mono I) T,Wo.le_trans j I⟩
    cases h
   cases h
  |_=>exact plain (λ_ _=>by simp) (λ_ _ _ _=>by simp)
theorem FL {t:TypeId}{len:Nat}{ps:Array (Nat×Operand)}(a:o.op = .buildSlice t len ps){k:AV->aH->Option β}(h:xX X H t len (xW ev ps) k=some r):∃v B,k v B=some r/\fO X cf o ev H v B:=by
 unfold xX at h;split at h
 .rename_i te J;split at h
  .rename_i s z e D K L;rw[ay]at h;split at h
   .rename_i d;simp only[ak,aQ,bF]at d;obtain⟨⟨⟨c1,c0⟩,c2⟩,c3⟩:=d;split at h
    .rename_i cs M;split at h
     .rename_i N O i;split at h
      .rename_i l m;refine⟨_,_,h,λS E bM Q F=>?_⟩;rw[a]at F;obtain⟨R,T⟩:=CN F;obtain⟨U,V,f⟩:=oK (S:=S) K;have p:U.cells.size=s:=by have:=f.1;simp at this;omega
       obtain⟨W,q,u⟩:=IJ (n:=len) D V p;obtain⟨w,Y,Z⟩:=BI (C:=W) (by rw[u];exact SI f len) R T M;obtain⟨S1,k1,k2,k3,k4,_⟩:=qs Q S.le_refl (St.refl _ _ _) Z i;obtain⟨G,hlen⟩:=wJ e len m k4;have pX:=G.length (λx c=>CR.length e x c);have p6:∀v,S1.Γ O.next v=none:=λv=>k2.D5 _ _ (aG _)
       obtain⟨E',I⟩:=Mem.nu E ⟨w.toList,te,true,true⟩;obtain⟨p1,p2,p3⟩:=Ev.Mem.eG I;obtain⟨a1,a2,a3⟩:=k2.add (E':=E') (r:=.list te e l 0 X.rm false) (x:=some (E.size,len,e.size)) (g:=some ⟨e,l⟩) (by omega) p2 (λj hj=>by rw[p3,aa (by omega)]) (λr' h=>by
        cases h;exact mJ (b:=⟨w.toList,te,true,true⟩) (mid:=w.toList) (post:=[]) p6 (tZ (by rw[p3,ag rfl]) rfl) rfl (by simp) G (by rw[<-hlen];exact pX) (by omega) c0 (λ_=>⟨rfl,rfl,hlen⟩)) (λy h=>by cases h;exact aG _) rfl
       refine⟨_,.slice (some ⟨E.size,0,none⟩) len len,E',⟨0,λ_ _=>?_⟩,Wo.le_trans k1 a1,.own _ _ E.size len e.size (ag rfl) ⟨e,l⟩ (ag ⟨rfl,rfl⟩) hlen,a2,k3.trans a3⟩;unfold kD;rw[a];show Ev.oE X.P E t len (Ev.pK bM ps)=_;have A:¬(len*s>2 ^ 24):=by
        have:len*s<=16777216:=c1;omega
       simp only[Ev.oE,J,D,q,aa A,Y];unfold Ev.wj;rw[I]
      cases h
     cases h
    cases h
   cases h
  cases h
 cases h
theorem wL {bM:Operand->Value}{s d:TypeId}{x:Operand}(c:o.op = .convert s d x){v:Value}(f:br (bM x)=true)(j:br v=true)(h:bQ X.P (convert s d (bM x))=some v)(call:Ev.dx)(E:Mem):kD X.P call bM o E=some (v,E):=by
 have g:iX X.P bM o=some v:=x6 (λa b=>by rw[c];simp) (by rw[c];simp[Ev.dU,Op.operands,f]) (by
  unfold execOp;rw[c];show bQ X.P (convert s d (bM x) >>= λx=>pure (Next.value x))=_;rw[bG,h];rfl) j
 unfold kD;rw[c];show Ev.mC X.P bM o s d (bM x) E=_;unfold Ev.mC;cases k:X.P.underlying s with
 |none =>
  show (match orElse none (iX X.P bM o) with|some v=>some (v,E)|none=>Ev.kr X.P E s d (bM x))=_;rw[g];rfl
 |some q =>
  show (match orElse (Ev.pL X.P d (bM x)) (iX X.P bM o) with|some v=>some (v,E)|none=>Ev.kr X.P E s d (bM x))=_;cases l:Ev.pL X.P d (bM x) with
  |none=>rw[g];rfl
  |some u =>
   have i:=Ev.Ij (P:=X.P) (ρ:=λ_=>none) (Ev.eu _ f) l s ⟨q,k⟩ default;have e:=Ev.qA (P:=X.P) _ h default;first
    |(rw[i.1]at e;cases e;rfl)
    |(rw[i]at e;cases e;rfl)
theorem qG {bM:Operand->Value}{s d:TypeId}{x:Operand}(a:o.op = .convert s d x){q:TypeDesc}(b:X.P.underlying s=some q)(c:Ev.pL X.P d (bM x)=none)(e:iX X.P bM o=none)(call:Ev.dx)(E:Mem):kD X.P call bM o E=Ev.kr X.P E s d (bM x):=by
 unfold kD;rw[a];show Ev.mC X.P bM o s d (bM x) E=_;unfold Ev.mC;show (match orElse (match X.P.underlying s with|some _=>Ev.pL X.P d (bM x)|none=>none) (iX X.P bM o) with|some v=>some (v,E)|none=>Ev.kr X.P E s d (bM x))=_;rw[b,e];show (match orElse (Ev.pL X.P d (bM x)) none with|some v=>some (v,E)|none=>Ev.kr X.P E s d (bM x))=_;rw[c];rfl
theorem tI {P:Program}{o:Oper}{ev:Operand->Value}(h:bQ P (execOp ev o)=none\/Ev.dU ev o.op=false):iX P ev o=none:=by
 unfold iX;split
 .rfl
 rcases h with h|h
 .rw[h];split<;>rfl
 rw[h];rfl
theorem CO:∀(l:cZ) (a:ByteArray),Ev.tO (l.map λn=>Value.int .u8 n) a=some ⟨a.data++(l.map iU8).toArray⟩
 |[],a=>by simp[Ev.tO]
 |n::l,a=>by
  simp only[dH,Ev.tO,Ev.Ej];rw[CO l];congr 2
  apply l8.1;simp[ByteArray.push,iU8]
theorem KK {F:Nat->Option aW}{k:IntKind}:∀{l:cZ} {c:aW},ow (CR F (.int k)) l c->c=l.map λn=>Value.int k n
 |[],_,h=>h
 |n::l,_,⟨c1,c2,e,a,b⟩=>by rw[e,show c1=[Value.int k n] from a,KK b];rfl
theorem XK {s d:TypeId}{x:Operand}(m:o.op = .convert s d x){k:AV->aH->Option β}(h:FF X H s d (ev x) k=some r):∃v H',k v H'=some r/\fO X cf o ev H v H':=by
 unfold FF at h;split at h
 .rename_i k0 C k2 n f p D;refine⟨_,_,h,.quiet λS E bM B w=>?_⟩;rw[m]at w;have t:=w x (by simp[Op.operands]);rw[D]at t;have ex:=t.gW;refine⟨.int C (C.wrap n),λcall=>wL m (by rw[ex];rfl) rfl ?_ call E,.int _ _⟩;rw[ex];unfold convert;rw[bG,ct f];simp only[bh];rw[bG,ct p];rfl
 .rename_i z f p D;refine⟨_,_,h,.quiet λS E bM B w=>?_⟩;rw[m]at w;have t:=w x (by simp[Op.operands]);rw[D]at t;have ex:=t.kH;refine⟨.string ⟨z.toArray⟩,λcall=>wL m (by rw[ex];rfl) rfl ?_ call E,.str _⟩;rw[ex];unfold convert;rw[bG,ct f];simp only[bh];rw[bG,ct p];rfl
 .rename_i te z f p D;split at h
  .rename_i J hse;rw[ay]at h;split at h;case isFalse=>cases h
   rename_i G;have G:=aB G;refine⟨_,_,h,λS E bM B w=>?_⟩;rw[m]at w;have t:=w x (by simp[Op.operands]);rw[D]at t;have ex:=t.kH;have p6:∀v,S.Γ H.next v=none:=λv=>B.D5 _ _ (aG _)
   have hC:∀s:au,ow (CR S.F (.int .u8)) (s.map cS) (s.map λb=>Value.int .u8 b.toNat):=λs=>by
    induction s with
    |nil=>rfl
    |cons b s ih=>exact⟨[_],_,rfl,rfl,ih⟩
   obtain⟨E',hE⟩:=Mem.nu E ⟨z.map λb=>.int .u8 b.toNat,te,true,false⟩;obtain⟨p1,p2,p3⟩:=Ev.Mem.eG hE;obtain⟨a1,a2,a3⟩:=B.add (E':=E') (r:=.list te (.int .u8) (z.map cS) 0 false false) (x:=some (E.size,z.length,1)) (g:=some ⟨.int .u8,z.map cS⟩) (by omega) p2 (λj hj=>by rw[p3,aa (by omega)]) (λr' h=>by
    cases h;exact mJ (b:=⟨z.map λb=>.int .u8 b.toNat,te,true,false⟩) (mid:=z.map λb=>.int .u8 b.toNat) (post:=[]) p6 (tZ (by rw[p3,ag rfl]) rfl) rfl (by simp) (hC z) (by simp[Ty.size]) (by simp) G (λh=>by cases h)) (λy h=>by cases h;exact aG _) rfl
   refine⟨_,.slice (some ⟨E.size,0,none⟩) z.length z.length,E',⟨0,λ_ _=>?_⟩,a1,.own _ _ E.size z.length 1 (ag rfl) ⟨.int .u8,z.map cS⟩ (ag ⟨rfl,rfl⟩) (by simp),a2,a3⟩;rw[qG m f (by rw[ex];simp only[Ev.pL,p]) (tI (.inl ?_)),ex]
   .simp only[Ev.kr,f,p,J,hse];unfold Ev.mw;have:(⟨z.toArray⟩:ByteArray).size=z.length:=by simp[ByteArray.size]
    rw[this,hE]
   unfold execOp;rw[m];show bQ X.P (convert s d (bM x) >>= λx=>pure (Next.value x))=_;rw[bG,ex];unfold convert;rw[bG,ct f];simp only[bh];rw[bG,ct p];simp only[bh];rw[bG,ct J];rfl
  cases h
 .cases h
 .rename_i _ te f p R;split at h
  .rename_i J;split at h
   .rename_i l N;refine⟨_,_,h,.quiet λS E bM B w=>?_⟩;rw[m]at w;have t:=w x (by simp[Op.operands]);have e8:Ev.pL X.P d (bM x)=none:=by simp only[Ev.pL,p]
    obtain⟨Y,l2⟩:=FH B N t;obtain⟨c,c1,c2⟩:=l2 l.length (aG _);rw[l9]at c2;have hc:=KK c2;refine⟨.string ⟨(l.map iU8).toArray⟩,λcall=>?_,.str _⟩;generalize hA:bM x=A at *;unfold Ev.xl at Y;split at Y
    .rename_i a n cap;cases Y;cases a with
     |none =>
      have K:l=[]:=by
       simp only[Ev.jJ]at c1;split at c1
       .rename_i K;exact aS.1 K
       cases c1
      subst K;refine wL m (by rw[hA];rfl) rfl ?_ call E;rw[hA];unfold convert;rw[bG,ct f];simp only[bh];rw[bG,ct p];simp only[bh];rw[bG,ct J];rfl
     |some ad =>
      obtain⟨i,off,sp⟩:=ad;cases sp with
      |some q =>
       have K:l=[]:=by
        simp only[Ev.jJ]at c1;split at c1
        .rename_i K;exact aS.1 K
        cases c1
       subst K;rw[qG (bM:=bM) m f (by rw[hA];exact e8) (tI (.inr (by rw[m];simp[Ev.dU,Op.operands,hA,br]))),hA];simp only[Ev.kr,f,p,J];rfl
      |none =>
       rw[qG (bM:=bM) m f (by rw[hA];exact e8) (tI (.inr (by rw[m];simp[Ev.dU,Op.operands,hA,br]))),hA];have c1':Ev.ia E i off l.length=some c:=by simpa[Ev.jJ,Ty.size] using c1
       simp only[Ev.kr,f,p,J,c1'];rw[hc,CO];simp
    .rename_i z;generalize ev x=a at t N R;cases t with
     |str s1=>exact absurd rfl (R s1)
     |eC e l v T=>rcases T with⟨_,T|T⟩|⟨_,_,_,_,_,T,_⟩<;>cases T
     |BB v hf=>cases N
     |fl a v h=>cases N
     |cx a b v h=>cases N
     |lG v=>cases N
    cases Y
   cases h
  cases h
 .rename_i te te2 id n f p D;split at h
  .rename_i t' e l iL ex ro O J;rw[ay]at h;split at h
   .rename_i I;simp only[ak,aQ,bF]at I;obtain⟨⟨U,rfl⟩,h1⟩:=I;rw[f]at p;cases p;refine⟨_,_,h,.quiet λS E bM B w=>?_⟩;rw[m]at w;have t:=w x (by simp[Op.operands]);rw[D]at t;generalize hA:bM x=A at t;obtain⟨q1,⟨q2,g2,q3,q4⟩,q5⟩:=B.row id _ O;cases t with
    |own _ _ i cap s hρ g V Q =>
     rcases q5 with⟨_,q6,_⟩|⟨i',cap',b,mid,post,C,k2,Z,k4,k5,k6,k7,k8,k9⟩
     .rw[hρ]at q6;cases q6
     rw[hρ]at C;cases C;have L:H.lk<=id:=by simpa[aH.o7,bF] using U
     have W:=B.lk id _ _ O L hρ;refine⟨_,λcall=>?_,.own _ _ i cap _ hρ g V Q⟩;rw[qG (bM:=bM) m f (by simp only[Ev.pL,f]) (tI (.inr (by rw[m];simp[Ev.dU,Op.operands,hA,br]))),hA];have hb:(Nat.ble E.lk i&&Nat.beq s s)=true:=by simp[bF,W]
     simp only[Ev.kr,f,k2,J];rw[ay,ag (by simp[bF,W])]
    |iw _ g V Q=>omega
   cases h
  cases h
 .rename_i te id f p D;split at h
  .rename_i t' c0 cs0 n O Q;rw[ay]at h;split at h
   .rename_i hle;refine⟨_,_,h,.quiet λS E bM B w=>?_⟩;rw[m]at w;have t:=w x (by simp[Op.operands]);rw[D]at t;generalize hA:bM x=A at t;cases t with
    |ptr _ _ i c z hρ =>
     obtain⟨i',c',s',b,C,k2,Z,k4,k5⟩:=B.row id _ O;rw[hρ]at C;cases C;refine⟨_,λcall=>?_,.ptr _ _ i c z hρ⟩;rw[qG (bM:=bM) m f (by simp only[Ev.pL,p]) (tI (.inr (by rw[m];simp[Ev.dU,Op.operands,hA,br]))),hA];have hlen:Nat.ble 1 b.cells.length=true:=by rw[<-Z.1];simp
     simp only[Ev.kr,f,p,k2,Q,hle,hlen,oV,ay,gy]
   cases h
  cases h
 .rename_i u id f p D;split at h
  .rename_i t' cs0 n O Q;rw[ay]at h;split at h
   .rename_i M;refine⟨_,_,h,.quiet λS E bM B w=>?_⟩;rw[m]at w;have t:=w x (by simp[Op.operands]);rw[D]at t;generalize hA:bM x=A at t;cases t with
    |ptr _ _ i c z hρ =>
     obtain⟨i',c',s',b,C,k2,Z,k4,k5⟩:=B.row id _ O;rw[hρ]at C;cases C;refine⟨_,λcall=>?_,.ptr _ _ i c z hρ⟩;rw[qG (bM:=bM) m f (by simp only[Ev.pL,p]) (tI (.inr (by rw[m];simp[Ev.dU,Op.operands,hA,br]))),hA];have hl:liesAt X.P X.P.depth b.elem (b.cells.length/X.P.cellsOf b.elem) 0 u 1=true:=by rw[k4,<-Z.1];exact M
     simp only[Ev.kr,f,p,k2,Q,k5,hl,oV,ay,gy]
   cases h
  cases h
 cases h
theorem HW {c:Call}{x:Operand}(a:o.op = .call c)(p:c.callee = .builtin .unsafeSliceData)(q:c.args.toList=[x]){k:AV->Option β}(h:Ai H (ev x) k=some r):∃v,k v=some r/\fO X cf o ev H v H:=by
 have mem:x∈(Op.call c).operands:=by
  have:x∈c.args:=by rw[<-gk,q];simp
  simp only[Op.operands,Call.operands,p];simpa using this
 have run:∀{bM:Operand->Value} {v:Value} {E:Mem} (call:Ev.dx),Ev.wm (bM x)=some v->kD X.P call bM o E=some (v,E):=by
  intro bM v E call C;unfold kD;rw[a];show Ev.fu X.P call bM o c E=_;unfold Ev.fu;rw[p];show Ev.qx bM c.args E=_;unfold Ev.qx;rw[q];simp only[C];rfl
 unfold Ai at h;split at h
 .rename_i m;refine⟨_,h,.quiet λS E bM u j=>?_⟩;rw[a]at j;have d:=j x mem;rw[m]at d;generalize hA:bM x=A at d;cases d;exact⟨_,λcall=>run call (by rw[hA];rfl),.pU⟩
 .rename_i id n m;split at h
  .rename_i t e l iL ex I D;rw[ay]at h;split at h
   .rename_i w;have w:=aB w;refine⟨_,h,.quiet λS E bM u j=>?_⟩;rw[a]at j;have d:=j x mem;rw[m]at d;generalize hA:bM x=A at d;obtain⟨q1,⟨q2,J,q3,K⟩,F⟩:=u.row id _ D;cases d with
    |own _ _ i cap s hρ g f G =>
     rw[q3]at f;cases f;refine⟨_,λcall=>run call ?_,.dat id i cap s hρ⟩;rcases F with⟨_,y,_⟩|⟨L,z,b,mid,post,B,k2,M,N,O,Q,R,k8,k9⟩
     .rw[hρ]at y;cases y
     rw[hρ]at B;cases B;rw[hA];unfold Ev.wm;have:Nat.beq cap 0=false:=by rw[<-fy,aQ];omega
     simp only[this]
    |iw _ g f G=>omega
   cases h
  cases h
 cases h
theorem U0 (k:IntKind):∀l:cZ,((l.map λn=>Value.int k n).any Ev.qT)=false
 |[]=>rfl
 |n::l=>by simp[Ev.qT]
theorem IK:∀l:cZ,l.all Xo=true->(l.map λn=>Value.int .u8 n).all Ev.A7=true
 |[],_=>rfl
 |n::l,h=>by
  simp only[ck,ak]at h;simp only[dH,ck,ak];refine⟨?_,IK l h.2⟩;cases n with
  |ofNat m=>exact h.1
  |negSucc m=>exact absurd h.1 (by simp[Xo])
theorem XL {c:Call}{p n:Operand}{D it:TypeId}(g:o.op = .call c)(W:c.callee = .builtin .unsafeString)(Y:c.args.toList=[p,n])(jL:c.argTypes.toList=[D,it]){k:AV->aH->Option β}(h:Xp X H D (ev p) (ev n) k=some r) :
 ∃v Z,k v Z=some r/\fO X cf o ev H v Z:=by
 have mem:∀y,y=p\/y=n->y∈(Op.call c).operands:=by
  intro y hy;have:y∈c.args:=by rw[<-gk,Y];rcases hy with rfl|rfl<;>simp
  simp only[Op.operands,Call.operands,W];simpa using this
 have run:∀{bM:Operand->Value} {v:Value} {E E':Mem} (call:Ev.dx),Ev.EW X.P E D (bM p) (bM n)=some (v,E')->kD X.P call bM o E=some (v,E'):=by
  intro bM v E E' call hv;unfold kD;rw[g];show Ev.fu X.P call bM o c E=_;unfold Ev.fu;rw[W];show Ev.Co X.P bM c.args c.argTypes E=_;unfold Ev.Co;rw[Y,jL];exact hv
 unfold Xp at h;split at h
 .rename_i m I J;rw[ay]at h;split at h
  .rename_i F;have F:m=0:=by rw[Ev.fD]at F;simpa using F
   subst F;refine⟨_,_,h,λS E bM x s=>?_⟩;rw[g]at s;have u:=s p (mem p (.inl rfl));have hy:=s n (mem n (.inr rfl));rw[I]at u;rw[J]at hy;have K:=hy.gW;generalize hA:bM p=A at u;cases u;exact⟨S,.string .empty,E,⟨0,λ_ _=>run _ (by rw[hA,K];rfl)⟩,S.le_refl,.str [],x,St.refl _ _ _⟩
  cases h
 .rename_i id m e I J hu;split at h
  .rename_i t l iL ex L;rw[ay]at h;split at h
   .rename_i d;simp only[ak,aQ,bF]at d;obtain⟨⟨⟨⟨⟨⟨z,rfl⟩,M⟩,h1⟩,h2⟩,G⟩,N⟩:=d;have G:m=(l.length:Int):=by rw[Ev.fD]at G;simpa using G
    subst G;refine⟨_,_,h,λS E bM x s=>?_⟩;rw[g]at s;have u:=s p (mem p (.inl rfl));have hy:=s n (mem n (.inr rfl));rw[I]at u;rw[J]at hy;have K:=hy.gW;generalize hA:bM p=A at u;obtain⟨q1,⟨q2,g2,q3,q4⟩,O⟩:=x.row id _ L;cases u with
    |dat _ i c1 s1 hρ =>
     rcases O with⟨O,_,_⟩|⟨i',cap',b,mid,post,k1,k2,k3,k4,k5,k6,k7,k8,k9⟩
     .rw[O]at h1;simp at h1
     rw[hρ]at k1;cases k1;have w:H.lk<=id:=by simpa[aH.o7,bF] using z
     have Q:=x.lk id _ _ L w hρ;have a:=KK k5;have R:mid.length=l.length:=by rw[a];simp
     have f:Ev.ia E i 0 l.length=some mid:=by
      unfold Ev.ia;rw[k2];simp only;have e0:0+l.length<=b.cells.length:=by rw[k4,aA];omega
      have e1:(b.cells.drop 0).take l.length=mid:=by rw[k4,j3,<-R];simp
      rw[ag e0,e1,a,U0]
     obtain⟨T,U⟩:=Mem.j5 (b:={ b with live:=false,fix:=false }) (mI k2) Q;have gb:Ev.kill E i=some T:=by unfold Ev.kill;rw[(eA k2).1];exact U
     obtain⟨z1,z2,z3,z4,z5⟩:=Ev.o5 gb;obtain⟨m1,m2⟩:=x.mod (S':=S) (E':=T) (r':=.dead) L rfl S.le_refl rfl (λ_ _ _=>rfl) z1 z2 (λj hj=>z4 j (hj _ hρ)) (λj cs h=>.inl h) (λq hq=>by cases hq);refine⟨S,.string ⟨(l.map iU8).toArray⟩,T,⟨0,λ_ _=>run _ ?_⟩,S.le_refl,.str _,m1,m2⟩;obtain⟨B,C⟩:∃B,l.length=B+1:=⟨l.length-1,by omega⟩;rw[hA,K,C];show Ev.EW X.P E D (.pointer (some ⟨i,0,none⟩)) (.int .i64 (.ofNat (B+1)))=_;have V:((b.elem==t)&&Nat.beq (X.P.cellsOf t) 1&&Nat.ble (B+1) 2000000&&mid.all Ev.A7)=true:=by
      rw[a,IK l N];have:B+1<=2000000:=by omega
      simp[k3,M,bF];omega
     unfold Ev.EW;rw[C]at f;simp only[hu,k2,f,V,ay,gy,gb];rw[a,CO];simp
   cases h
  cases h
 cases h
end
end Go.Tv

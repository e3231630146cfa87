/- Sources: what a line adds, as plain functions; what stays ahead. Sources: names but once, items in order. Sources: all lines' items; lines further on. Sources: items so many times over, or one after the other. Sources: lines that say nothing; a line so many times. Sources: a line so many times over, or in so many lines. Sources: what they come to; the plain laws. -/
import Derived.Test.YtbeckacfibledaaGreatDoorGrg
set_option linter.unusedVariables false
set_option linter.unusedSimpArgs false

namespace Go.Proofs.YtbeckacfibledaaGreatDoor.ps.sr
open Go.Tv Go.Ev Go.Px Go.Pp Go.Proofs.YtbeckacfibledaaGreatDoor.ex
set_option maxRecDepth 100000
noncomputable section
abbrev It:=Int×Int×List UInt8×(Int×Int×List Raw)×List Nd×List Int×Int
abbrev Sy:=List UInt8×Int×Bool
structure SS where
 fJ:Int
 aH:List Sy
 av:List It
 aI:List (List UInt8×Int)
 lab:List UInt8
 opn:Bool
 bp:List UInt8
 aN:Int
 aR:Bool
 aD:Int
 az:Int
def Fk:SS:=⟨0,[],[],[],[],false,[],0,false,0,0⟩
abbrev SR':=SS×Int
section
variable (ev:List Nd->List Sy->Int×Bool×Int) (iB:List Nd->List (List UInt8)) (pw:Int->Int->Int->List Int×Int)
def cn (s:SS):List UInt8:=if s.opn=true then s.bp else s.lab
def gx (c w:List UInt8):List UInt8:=if w.take 1=[46] then c++w else w
def Ms (c:List UInt8)(y:Nd):Nd:=if y.1=2 then (y.1,y.2.1,gx c y.2.2.1,y.2.2.2) else y
def ndB (c:List UInt8)(y:Nd):Bool := !decide (y.1=2)||Nat.ble (gx c y.2.2.1).length 60
def dc (c:List UInt8)(x:List Nd):List Nd×Bool:=(x.map (Ms c),x.all (ndB c))
def Fl (c:List UInt8)(r:Raw):Raw:=(r.1,r.2.1,r.2.2.1,(dc c r.2.2.2.1).1,r.2.2.2.2)
def JN (c:List UInt8)(l:List Raw):List Raw×Bool:=(l.map (Fl c),l.all λr=>(dc c r.2.2.2.1).2)
def sN (s:SS)(w:List UInt8):Option Sy:=if 0<iE s.aI w then dQ s.aH (iE s.aI w-1) else none
def cS (s:SS)(x:List Nd):Int×Int :=
 if (dc (cn s) x).2=false then (0,3)
 else if (ev (dc (cn s) x).1 ((iB (dc (cn s) x).1).filterMap (sN s))).2.2≠0 then (0,(ev (dc (cn s) x).1 ((iB (dc (cn s) x).1).filterMap (sN s))).2.2)
 else if (ev (dc (cn s) x).1 ((iB (dc (cn s) x).1).filterMap (sN s))).2.1=true then (0,5)
 else ((ev (dc (cn s) x).1 ((iB (dc (cn s) x).1).filterMap (sN s))).1,0)
def nY (s:SS)(x:List Nd)(k:Int->SR'):SR':=if (cS ev iB s x).2≠0 then (s,(cS ev iB s x).2) else k (cS ev iB s x).1
def xm (s:SS)(w:List UInt8):Int:=if qQ s.aI w=true then 7 else if 60<w.length then 3 else 0
def pL (s:SS)(w:List UInt8)(k:SR'):SR':=if xm s w≠0 then (s,xm s w) else k
def JO (s:SS)(w:List UInt8)(n:Int):SS:={ s with aH:=s.aH++[(w,n,false)],aI:=ia s.aI w ((s.aH.length+1:Nat):Int) }
def ko (s:SS)(av aD ai:Int)(l:List It):SR' :=
 if 0<av/\Int.tdiv (20000-s.av.length) av<ai then (s,3)
 else if 0<aD/\Int.tdiv (1048576-s.aD) aD<ai then (s,3)
 else ({ s with aD:=s.aD+aD*ai,av:=s.av++(List.replicate ai.toNat l).flatten },0)
def itL (s:SS)(w:List UInt8):It:=(s.az,1,w,(0,0,[]),[],[],0)
def itB (s:SS)(b:List Int):It:=(s.az,4,[],(0,0,[]),[],b,0)
def yf (s:SS)(w:List UInt8):SR' :=
 pL s (gx (cn s) w) (if s.opn=true then (JO s (gx (cn s) w) s.aN,0)
  else ko { s with lab:=if w.take 1=[46] then s.lab else w,aI:=ia s.aI (gx (cn s) w) 0 } 1 0 1 [itL s (gx (cn s) w)])
def aa2 (s:SS)(x:RS):Bool :=
 if s.opn=true then (if x.aF=1\/x.aF=2\/x.aF=4\/x.aF=5\/x.aF=9\/x.aF=6 then false else decide (x.ai=[])) else !decide (x.aF=7)
def AA (s:SS)(x:RS)(ai:Int):SR':=if (JN (cn s) x.args).2=false then (s,3) else ko s 1 0 ai [(s.az,2,[],(x.op,x.aM,(JN (cn s) x.args).1),[],[],0)]
def AB (n sz:Int):Int:=Int.tdiv (n+sz-1) sz*sz
def Xs (t:List UInt8)(sz:Int):List Int:=t.map cY++List.replicate ((AB t.length sz).toNat-t.length) 0
def dtC (s:SS)(sz:Int)(d:Dt):It:=if d.2=[] then itB s (Xs d.1 sz) else (s.az,3,[],(0,0,[]),(dc (cn s) d.2).1,[],sz)
def Q8 (sz:Int)(d:Dt):Int:=if d.2=[] then AB d.1.length sz else sz
def Cy (s:SS)(x:RS)(ai:Int):SR' :=
 if x.data.all (λd=>decide (d.2=[])||(dc (cn s) d.2).2)=false then (s,3)
 else ko s x.data.length (x.data.foldl (λn d=>n+Q8 x.sz d) 0) ai (x.data.map (dtC s x.sz))
def Xt (s:SS)(x:RS):SR':=pL s (gx (cn s) x.lab) (nY ev iB s x.x λn=>(JO s (gx (cn s) x.lab) n,0))
def Cz:List UInt8:=[95,115,105,122,101]
def Xu (s:SS):SR':=pL s (s.bp++Cz) ({ JO s (s.bp++Cz) s.aN with opn:=false },0)
def pow2 (n:Int):Bool:=decide (n=1\/n=2\/n=4\/n=8\/n=16\/n=32\/n=64\/n=128\/n=256\/n=512\/n=1024\/n=2048\/n=4096)
def Fm (s:SS)(x:RS):SR':=nY ev iB s x.x λn=>if pow2 n=false then (s,5) else ko s 1 0 1 [(s.az,5,[],(0,0,[]),[],[],n)]
def Xv (s:SS)(x:RS):SR':=nY ev iB s x.x λn=>if s.aR=true\/s.av≠[] then (s,8) else if n<0\/140737488355328<n then (s,5) else ({ s with fJ:=n,aR:=true },0)
def Xw (s:SS)(x:RS)(ai:Int):SR':=nY ev iB s x.x λn=>if n<0 then (s,5) else if Int.tdiv 1048576 x.sz<n then (s,3)
 else if s.opn=true then ({ s with aN:=s.aN+n*x.sz },0) else ko s 1 (n*x.sz) ai [itB s (List.replicate (n*x.sz).toNat 0)]
def vM (s:SS):List Dt->List Int×Int
 |[]=>([],0)
 |d::l=>if (cS ev iB s d.2).2≠0 then ([],(cS ev iB s d.2).2) else if (vM s l).2≠0 then ([],(vM s l).2) else ((cS ev iB s d.2).1::(vM s l).1,0)
def powC (s:SS)(ai:Int)(q:List Int×Int):SR':=if q.2≠0 then (s,q.2) else ko s 1 q.1.length ai [itB s q.1]
def JP (s:SS)(x:RS)(ai:Int):SR':=if (vM ev iB s x.data).2≠0 then (s,(vM ev iB s x.data).2)
 else powC s ai (pw ((vM ev iB s x.data).1.getD 0 0) ((vM ev iB s x.data).1.getD 1 0) ((vM ev iB s x.data).1.getD 2 1))
def vN (s:SS)(x:RS)(ai:Int):SR' :=
 if x.aF=1 then AA s x ai else if x.aF=2 then Cy s x ai else if x.aF=3 then Xt ev iB s x else if x.aF=4 then Fm ev iB s x else if x.aF=5 then Xv ev iB s x
 else if x.aF=6 then ({ s with bp:=gx (cn s) x.lab,aN:=0,opn:=true },0) else if x.aF=7 then Xu s else if x.aF=8 then Xw ev iB s x ai
 else if x.aF=9 then JP ev iB pw s x ai else (s,0)
def ux (s:SS)(x:RS)(ai:Int):SR':=if aa2 s x=false then (s,8) else vN ev iB pw s x ai
def pM (s:SS)(x:RS):SR':=if x.ai=[] then ux ev iB pw s x 1 else nY ev iB s x.ai λn=>if n<0 then (s,5) else ux ev iB pw s x n
def jW (s:SS)(x:RS):SR' :=
 if x.lab≠[]/\x.aF≠3/\x.aF≠6 then (if (yf s x.lab).2≠0 then yf s x.lab else pM ev iB pw (yf s x.lab).1 x) else pM ev iB pw s x
structure Ah (s t:SS):Prop where
 av:∃l,t.av=s.av++l
 aH:∃l,t.aH=s.aH++l
theorem Ah.rfl' (s:SS):Ah s s:=⟨⟨[],by simp⟩,⟨[],by simp⟩⟩
theorem Ah.same {s t:SS}(h1:t.av=s.av)(h2:t.aH=s.aH):Ah s t:=⟨⟨[],by simp[h1]⟩,⟨[],by simp[h2]⟩⟩
theorem Ah.trans {a b c:SS}(h:Ah a b)(k:Ah b c):Ah a c:=by
 obtain⟨⟨l1,h1⟩,⟨l2,h2⟩⟩:=h;obtain⟨⟨l3,h3⟩,⟨l4,h4⟩⟩:=k;exact⟨⟨l1++l3,by rw[h3,h1,bJ]⟩,⟨l2++l4,by rw[h4,h2,bJ]⟩⟩
theorem Po (s:SS)(w:List UInt8)(n:Int):Ah s (JO s w n):=⟨⟨[],by simp[JO]⟩,⟨_,rfl⟩⟩
theorem BX (s:SS)(a b c:Int)(l:List It):Ah s (ko s a b c l).1:=by
 unfold ko;split
 .exact .rfl' s
 split
 .exact .rfl' s
 exact⟨⟨_,rfl⟩,⟨[],by simp⟩⟩
theorem Fp {s:SS}{w:List UInt8}{k:SR'}(h:Ah s k.1):Ah s (pL s w k).1:=by
 unfold pL;split
 .exact .rfl' s
 exact h
theorem xo {s:SS}{x:List Nd}{k:Int->SR'}(h:∀n,Ah s (k n).1):Ah s (nY ev iB s x k).1:=by
 unfold nY;split
 .exact .rfl' s
 exact h _
theorem Xx (s:SS)(w:List UInt8):Ah s (yf s w).1:=by
 unfold yf;refine Fp ?_;split
 .exact Po s _ _
 exact Ah.trans (b:={ s with lab:=if w.take 1=[46] then s.lab else w,aI:=ia s.aI (gx (cn s) w) 0 }) (.same rfl rfl) (BX _ _ _ _ _)
theorem aa3 (s:SS)(x:RS)(n:Int):Ah s (vN ev iB pw s x n).1:=by
 unfold vN;split
 .unfold AA;split
  .exact .rfl' s
  exact BX _ _ _ _ _
 split
 .unfold Cy;split
  .exact .rfl' s
  exact BX _ _ _ _ _
 split
 .exact Fp (xo ev iB λn=>Po s _ _)
 split
 .exact xo ev iB λn=>by
   split
   .exact .rfl' s
   exact BX _ _ _ _ _
 split
 .exact xo ev iB λn=>by
   split
   .exact .rfl' s
   split
   .exact .rfl' s
   exact .same rfl rfl
 split
 .exact .same rfl rfl
 split
 .exact Fp ((Po s _ _).trans (.same rfl rfl))
 split
 .exact xo ev iB λn=>by
   split
   .exact .rfl' s
   split
   .exact .rfl' s
   split
   .exact .same rfl rfl
   exact BX _ _ _ _ _
 split
 .unfold JP;split
  .exact .rfl' s
  unfold powC;split
  .exact .rfl' s
  exact BX _ _ _ _ _
 exact .rfl' s
theorem Q9 (s:SS)(x:RS)(n:Int):Ah s (ux ev iB pw s x n).1:=by
 unfold ux;split
 .exact .rfl' s
 exact aa3 ev iB pw s x n
theorem Mt (s:SS)(x:RS):Ah s (pM ev iB pw s x).1:=by
 unfold pM;split
 .exact Q9 ev iB pw s x 1
 exact xo ev iB λn=>by
  split
  .exact .rfl' s
  exact Q9 ev iB pw s x n
theorem aa4 (s:SS)(x:RS):Ah s (jW ev iB pw s x).1:=by
 unfold jW;split
 .split
  .exact Xx s _
  exact(Xx s _).trans (Mt ev iB pw _ x)
 exact Mt ev iB pw s x
variable (rd:List UInt8->RS×Int×Int)
def jO:List (List UInt8)->SS->SS×Int
 |[],s=>(s,0)
 |w::l,s=>if (rd w).2.1≠0 then ({ s with az:=s.az+1 },(rd w).2.1)
  else if (jW ev iB pw { s with az:=s.az+1 } (rd w).1).2≠0 then ({ (jW ev iB pw { s with az:=s.az+1 } (rd w).1).1 with az:=s.az+1 },(jW ev iB pw { s with az:=s.az+1 } (rd w).1).2)
  else jO l (jW ev iB pw { s with az:=s.az+1 } (rd w).1).1
theorem sO (w:List UInt8)(l:List (List UInt8))(s:SS):jO ev iB pw rd (w::l) s=if (rd w).2.1≠0 then ({ s with az:=s.az+1 },(rd w).2.1)
 else if (jW ev iB pw { s with az:=s.az+1 } (rd w).1).2≠0 then ({ (jW ev iB pw { s with az:=s.az+1 } (rd w).1).1 with az:=s.az+1 },(jW ev iB pw { s with az:=s.az+1 } (rd w).1).2)
 else jO ev iB pw rd l (jW ev iB pw { s with az:=s.az+1 } (rd w).1).1:=rfl
theorem Tm (a b:List (List UInt8))(s:SS):jO ev iB pw rd (a++b) s=if (jO ev iB pw rd a s).2≠0 then jO ev iB pw rd a s else jO ev iB pw rd b (jO ev iB pw rd a s).1:=by
 induction a generalizing s with
 |nil=>rfl
 |cons w a ih =>
  rw[fO,sO,sO];by_cases h1:(rd w).2.1≠0
  .rw[ag h1,ag h1,ag h1]
  rw[aa h1,aa h1];by_cases h2:(jW ev iB pw { s with az:=s.az+1 } (rd w).1).2≠0
  .rw[ag h2,ag h2,ag h2]
  rw[aa h2,aa h2];exact ih _
theorem Xy (l:List (List UInt8))(s:SS):Ah s (jO ev iB pw rd l s).1:=by
 induction l generalizing s with
 |nil=>exact .rfl' s
 |cons w l ih =>
  have h:=(Ah.same (s:=s) (t:={ s with az:=s.az+1 }) rfl rfl).trans (aa4 ev iB pw { s with az:=s.az+1 } (rd w).1);unfold jO;split
  .exact .same rfl rfl
  split
  .exact h.trans (.same rfl rfl)
  exact h.trans (ih _)
end
def apw (y:It):Option (List UInt8):=if y.2.1=1 then some y.2.2.1 else none
def Xz (s:SS):List (List UInt8):=s.aH.map (·.1)++s.av.filterMap apw
structure Iv (s:SS):Prop where
 nd:(Xz s).Nodup
 ok:∀w∈Xz s,w≠[]/\w.length<=60/\qQ s.aI w=true
 it:∀y∈s.av,1<=y.1/\y.1<=s.az/\1<=y.2.1/\y.2.1<=5
 up:(s.av.map (·.1)).Pairwise (· <= ·)
section
variable (ev:List Nd->List Sy->Int×Bool×Int) (iB:List Nd->List (List UInt8)) (pw:Int->Int->Int->List Int×Int)
theorem uy (s:SS)(a b c:Int)(l:List It):(ko s a b c l).1.az=s.az:=by
 unfold ko;split
 .rfl
 split<;>rfl
theorem Fq (s:SS)(w:List UInt8):(yf s w).1.az=s.az:=by
 unfold yf pL;split
 .rfl
 split
 .rfl
 rw[uy]
end
end
end Go.Proofs.YtbeckacfibledaaGreatDoor.ps.sr
namespace Go.Proofs.YtbeckacfibledaaGreatDoor.ps.sr
open Go.Tv Go.Ev Go.Px Go.Pp Go.Proofs.YtbeckacfibledaaGreatDoor.ex
set_option maxRecDepth 100000
noncomputable section
section
variable (ev:List Nd->List Sy->Int×Bool×Int) (iB:List Nd->List (List UInt8)) (pw:Int->Int->Int->List Int×Int)
theorem sP {s:SS}{x:List Nd}{k:Int->SR'}(h:∀n,(k n).1.az=s.az):(nY ev iB s x k).1.az=s.az:=by
 unfold nY;split
 .rfl
 exact h _
theorem Fs {s:SS}{w:List UInt8}{k:SR'}(h:k.1.az=s.az):(pL s w k).1.az=s.az:=by
 unfold pL;split
 .rfl
 exact h
theorem Tn (s:SS)(x:RS)(n:Int):(vN ev iB pw s x n).1.az=s.az:=by
 unfold vN;split
 .unfold AA;split
  .rfl
  exact uy _ _ _ _ _
 split
 .unfold Cy;split
  .rfl
  exact uy _ _ _ _ _
 split
 .exact Fs (sP ev iB λn=>rfl)
 split
 .exact sP ev iB λn=>by
   split
   .rfl
   exact uy _ _ _ _ _
 split
 .exact sP ev iB λn=>by
   split
   .rfl
   split<;>rfl
 split
 .rfl
 split
 .exact Fs rfl
 split
 .exact sP ev iB λn=>by
   split
   .rfl
   split
   .rfl
   split
   .rfl
   exact uy _ _ _ _ _
 split
 .unfold JP;split
  .rfl
  unfold powC;split
  .rfl
  exact uy _ _ _ _ _
 rfl
theorem HI (s:SS)(x:RS)(n:Int):(ux ev iB pw s x n).1.az=s.az:=by
 unfold ux;split
 .rfl
 exact Tn ev iB pw s x n
theorem Ft (s:SS)(x:RS):(pM ev iB pw s x).1.az=s.az:=by
 unfold pM;split
 .exact HI ev iB pw s x 1
 exact sP ev iB λn=>by
  split
  .rfl
  exact HI ev iB pw s x n
theorem HJ (s:SS)(x:RS):(jW ev iB pw s x).1.az=s.az:=by
 unfold jW;split
 .split
  .exact Fq s _
  rw[Ft,Fq]
 exact Ft ev iB pw s x
variable (rd:List UInt8->RS×Int×Int)
end
end
end Go.Proofs.YtbeckacfibledaaGreatDoor.ps.sr
namespace Go.Proofs.YtbeckacfibledaaGreatDoor.ps.sr
open Go.Tv Go.Ev Go.Px Go.Pp Go.Proofs.YtbeckacfibledaaGreatDoor.ex
set_option maxRecDepth 100000
noncomputable section
end
end Go.Proofs.YtbeckacfibledaaGreatDoor.ps.sr
namespace Go.Proofs.YtbeckacfibledaaGreatDoor.ps.sr
open Go.Tv Go.Ev Go.Px Go.Pp Go.Proofs.YtbeckacfibledaaGreatDoor.ex
set_option maxRecDepth 100000
noncomputable section
section
variable (ev:List Nd->List Sy->Int×Bool×Int) (iB:List Nd->List (List UInt8)) (pw:Int->Int->Int->List Int×Int) (rd:List UInt8->RS×Int×Int)
structure Ag (s t:SS):Prop where
 opn:t.opn=s.opn
 lab:t.lab=s.lab
 bp:t.bp=s.bp
 aI:t.aI=s.aI
 aH:t.aH=s.aH
structure asD (s:SS)(x:RS)(a b:Int)(L:Int->List It):Prop where
 b0:0<=b
 len:∀i,((L i).length:Int)=a
 set:∀i j,(L i).map (λy=>(j,y.2))=L j
 put:∀t,Ag s t->∀n,vN ev iB pw t x n=ko t a b n (L t.az)
end
end
end Go.Proofs.YtbeckacfibledaaGreatDoor.ps.sr
namespace Go.Proofs.YtbeckacfibledaaGreatDoor.ps.sr
open Go.Tv Go.Ev Go.Px Go.Pp Go.Proofs.YtbeckacfibledaaGreatDoor.ex
set_option maxRecDepth 100000
noncomputable section
section
variable (ev:List Nd->List Sy->Int×Bool×Int) (iB:List Nd->List (List UInt8)) (pw:Int->Int->Int->List Int×Int) (rd:List UInt8->RS×Int×Int)
structure Plain (s:SS)(x:RS):Prop where
 lab:x.lab=[]
 aF:x.aF=1\/x.aF=2\/x.aF=9
 opn:s.opn=false
end
end
end Go.Proofs.YtbeckacfibledaaGreatDoor.ps.sr
namespace Go.Proofs.YtbeckacfibledaaGreatDoor.ps.sr
open Go.Tv Go.Ev Go.Px Go.Pp Go.Proofs.YtbeckacfibledaaGreatDoor.ex
set_option maxRecDepth 100000
noncomputable section
section
variable (ev:List Nd->List Sy->Int×Bool×Int) (iB:List Nd->List (List UInt8)) (pw:Int->Int->Int->List Int×Int) (rd:List UInt8->RS×Int×Int)
abbrev Ls:=Int×List Sy×List It
def alu (s:SS):Ls:=(s.fJ,s.aH,s.av)
def zLs:Ls:=(0,[],[])
def qX (l:List (List UInt8)):Ls×Int×Int :=
 if (jO ev iB pw rd l Fk).2≠0 then (zLs,(jO ev iB pw rd l Fk).2,(jO ev iB pw rd l Fk).1.az)
 else if (jO ev iB pw rd l Fk).1.opn=true then (zLs,8,(jO ev iB pw rd l Fk).1.az) else (alu (jO ev iB pw rd l Fk).1,0,0)
theorem JQ {l:List (List UInt8)}(h:(qX ev iB pw rd l).2.1=0):(jO ev iB pw rd l Fk).2=0/\(jO ev iB pw rd l Fk).1.opn=false/\qX ev iB pw rd l=(alu (jO ev iB pw rd l Fk).1,0,0):=by
 unfold qX at h ⊢;split at h
 .rename_i h1;exact absurd h h1
 rename_i h1;rw[aa h1];split at h
 .exact absurd h (by show ¬((8:Int)=0);decide)
 rename_i h2;rw[aa h2];exact⟨eN.1 h1,by simpa using h2,rfl⟩
theorem XA {l:List (List UInt8)}(h:(qX ev iB pw rd l).2.1≠0):(qX ev iB pw rd l).1=zLs:=by
 unfold qX at h ⊢;split
 .rfl
 rename_i h1;rw[aa h1]at h;split
 .rfl
 rename_i h2;rw[aa h2]at h;exact absurd rfl h
theorem Tp {a b:List (List UInt8)}(ha:(qX ev iB pw rd a).2.1=0)(hb:(qX ev iB pw rd (a++b)).2.1=0) :
 (∃l,(qX ev iB pw rd (a++b)).1.2.2=(qX ev iB pw rd a).1.2.2++l)/\∃l,(qX ev iB pw rd (a++b)).1.2.1=(qX ev iB pw rd a).1.2.1++l:=by
 obtain⟨h1,_,h3⟩:=JQ ev iB pw rd ha;obtain⟨_,_,k3⟩:=JQ ev iB pw rd hb;rw[h3,k3,Tm,aa (λq=>q h1)];have h:=Xy ev iB pw rd b (jO ev iB pw rd a Fk).1;exact⟨h.av,h.aH⟩
end
end
end Go.Proofs.YtbeckacfibledaaGreatDoor.ps.sr

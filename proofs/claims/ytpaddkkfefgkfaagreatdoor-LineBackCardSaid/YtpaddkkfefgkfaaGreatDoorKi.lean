/- The tokens of a line that is written: how many, and that they may be joined. -/
import Derived.Test.YtpaddkkfefgkfaaGreatDoorKg
import Derived.Test.YtpaddkkfefgkfaaGreatDoorGrj
set_option linter.unusedVariables false
set_option linter.unusedSimpArgs false
namespace Go.Proofs.YtpaddkkfefgkfaaGreatDoor.ps.wr
open Go.Tv Go.Ev Go.Px Go.Pp Go.Proofs.YtpaddkkfefgkfaaGreatDoor.ex Go.Proofs.YtpaddkkfefgkfaaGreatDoor.rg
set_option maxRecDepth 100000
noncomputable section
def gNd (y:Nd):Prop:=lt.G3 y.2.1/\y.2.2.1.length<=1100
def gX (x:List Nd):Prop:=∀y∈x,gNd y
def CW (l:List Tok):Prop:=∀t∈l,lt.fF t=true
structure Wm (s:WS) (m:Nat):Prop where
 n:br s<=m
 c:CW s.1
theorem Wm.mono {s:WS} {m k:Nat} (h:Wm s m) (hk:m<=k):Wm s k:=⟨Nat.le_trans h.n hk,h.c⟩
theorem Wm.bad {s:WS} {m:Nat} (h:Wm s m):Wm (s.1,true) m:=⟨h.n,h.c⟩
theorem CK {w:List UInt8} (h:w.length<=1100) (k:Int):lt.fF (k,0,w,0)=true:=lt.oV lt.iz h
theorem s9 {a b:List Tok} (ha:CW a) (hb:CW b):CW (a++b):=λt ht=>(List.mem_append.1 ht).elim (ha t) (hb t)
theorem Ek {t:Tok} (h:lt.fF t=true):CW [t]:=λu hu=>by rw[List.mem_singleton.1 hu];exact h
theorem td (op:Int):(gm op).length<=1100:=by unfold gm;(repeat' split)<;>decide
theorem yd:∀(t:T) (w:Bool) (b:Nat),gX (t.post b)->CW (t.toks w)
 |
  .leaf n,w,b=>λh=>by
  have hn:gNd n:=h n (by simp[T.post])
  refine Ek ?_;unfold KG;split
  .
   exact lt.oV hn.1 (by show (0:Nat)<=1100;omega)
  split
  .
   exact CK hn.2 _
  exact CK (td _) _
 |
  .un op a,w,b=>λh=>by
  have ha:=yd a false b λy hy=>h y (by simp only[T.post,List.mem_append];exact .inl hy)
  show CW (oa (gm op)::a.toks false);exact λt ht=>(List.mem_cons.1 ht).elim (λe=>by rw[e];exact CK (td _) _) (ha t)
 |
  .bi op u v,w,b=>λh=>by
  have hu:=yd u false b λy hy=>h y (by simp only[T.post,List.mem_append];exact .inl hy)
  have hv:=yd v false (b+u.size) λy hy=>h y (by simp only[T.post,List.mem_append];exact .inr (.inl hy))
  have s1:∀z:List UInt8,z.length<=1100->CW [oa z]:=λz hz=>Ek (CK hz _)
  show CW ((if w then [] else [oa [40]])++(u.toks false++(oa (gm op)::(v.toks false++(if w then [] else [oa [41]])))));refine s9 ?_ (s9 hu (s9 (a:=[_]) (s1 _ (td _)) (s9 hv ?_)))
  .
   cases w
   .
    exact s1 _ (by decide)
   exact λt ht=>absurd ht (by simp)
  cases w
  .
   exact s1 _ (by decide)
  exact λt ht=>absurd ht (by simp)
theorem WO {s:WS} {m:Nat} (h:Wm s m) {t:Tok} (ht:lt.fF t=true):Wm (oU s t) (m+1):=⟨by rw[kP];have:=h.n;omega,s9 h.c (Ek ht)⟩
theorem qE {s:WS} {m:Nat} (h:Wm s m) {w:List UInt8} (hw:w.length<=1100) (k:Int):Wm (oU s (k,0,w,0)) (m+1):=WO h (CK hw k)
theorem gy {s:WS} {m:Nat} (h:Wm s m) {w:List UInt8} (hw:w.length<=1100):Wm (jA s w) (m+1) :=
 ⟨by have:=gx s w;have:=h.n;omega,by
  unfold jA;split
  .
   exact h.c
  exact s9 h.c (Ek (CK hw _))⟩
theorem uL {s:WS} {m:Nat} (h:Wm s m) {x:List Nd} (hx:gX x):Wm (eN s x) (m+600) :=
 ⟨by have:=wk s x;have:=h.n;omega,by
  unfold eN;split
  .
   rename_i h0;obtain ⟨t,_,k2,_,k4,_⟩:=sX h0;refine s9 h.c ?_;rw[k4];exact yd t true 0 (by rw[<-k2];exact hx)
  exact h.c⟩
theorem Nh (z:Int):(Eh z).length<=1100:=by unfold Eh;(repeat' split)<;>decide
theorem ae4 {s:WS} {m:Nat} (h:Wm s m) (z:Int):Wm (Nu s z) (m+1):=by
 unfold Nu
 split
 .
  exact h.mono (by omega)
 split
 .
  exact gy h (by decide)
 split
 .
  exact gy h (by decide)
 exact gy h (Nh z)
theorem WQ {s:WS} {m:Nat} (h:Wm s m) (k:Nat):Wm (AL k s) (m+1):=by
 unfold AL
 split
 .
  exact qE h (by decide) _
 exact h.mono (by omega)
theorem Ni:nm.Nr.all (λw=>Nat.ble w.length 1100)=true:=by kernel_rfl
theorem Sa (op:Int):(nm.ql op).length<=1100:=by
 rw[nm.F6]
 split
 .
  rw[List.getD_eq_getElem?_getD];cases hq:nm.Nr[op.toNat-1]? with
  |none=>decide
  |some w=>exact Nat.le_of_ble_eq_true (List.all_eq_true.1 Ni w (List.mem_of_getElem? hq))
 decide
theorem He (c:Int):∀w∈oP c,w.length<=1100:=by
 have k:∀l:List (List UInt8),l.all (λw=>Nat.ble w.length 1100)=true->∀w∈l,w.length<=1100:=λl h w hw=>Nat.le_of_ble_eq_true (List.all_eq_true.1 h w hw)
 refine k _ ?_
 unfold oP
 simp only[aB]
 (repeat' split)<;>decide
theorem wz (c n:Int):(dO c n).length<=1100:=by
 unfold dO aex
 cases Ju c n with
 |false=>show (0:Nat)<=1100;omega
 |
  true =>
  show (Option.rec (motive:=λ_=>List UInt8) [] (λs=>s) (aI (oP c) (n-Ao c))).length<=1100
  cases hg:aI (oP c) (n-Ao c) with
  |none=>show (0:Nat)<=1100;omega
  |
   some w =>
   obtain ⟨k,_,hk⟩:=jI hg;exact He c w (List.mem_of_getElem? hk)
def Nw (r:Raw):Prop:=lt.G3 r.2.2.1.2.2.1/\gX r.2.2.2.1
theorem ae5 {s:WS} {m:Nat} (h:Wm s m) {r:Raw} (hr:Nw r):Wm (SI s r) (m+700):=by
 obtain ⟨h1,h2⟩:=hr
 have a1:Wm (oU (Nu s r.2.2.1.2.2.2.2) (4,0,[91],0)) (m+2):=qE (ae4 h _) (by decide) _
 unfold SI
 simp only
 generalize oU (Nu s r.2.2.1.2.2.2.2) (4,0,[91],0)=s1 at a1 ⊢
 split
 .
  exact (qE (uL (gy a1 (by decide)) h2) (by decide) _).mono (by omega)
 have a2:Wm (if Ei r.2.2.1.1.1 r.2.2.1.1.2=true then s1 else jA s1 (dO r.2.2.1.1.1 r.2.2.1.1.2)) (m+3):=by
  split
  .
   exact a1.mono (by omega)
  exact gy a1 (wz _ _)
 generalize (if Ei r.2.2.1.1.1 r.2.2.1.1.2=true then s1 else jA s1 (dO r.2.2.1.1.1 r.2.2.1.1.2))=s2 at a2 ⊢
 have a3:Wm (if Ei r.2.2.1.2.1.1 r.2.2.1.2.1.2=true then s2 else oU (oU (jA (AL (br s1) s2) (dO r.2.2.1.2.1.1 r.2.2.1.2.1.2)) (4,0,[42],0)) (2,r.2.2.1.2.2.1,[],0)) (m+7):=by
  split
  .
   exact a2.mono (by omega)
  exact WO (qE (gy (WQ a2 _) (wz _ _)) (by decide) _) (lt.oV h1 (by show (0:Nat)<=1100;omega))
 generalize (if Ei r.2.2.1.2.1.1 r.2.2.1.2.1.2=true then s2 else oU (oU (jA (AL (br s1) s2) (dO r.2.2.1.2.1.1 r.2.2.1.2.1.2)) (4,0,[42],0)) (2,r.2.2.1.2.2.1,[],0))=s3 at a3 ⊢
 split
 .
  exact (qE (qE (uL (qE (WQ a3 _) (by decide) _) h2) (by decide) _) (by decide) _).mono (by omega)
 exact (qE a3 (by decide) _).mono (by omega)
theorem WR {s:WS} {m:Nat} (h:Wm s m) (i:Nat):Wm (RG i s) (m+1):=by
 unfold RG
 split
 .
  exact qE h (by decide) _
 exact h.mono (by omega)
theorem ae6 {s:WS} {m:Nat} (h:Wm s m) {r:Raw} (hr:Nw r):Wm (opS s r) (m+700):=by
 unfold opS
 split
 .
  exact (gy h (wz _ _)).mono (by omega)
 split
 .
  exact ae5 h hr
 exact (uL h hr.2).mono (by omega)
theorem Sb:∀(l:List Raw) (i m:Nat) (s:WS),Wm s m->(∀r∈l,Nw r)->Wm (U7 s i l) (m+701*l.length)
 |[],i,m,s=>λh _=>h
 |
  r::l,i,m,s=>λh hl=>by
  have:=Sb l (i+1) _ _ (ae6 (WR h i) (hl r (List.mem_cons_self ..))) λr hr=>hl r (List.mem_cons_of_mem _ hr)
  exact this.mono (by rw[List.length_cons];omega)
theorem ae7 {s:WS} {m:Nat} (h:Wm s m) (k:Int):Wm (hiS s k) (m+1):=by
 unfold hiS
 split
 .
  exact h.mono (by omega)
 split
 .
  exact gy h (by decide)
 split
 .
  exact gy h (by decide)
 split
 .
  exact gy h (by decide)
 exact h.bad.mono (by omega)
theorem aa0 {s:WS} {m:Nat} (h:Wm s m) (op k:Int) {l:List Raw} (hl:∀r∈l,Nw r):Wm (Jv s op k l) (m+2+701*l.length):=Sb l 0 _ _ (ae7 (gy h (Sa op)) k) hl
def gDt (d:Dt):Prop:=d.1.length<=1100/\gX d.2
theorem ae8 {s:WS} {m:Nat} (h:Wm s m) {d:Dt} (hd:gDt d):Wm (dtS s d) (m+600):=by
 unfold dtS
 split
 .
  exact uL h hd.2
 exact (qE h hd.1 _).mono (by omega)
theorem JB:∀(l:List Dt) (i m:Nat) (s:WS),Wm s m->(∀d∈l,gDt d)->Wm (xJ s i l) (m+601*l.length)
 |[],i,m,s=>λh _=>h
 |
  r::l,i,m,s=>λh hl=>by
  have:=JB l (i+1) _ _ (ae8 (WR h i) (hl r (List.mem_cons_self ..))) λr hr=>hl r (List.mem_cons_of_mem _ hr)
  exact this.mono (by rw[List.length_cons];omega)
structure gSt (S:RS):Prop where
 lab:S.lab.length<=1100
 args:∀r∈S.args,Nw r
 data:∀d∈S.data,gDt d
 x:gX S.x
 times:gX S.times
 n:S.args.length<=100
 k:S.data.length<=100
theorem Sc (z:Int) {a b c d:List UInt8} (ha:a.length<=1100) (hb:b.length<=1100) (hc:c.length<=1100) (hd:d.length<=1100):(SJ z a b c d).length<=1100:=by
 unfold SJ
 split
 .
  exact ha
 split
 .
  exact hb
 split
 .
  exact hc
 split
 .
  exact hd
 show (0:Nat)<=1100;omega
theorem VA {x:RS} (g:gSt x):Wm (dZ x) 300000:=by
 have h0:Wm ([],false) 0:=⟨Nat.le_refl _,λt ht=>absurd ht (by simp)⟩
 have h1:Wm (Nv ([],false) x) 2:=by
  unfold Nv;split
  .
   exact qE (gy h0 g.lab) (by decide) _
  exact h0.mono (by omega)
 have h2:Wm (Vk (Nv ([],false) x) x) 1000:=by
  unfold Vk;split
  .
   exact (uL (gy h1 (by decide)) g.times).mono (by omega)
  exact h1.mono (by omega)
 unfold dZ
 generalize Vk (Nv ([],false) x) x=s at h2
 have hn:=g.n
 have hk:=g.k
 unfold kdS
 split
 .
  exact h2.mono (by omega)
 split
 .
  exact (aa0 h2 _ _ g.args).mono (by omega)
 split
 .
  exact (JB _ 0 _ _ (gy h2 (Sc _ (by decide) (by decide) (by decide) (by decide))) g.data).mono (by omega)
 split
 .
  exact (uL (gy (gy h2 g.lab) (by decide)) g.x).mono (by omega)
 split
 .
  exact (uL (gy h2 (by decide)) g.x).mono (by omega)
 split
 .
  exact (uL (gy h2 (by decide)) g.x).mono (by omega)
 split
 .
  exact (gy (gy h2 (by decide)) g.lab).mono (by omega)
 split
 .
  exact (gy h2 (by decide)).mono (by omega)
 split
 .
  exact (uL (gy h2 (Sc _ (by decide) (by decide) (by decide) (by decide))) g.x).mono (by omega)
 split
 .
  exact (JB _ 0 _ _ (gy h2 (by decide)) g.data).mono (by omega)
 exact h2.bad.mono (by omega)
theorem WT {x:RS} (g:gSt x) (ho:Ec x=true):G1 x=true:=by
 have h:=VA g
 have hn:=g.n
 have hk:=g.k
 unfold G1
 simp only[Bool.and_eq_true,List.all_eq_true]
 exact ⟨⟨⟨bO (by omega),bO (by omega)⟩,bO h.n,h.c⟩,ho⟩
end
end Go.Proofs.YtpaddkkfefgkfaaGreatDoor.ps.wr

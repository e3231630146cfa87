/-
  'linotypelaw26.SourceAhead' returns true for every input, and each argument reads behind the call as it read before; no conditions.
-/
import Derived.Test.YtbeckacfibledaaGreatDoorRows
import Derived.Test.YtbeckacfibledaaGreatDoorLyc
import Derived.Test.YtbeckacfibledaaGreatDoorTie
import Derived.Test.YtbeckacfibledaaGreatDoorCards
import Derived.MakeChecks
import Derived.LaidMore
import Derived.Lay
import Derived.SevenTiedAt
import Derived.Stop.Joined
import Derived.Test.YtbeckacfibledaaGreatDoorGya
import Derived.WalkKit
import Derived.ProofKit
import Derived.OpenShut
import Derived.ShutString
import Derived.ChangeOld
import Derived.Below
set_option linter.unusedVariables false
set_option linter.unusedSimpArgs false
namespace Go.Proofs.YtbeckacfibledaaGreatDoor.sourceAhead
open Go.ChangeShapes Go.WideShapes Go.ChangeAt Go.RowKit
open Go.ChangeMaps (open_string shut_string)
set_option linter.unusedVariables false
theorem own:ownKnob Tryz.prog.godebug=none:=by kernel_rfl
noncomputable def BI:List Value:=lt.BI
noncomputable def YW:List Value:=rg.space
noncomputable def rows (t:Nat->TypeId):List Ev.jC:=[⟨BI,t 0,true,false⟩,Ev.uZ,Ev.uZ,Ev.uZ,Ev.uZ,Ev.uZ,Ev.uZ,Ev.uZ,⟨YW,t 8,true,false⟩]
theorem Ir {W:World}(hL:laidMetH Tryz.prog Rows.sourceAheadRow.laid W):∃t,Ev.kV (rows t) W:=by
 rw[MakeChecks.laidMetH_plain _ _ _ (by kernel_rfl)]at hL;obtain⟨t0,h0⟩:=Ev.laid_at hL (k:=3) (cv:=BI) (nm := "linotype/token.signs") (d:=Rows.laid_linotype_token_signs) (g:=0) (t:=123) (n:=19) (e:=9) (by kernel_rfl) (by kernel_rfl) (by kernel_rfl) (by kernel_rfl) (by kernel_rfl) (.inr (by kernel_rfl)) (by kernel_rfl) (by kernel_rfl) (by kernel_rfl);obtain⟨t8,h8⟩:=Ev.laid_at hL (k:=2) (cv:=YW) (nm := "strings.asciiSpace") (d:=Rows.laid_strings_asciiSpace) (g:=8) (t:=213) (n:=256) (e:=5) (by kernel_rfl) (by kernel_rfl) (by kernel_rfl) (by kernel_rfl) (by kernel_rfl) (.inl ⟨.u8,by kernel_rfl⟩) (by kernel_rfl) (by kernel_rfl) (by kernel_rfl)
 refine⟨λi=>if i=0 then t0 else t8,Ev.aex h8,λi b hi hl=>?_⟩
 match i,hi with
 |0,hi=>cases hi;exact Ev.UM h0
 |1,hi=>cases hi;cases hl
 |2,hi=>cases hi;cases hl
 |3,hi=>cases hi;cases hl
 |4,hi=>cases hi;cases hl
 |5,hi=>cases hi;cases hl
 |6,hi=>cases hi;cases hl
 |7,hi=>cases hi;cases hl
 |8,hi=>cases hi;exact Ev.UM h8
theorem aw (t:Nat->TypeId):Ev.Ib Tryz.prog rg.kS (rows t) 1000 60 6 []=some (.bool true):=by kernel_rfl
theorem known (t:Nat->TypeId):Ev.ke Tryz.prog (rows t) rg.kS:=rg.aki (GR:=rows t) rfl rfl (by kernel_rfl)
theorem ait (t:Nat->TypeId):∀q∈[((6:FuncId),([]:List Value))],∀w,Ev.kV (rows t) w->Calls Tryz.prog q.1 q.2.toArray w λe w'=>e = .returned (.bool true)/\Below w.heap.size w w':=by
 intro q hq w hw;simp only[bx,kC,or_false]at hq;subst hq;exact Ev.K7 rg.iX rg.mixed (known t) (aw t) w hw
theorem amu (t:Nat->TypeId):Ev.ke Tryz.prog (rows t) lt.kn:=rg.akf (known t) (ait t)
theorem glb {w:World}(t:Nat->TypeId)(hr:Ev.kV (rows t) w):Tv.fk ex.X0 (Tv.vi w) :=
 ps.sr.jo (rows:=rows t) ⟨_,rfl,rfl,rfl⟩ hr
theorem gsz {w:World}(t:Nat->TypeId)(hr:Ev.kV (rows t) w):ex.X0.G<=w.heap.size:=br (ay (by kernel_rfl)) hr.1
theorem walk (a0:ByteArray)(w0:a0.size<=maxLen)(a1:ByteArray)(w1:a1.size<=maxLen)(w:World)(t:Nat->TypeId)(hr:Ev.kV (rows t) w) :
 Calls Tryz.prog 3 #[.string a0,.string a1] w λe w'=>e = .returned (.bool true)/\Below w.heap.size w w' :=
 Tv.Qz (X:=ex.X0) rg.iX rg.mixed (amu t) (v:=.bool true) (λS x hx=>hx.mh) rfl
  (λS E bK hr hg hl=>Tv.Ac (λargs=>lt.bR rfl args) (ps.sr.qM ps.sr.amr ps.sr.YH ps.sr.adV) (ps.sr.amt a0.data.toList a1.data.toList) S E bK hr hg hl) hr (gsz t hr) (glb t hr) (args':=[.string a0,.string a1])
  (Tv.LV.cons (nm.wU w a0) (Tv.LV.cons (nm.wU w a1) Tv.LV.nil)) rfl
set_option maxRecDepth 100000 in
theorem lifted (os:Os)(started:os.Started)(H:Type)(enc:TypeId×Value->H) :
 ReturnsInHanded {} Tryz.checked os 3 .any (λw args=>(Rows.sourceAheadSpec.pre enc Tryz.prog Tryz.f3 Rows.sourceAheadRow.domain false w args/\laidMetH Tryz.prog Rows.sourceAheadRow.laid w)/\sizedMet enc Tryz.prog Tryz.f3 (OpenSpec.ofChange Rows.sourceAheadSpec) false w args) (Rows.sourceAheadSpec.post enc Tryz.prog Tryz.f3 false true false false):=by
 refine returnsInHanded_of_change_and (C:=Tryz.checked) (X:=λw _=>laidMetH Tryz.prog Rows.sourceAheadRow.laid w) (λ_ _ _ hh h=>h.of_heap hh) own started (by kernel_rfl) Tryz.func3
  (ChangeSpec.witness_shaped (enc:=enc) (C:=Tryz.checked) (os:=os) (X:=λw _=>laidMetH Tryz.prog Rows.sourceAheadRow.laid w) false (World.laidAll Tryz.prog os Rows.sourceAheadRow.laid) #[.string ⟨#[]⟩,.string ⟨#[]⟩] 8 (World.laidAll_os _ _ _)
   (World.shaped_of_ZipB (by kernel_rfl) (by kernel_rfl)) (by kernel_rfl) (by kernel_rfl) (by kernel_rfl)
   (by rw[MakeChecks.laidMetH_plain _ _ _ (by kernel_rfl)];exact laidMet_laidAll _ (by kernel_rfl) (by kernel_rfl))) ?_
 intro W base args ds gs before adZ hW hcnd _ hL _;obtain⟨t,hr⟩:=Ir hL;have hval:∀(j:Nat) t v,Tryz.f3.params[j]? = some t->args[j]? = some v->Value.okWide Tryz.prog W .any base t v:=adZ;have hW':=hW;obtain⟨p,q,hA0,hV,rfl,hfz,hnd⟩:=hW;have hA:DataW.TrodAll enc Tryz.prog W 0 (λ_=>true) true Tryz.f3.params.toList args.toList ds p:=hA0;rw[Tryz.params3]at hA hval;obtain⟨v0,vs0,d0,ds0,p0,q0,hargs,rfl,rfl,h0,r0⟩:=trodAll_cons hA;obtain⟨v1,vs1,d1,ds1,p1,q1,rfl,rfl,rfl,h1,r1⟩:=trodAll_cons r0;obtain⟨rfl,rfl,rfl⟩:=trodAll_nil r1
 obtain rfl:args = #[v0,v1]:=by cases args;simp_all
 obtain⟨rfl,rfl⟩:=trodVars_none hV;obtain⟨a0,rfl,rfl,rfl,w0⟩:=open_string Tryz.underlying9 (hval 0 9 v0 rfl rfl) h0;obtain⟨a1,rfl,rfl,rfl,w1⟩:=open_string Tryz.underlying9 (hval 1 9 v1 rfl rfl) h1;clear hA0 adZ;refine(walk a0 w0 a1 w1 W  t hr).mono λe W' ⟨he,bel⟩=>?_
 subst he;exact⟨_,rfl,_,_,_,[],_,[],hW',trodAll_mk1 (shut_bool Tryz.underlying4 _),trodAll_cons_mk (shut_string Tryz.underlying9 w0) (trodAll_cons_mk (shut_string Tryz.underlying9 w1) (trodAll_mk0)),rfl,bel.frame _,λh=>by cases h⟩
theorem over:Rows.sourceAheadRow.holds Tryz.pinned (OpenSpec.ofChange Rows.sourceAheadSpec) :=
 OpenClaim.holds_of_wide 3 Tryz.f3 rfl rfl rfl rfl rfl rfl rfl ⟨rfl,rfl,rfl,rfl,rfl⟩ rfl rfl rfl rfl rfl (by kernel_rfl) Tryz.func3 (by kernel_rfl)
  (ef (by kernel_rfl)) (by unfold Func.isWrapper;first|(rw[ag (by decide +kernel)];kernel_rfl)|(rw[aa (by decide +kernel)];exact⟨rfl,rfl⟩))
  (λos started H enc _=>lifted os started H enc)
theorem proved:Rows.SourceAheadCardSaid :=
 Claim7.holds_tied_plain_at .later [] [.data,.listed,.data,.data,.pinned] true (true,"290dd75986fdb8e92120d2768e88b8b3f6e4e544b37d3a7f27153cc306a23737") false over (λ_ h=>by cases h) (by kernel_rfl) (λ_ h=>by cases h) sourceAhead_row_tie rfl ⟨rfl,rfl⟩ (by kernel_rfl) rfl
  (λf fn hf hfn=>by
   obtain rfl:f=3:=bM ((show Tryz.prog.funcNamed "linotype/linotypelaw26.SourceAhead" = some 3 by kernel_rfl).symm.trans hf) |>.symm;obtain rfl:fn=Tryz.f3:=(bM (Tryz.func3.symm.trans hfn)).symm;exact⟨by kernel_rfl,λj t ht=>by
    rw[Tryz.params3]at ht;have hm:t∈([9,9]:List TypeId):=by simpa using aY ht
    have hall:(([9,9]:List TypeId).all λu => !Tryz.prog.wantsStandIn u)=true:=by kernel_rfl
    exact(show Tryz.prog.wantsStandIn t=false by simpa using aK.1 hall t hm)⟩)
  (by kernel_rfl)
#print axioms proved
end Go.Proofs.YtbeckacfibledaaGreatDoor.sourceAhead

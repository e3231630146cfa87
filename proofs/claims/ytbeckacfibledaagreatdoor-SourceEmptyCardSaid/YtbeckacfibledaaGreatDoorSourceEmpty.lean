/-
  'linotypelaw26.SourceEmpty' returns true for every input, and each argument reads behind the call as it read before; no conditions.
-/
import Derived.Test.YtbeckacfibledaaGreatDoorRows
import Derived.Test.YtbeckacfibledaaGreatDoorLyc
import Derived.Test.YtbeckacfibledaaGreatDoorTie
import Derived.Test.YtbeckacfibledaaGreatDoorCards
import Derived.MakeChecks
import Derived.LaidMore
import Derived.Lay
import Derived.SevenTiedAt
import Derived.Stop.Joined
import Derived.Test.YtbeckacfibledaaGreatDoorGyb
import Derived.Test.YtbeckacfibledaaGreatDoorGya
import Derived.WalkKit
import Derived.ProofKit
import Derived.OpenShut
import Derived.ShutString
import Derived.ChangeOld
import Derived.Below
set_option linter.unusedVariables false
set_option linter.unusedSimpArgs false
namespace Go.Proofs.YtbeckacfibledaaGreatDoor.sourceEmpty
open Go.ChangeShapes Go.WideShapes Go.ChangeAt Go.RowKit
open Go.ChangeMaps (open_string shut_string)
set_option linter.unusedVariables false
theorem own:ownKnob Tryz.prog.godebug=none:=by kernel_rfl
noncomputable def BW:List Value:=lt.BW
noncomputable def Zq:List Value:=rg.space
noncomputable def rows (t:Nat->TypeId):List Ev.jJ:=[⟨BW,t 0,true,false⟩,Ev.vk,Ev.vk,Ev.vk,Ev.vk,Ev.vk,Ev.vk,Ev.vk,⟨Zq,t 8,true,false⟩]
theorem IJ {W:World}(hL:laidMetH Tryz.prog Rows.sourceEmptyRow.laid W):∃t,Ev.lg (rows t) W:=by
 rw[MakeChecks.laidMetH_plain _ _ _ (by kernel_rfl)]at hL;obtain⟨t0,h0⟩:=Ev.laid_at hL (k:=3) (cv:=BW) (nm := "linotype/token.signs") (d:=Rows.laid_linotype_token_signs) (g:=0) (t:=123) (n:=19) (e:=9) (by kernel_rfl) (by kernel_rfl) (by kernel_rfl) (by kernel_rfl) (by kernel_rfl) (.inr (by kernel_rfl)) (by kernel_rfl) (by kernel_rfl) (by kernel_rfl);obtain⟨t8,h8⟩:=Ev.laid_at hL (k:=2) (cv:=Zq) (nm := "strings.asciiSpace") (d:=Rows.laid_strings_asciiSpace) (g:=8) (t:=213) (n:=256) (e:=5) (by kernel_rfl) (by kernel_rfl) (by kernel_rfl) (by kernel_rfl) (by kernel_rfl) (.inl ⟨.u8,by kernel_rfl⟩) (by kernel_rfl) (by kernel_rfl) (by kernel_rfl)
 refine⟨λi=>if i=0 then t0 else t8,Ev.ae2 h8,λi b hi hl=>?_⟩
 match i,hi with
 |0,hi=>cases hi;exact Ev.U9 h0
 |1,hi=>cases hi;cases hl
 |2,hi=>cases hi;cases hl
 |3,hi=>cases hi;cases hl
 |4,hi=>cases hi;cases hl
 |5,hi=>cases hi;cases hl
 |6,hi=>cases hi;cases hl
 |7,hi=>cases hi;cases hl
 |8,hi=>cases hi;exact Ev.U9 h8
theorem aw (t:Nat->TypeId):Ev.Iq Tryz.prog rg.kS (rows t) 1000 60 6 []=some (.bool true):=by kernel_rfl
theorem known (t:Nat->TypeId):Ev.kq Tryz.prog (rows t) rg.kS:=rg.akQ (GR:=rows t) rfl rfl (by kernel_rfl)
theorem ai1 (t:Nat->TypeId):∀q∈[((6:FuncId),([]:List Value))],∀w,Ev.lg (rows t) w->Calls Tryz.prog q.1 q.2.toArray w λe w'=>e = .returned (.bool true)/\Below w.heap.size w w':=by
 intro q hq w hw;simp only[bt,kH,or_false]at hq;subst hq;exact Ev.Ll rg.jd rg.mixed (known t) (aw t) w hw
theorem amY (t:Nat->TypeId):Ev.kq Tryz.prog (rows t) lt.kn:=rg.akN (known t) (ai1 t)
theorem glb {w:World}(t:Nat->TypeId)(hr:Ev.lg (rows t) w):Tv.fm ex.X0 (Tv.vt w) :=
 ps.sr.ju (rows:=rows t) ⟨_,rfl,rfl,rfl⟩ hr
theorem gsz {w:World}(t:Nat->TypeId)(hr:Ev.lg (rows t) w):ex.X0.G<=w.heap.size:=br (az (by kernel_rfl)) hr.1
theorem walk (a0:ByteArray)(w0:a0.size<=maxLen)(a1:Int)(w1:(Lit.int .i64 a1).wf=true)(a2:ByteArray)(w2:a2.size<=maxLen)(w:World)(t:Nat->TypeId)(hr:Ev.lg (rows t) w) :
 Calls Tryz.prog 4 #[.string a0,.int .i64 a1,.string a2] w λe w'=>e = .returned (.bool true)/\Below w.heap.size w w' :=
 Tv.QU (X:=ex.X0) rg.jd rg.mixed (amY t) (v:=.bool true) (λS x hx=>hx.mq) rfl
  (λS E bJ hr hg hl=>Tv.Ar (λargs=>lt.bS rfl args) (ps.sr.qW ps.sr.amV ps.sr.Y2 ps.sr.aer) (ps.sr.amX a0.data.toList a2.data.toList a1 (r:=30001) (by decide)) S E bJ hr hg hl) hr (gsz t hr) (glb t hr) (args':=[.string a0,.int .i64 a1,.string a2])
  (Tv.LV.cons (nm.xe w a0) (Tv.LV.cons (.int .i64 a1) (Tv.LV.cons (nm.xe w a2) Tv.LV.nil))) rfl
set_option maxRecDepth 100000 in
theorem lifted (os:Os)(started:os.Started)(H:Type)(enc:TypeId×Value->H) :
 ReturnsInHanded {} Tryz.checked os 4 .any (λw args=>(Rows.sourceEmptySpec.pre enc Tryz.prog Tryz.f4 Rows.sourceEmptyRow.domain false w args/\laidMetH Tryz.prog Rows.sourceEmptyRow.laid w)/\sizedMet enc Tryz.prog Tryz.f4 (OpenSpec.ofChange Rows.sourceEmptySpec) false w args) (Rows.sourceEmptySpec.post enc Tryz.prog Tryz.f4 false true false false):=by
 refine returnsInHanded_of_change_and (C:=Tryz.checked) (X:=λw _=>laidMetH Tryz.prog Rows.sourceEmptyRow.laid w) (λ_ _ _ hh h=>h.of_heap hh) own started (by kernel_rfl) Tryz.func4
  (ChangeSpec.witness_shaped (enc:=enc) (C:=Tryz.checked) (os:=os) (X:=λw _=>laidMetH Tryz.prog Rows.sourceEmptyRow.laid w) false (World.laidAll Tryz.prog os Rows.sourceEmptyRow.laid) #[.string ⟨#[]⟩,.int .i64 0,.string ⟨#[]⟩] 8 (World.laidAll_os _ _ _)
   (World.shaped_of_ZipB (by kernel_rfl) (by kernel_rfl)) (by kernel_rfl) (by kernel_rfl) (by kernel_rfl)
   (by rw[MakeChecks.laidMetH_plain _ _ _ (by kernel_rfl)];exact laidMet_laidAll _ (by kernel_rfl) (by kernel_rfl))) ?_
 intro W base args ds gs before aeu hW hcnd _ hL _;obtain⟨t,hr⟩:=IJ hL;have hval:∀(j:Nat) t v,Tryz.f4.params[j]? = some t->args[j]? = some v->Value.okWide Tryz.prog W .any base t v:=aeu;have hW':=hW;obtain⟨p,q,hA0,hV,rfl,hfz,hnd⟩:=hW;have hA:DataW.TrodAll enc Tryz.prog W 0 (λ_=>true) true Tryz.f4.params.toList args.toList ds p:=hA0;rw[Tryz.params4]at hA hval;obtain⟨v0,vs0,d0,ds0,p0,q0,hargs,rfl,rfl,h0,r0⟩:=trodAll_cons hA;obtain⟨v1,vs1,d1,ds1,p1,q1,rfl,rfl,rfl,h1,r1⟩:=trodAll_cons r0;obtain⟨v2,vs2,d2,ds2,p2,q2,rfl,rfl,rfl,h2,r2⟩:=trodAll_cons r1
 obtain⟨rfl,rfl,rfl⟩:=trodAll_nil r2;obtain rfl:args = #[v0,v1,v2]:=by cases args;simp_all
 obtain⟨rfl,rfl⟩:=trodVars_none hV;obtain⟨a0,rfl,rfl,rfl,w0⟩:=open_string Tryz.underlying9 (hval 0 9 v0 rfl rfl) h0;obtain⟨a1,rfl,rfl,rfl,w1⟩:=open_int Tryz.underlying3 (hval 1 3 v1 rfl rfl) h1;obtain⟨a2,rfl,rfl,rfl,w2⟩:=open_string Tryz.underlying9 (hval 2 9 v2 rfl rfl) h2;clear hA0 aeu;refine(walk a0 w0 a1 w1 a2 w2 W  t hr).mono λe W' ⟨he,bel⟩=>?_
 subst he;exact⟨_,rfl,_,_,_,[],_,[],hW',trodAll_mk1 (shut_bool Tryz.underlying4 _),trodAll_cons_mk (shut_string Tryz.underlying9 w0) (trodAll_cons_mk (shut_int Tryz.underlying3 w1) (trodAll_cons_mk (shut_string Tryz.underlying9 w2) (trodAll_mk0))),rfl,bel.frame _,λh=>by cases h⟩
theorem over:Rows.sourceEmptyRow.holds Tryz.pinned (OpenSpec.ofChange Rows.sourceEmptySpec) :=
 OpenClaim.holds_of_wide 4 Tryz.f4 rfl rfl rfl rfl rfl rfl rfl ⟨rfl,rfl,rfl,rfl,rfl⟩ rfl rfl rfl rfl rfl (by kernel_rfl) Tryz.func4 (by kernel_rfl)
  (fG (by kernel_rfl)) (by unfold Func.isWrapper;first|(rw[ag (by decide +kernel)];kernel_rfl)|(rw[aa (by decide +kernel)];exact⟨rfl,rfl⟩))
  (λos started H enc _=>lifted os started H enc)
theorem proved:Rows.SourceEmptyCardSaid :=
 Claim7.holds_tied_plain_at .later [] [.data,.listed,.data,.data,.pinned] true (true,"290dd75986fdb8e92120d2768e88b8b3f6e4e544b37d3a7f27153cc306a23737") false over (λ_ h=>by cases h) (by kernel_rfl) (λ_ h=>by cases h) sourceEmpty_row_tie rfl ⟨rfl,rfl⟩ (by kernel_rfl) rfl
  (λf fn hf hfn=>by
   obtain rfl:f=4:=bL ((show Tryz.prog.funcNamed "linotype/linotypelaw26.SourceEmpty" = some 4 by kernel_rfl).symm.trans hf) |>.symm;obtain rfl:fn=Tryz.f4:=(bL (Tryz.func4.symm.trans hfn)).symm;exact⟨by kernel_rfl,λj t ht=>by
    rw[Tryz.params4]at ht;have hm:t∈([9,3,9]:List TypeId):=by simpa using aY ht
    have hall:(([9,3,9]:List TypeId).all λu => !Tryz.prog.wantsStandIn u)=true:=by kernel_rfl
    exact(show Tryz.prog.wantsStandIn t=false by simpa using aK.1 hall t hm)⟩)
  (by kernel_rfl)
#print axioms proved
end Go.Proofs.YtbeckacfibledaaGreatDoor.sourceEmpty

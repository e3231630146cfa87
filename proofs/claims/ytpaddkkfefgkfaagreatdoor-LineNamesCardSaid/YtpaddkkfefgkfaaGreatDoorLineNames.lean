/-
  'linotypelaw25.LineNames' returns true for every input, and each argument reads behind the call as it read before; no conditions.
-/
import Derived.Test.YtpaddkkfefgkfaaGreatDoorRows
import Derived.Test.YtpaddkkfefgkfaaGreatDoorLyc
import Derived.Test.YtpaddkkfefgkfaaGreatDoorTie
import Derived.Test.YtpaddkkfefgkfaaGreatDoorCards
import Derived.MakeChecks
import Derived.LaidMore
import Derived.Lay
import Derived.SevenTiedAt
import Derived.Stop.Joined
import Derived.Test.YtpaddkkfefgkfaaGreatDoorSh
import Derived.Test.YtpaddkkfefgkfaaGreatDoorGri
import Derived.WalkKit
import Derived.ProofKit
import Derived.OpenShut
import Derived.ShutString
import Derived.ChangeOld
import Derived.Below
set_option linter.unusedVariables false
set_option linter.unusedSimpArgs false
namespace Go.Proofs.YtpaddkkfefgkfaaGreatDoor.lineNames
open Go.ChangeShapes Go.WideShapes Go.ChangeAt Go.RowKit
open Go.ChangeMaps (open_string shut_string)
set_option linter.unusedVariables false
theorem own:ownKnob Tryz.prog.godebug=none:=by kernel_rfl
theorem laidOut:laidOutB Tryz.prog=true:=by kernel_rfl
def j4:List Value:=[.string ⟨#[36,36]⟩,.string ⟨#[60,60]⟩,.string ⟨#[62,62]⟩,.string ⟨#[43]⟩,.string ⟨#[45]⟩,.string ⟨#[42]⟩,.string ⟨#[47]⟩,.string ⟨#[37]⟩,.string ⟨#[38]⟩,.string ⟨#[124]⟩,.string ⟨#[94]⟩,.string ⟨#[126]⟩,.string ⟨#[40]⟩,.string ⟨#[41]⟩,.string ⟨#[91]⟩,.string ⟨#[93]⟩,.string ⟨#[44]⟩,.string ⟨#[58]⟩,.string ⟨#[36]⟩]
def j5:List Value:=[.int .u8 0,.int .u8 0,.int .u8 0,.int .u8 0,.int .u8 0,.int .u8 0,.int .u8 0,.int .u8 0,.int .u8 0,.int .u8 1,.int .u8 1,.int .u8 1,.int .u8 1,.int .u8 1,.int .u8 0,.int .u8 0,.int .u8 0,.int .u8 0,.int .u8 0,.int .u8 0,.int .u8 0,.int .u8 0,.int .u8 0,.int .u8 0,.int .u8 0,.int .u8 0,.int .u8 0,.int .u8 0,.int .u8 0,.int .u8 0,.int .u8 0,.int .u8 0,.int .u8 1,.int .u8 0,.int .u8 0,.int .u8 0,.int .u8 0,.int .u8 0,.int .u8 0,.int .u8 0,.int .u8 0,.int .u8 0,.int .u8 0,.int .u8 0,.int .u8 0,.int .u8 0,.int .u8 0,.int .u8 0,.int .u8 0,.int .u8 0,.int .u8 0,.int .u8 0,.int .u8 0,.int .u8 0,.int .u8 0,.int .u8 0,.int .u8 0,.int .u8 0,.int .u8 0,.int .u8 0,.int .u8 0,.int .u8 0,.int .u8 0,.int .u8 0,.int .u8 0,.int .u8 0,.int .u8 0,.int .u8 0,.int .u8 0,.int .u8 0,.int .u8 0,.int .u8 0,.int .u8 0,.int .u8 0,.int .u8 0,.int .u8 0,.int .u8 0,.int .u8 0,.int .u8 0,.int .u8 0,.int .u8 0,.int .u8 0,.int .u8 0,.int .u8 0,.int .u8 0,.int .u8 0,.int .u8 0,.int .u8 0,.int .u8 0,.int .u8 0,.int .u8 0,.int .u8 0,.int .u8 0,.int .u8 0,.int .u8 0,.int .u8 0,.int .u8 0,.int .u8 0,.int .u8 0,.int .u8 0,.int .u8 0,.int .u8 0,.int .u8 0,.int .u8 0,.int .u8 0,.int .u8 0,.int .u8 0,.int .u8 0,.int .u8 0,.int .u8 0,.int .u8 0,.int .u8 0,.int .u8 0,.int .u8 0,.int .u8 0,.int .u8 0,.int .u8 0,.int .u8 0,.int .u8 0,.int .u8 0,.int .u8 0,.int .u8 0,.int .u8 0,.int .u8 0,.int .u8 0,.int .u8 0,.int .u8 0,.int .u8 0,.int .u8 0,.int .u8 0,.int .u8 0,.int .u8 0,.int .u8 0,.int .u8 0,.int .u8 0,.int .u8 0,.int .u8 0,.int .u8 0,.int .u8 0,.int .u8 0,.int .u8 0,.int .u8 0,.int .u8 0,.int .u8 0,.int .u8 0,.int .u8 0,.int .u8 0,.int .u8 0,.int .u8 0,.int .u8 0,.int .u8 0,.int .u8 0,.int .u8 0,.int .u8 0,.int .u8 0,.int .u8 0,.int .u8 0,.int .u8 0,.int .u8 0,.int .u8 0,.int .u8 0,.int .u8 0,.int .u8 0,.int .u8 0,.int .u8 0,.int .u8 0,.int .u8 0,.int .u8 0,.int .u8 0,.int .u8 0,.int .u8 0,.int .u8 0,.int .u8 0,.int .u8 0,.int .u8 0,.int .u8 0,.int .u8 0,.int .u8 0,.int .u8 0,.int .u8 0,.int .u8 0,.int .u8 0,.int .u8 0,.int .u8 0,.int .u8 0,.int .u8 0,.int .u8 0,.int .u8 0,.int .u8 0,.int .u8 0,.int .u8 0,.int .u8 0,.int .u8 0,.int .u8 0,.int .u8 0,.int .u8 0,.int .u8 0,.int .u8 0,.int .u8 0,.int .u8 0,.int .u8 0,.int .u8 0,.int .u8 0,.int .u8 0,.int .u8 0,.int .u8 0,.int .u8 0,.int .u8 0,.int .u8 0,.int .u8 0,.int .u8 0,.int .u8 0,.int .u8 0,.int .u8 0,.int .u8 0,.int .u8 0,.int .u8 0,.int .u8 0,.int .u8 0,.int .u8 0,.int .u8 0,.int .u8 0,.int .u8 0,.int .u8 0,.int .u8 0,.int .u8 0,.int .u8 0,.int .u8 0,.int .u8 0,.int .u8 0,.int .u8 0,.int .u8 0,.int .u8 0,.int .u8 0,.int .u8 0,.int .u8 0,.int .u8 0,.int .u8 0,.int .u8 0,.int .u8 0,.int .u8 0,.int .u8 0,.int .u8 0,.int .u8 0,.int .u8 0,.int .u8 0,.int .u8 0,.int .u8 0,.int .u8 0,.int .u8 0,.int .u8 0,.int .u8 0,.int .u8 0,.int .u8 0,.int .u8 0,.int .u8 0]
def rows (t:Nat->TypeId):List Ev.Blk:=[⟨j4,t 0,true,false⟩,⟨j5,t 1,true,false⟩]
theorem oz {W:World} (hL:laidMetH Tryz.prog Rows.lineNamesRow.laid W):∃t,Ev.bR (rows t) W:=by
 rw[MakeChecks.laidMetH_plain _ _ _ (by kernel_rfl)] at hL
 obtain ⟨t0,h0⟩:=Ev.laid_at hL (k:=3) (cv:=j4) (nm := "linotype/token.signs") (d:=Rows.laid_linotype_token_signs) (g:=0) (t:=164) (n:=19) (e:=9) (by kernel_rfl) (by kernel_rfl) (by kernel_rfl) (by kernel_rfl) (by kernel_rfl) (.inr (by kernel_rfl)) (by kernel_rfl) (by kernel_rfl) (by kernel_rfl)
 obtain ⟨t1,h1⟩:=Ev.laid_at hL (k:=2) (cv:=j5) (nm := "strings.asciiSpace") (d:=Rows.laid_strings_asciiSpace) (g:=1) (t:=189) (n:=256) (e:=5) (by kernel_rfl) (by kernel_rfl) (by kernel_rfl) (by kernel_rfl) (by kernel_rfl) (.inl ⟨.u8,by kernel_rfl⟩) (by kernel_rfl) (by kernel_rfl) (by kernel_rfl)
 refine ⟨λi=>if i=0 then t0 else t1,Ev.Fg h1,λi b hi hl=>?_⟩
 match i,hi with
 |0,hi=>cases hi;exact Ev.fA h0
 |1,hi=>cases hi;exact Ev.fA h1
theorem LU (t:Nat->TypeId):Ev.jX Tryz.prog rg.kR (rows t) 1000 60 12 []=some (.bool true):=by kernel_rfl
theorem LW (t:Nat->TypeId):Ev.jX Tryz.prog rg.kR (rows t) 1000 60 23 []=some (.bool true):=by kernel_rfl
theorem known (t:Nat->TypeId):Ev.ct Tryz.prog (rows t) rg.kR:=rg.MU (GR:=rows t) rfl rfl (by kernel_rfl)
theorem uS (t:Nat->TypeId):∀q∈[((12:FuncId),([]:List Value)),(23,[])],∀w,Ev.bR (rows t) w->Calls Tryz.prog q.1 q.2.toArray w λe w'=>e = .returned (.bool true)/\Below w.heap.size w w':=by
 intro q hq w hw
 simp only[List.mem_cons,List.not_mem_nil,or_false] at hq
 rcases hq with rfl|rfl
 .
  exact Ev.eN rg.ck rg.mixed (known t) (LU t) w hw
 exact Ev.eN rg.ck rg.mixed (known t) (LW t) w hw
theorem Co (t:Nat->TypeId):Ev.ct Tryz.prog (rows t) lt.kn:=rg.MV (known t) (uS t)
theorem glb {w:World} (t:Nat->TypeId) (hr:Ev.bR (rows t) w):Tv.bY ex.X0 (Tv.kA w) :=
 ps.dM (rows:=rows t) ⟨_,rfl,rfl,by kernel_rfl⟩ ⟨_,rfl,rfl,by kernel_rfl⟩ hr
theorem gsz {w:World} (t:Nat->TypeId) (hr:Ev.bR (rows t) w):ex.X0.G<=w.heap.size:=Nat.le_trans (Nat.le_of_ble_eq_true (by kernel_rfl)) hr.1
theorem walk (a0:Int) (w0:(Lit.int .i64 a0).wf=true) (cT:Int) (afk:IntKind.has .i64 cT) (ez:Int) (afl:IntKind.has .i64 ez) (a2:ByteArray) (w2:a2.size<=maxLen) (w:World) (t:Nat->TypeId) (hr:Ev.bR (rows t) w) :
 Calls Tryz.prog 3 #[.int .i64 a0,.agg #[.int .i64 cT,.int .i64 ez],.string a2] w λe w'=>e = .returned (.bool true)/\Below w.heap.size w w' :=
 Tv.vS (X:=ex.X0) rg.ck rg.mixed (Co t) (v:=.bool true) (λS x hx=>hx.eO) rfl
  (λS E aC hr hg hl=>Tv.pZ (λargs=>lt.aP rfl args) (ex.cg ps.anA ps.alU) (ps.ag0 a0 cT ez a2.data.toList) S E aC hr hg hl) hr (gsz t hr) (glb t hr) (args':=[.int .i64 a0,.agg #[.int .i64 cT,.int .i64 ez],.string a2])
  (Tv.LV.cons (.int .i64 a0) (Tv.LV.cons (.agg [.int .i64 cT,.int .i64 ez] [.int .i64 cT,.int .i64 ez] rfl (Tv.LV.cons (.int _ _) (Tv.LV.cons (.int _ _) Tv.LV.nil)).2) (Tv.LV.cons (nm.uC w a2) Tv.LV.nil))) rfl
set_option maxRecDepth 100000 in
theorem lifted (os:Os) (started:os.Started) (H:Type) (enc:TypeId×Value->H) :
 ReturnsInHanded {} Tryz.checked os 3 .any (λw args=>(Rows.lineNamesSpec.pre enc Tryz.prog Tryz.f3 Rows.lineNamesRow.domain false w args/\laidMetH Tryz.prog Rows.lineNamesRow.laid w)/\sizedMet enc Tryz.prog Tryz.f3 (OpenSpec.ofChange Rows.lineNamesSpec) false w args) (Rows.lineNamesSpec.post enc Tryz.prog Tryz.f3 false true false false):=by
 refine returnsInHanded_of_change_and (C:=Tryz.checked) (X:=λw _=>laidMetH Tryz.prog Rows.lineNamesRow.laid w) (λ_ _ _ hh h=>h.of_heap hh) own started (by kernel_rfl) Tryz.func3
  (ChangeSpec.witness_shaped (enc:=enc) (C:=Tryz.checked) (os:=os) (X:=λw _=>laidMetH Tryz.prog Rows.lineNamesRow.laid w) false (World.laidAll Tryz.prog os Rows.lineNamesRow.laid) #[.int .i64 0,.agg #[.int .i64 0,.int .i64 0],.string ⟨#[]⟩] 8 (World.laidAll_os _ _ _)
   (World.shaped_of_ZipB (by kernel_rfl) (by kernel_rfl)) (by kernel_rfl) (by kernel_rfl) (by kernel_rfl)
   (by rw[MakeChecks.laidMetH_plain _ _ _ (by kernel_rfl)];exact laidMet_laidAll _ (by kernel_rfl) (by kernel_rfl))) ?_
 intro W base args ds gs before r9 hW hcnd _ hL _
 obtain ⟨t,hr⟩:=oz hL
 have hval:∀(j:Nat) t v,Tryz.f3.params[j]? = some t->args[j]? = some v->Value.okWide Tryz.prog W .any base t v:=r9
 have hW':=hW
 obtain ⟨p,q,U7,hV,rfl,hfz,hnd⟩:=hW
 have hA:DataW.TrodAll enc Tryz.prog W 0 (λ_=>true) true Tryz.f3.params.toList args.toList ds p:=U7
 rw[Tryz.params3] at hA hval
 obtain ⟨v0,vs0,d0,ds0,p0,q0,hargs,rfl,rfl,h0,r0⟩:=trodAll_cons hA
 obtain ⟨v1,vs1,d1,ds1,p1,q1,rfl,rfl,rfl,h1,r1⟩:=trodAll_cons r0
 obtain ⟨v2,vs2,d2,ds2,p2,q2,rfl,rfl,rfl,h2,r2⟩:=trodAll_cons r1
 obtain ⟨rfl,rfl,rfl⟩:=trodAll_nil r2
 obtain rfl:args = #[v0,v1,v2]:=by cases args;simp_all
 obtain ⟨rfl,rfl⟩:=trodVars_none hV
 obtain ⟨a0,rfl,rfl,rfl,w0⟩:=open_int Tryz.underlying3 (hval 0 3 v0 rfl rfl) h0
 have k1:=h1
 have lt1:∀x∈p1,x.block<W.heap.size:=by obtain ⟨m,hm⟩:=k1;exact DataW.trod_lt m _ _ _ hm
 obtain ⟨cs1,rfl,J0,hc1⟩:=Ev.aeP (ts:=[3,3]) Tryz.underlying23 (by kernel_rfl) (by kernel_rfl) (hval 1 23 v1 rfl rfl)
 obtain ⟨akN,akT,rfl⟩:=Ev.aow J0
 obtain ⟨cT,rfl,afk⟩:=Ev.afS Tryz.underlying3 (hc1 0 3 akN rfl rfl)
 obtain ⟨ez,rfl,afl⟩:=Ev.afS Tryz.underlying3 (hc1 1 3 akT rfl rfl)
 obtain ⟨a2,rfl,rfl,rfl,w2⟩:=open_string Tryz.underlying9 (hval 2 9 v2 rfl rfl) h2
 clear U7 r9
 refine (walk a0 w0 cT afk ez afl a2 w2 W  t hr).mono λe W' ⟨he,Yw⟩=>?_
 subst he
 exact ⟨_,rfl,_,_,_,[],_,[],hW',trodAll_mk1 (shut_bool Tryz.underlying4 _),trodAll_cons_mk (shut_int Tryz.underlying3 w0) (trodAll_cons_mk (Below.trod laidOut (by kernel_rfl) (of_decide_eq_true (by kernel_rfl)) k1 Yw lt1) (trodAll_cons_mk (shut_string Tryz.underlying9 w2) (trodAll_mk0))),rfl,Yw.frame _,λh=>by cases h⟩
theorem over:Rows.lineNamesRow.holds Tryz.pinned (OpenSpec.ofChange Rows.lineNamesSpec) :=
 OpenClaim.holds_of_wide 3 Tryz.f3 rfl rfl rfl rfl rfl rfl rfl ⟨rfl,rfl,rfl,rfl,rfl⟩ rfl rfl rfl rfl rfl (by kernel_rfl) Tryz.func3 (by kernel_rfl)
  (of_decide_eq_true (by kernel_rfl)) (by unfold Func.isWrapper;first|(rw[if_pos (by decide +kernel)];kernel_rfl)|(rw[if_neg (by decide +kernel)];exact ⟨rfl,rfl⟩))
  (λos started H enc _=>lifted os started H enc)
theorem proved:Rows.LineNamesCardSaid :=
 Claim7.holds_tied_plain_at .later [] [.data,.listed,.data,.data,.pinned] true (true,"bc3286729510592b51449412ff59556d32ef40e7873c17ccf4409e23baa7cd8d") false over (λ_ h=>by cases h) (by kernel_rfl) (λ_ h=>by cases h) lineNames_row_tie rfl ⟨rfl,rfl⟩ (by kernel_rfl) rfl
  (λf fn hf hfn=>by
   obtain rfl:f=3:=Option.some.inj ((show Tryz.prog.funcNamed "linotype/linotypelaw25.LineNames" = some 3 by kernel_rfl).symm.trans hf) |>.symm
   obtain rfl:fn=Tryz.f3:=(Option.some.inj (Tryz.func3.symm.trans hfn)).symm
   exact ⟨by kernel_rfl,λj t ht=>by
    rw[Tryz.params3] at ht;have hm:t∈([3,23,9]:List TypeId):=by simpa using Array.mem_of_getElem? ht
    have hall:(([3,23,9]:List TypeId).all λu => !Tryz.prog.wantsStandIn u)=true:=by kernel_rfl
    exact (show Tryz.prog.wantsStandIn t=false by simpa using List.all_eq_true.1 hall t hm)⟩)
  (by kernel_rfl)
#print axioms proved
end Go.Proofs.YtpaddkkfefgkfaaGreatDoor.lineNames

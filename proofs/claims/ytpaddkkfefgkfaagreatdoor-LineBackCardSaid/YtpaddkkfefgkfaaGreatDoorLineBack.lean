/-
  'linotypelaw25.LineBack' returns true for every input, and each argument reads behind the call as it read before; no conditions.
-/
import Derived.Test.YtpaddkkfefgkfaaGreatDoorRows
import Derived.Test.YtpaddkkfefgkfaaGreatDoorLyc
import Derived.Test.YtpaddkkfefgkfaaGreatDoorTie
import Derived.Test.YtpaddkkfefgkfaaGreatDoorCards
import Derived.MakeChecks
import Derived.LaidMore
import Derived.Lay
import Derived.SevenTiedAt
import Derived.Stop.Joined
import Derived.Test.YtpaddkkfefgkfaaGreatDoorKm
import Derived.Test.YtpaddkkfefgkfaaGreatDoorGri
import Derived.WalkKit
import Derived.ProofKit
import Derived.OpenShut
import Derived.ShutString
import Derived.ChangeOld
import Derived.Below
set_option linter.unusedVariables false
set_option linter.unusedSimpArgs false
namespace Go.Proofs.YtpaddkkfefgkfaaGreatDoor.lineBack
open Go.ChangeShapes Go.WideShapes Go.ChangeAt Go.RowKit
open Go.ChangeMaps (open_string shut_string)
set_option linter.unusedVariables false
theorem own:ownKnob Tryz.prog.godebug=none:=by kernel_rfl
theorem laidOut:laidOutB Tryz.prog=true:=by kernel_rfl
def zB:List Value:=[.string ⟨#[36,36]⟩,.string ⟨#[60,60]⟩,.string ⟨#[62,62]⟩,.string ⟨#[43]⟩,.string ⟨#[45]⟩,.string ⟨#[42]⟩,.string ⟨#[47]⟩,.string ⟨#[37]⟩,.string ⟨#[38]⟩,.string ⟨#[124]⟩,.string ⟨#[94]⟩,.string ⟨#[126]⟩,.string ⟨#[40]⟩,.string ⟨#[41]⟩,.string ⟨#[91]⟩,.string ⟨#[93]⟩,.string ⟨#[44]⟩,.string ⟨#[58]⟩,.string ⟨#[36]⟩]
def zC:List Value:=[.int .u8 0,.int .u8 0,.int .u8 0,.int .u8 0,.int .u8 0,.int .u8 0,.int .u8 0,.int .u8 0,.int .u8 0,.int .u8 1,.int .u8 1,.int .u8 1,.int .u8 1,.int .u8 1,.int .u8 0,.int .u8 0,.int .u8 0,.int .u8 0,.int .u8 0,.int .u8 0,.int .u8 0,.int .u8 0,.int .u8 0,.int .u8 0,.int .u8 0,.int .u8 0,.int .u8 0,.int .u8 0,.int .u8 0,.int .u8 0,.int .u8 0,.int .u8 0,.int .u8 1,.int .u8 0,.int .u8 0,.int .u8 0,.int .u8 0,.int .u8 0,.int .u8 0,.int .u8 0,.int .u8 0,.int .u8 0,.int .u8 0,.int .u8 0,.int .u8 0,.int .u8 0,.int .u8 0,.int .u8 0,.int .u8 0,.int .u8 0,.int .u8 0,.int .u8 0,.int .u8 0,.int .u8 0,.int .u8 0,.int .u8 0,.int .u8 0,.int .u8 0,.int .u8 0,.int .u8 0,.int .u8 0,.int .u8 0,.int .u8 0,.int .u8 0,.int .u8 0,.int .u8 0,.int .u8 0,.int .u8 0,.int .u8 0,.int .u8 0,.int .u8 0,.int .u8 0,.int .u8 0,.int .u8 0,.int .u8 0,.int .u8 0,.int .u8 0,.int .u8 0,.int .u8 0,.int .u8 0,.int .u8 0,.int .u8 0,.int .u8 0,.int .u8 0,.int .u8 0,.int .u8 0,.int .u8 0,.int .u8 0,.int .u8 0,.int .u8 0,.int .u8 0,.int .u8 0,.int .u8 0,.int .u8 0,.int .u8 0,.int .u8 0,.int .u8 0,.int .u8 0,.int .u8 0,.int .u8 0,.int .u8 0,.int .u8 0,.int .u8 0,.int .u8 0,.int .u8 0,.int .u8 0,.int .u8 0,.int .u8 0,.int .u8 0,.int .u8 0,.int .u8 0,.int .u8 0,.int .u8 0,.int .u8 0,.int .u8 0,.int .u8 0,.int .u8 0,.int .u8 0,.int .u8 0,.int .u8 0,.int .u8 0,.int .u8 0,.int .u8 0,.int .u8 0,.int .u8 0,.int .u8 0,.int .u8 0,.int .u8 0,.int .u8 0,.int .u8 0,.int .u8 0,.int .u8 0,.int .u8 0,.int .u8 0,.int .u8 0,.int .u8 0,.int .u8 0,.int .u8 0,.int .u8 0,.int .u8 0,.int .u8 0,.int .u8 0,.int .u8 0,.int .u8 0,.int .u8 0,.int .u8 0,.int .u8 0,.int .u8 0,.int .u8 0,.int .u8 0,.int .u8 0,.int .u8 0,.int .u8 0,.int .u8 0,.int .u8 0,.int .u8 0,.int .u8 0,.int .u8 0,.int .u8 0,.int .u8 0,.int .u8 0,.int .u8 0,.int .u8 0,.int .u8 0,.int .u8 0,.int .u8 0,.int .u8 0,.int .u8 0,.int .u8 0,.int .u8 0,.int .u8 0,.int .u8 0,.int .u8 0,.int .u8 0,.int .u8 0,.int .u8 0,.int .u8 0,.int .u8 0,.int .u8 0,.int .u8 0,.int .u8 0,.int .u8 0,.int .u8 0,.int .u8 0,.int .u8 0,.int .u8 0,.int .u8 0,.int .u8 0,.int .u8 0,.int .u8 0,.int .u8 0,.int .u8 0,.int .u8 0,.int .u8 0,.int .u8 0,.int .u8 0,.int .u8 0,.int .u8 0,.int .u8 0,.int .u8 0,.int .u8 0,.int .u8 0,.int .u8 0,.int .u8 0,.int .u8 0,.int .u8 0,.int .u8 0,.int .u8 0,.int .u8 0,.int .u8 0,.int .u8 0,.int .u8 0,.int .u8 0,.int .u8 0,.int .u8 0,.int .u8 0,.int .u8 0,.int .u8 0,.int .u8 0,.int .u8 0,.int .u8 0,.int .u8 0,.int .u8 0,.int .u8 0,.int .u8 0,.int .u8 0,.int .u8 0,.int .u8 0,.int .u8 0,.int .u8 0,.int .u8 0,.int .u8 0,.int .u8 0,.int .u8 0,.int .u8 0,.int .u8 0,.int .u8 0,.int .u8 0,.int .u8 0,.int .u8 0,.int .u8 0,.int .u8 0,.int .u8 0,.int .u8 0,.int .u8 0,.int .u8 0,.int .u8 0,.int .u8 0,.int .u8 0,.int .u8 0,.int .u8 0,.int .u8 0,.int .u8 0,.int .u8 0,.int .u8 0,.int .u8 0]
def zD:List Value:=[.int .u64 1,.int .u64 10,.int .u64 100,.int .u64 1000,.int .u64 10000,.int .u64 100000,.int .u64 1000000,.int .u64 10000000,.int .u64 100000000,.int .u64 1000000000,.int .u64 10000000000,.int .u64 100000000000,.int .u64 1000000000000,.int .u64 10000000000000,.int .u64 100000000000000,.int .u64 1000000000000000,.int .u64 10000000000000000,.int .u64 100000000000000000,.int .u64 1000000000000000000,.int .u64 10000000000000000000]
def Su:List Value:=[.int .u8 0,.int .u8 1,.int .u8 28,.int .u8 2,.int .u8 29,.int .u8 14,.int .u8 24,.int .u8 3,.int .u8 30,.int .u8 22,.int .u8 20,.int .u8 15,.int .u8 25,.int .u8 17,.int .u8 4,.int .u8 8,.int .u8 31,.int .u8 27,.int .u8 13,.int .u8 23,.int .u8 21,.int .u8 19,.int .u8 16,.int .u8 7,.int .u8 26,.int .u8 12,.int .u8 18,.int .u8 6,.int .u8 11,.int .u8 5,.int .u8 10,.int .u8 9]
def Sv:List Value:=[.int .u8 0,.int .u8 1,.int .u8 56,.int .u8 2,.int .u8 57,.int .u8 49,.int .u8 28,.int .u8 3,.int .u8 61,.int .u8 58,.int .u8 42,.int .u8 50,.int .u8 38,.int .u8 29,.int .u8 17,.int .u8 4,.int .u8 62,.int .u8 47,.int .u8 59,.int .u8 36,.int .u8 45,.int .u8 43,.int .u8 51,.int .u8 22,.int .u8 53,.int .u8 39,.int .u8 33,.int .u8 30,.int .u8 24,.int .u8 18,.int .u8 12,.int .u8 5,.int .u8 63,.int .u8 55,.int .u8 48,.int .u8 27,.int .u8 60,.int .u8 41,.int .u8 37,.int .u8 16,.int .u8 46,.int .u8 35,.int .u8 44,.int .u8 21,.int .u8 52,.int .u8 32,.int .u8 23,.int .u8 11,.int .u8 54,.int .u8 26,.int .u8 40,.int .u8 15,.int .u8 34,.int .u8 20,.int .u8 31,.int .u8 10,.int .u8 25,.int .u8 14,.int .u8 19,.int .u8 9,.int .u8 13,.int .u8 8,.int .u8 7,.int .u8 6]
def rows (t:Nat->TypeId):List Ev.Blk:=[⟨zB,t 0,true,false⟩,⟨zC,t 1,true,false⟩,Ev.xQ,⟨zD,t 3,true,false⟩,Ev.xQ,Ev.xQ,Ev.xQ,⟨Su,t 7,true,false⟩,⟨Sv,t 8,true,false⟩]
theorem Dd {W:World} (hL:laidMetH Tryz.prog Rows.lineBackRow.laid W):∃t,Ev.dV (rows t) W:=by
 rw[MakeChecks.laidMetH_plain _ _ _ (by kernel_rfl)] at hL
 obtain ⟨t0,h0⟩:=Ev.laid_at hL (k:=6) (cv:=zB) (nm := "linotype/token.signs") (d:=Rows.laid_linotype_token_signs) (g:=0) (t:=164) (n:=19) (e:=9) (by kernel_rfl) (by kernel_rfl) (by kernel_rfl) (by kernel_rfl) (by kernel_rfl) (.inr (by kernel_rfl)) (by kernel_rfl) (by kernel_rfl) (by kernel_rfl)
 obtain ⟨t1,h1⟩:=Ev.laid_at hL (k:=5) (cv:=zC) (nm := "strings.asciiSpace") (d:=Rows.laid_strings_asciiSpace) (g:=1) (t:=189) (n:=256) (e:=5) (by kernel_rfl) (by kernel_rfl) (by kernel_rfl) (by kernel_rfl) (by kernel_rfl) (.inl ⟨.u8,by kernel_rfl⟩) (by kernel_rfl) (by kernel_rfl) (by kernel_rfl)
 obtain ⟨t3,h3⟩:=Ev.laid_at hL (k:=2) (cv:=zD) (nm := "internal/strconv.uint64pow10") (d:=Rows.laid_internal_strconv_uint64pow10) (g:=3) (t:=233) (n:=20) (e:=104) (by kernel_rfl) (by kernel_rfl) (by kernel_rfl) (by kernel_rfl) (by kernel_rfl) (.inl ⟨.u64,by kernel_rfl⟩) (by kernel_rfl) (by kernel_rfl) (by kernel_rfl)
 obtain ⟨t7,h7⟩:=Ev.laid_at hL (k:=0) (cv:=Su) (nm := "math/bits.deBruijn32tab") (d:=Rows.laid_math_bits_deBruijn32tab) (g:=7) (t:=268) (n:=32) (e:=5) (by kernel_rfl) (by kernel_rfl) (by kernel_rfl) (by kernel_rfl) (by kernel_rfl) (.inl ⟨.u8,by kernel_rfl⟩) (by kernel_rfl) (by kernel_rfl) (by kernel_rfl)
 obtain ⟨t8,h8⟩:=Ev.laid_at hL (k:=1) (cv:=Sv) (nm := "math/bits.deBruijn64tab") (d:=Rows.laid_math_bits_deBruijn64tab) (g:=8) (t:=269) (n:=64) (e:=5) (by kernel_rfl) (by kernel_rfl) (by kernel_rfl) (by kernel_rfl) (by kernel_rfl) (.inl ⟨.u8,by kernel_rfl⟩) (by kernel_rfl) (by kernel_rfl) (by kernel_rfl)
 refine ⟨λi=>if i=0 then t0 else if i=1 then t1 else if i=3 then t3 else if i=7 then t7 else t8,Ev.XA h8,λi b hi hl=>?_⟩
 match i,hi with
 |0,hi=>cases hi;exact Ev.yV h0
 |1,hi=>cases hi;exact Ev.yV h1
 |2,hi=>cases hi;cases hl
 |3,hi=>cases hi;exact Ev.yV h3
 |4,hi=>cases hi;cases hl
 |5,hi=>cases hi;cases hl
 |6,hi=>cases hi;cases hl
 |7,hi=>cases hi;exact Ev.yV h7
 |8,hi=>cases hi;exact Ev.yV h8
theorem aix (t:Nat->TypeId):Ev.xM Tryz.prog rg.kR (rows t) 1000 60 12 []=some (.bool true):=by kernel_rfl
theorem aiy (t:Nat->TypeId):Ev.xM Tryz.prog rg.kR (rows t) 1000 60 23 []=some (.bool true):=by kernel_rfl
theorem known (t:Nat->TypeId):Ev.dP Tryz.prog (rows t) rg.kR:=rg.ac0 (GR:=rows t) rfl rfl (by kernel_rfl)
theorem aba (t:Nat->TypeId):∀q∈[((12:FuncId),([]:List Value)),(23,[])],∀w,Ev.dV (rows t) w->Calls Tryz.prog q.1 q.2.toArray w λe w'=>e = .returned (.bool true)/\Below w.heap.size w w':=by
 intro q hq w hw
 simp only[List.mem_cons,List.not_mem_nil,or_false] at hq
 rcases hq with rfl|rfl
 .
  exact Ev.wM rg.cP rg.mixed (known t) (aix t) w hw
 exact Ev.wM rg.cP rg.mixed (known t) (aiy t) w hw
theorem afj (t:Nat->TypeId):Ev.dP Tryz.prog (rows t) lt.kn:=rg.ac1 (known t) (aba t)
theorem glb {w:World} (t:Nat->TypeId) (hr:Ev.dV (rows t) w):Tv.bN ex.X0 (Tv.iL w) :=
 ps.dz (rows:=rows t) ⟨_,rfl,rfl,by kernel_rfl⟩ ⟨_,rfl,rfl,by kernel_rfl⟩ ⟨_,rfl,rfl,by kernel_rfl⟩ ⟨_,rfl,rfl,by kernel_rfl⟩ ⟨_,rfl,rfl,by kernel_rfl⟩ hr
theorem gsz {w:World} (t:Nat->TypeId) (hr:Ev.dV (rows t) w):ex.X0.G<=w.heap.size:=Nat.le_trans (Nat.le_of_ble_eq_true (by kernel_rfl)) hr.1
theorem walk (v0:Value) (z0:Tv.Ty.den ps.wr.AB) (cs0:List Value) (a1:ByteArray) (w1:a1.size<=maxLen) (w:World) (y0:Tv.VR (Tv.iL w) (.agg (Tv.flat ps.wr.AB z0)) (.agg (cs0.map Tv.sv).toArray)) (s0:Ev.VRel (Tv.FQ w.heap.size) (.agg (cs0.map Tv.sv).toArray) v0) (w0:Tv.uO ps.wr.AB z0) (t:Nat->TypeId) (hr:Ev.dV (rows t) w) :
 Calls Tryz.prog 10 #[v0,.string a1] w λe w'=>e = .returned (.bool true)/\Below w.heap.size w w' :=
 Tv.VI (X:=ex.X0) rg.cP rg.mixed (afj t) (v:=.bool true) (λS x hx=>hx.gi) rfl
  (λS E ax hr hg hl=>Tv.x5 (λargs=>lt.aL rfl args) (ex.cV ps.wr.afd ps.wr.aa8) (ps.wr.afi w0 a1.data.toList) S E ax hr hg hl) hr (gsz t hr) (glb t hr) (ax:=[.agg (cs0.map Tv.sv).toArray,.string a1]) (args':=[v0,.string a1])
  (Tv.LV.cons y0 (Tv.LV.cons (nm.zy w a1) Tv.LV.nil)) (Ev.LR.cons s0 (Ev.LR.cons (.string a1) Ev.LR.nil))
set_option maxRecDepth 100000 in
theorem lifted (os:Os) (started:os.Started) (H:Type) (enc:TypeId×Value->H) :
 ReturnsInHanded {} Tryz.checked os 10 .any (λw args=>(Rows.lineBackSpec.pre enc Tryz.prog Tryz.f10 Rows.lineBackRow.domain false w args/\laidMetH Tryz.prog Rows.lineBackRow.laid w)/\sizedMet enc Tryz.prog Tryz.f10 (OpenSpec.ofChange Rows.lineBackSpec) false w args) (Rows.lineBackSpec.post enc Tryz.prog Tryz.f10 false true false false):=by
 refine returnsInHanded_of_change_and (C:=Tryz.checked) (X:=λw _=>laidMetH Tryz.prog Rows.lineBackRow.laid w) (λ_ _ _ hh h=>h.of_heap hh) own started (by kernel_rfl) Tryz.func10
  (ChangeSpec.witness_shaped (enc:=enc) (C:=Tryz.checked) (os:=os) (X:=λw _=>laidMetH Tryz.prog Rows.lineBackRow.laid w) false (World.laidAll Tryz.prog os Rows.lineBackRow.laid) #[.agg #[.string ⟨#[]⟩,.int .i64 0,.int .i64 0,.int .i64 0,.int .i64 0,.slice none 0 0,.slice none 0 0,.slice none 0 0,.slice none 0 0],.string ⟨#[]⟩] 8 (World.laidAll_os _ _ _)
   (World.shaped_of_ZipB (by kernel_rfl) (by kernel_rfl)) (by kernel_rfl) (by kernel_rfl) (by kernel_rfl)
   (by rw[MakeChecks.laidMetH_plain _ _ _ (by kernel_rfl)];exact laidMet_laidAll _ (by kernel_rfl) (by kernel_rfl))) ?_
 intro W base args ds gs before WZ hW hcnd _ hL _
 obtain ⟨t,hr⟩:=Dd hL
 have hval:∀(j:Nat) t v,Tryz.f10.params[j]? = some t->args[j]? = some v->Value.okWide Tryz.prog W .any base t v:=WZ
 have hW':=hW
 obtain ⟨p,q,hA0,hV,rfl,hfz,hnd⟩:=hW
 have hA:DataW.TrodAll enc Tryz.prog W 0 (λ_=>true) true Tryz.f10.params.toList args.toList ds p:=hA0
 rw[Tryz.params10] at hA hval
 obtain ⟨v0,vs0,d0,ds0,p0,q0,hargs,rfl,rfl,h0,r0⟩:=trodAll_cons hA
 obtain ⟨v1,vs1,d1,ds1,p1,q1,rfl,rfl,rfl,h1,r1⟩:=trodAll_cons r0
 obtain ⟨rfl,rfl,rfl⟩:=trodAll_nil r1
 obtain rfl:args = #[v0,v1]:=by cases args;simp_all
 obtain ⟨rfl,rfl⟩:=trodVars_none hV
 have k0:=h0
 have A9:∀x∈p0,x.block<W.heap.size:=by obtain ⟨m,hm⟩:=k0;exact DataW.trod_lt m _ _ _ hm
 obtain ⟨z0,cs0,_,y0,s0,w0⟩:=Tv.Ss (e:=.pair (.str) (.pair (.int .i64) (.pair (.int .i64) (.pair (.pair (.int .i64) (.pair (.int .i64) (.sl (.pair (.int .i64) (.pair (.pair (.int .i64) (.int .i64)) (.pair (.pair (.pair (.int .i64) (.int .i64)) (.pair (.pair (.int .i64) (.int .i64)) (.pair (.int .i64) (.pair (.int .i64) (.int .i64))))) (.pair (.sl (.pair (.int .i64) (.pair (.int .i64) (.pair (.str) (.pair (.int .i64) (.int .i64)))))) (.bool)))))))) (.pair (.sl (.pair (.str) (.sl (.pair (.int .i64) (.pair (.int .i64) (.pair (.str) (.pair (.int .i64) (.int .i64)))))))) (.pair (.sl (.pair (.int .i64) (.pair (.int .i64) (.pair (.str) (.pair (.int .i64) (.int .i64)))))) (.sl (.pair (.int .i64) (.pair (.int .i64) (.pair (.str) (.pair (.int .i64) (.int .i64)))))))))))) (d:=12) Tryz.underlying38 (by kernel_rfl) (hval 0 38 v0 rfl rfl) h0
 obtain ⟨a1,rfl,rfl,rfl,w1⟩:=open_string Tryz.underlying9 (hval 1 9 v1 rfl rfl) h1
 clear hA0 WZ
 refine (walk v0 z0 cs0 a1 w1 W y0 s0 w0 t hr).mono λe W' ⟨he,bel⟩=>?_
 subst he
 exact ⟨_,rfl,_,_,_,[],_,[],hW',trodAll_mk1 (shut_bool Tryz.underlying4 _),trodAll_cons_mk (Below.trod laidOut (by kernel_rfl) (of_decide_eq_true (by kernel_rfl)) k0 bel A9) (trodAll_cons_mk (shut_string Tryz.underlying9 w1) (trodAll_mk0)),rfl,bel.frame _,λh=>by cases h⟩
theorem over:Rows.lineBackRow.holds Tryz.pinned (OpenSpec.ofChange Rows.lineBackSpec) :=
 OpenClaim.holds_of_wide 10 Tryz.f10 rfl rfl rfl rfl rfl rfl rfl ⟨rfl,rfl,rfl,rfl,rfl⟩ rfl rfl rfl rfl rfl (by kernel_rfl) Tryz.func10 (by kernel_rfl)
  (of_decide_eq_true (by kernel_rfl)) (by unfold Func.isWrapper;first|(rw[if_pos (by decide +kernel)];kernel_rfl)|(rw[if_neg (by decide +kernel)];exact ⟨rfl,rfl⟩))
  (λos started H enc _=>lifted os started H enc)
theorem proved:Rows.LineBackCardSaid :=
 Claim7.holds_tied_plain_at .later [] [.data,.data,.data,.data,.listed,.data,.data,.pinned] true (true,"bc3286729510592b51449412ff59556d32ef40e7873c17ccf4409e23baa7cd8d") false over (λ_ h=>by cases h) (by kernel_rfl) (λ_ h=>by cases h) lineBack_row_tie rfl ⟨rfl,rfl⟩ (by kernel_rfl) rfl
  (λf fn hf hfn=>by
   obtain rfl:f=10:=Option.some.inj ((show Tryz.prog.funcNamed "linotype/linotypelaw25.LineBack" = some 10 by kernel_rfl).symm.trans hf) |>.symm
   obtain rfl:fn=Tryz.f10:=(Option.some.inj (Tryz.func10.symm.trans hfn)).symm
   exact ⟨by kernel_rfl,λj t ht=>by
    rw[Tryz.params10] at ht;have hm:t∈([38,9]:List TypeId):=by simpa using Array.mem_of_getElem? ht
    have hall:(([38,9]:List TypeId).all λu => !Tryz.prog.wantsStandIn u)=true:=by kernel_rfl
    exact (show Tryz.prog.wantsStandIn t=false by simpa using List.all_eq_true.1 hall t hm)⟩)
  (by kernel_rfl)
#print axioms proved
end Go.Proofs.YtpaddkkfefgkfaaGreatDoor.lineBack

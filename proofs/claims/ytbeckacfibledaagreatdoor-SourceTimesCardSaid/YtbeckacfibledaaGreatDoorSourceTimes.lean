/-
  'linotypelaw26.SourceTimes' returns true for every input, and each argument reads behind the call as it read before; no conditions.
-/
import Derived.Test.YtbeckacfibledaaGreatDoorRows
import Derived.Test.YtbeckacfibledaaGreatDoorLyc
import Derived.Test.YtbeckacfibledaaGreatDoorTie
import Derived.Test.YtbeckacfibledaaGreatDoorCards
import Derived.MakeChecks
import Derived.LaidMore
import Derived.Lay
import Derived.SevenTiedAt
import Derived.Stop.Joined
import Derived.Test.YtbeckacfibledaaGreatDoorGye
import Derived.Test.YtbeckacfibledaaGreatDoorGya
import Derived.WalkKit
import Derived.ProofKit
import Derived.OpenShut
import Derived.ShutString
import Derived.ChangeOld
import Derived.Below
set_option linter.unusedVariables false
set_option linter.unusedSimpArgs false
namespace Go.Proofs.YtbeckacfibledaaGreatDoor.sourceTimes
open Go.ChangeShapes Go.WideShapes Go.ChangeAt Go.RowKit
open Go.ChangeMaps (open_string shut_string)
set_option linter.unusedVariables false
theorem own:ownKnob Tryz.prog.godebug=none:=by kernel_rfl
noncomputable def C5:aW:=lt.C5
def abR:aW:=[.int .u64 1,.int .u64 10,.int .u64 100,.int .u64 1000,.int .u64 10000,.int .u64 100000,.int .u64 1000000,.int .u64 10000000,.int .u64 100000000,.int .u64 1000000000,.int .u64 10000000000,.int .u64 100000000000,.int .u64 1000000000000,.int .u64 10000000000000,.int .u64 100000000000000,.int .u64 1000000000000000,.int .u64 10000000000000000,.int .u64 100000000000000000,.int .u64 1000000000000000000,.int .u64 10000000000000000000]
def abS:aW:=[.int .u8 0,.int .u8 1,.int .u8 28,.int .u8 2,.int .u8 29,.int .u8 14,.int .u8 24,.int .u8 3,.int .u8 30,.int .u8 22,.int .u8 20,.int .u8 15,.int .u8 25,.int .u8 17,.int .u8 4,.int .u8 8,.int .u8 31,.int .u8 27,.int .u8 13,.int .u8 23,.int .u8 21,.int .u8 19,.int .u8 16,.int .u8 7,.int .u8 26,.int .u8 12,.int .u8 18,.int .u8 6,.int .u8 11,.int .u8 5,.int .u8 10,.int .u8 9]
def abT:aW:=[.int .u8 0,.int .u8 1,.int .u8 56,.int .u8 2,.int .u8 57,.int .u8 49,.int .u8 28,.int .u8 3,.int .u8 61,.int .u8 58,.int .u8 42,.int .u8 50,.int .u8 38,.int .u8 29,.int .u8 17,.int .u8 4,.int .u8 62,.int .u8 47,.int .u8 59,.int .u8 36,.int .u8 45,.int .u8 43,.int .u8 51,.int .u8 22,.int .u8 53,.int .u8 39,.int .u8 33,.int .u8 30,.int .u8 24,.int .u8 18,.int .u8 12,.int .u8 5,.int .u8 63,.int .u8 55,.int .u8 48,.int .u8 27,.int .u8 60,.int .u8 41,.int .u8 37,.int .u8 16,.int .u8 46,.int .u8 35,.int .u8 44,.int .u8 21,.int .u8 52,.int .u8 32,.int .u8 23,.int .u8 11,.int .u8 54,.int .u8 26,.int .u8 40,.int .u8 15,.int .u8 34,.int .u8 20,.int .u8 31,.int .u8 10,.int .u8 25,.int .u8 14,.int .u8 19,.int .u8 9,.int .u8 13,.int .u8 8,.int .u8 7,.int .u8 6]
noncomputable def abU:aW:=rg.space
noncomputable def rows (t:Nat->TypeId):List Ev.kV:=[⟨C5,t 0,true,false⟩,⟨abR,t 1,true,false⟩,Ev.Ep,Ev.Ep,Ev.Ep,Ev.Ep,⟨abS,t 6,true,false⟩,⟨abT,t 7,true,false⟩,⟨abU,t 8,true,false⟩]
theorem Ki {W:World}(a:laidMetH Tryz.prog Rows.sourceTimesRow.laid W):∃t,Ev.mG (rows t) W:=by
 rw[MakeChecks.laidMetH_plain _ _ _ (by kernel_rfl)]at a;obtain⟨t0,h⟩:=Ev.laid_at a (k:=6) (cv:=C5) (nm := "linotype/token.signs") (d:=Rows.laid_linotype_token_signs) (g:=0) (t:=123) (n:=19) (e:=9) (by kernel_rfl) (by kernel_rfl) (by kernel_rfl) (by kernel_rfl) (by kernel_rfl) (.inr (by kernel_rfl)) (by kernel_rfl) (by kernel_rfl) (by kernel_rfl);obtain⟨j,l⟩:=Ev.laid_at a (k:=2) (cv:=abR) (nm := "internal/strconv.uint64pow10") (d:=Rows.laid_internal_strconv_uint64pow10) (g:=1) (t:=188) (n:=20) (e:=120) (by kernel_rfl) (by kernel_rfl) (by kernel_rfl) (by kernel_rfl) (by kernel_rfl) (.inl ⟨.u64,by kernel_rfl⟩) (by kernel_rfl) (by kernel_rfl) (by kernel_rfl)
 obtain⟨m,o⟩:=Ev.laid_at a (k:=0) (cv:=abS) (nm := "math/bits.deBruijn32tab") (d:=Rows.laid_math_bits_deBruijn32tab) (g:=6) (t:=219) (n:=32) (e:=5) (by kernel_rfl) (by kernel_rfl) (by kernel_rfl) (by kernel_rfl) (by kernel_rfl) (.inl ⟨.u8,by kernel_rfl⟩) (by kernel_rfl) (by kernel_rfl) (by kernel_rfl);obtain⟨p,q⟩:=Ev.laid_at a (k:=1) (cv:=abT) (nm := "math/bits.deBruijn64tab") (d:=Rows.laid_math_bits_deBruijn64tab) (g:=7) (t:=220) (n:=64) (e:=5) (by kernel_rfl) (by kernel_rfl) (by kernel_rfl) (by kernel_rfl) (by kernel_rfl) (.inl ⟨.u8,by kernel_rfl⟩) (by kernel_rfl) (by kernel_rfl) (by kernel_rfl)
 obtain⟨r,f⟩:=Ev.laid_at a (k:=5) (cv:=abU) (nm := "strings.asciiSpace") (d:=Rows.laid_strings_asciiSpace) (g:=8) (t:=213) (n:=256) (e:=5) (by kernel_rfl) (by kernel_rfl) (by kernel_rfl) (by kernel_rfl) (by kernel_rfl) (.inl ⟨.u8,by kernel_rfl⟩) (by kernel_rfl) (by kernel_rfl) (by kernel_rfl);refine⟨λi=>if i=0 then t0 else if i=1 then j else if i=6 then m else if i=7 then p else r,Ev.ahO f,λi b hi c=>?_⟩
 match i,hi with
 |0,hi=>cases hi;exact Ev.FA h
 |1,hi=>cases hi;exact Ev.FA l
 |2,hi=>cases hi;cases c
 |3,hi=>cases hi;cases c
 |4,hi=>cases hi;cases c
 |5,hi=>cases hi;cases c
 |6,hi=>cases hi;exact Ev.FA o
 |7,hi=>cases hi;exact Ev.FA q
 |8,hi=>cases hi;exact Ev.FA f
theorem aw (t:Nat->TypeId):Ev.J3 Tryz.prog rg.kS (rows t) 1000 60 6 []=some (.bool true):=by kernel_rfl
theorem known (t:Nat->TypeId):Ev.lR Tryz.prog (rows t) rg.kS:=rg.aoc (GR:=rows t) rfl rfl (by kernel_rfl)
theorem al9 (t:Nat->TypeId):∀q∈[((6:FuncId),([]:aW))],∀w,Ev.mG (rows t) w->Calls Tryz.prog q.1 q.2.toArray w λe w'=>e = .returned (.bool true)/\Below w.heap.size w w':=by
 intro q a w b;simp only[bD,kq,qw]at a;subst a;exact Ev.M9 rg.j6 rg.mixed (known t) (aw t) w b
theorem aqD (t:Nat->TypeId):Ev.lR Tryz.prog (rows t) lt.kn:=rg.an9 (known t) (al9 t)
theorem glb {w:World}(t:Nat->TypeId)(a:Ev.mG (rows t) w):Tv.gi ex.X0 (Tv.wO w) :=
 ps.sr.kE (rows:=rows t) ⟨_,rfl,rfl,rfl⟩ a
theorem gsz {w:World}(t:Nat->TypeId)(a:Ev.mG (rows t) w):ex.X0.G<=w.heap.size:=bA (aB (by kernel_rfl)) a.1
theorem walk (a0:ByteArray)(w0:a0.size<=maxLen)(a1:Int)(g:(Lit.int .i64 a1).wf=true)(w:World)(t:Nat->TypeId)(a:Ev.mG (rows t) w) :
 Calls Tryz.prog 5 #[.string a0,.int .i64 a1] w λe w'=>e = .returned (.bool true)/\Below w.heap.size w w' :=
 Tv.SV (X:=ex.X0) rg.j6 rg.mixed (aqD t) (v:=.bool true) (λS x b=>b.nO) rfl
  (λS E c a d f=>Tv.BN (λargs=>lt.cn rfl args) (ps.sr.rF ps.sr.aqA ps.sr.Ui ps.sr.abo) (ps.sr.aqC ps.sr.abQ a0.data.toList a1 (r:=30001) (by decide)) S E c a d f) a (gsz t a) (glb t a) (args':=[.string a0,.int .i64 a1])
  (Tv.LV.cons (nm.AF w a0) (Tv.LV.cons (.int .i64 a1) Tv.LV.nil)) rfl
set_option maxRecDepth 100000 in
theorem lifted (os:Os)(started:os.Started)(H:Type)(enc:TypeId×Value->H) :
 ReturnsInHanded {} Tryz.checked os 5 .any (λw args=>(Rows.sourceTimesSpec.pre enc Tryz.prog Tryz.f5 Rows.sourceTimesRow.domain false w args/\laidMetH Tryz.prog Rows.sourceTimesRow.laid w)/\sizedMet enc Tryz.prog Tryz.f5 (OpenSpec.ofChange Rows.sourceTimesSpec) false w args) (Rows.sourceTimesSpec.post enc Tryz.prog Tryz.f5 false true false false):=by
 refine returnsInHanded_of_change_and (C:=Tryz.checked) (X:=λw _=>laidMetH Tryz.prog Rows.sourceTimesRow.laid w) (λ_ _ _ m h=>h.of_heap m) own started (by kernel_rfl) Tryz.func5
  (ChangeSpec.witness_shaped (enc:=enc) (C:=Tryz.checked) (os:=os) (X:=λw _=>laidMetH Tryz.prog Rows.sourceTimesRow.laid w) false (World.laidAll Tryz.prog os Rows.sourceTimesRow.laid) #[.string ⟨#[]⟩,.int .i64 0] 8 (World.laidAll_os _ _ _)
   (World.shaped_of_ZipB (by kernel_rfl) (by kernel_rfl)) (by kernel_rfl) (by kernel_rfl) (by kernel_rfl)
   (by rw[MakeChecks.laidMetH_plain _ _ _ (by kernel_rfl)];exact laidMet_laidAll _ (by kernel_rfl) (by kernel_rfl))) ?_
 intro W base args ds G before b i k _ n _;obtain⟨t,o⟩:=Ki n;have a:∀(j:Nat) t v,Tryz.f5.params[j]? = some t->args[j]? = some v->Value.okWide Tryz.prog W .any base t v:=b;have d:=i;obtain⟨p,q,c,r,rfl,s,u⟩:=i;have hA:DataW.TrodAll enc Tryz.prog W 0 (λ_=>true) true Tryz.f5.params.toList args.toList ds p:=c;rw[Tryz.params5]at hA a;obtain⟨v0,x,d0,y,I,J,f,rfl,rfl,z,A⟩:=trodAll_cons hA;obtain⟨v1,B,d1,D,K,q1,rfl,rfl,rfl,E,r1⟩:=trodAll_cons A;obtain⟨rfl,rfl,rfl⟩:=trodAll_nil r1
 obtain rfl:args = #[v0,v1]:=by cases args;simp_all
 obtain⟨rfl,rfl⟩:=trodVars_none r;obtain⟨a0,rfl,rfl,rfl,w0⟩:=open_string Tryz.underlying9 (a 0 9 v0 rfl rfl) z;obtain⟨a1,rfl,rfl,rfl,l⟩:=open_int Tryz.underlying3 (a 1 3 v1 rfl rfl) E;clear c b;refine(walk a0 w0 a1 l W  t o).mono λe L ⟨F,g⟩=>?_
 subst F;exact⟨_,rfl,_,_,_,[],_,[],d,trodAll_mk1 (shut_bool Tryz.underlying4 _),trodAll_cons_mk (shut_string Tryz.underlying9 w0) (trodAll_cons_mk (shut_int Tryz.underlying3 l) (trodAll_mk0)),rfl,g.frame _,λh=>by cases h⟩
theorem over:Rows.sourceTimesRow.holds Tryz.pinned (OpenSpec.ofChange Rows.sourceTimesSpec) :=
 OpenClaim.holds_of_wide 5 Tryz.f5 rfl rfl rfl rfl rfl rfl rfl ⟨rfl,rfl,rfl,rfl,rfl⟩ rfl rfl rfl rfl rfl (by kernel_rfl) Tryz.func5 (by kernel_rfl)
  (gz (by kernel_rfl)) (by unfold Func.isWrapper;first|(rw[ag (by decide +kernel)];kernel_rfl)|(rw[aa (by decide +kernel)];exact⟨rfl,rfl⟩))
  (λos started H enc _=>lifted os started H enc)
theorem proved:Rows.SourceTimesCardSaid :=
 Claim7.holds_tied_plain_at .later [] [.data,.data,.data,.data,.listed,.data,.data,.pinned] true (true,"290dd75986fdb8e92120d2768e88b8b3f6e4e544b37d3a7f27153cc306a23737") false over (λ_ h=>by cases h) (by kernel_rfl) (λ_ h=>by cases h) sourceTimes_row_tie rfl ⟨rfl,rfl⟩ (by kernel_rfl) rfl
  (λf fn d b=>by
   obtain rfl:f=5:=bT ((show Tryz.prog.funcNamed "linotype/linotypelaw26.SourceTimes" = some 5 by kernel_rfl).symm.trans d) |>.symm;obtain rfl:fn=Tryz.f5:=(bT (Tryz.func5.symm.trans b)).symm;exact⟨by kernel_rfl,λj t c=>by
    rw[Tryz.params5]at c;have e:t∈([9,3]:List TypeId):=by simpa using bq c
    have a:(([9,3]:List TypeId).all λu => !Tryz.prog.wantsStandIn u)=true:=by kernel_rfl
    exact(show Tryz.prog.wantsStandIn t=false by simpa using aN.1 a t e)⟩)
  (by kernel_rfl)
#print axioms proved
end Go.Proofs.YtbeckacfibledaaGreatDoor.sourceTimes

/- ExprSums: the law's function from the place where its operators are known. -/
import Derived.Test.YtpajehginfbamaaDoorTd
import Derived.Test.YtpajehginfbamaaDoorRows
namespace Go.Proofs.YtpajehginfbamaaDoor.es
open Go.Tv Go.Ev
noncomputable section
def cells0 : List Value := [.string ⟨#[36, 36]⟩, .string ⟨#[60, 60]⟩, .string ⟨#[62, 62]⟩, .string ⟨#[43]⟩, .string ⟨#[45]⟩, .string ⟨#[42]⟩, .string ⟨#[47]⟩, .string ⟨#[37]⟩, .string ⟨#[38]⟩, .string ⟨#[124]⟩, .string ⟨#[94]⟩, .string ⟨#[126]⟩, .string ⟨#[40]⟩, .string ⟨#[41]⟩, .string ⟨#[91]⟩, .string ⟨#[93]⟩, .string ⟨#[44]⟩, .string ⟨#[58]⟩, .string ⟨#[36]⟩]
def gv (g : Nat) : List AV := pick2 (Nat.beq g 0) (cells0.map ofC) []
def trS (f : FuncId) : List Tmp := pick2 (Nat.beq f 57) [71, 47] []
def X0 : Cfg := { P := Tryd.prog, G := 1, gv := gv, trs := trS }
def an0 : FnAnn := ⟨.none, .none, []⟩
def inl : FuncId → Bool := fun _ => true
def K0 : KT2 := fun _ => none
def c0 (β : Type) : CallT β := callT X0 K0 inl 200 β 40
theorem c0_ok (β : Type) : CallTOk X0 (cfOf X0 noKnown) (c0 β) := callT_ok (by intro id s g h; cases h) (fun _ _ _ => rfl) 200 40 β
theorem nk (f : FuncId) (args : List Value) : noKnown f args = none := rfl
def pS : List Bool := [true, true, true]
def anS : FnAnn := ⟨annOf [0, 1, 2, 3, 4, 11] pS, .none, []⟩
theorem run51 : enterT X0 (c0 AV) an0 100 51 [] TMem.empty (fun v _ => some v) = some (.bool true) := by kernel_rfl
theorem con51 : ConOk X0 (cfOf X0 noKnown) 51 gYes :=
  con_vals (nk 51) c0_ok fun args rs hg => by
    unfold gYes at hg
    split at hg
    · simp only [Option.some.injEq, Prod.mk.injEq] at hg
      obtain ⟨_, rfl⟩ := hg
      exact ⟨[.bool true], an0, 100, run51, rfl, rfl⟩
    · cases hg
def pkI (n q : Int) : Int := pick2 (ltI (Int.tmod n q) 0) (IntKind.wrap .i64 (Int.tmod n q + q)) (Int.tmod n q)
theorem tree23 (n q : Int) : enterT X0 (c0 AV) an0 5 23 [.int .i64 n, .int .i64 q] TMem.empty (fun v _ => some v) =
    pick2 (ltI q 1) (some (.int .i64 0)) (pick2 (eqI q 0) none (pick2 (ltI (Int.tmod n q) 0) (some (.int .i64 (IntKind.wrap .i64 (Int.tmod n q + q)))) (some (.int .i64 (Int.tmod n q))))) := by kernel_rfl
def gPick (args : List AV) : Option (Bool × List PRes) :=
  match args with
  | [.int .i64 n, .int .i64 q] => some (!ltI q 1, [.val (.int .i64 (pkI n q))])
  | _ => none
theorem con23 : ConOk X0 (cfOf X0 noKnown) 23 gPick :=
  con_vals (nk 23) c0_ok fun args rs hg => by
    unfold gPick at hg
    split at hg
    · rename_i n q
      simp only [Option.some.injEq, Prod.mk.injEq] at hg
      obtain ⟨h1, rfl⟩ := hg
      have hq : 1 ≤ q := by rw [ltI_spec] at h1; simpa using h1
      refine ⟨[.int .i64 (pkI n q)], an0, 5, ?_, rfl, rfl⟩
      rw [tree23, ltF (by omega), eqF (by omega)]
      unfold pkI
      cases ltI (Int.tmod n q) 0 <;> rfl
    · cases hg
theorem pkI_range (n q : Int) (hq : 1 ≤ q) (h2 : q ≤ 1000) : 0 ≤ pkI n q ∧ pkI n q < q := by
  unfold pkI
  rw [pick_lt]
  have h3 := Int.tmod_lt_of_pos n (show 0 < q by omega)
  have h4 : -q < Int.tmod n q := by
    rcases Int.le_total 0 n with h | h
    · have := Int.tmod_nonneg q h; omega
    · have e : Int.tmod n q = - Int.tmod (-n) q := by rw [Int.neg_tmod]; omega
      have := Int.tmod_lt_of_pos (-n) (show 0 < q by omega)
      omega
  split
  · rw [i64_in (by omega) (by omega)]; omega
  · omega
def ME : List Con := [(51, [], gYes), (23, [none, none], gPick)]
theorem ME_ok : TabOk X0 (cfOf X0 noKnown) ME := .cons con51 (.cons con23 .nil)
def mE (β : Type) : CallT β := callT X0 (tab ME) inl 200 β 40
theorem mE_ok (β : Type) : CallTOk X0 (cfOf X0 noKnown) (mE β) := callT_ok ME_ok (fun _ _ _ => rfl) 200 40 β
def stS (a b c m h : Int) : Option AV := codeFrom X0 (mE AV) anS 100 11 pS (fun v _ => some v) (frOf 110 [(0, .int .i64 a), (1, .int .i64 b), (2, .int .i64 c), (3, .int .i64 m), (4, .int .i64 h), (11, .bool true)]) TMem.empty
theorem preS (a b c i k : Int) (K : TFr → TMem → Option AV) : preT X0 (mE AV) anS 100 11 pS [.int .i64 a, .int .i64 b, .int .i64 c, .int .i64 i, .int .i64 k] TMem.empty (fun v _ => some v) K =
    K (frOf 110 [(0, .int .i64 a), (1, .int .i64 b), (2, .int .i64 c), (3, .int .i64 (pkI i 6)), (4, .int .i64 (pkI k 6)), (11, .bool true)]) TMem.empty := by kernel_rfl
theorem enterS (a b c i k : Int) : enterT X0 (mE AV) anS 100 11 [.int .i64 a, .int .i64 b, .int .i64 c, .int .i64 i, .int .i64 k] TMem.empty (fun v _ => some v) = stS a b c (pkI i 6) (pkI k 6) :=
  (enter_from (by kernel_rfl) _ _ _).trans (preS a b c i k _)
end
end Go.Proofs.YtpajehginfbamaaDoor.es

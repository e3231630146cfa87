/- Contracts of Lay, Bits and Rex. -/
import Derived.Test.YtpabmjpkkhmidaaRxD
import Derived.Test.YtpabmjpkkhmidaaTvB
namespace Go.Proofs.Ytpabmjpkkhmidaa.rexBack
open Go.Tv Go.Ev
noncomputable section

def layE (p n : Int) : Int := pick2 (ltI p 0 || ltI 5 p) 2 (pick2 (ltI n (-1) || ltI 15 n) 5 0)
def layB (p n : Int) : List Int :=
  pick2 (eqI p 1 || (eqI p 3 || eqI p 5)) [102] [] ++ (pick2 (eqI p 2 || eqI p 3) [242] [] ++ (pick2 (eqI p 4 || eqI p 5) [243] [] ++ pick2 (ltI n 0) [] [n + 64]))
/-- What Lay answers. -/
def layL (p n : Int) : List Int := pick2 (eqI (layE p n) 0) (layB p n) []
/-- A bit of a REX. -/
def bt (n : Int) (k : Nat) : Int := pick2 (ltI n 0 || ltI 15 n) 0 (Int.ofNat (Nat.mod (Nat.div n.toNat k) 2))
def isBit (n : Int) : Bool := eqI n 0 || eqI n 1

def resLay (p n : Int) : List PRes := [.list 5 (.int .u8) (layL p n), .val (.int .i64 (layE p n))]
def resBits (n : Int) : List PRes := [.val (.int .i64 (bt n 8)), .val (.int .i64 (bt n 4)), .val (.int .i64 (bt n 2)), .val (.int .i64 (bt n 1))]
def resRex (w r x b : Int) : List PRes := [.val (.int .i64 (8 * w + (4 * r + (2 * x + b))))]

def run (f : FuncId) (args : List AV) : Option (AV × TMem) := enterT X0 (c0 (AV × TMem)) an0 40 f args TMem.empty (fun v H => some (v, H))
def okLay (p n : Int) : Bool := leaves (resLay p n) (run 20 [.int .i64 p, .int .i64 n])
def okBits (n : Int) : Bool := leaves (resBits n) (run 24 [.int .i64 n])
def okRex (w r x b : Int) : Bool := leaves (resRex w r x b) (run 26 [.int .i64 w, .int .i64 r, .int .i64 x, .int .i64 b])

theorem lay_neg (m : Nat) (n : Int) : okLay (Int.negSucc m) n = true := by kernel_rfl
theorem lay_big (m : Nat) (n : Int) : okLay (Int.ofNat (m + 8)) n = true := by kernel_rfl
theorem lay_6 (n : Int) : okLay 6 n = true := by kernel_rfl
theorem lay_7 (n : Int) : okLay 7 n = true := by kernel_rfl
theorem lay_n (m : Nat) : allN (fun p => okLay (Int.ofNat p) (Int.negSucc (m + 1))) 0 6 = true := by kernel_rfl
theorem lay_m (m : Nat) : allN (fun p => okLay (Int.ofNat p) (Int.ofNat (m + 16))) 0 6 = true := by kernel_rfl
theorem lay_1 : allN (fun p => okLay (Int.ofNat p) (-1)) 0 6 = true := by kernel_rfl
theorem lay_a : allN (fun p => allN (fun n => okLay (Int.ofNat p) (Int.ofNat n)) 0 16) 0 2 = true := by kernel_rfl
theorem lay_b : allN (fun p => allN (fun n => okLay (Int.ofNat p) (Int.ofNat n)) 0 16) 2 2 = true := by kernel_rfl
theorem lay_c : allN (fun p => allN (fun n => okLay (Int.ofNat p) (Int.ofNat n)) 0 16) 4 2 = true := by kernel_rfl

theorem lay_all (p n : Int) : okLay p n = true := by
  cases p with
  | negSucc m => exact lay_neg m n
  | ofNat p =>
    by_cases h8 : 8 ≤ p
    · obtain ⟨m, rfl⟩ : ∃ m, p = m + 8 := ⟨p - 8, by omega⟩
      exact lay_big m n
    · by_cases h6 : p < 6
      · cases n with
        | negSucc m =>
          cases m with
          | zero => exact allN_spec lay_1 p (by omega) (by omega)
          | succ m => exact allN_spec (lay_n m) p (by omega) (by omega)
        | ofNat n =>
          by_cases h16 : 16 ≤ n
          · obtain ⟨m, rfl⟩ : ∃ m, n = m + 16 := ⟨n - 16, by omega⟩
            exact allN_spec (lay_m m) p (by omega) (by omega)
          · by_cases h2 : p < 2
            · exact allN_spec (allN_spec lay_a p (by omega) (by omega)) n (by omega) (by omega)
            · by_cases h4 : p < 4
              · exact allN_spec (allN_spec lay_b p (by omega) (by omega)) n (by omega) (by omega)
              · exact allN_spec (allN_spec lay_c p (by omega) (by omega)) n (by omega) (by omega)
      · have : p = 6 ∨ p = 7 := by omega
        rcases this with rfl | rfl
        · exact lay_6 n
        · exact lay_7 n

theorem bits_neg (m : Nat) : okBits (Int.negSucc m) = true := by kernel_rfl
theorem bits_big (m : Nat) : okBits (Int.ofNat (m + 16)) = true := by kernel_rfl
theorem bits_in : allN (fun n => okBits (Int.ofNat n)) 0 16 = true := by kernel_rfl
theorem bits_all (n : Int) : okBits n = true := by
  cases n with
  | negSucc m => exact bits_neg m
  | ofNat n =>
    by_cases h16 : 16 ≤ n
    · obtain ⟨m, rfl⟩ : ∃ m, n = m + 16 := ⟨n - 16, by omega⟩
      exact bits_big m
    · exact allN_spec bits_in n (by omega) (by omega)

theorem isBit_spec {n : Int} (h : isBit n = true) : n = 0 ∨ n = 1 := by
  simpa [isBit, eqI_spec] using h
theorem rex_in : (allN (fun w => allN (fun r => allN (fun x => allN (fun b => okRex (Int.ofNat w) (Int.ofNat r) (Int.ofNat x) (Int.ofNat b)) 0 2) 0 2) 0 2) 0 2) = true := by kernel_rfl
theorem bit_nat {n : Int} (h : isBit n = true) : ∃ k : Nat, n = Int.ofNat k ∧ k < 2 := by
  rcases isBit_spec h with rfl | rfl
  · exact ⟨0, rfl, by omega⟩
  · exact ⟨1, rfl, by omega⟩
theorem rex_all {w r x b : Int} (h1 : isBit w = true) (h2 : isBit r = true) (h3 : isBit x = true) (h4 : isBit b = true) : okRex w r x b = true := by
  obtain ⟨w, rfl, _⟩ := bit_nat h1
  obtain ⟨r, rfl, _⟩ := bit_nat h2
  obtain ⟨x, rfl, _⟩ := bit_nat h3
  obtain ⟨b, rfl, _⟩ := bit_nat h4
  exact allN_spec (allN_spec (allN_spec (allN_spec rex_in w (by omega) (by omega)) r (by omega) (by omega)) x (by omega) (by omega)) b (by omega) (by omega)

def gLay (args : List AV) : Option (Bool × List PRes) :=
  match args with
  | [.int .i64 p, .int .i64 n] => some (true, resLay p n)
  | _ => none
def gBits (args : List AV) : Option (Bool × List PRes) :=
  match args with
  | [.int .i64 n] => some (true, resBits n)
  | _ => none
def gRex (args : List AV) : Option (Bool × List PRes) :=
  match args with
  | [.int .i64 w, .int .i64 r, .int .i64 x, .int .i64 b] => some (isBit w && isBit r && isBit x && isBit b, resRex w r x b)
  | _ => none

theorem con20 : ConOk X0 (cfOf X0 kn) 20 gLay :=
  con_runs (inl_ok 20 rfl) c0_ok an0 40 fun args rs hg => by
    unfold gLay at hg
    split at hg
    · rename_i p n
      simp only [Option.some.injEq, Prod.mk.injEq] at hg
      obtain ⟨h1, rfl⟩ := hg
      have h := lay_all p n
      unfold okLay run at h
      exact h
    · cases hg
theorem con24 : ConOk X0 (cfOf X0 kn) 24 gBits :=
  con_runs (inl_ok 24 rfl) c0_ok an0 40 fun args rs hg => by
    unfold gBits at hg
    split at hg
    · rename_i n
      simp only [Option.some.injEq, Prod.mk.injEq] at hg
      obtain ⟨h1, rfl⟩ := hg
      have h := bits_all n
      unfold okBits run at h
      exact h
    · cases hg
theorem con26 : ConOk X0 (cfOf X0 kn) 26 gRex :=
  con_runs (inl_ok 26 rfl) c0_ok an0 40 fun args rs hg => by
    unfold gRex at hg
    split at hg
    · simp only [Option.some.injEq, Prod.mk.injEq] at hg
      obtain ⟨h1, rfl⟩ := hg
      simp only [Bool.and_eq_true] at h1
      obtain ⟨⟨⟨h1, h2⟩, h3⟩, h4⟩ := h1
      have h := rex_all h1 h2 h3 h4
      unfold okRex run at h
      exact h
    · cases hg

def K5 : KT2 := fun f => pick2 (Nat.beq f 15) (some ([], gYes)) none
def c5 (β : Type) : CallT β := callT X0 K5 inl 40 β 10
theorem c5_ok (β : Type) : CallTOk X0 (cfOf X0 kn) (c5 β) := callT_ok (fun id sig g h => by
  simp only [K5, pick2_eq, Nat.beq_eq] at h
  split at h
  · rename_i hf; cases h; subst hf; exact con_yes rfl
  · cases h) inl_ok 40 10 β
theorem known_run : leaves [.val (.bool true)] (enterT X0 (c5 (AV × TMem)) an0 40 5 [] TMem.empty (fun v H => some (v, H))) = true := by kernel_rfl
theorem con5 : ConOk X0 (cfOf X0 kn) 5 gYes :=
  con_runs (inl_ok 5 rfl) c5_ok an0 40 fun args rs hg => by
    unfold gYes at hg
    split at hg
    · simp only [Option.some.injEq, Prod.mk.injEq] at hg
      obtain ⟨h1, rfl⟩ := hg
      exact known_run
    · cases hg

def Kr : KT2 := fun f => pick2 (Nat.beq f 5) (some ([], gYes)) <| pick2 (Nat.beq f 17) (some ([some (.int .u8)], gRd)) (pick2 (Nat.beq f 15) (some ([], gYes)) (pick2 (Nat.beq f 20) (some ([none, none], gLay)) (pick2 (Nat.beq f 24) (some ([none], gBits)) (pick2 (Nat.beq f 26) (some ([none, none, none, none], gRex)) none))))
def cr (β : Type) : CallT β := callT X0 Kr inl 40 β 10
end

theorem Kr_ok (id : FuncId) (sig : List (Option Ty)) (g : List AV → Option (Bool × List PRes)) (h : Kr id = some (sig, g)) : ConOk X0 (cfOf X0 kn) id g := by
  simp only [Kr, pick2_eq, Nat.beq_eq] at h
  by_cases h5 : id = 5
  · rw [if_pos h5] at h; cases h; subst h5; exact con5
  rw [if_neg h5] at h
  by_cases h17 : id = 17
  · rw [if_pos h17] at h; cases h; subst h17; exact con17
  rw [if_neg h17] at h
  by_cases h15 : id = 15
  · rw [if_pos h15] at h; cases h; subst h15; exact con_yes rfl
  rw [if_neg h15] at h
  by_cases h20 : id = 20
  · rw [if_pos h20] at h; cases h; subst h20; exact con20
  rw [if_neg h20] at h
  by_cases h24 : id = 24
  · rw [if_pos h24] at h; cases h; subst h24; exact con24
  rw [if_neg h24] at h
  by_cases h26 : id = 26
  · rw [if_pos h26] at h; cases h; subst h26; exact con26
  rw [if_neg h26] at h
  cases h

theorem cr_ok (β : Type) : CallTOk X0 (cfOf X0 kn) (cr β) := callT_ok Kr_ok inl_ok 40 10 β
end Go.Proofs.Ytpabmjpkkhmidaa.rexBack

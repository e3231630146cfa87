/- Itoa. -/
import Derived.Test.YtcafcgiemdlobaaDoorLd
namespace Go.Proofs.YtcafcgiemdlobaaDoor.lt
open Go.Tv Go.Ev

def smallsL : List UInt8 := [48, 48, 48, 49, 48, 50, 48, 51, 48, 52, 48, 53, 48, 54, 48, 55, 48, 56, 48, 57, 49, 48, 49, 49, 49, 50, 49, 51, 49, 52, 49, 53, 49, 54, 49, 55, 49, 56, 49, 57, 50, 48, 50, 49, 50, 50, 50, 51, 50, 52, 50, 53, 50, 54, 50, 55, 50, 56, 50, 57, 51, 48, 51, 49, 51, 50, 51, 51, 51, 52, 51, 53, 51, 54, 51, 55, 51, 56, 51, 57, 52, 48, 52, 49, 52, 50, 52, 51, 52, 52, 52, 53, 52, 54, 52, 55, 52, 56, 52, 57, 53, 48, 53, 49, 53, 50, 53, 51, 53, 52, 53, 53, 53, 54, 53, 55, 53, 56, 53, 57, 54, 48, 54, 49, 54, 50, 54, 51, 54, 52, 54, 53, 54, 54, 54, 55, 54, 56, 54, 57, 55, 48, 55, 49, 55, 50, 55, 51, 55, 52, 55, 53, 55, 54, 55, 55, 55, 56, 55, 57, 56, 48, 56, 49, 56, 50, 56, 51, 56, 52, 56, 53, 56, 54, 56, 55, 56, 56, 56, 57, 57, 48, 57, 49, 57, 50, 57, 51, 57, 52, 57, 53, 57, 54, 57, 55, 57, 56, 57, 57]
noncomputable def w32 (n : Int) : Int := IntKind.wrap .u32 n
noncomputable def smk (x : Int) (acc : List Int) (k : List Int → Option AV) : Option AV := atK smallsL (w32 (x + 1)) fun c1 => atK smallsL x fun c0 => k (u8I c0 :: u8I c1 :: acc)
noncomputable def fmt4 (y : Int) (acc : List Int) (k : List Int → Option AV) : Option AV := smk (w32 (Int.tmod y 100 * 2)) acc fun a => smk (w32 (w32 (Int.tdiv y 100) * 2)) a k
noncomputable def fmt8 (u : Int) (acc : List Int) (k : List Int → Option AV) : Option AV :=
  fmt4 (Int.tmod (w32 (Int.tmod u 100000000)) 10000) acc fun a => fmt4 (w32 (Int.tdiv (w32 (Int.tmod u 100000000)) 10000)) a k
noncomputable def fmt1 (n : Nat) (x : Int) (acc : List Int) (k : List Int → Option AV) : Option AV := Nat.rec (motive := fun _ => Option AV) (k acc) (fun _ _ => k (IntKind.wrap .u8 (w32 (48 + x)) :: acc)) n
noncomputable def fmt2 (n : Nat) (x : Int) (acc : List Int) (k : List Int → Option AV) : Option AV := pick2 (Nat.ble 2 n) (smk (w32 (Int.tmod x 100 * 2)) acc fun a => fmt1 (n - 2) (w32 (Int.tdiv x 100)) a k) (fmt1 n x acc k)
noncomputable def fmtR (n : Nat) (x : Int) (acc : List Int) (k : List Int → Option AV) : Option AV := pick2 (Nat.ble 4 n) (fmt4 (Int.tmod x 10000) acc fun a => fmt2 (n - 4) (w32 (Int.tdiv x 10000)) a k) (fmt2 n x acc k)
noncomputable def fmtC : Nat → Nat → Int → List Int → (List Int → Option AV) → Option AV
  | 0, n, u, acc, k => fmtR n (w32 u) acc k
  | q + 1, n, u, acc, k => fmt8 u acc fun a => fmtC q n (IntKind.wrap .u64 (Int.tdiv u 100000000)) a k
noncomputable def condN (k : Nat) (u : Int) : Bool := !ltI u ((10 ^ (k - 1) : Nat) : Int) && ltI u ((10 ^ k : Nat) : Int) && ltI u 18446744073709551616 && Nat.ble 1 k
noncomputable def restI (k : Nat) (n : Int) : Option AV :=
  pick2 (ltI n 0) (pick2 (condN k (IntKind.wrap .u64 (0 - IntKind.wrap .u64 n))) (fmtC (k / 8) (k % 8) (IntKind.wrap .u64 (0 - IntKind.wrap .u64 n)) [] fun a => pick2 (ltI n 0) (some (.str ((45 :: a).map iU8))) (some (.str (a.map iU8)))) none)
    (pick2 (condN k (IntKind.wrap .u64 n)) (fmtC (k / 8) (k % 8) (IntKind.wrap .u64 n) [] fun a => pick2 (ltI n 0) (some (.str ((45 :: a).map iU8))) (some (.str (a.map iU8)))) none)
noncomputable def smallI (n : Int) : Option AV :=
  pick2 (ltI n 10) (pick2 (!ltI n 0 && !ltI (IntKind.wrap .i64 (n + 1)) n && !ltI 36 (IntKind.wrap .i64 (n + 1))) (some (.str (cutL digs36 n (IntKind.wrap .i64 (n + 1))))) none)
    (pick2 (!ltI (IntKind.wrap .i64 (n * 2)) 0 && !ltI (IntKind.wrap .i64 (IntKind.wrap .i64 (n * 2) + 2)) (IntKind.wrap .i64 (n * 2)) && !ltI 200 (IntKind.wrap .i64 (IntKind.wrap .i64 (n * 2) + 2))) (some (.str (cutL smallsL (IntKind.wrap .i64 (n * 2)) (IntKind.wrap .i64 (IntKind.wrap .i64 (n * 2) + 2))))) none)
noncomputable def ck (k : Nat) (β : Type) : CallT β := callT (Xg gvL) (tab [(77, [none], gNd k)]) inl 20 β 20
theorem ck_ok (k : Nat) (β : Type) : CallTOk (Xg gvL) (cfOf (Xg gvL) noKnown) (ck k β) := callT_ok (show TabOk _ _ _ from .cons (con77 k) .nil) (fun _ _ _ => rfl) 20 20 β
noncomputable def run22 (k : Nat) (n : Int) : Option AV := enterT (Xg gvL) (ck k AV) an0 5 22 [.int .i64 n] TMem.empty (fun v _ => some v)
noncomputable def exp22 (k : Nat) (n : Int) : Option AV := pick2 (!ltI n 0) (pick2 (ltI n 100) (smallI n) (restI k n)) (restI k n)
theorem dec1 (n : Int) : run22 1 n = exp22 1 n := by kernel_rfl
theorem dec2 (n : Int) : run22 2 n = exp22 2 n := by kernel_rfl
theorem dec3 (n : Int) : run22 3 n = exp22 3 n := by kernel_rfl
theorem dec4 (n : Int) : run22 4 n = exp22 4 n := by kernel_rfl
theorem dec5 (n : Int) : run22 5 n = exp22 5 n := by kernel_rfl
theorem dec6 (n : Int) : run22 6 n = exp22 6 n := by kernel_rfl
theorem dec7 (n : Int) : run22 7 n = exp22 7 n := by kernel_rfl
theorem dec8 (n : Int) : run22 8 n = exp22 8 n := by kernel_rfl
theorem dec9 (n : Int) : run22 9 n = exp22 9 n := by kernel_rfl
theorem dec10 (n : Int) : run22 10 n = exp22 10 n := by kernel_rfl
theorem dec11 (n : Int) : run22 11 n = exp22 11 n := by kernel_rfl
theorem dec12 (n : Int) : run22 12 n = exp22 12 n := by kernel_rfl
theorem dec13 (n : Int) : run22 13 n = exp22 13 n := by kernel_rfl
theorem dec14 (n : Int) : run22 14 n = exp22 14 n := by kernel_rfl
theorem dec15 (n : Int) : run22 15 n = exp22 15 n := by kernel_rfl
theorem dec16 (n : Int) : run22 16 n = exp22 16 n := by kernel_rfl
theorem dec17 (n : Int) : run22 17 n = exp22 17 n := by kernel_rfl
theorem dec18 (n : Int) : run22 18 n = exp22 18 n := by kernel_rfl
theorem dec19 (n : Int) : run22 19 n = exp22 19 n := by kernel_rfl

/-! What they come to -/
/-- So many digits. -/
def dkL : Nat → Nat → List UInt8
  | 0, _ => []
  | k + 1, u => dkL k (u / 10) ++ [dgt (u % 10)]
theorem dkL_add (a : Nat) : ∀ (b u : Nat), dkL (a + b) u = dkL a (u / 10 ^ b) ++ dkL b u
  | 0, u => by simp [dkL]
  | b + 1, u => by
    show dkL (a + b) (u / 10) ++ [dgt (u % 10)] = dkL a (u / 10 ^ (b + 1)) ++ (dkL b (u / 10) ++ [dgt (u % 10)])
    rw [dkL_add a b, Nat.div_div_eq_div_mul, ← Nat.pow_succ', List.append_assoc]
theorem dkL_mod : ∀ (b u : Nat), dkL b (u % 10 ^ b) = dkL b u
  | 0, u => rfl
  | b + 1, u => by
    show dkL b (u % 10 ^ (b + 1) / 10) ++ [dgt (u % 10 ^ (b + 1) % 10)] = dkL b (u / 10) ++ [dgt (u % 10)]
    have e1 : u % 10 ^ (b + 1) / 10 = u / 10 % 10 ^ b := by rw [Nat.pow_succ']; exact Nat.mod_mul_right_div_self u 10 (10 ^ b)
    have e2 : u % 10 ^ (b + 1) % 10 = u % 10 := by rw [Nat.pow_succ']; exact Nat.mod_mul_right_mod u 10 (10 ^ b)
    rw [e1, e2, dkL_mod b]
theorem small_all : ((List.range 100).all fun y => decide (smallsL[2 * y + 1]? = some (dgt (y % 10))) && decide (smallsL[2 * y]? = some (dgt (y / 10)))) = true := by decide +kernel
theorem small_at {y : Nat} (h : y < 100) : getI smallsL ((2 * y + 1 : Nat) : Int) = some (dgt (y % 10)) ∧ getI smallsL ((2 * y : Nat) : Int) = some (dgt (y / 10)) := by
  have := List.all_eq_true.1 small_all y (List.mem_range.2 h)
  simp only [Bool.and_eq_true, decide_eq_true_eq] at this
  exact this
theorem w32_in {n : Int} (h0 : 0 ≤ n) (h1 : n < 4294967296) : w32 n = n := by unfold w32; rw [u32_mod]; omega
theorem smk_eq {y : Nat} (h : y < 100) (acc : List UInt8) (k : List Int → Option AV) : smk (w32 ((y : Int) * 2)) (acc.map u8I) k = k ((dkL 2 y ++ acc).map u8I) := by
  obtain ⟨s1, s2⟩ := small_at h
  unfold smk atK
  have e1 : w32 ((y : Int) * 2) = ((2 * y : Nat) : Int) := by rw [w32_in (by omega) (by omega)]; omega
  have e2 : w32 (((2 * y : Nat) : Int) + 1) = ((2 * y + 1 : Nat) : Int) := by rw [w32_in (by omega) (by omega)]; omega
  rw [e1, e2, s1, s2]
  have e3 : dkL 2 y = [dgt (y / 10), dgt (y % 10)] := by
    show ([] ++ [dgt (y / 10 % 10)]) ++ [dgt (y % 10)] = _
    rw [Nat.mod_eq_of_lt (show y / 10 < 10 by omega)]; rfl
  rw [e3]; rfl
theorem fmt4_eq {y : Nat} (h : y < 10000) (acc : List UInt8) (k : List Int → Option AV) : fmt4 y (acc.map u8I) k = k ((dkL 4 y ++ acc).map u8I) := by
  unfold fmt4
  have e1 : Int.tmod (y : Int) 100 = ((y % 100 : Nat) : Int) := rfl
  have e2 : w32 (Int.tdiv (y : Int) 100) = ((y / 100 : Nat) : Int) := by
    have : Int.tdiv (y : Int) 100 = ((y / 100 : Nat) : Int) := rfl
    rw [this, w32_in (by omega) (by omega)]
  rw [e1, e2, smk_eq (by omega), smk_eq (by omega), dkL_add 2 2 y, ← dkL_mod 2 y, List.append_assoc]
theorem fmt8_eq (u : Nat) (acc : List UInt8) (k : List Int → Option AV) : fmt8 u (acc.map u8I) k = k ((dkL 8 u ++ acc).map u8I) := by
  unfold fmt8
  have e0 : w32 (Int.tmod (u : Int) 100000000) = ((u % 100000000 : Nat) : Int) := by
    have : Int.tmod (u : Int) 100000000 = ((u % 100000000 : Nat) : Int) := rfl
    rw [this, w32_in (by omega) (by omega)]
  have e1 : Int.tmod (((u % 100000000 : Nat)) : Int) 10000 = ((u % 100000000 % 10000 : Nat) : Int) := rfl
  have e2 : w32 (Int.tdiv (((u % 100000000 : Nat)) : Int) 10000) = ((u % 100000000 / 10000 : Nat) : Int) := by
    have : Int.tdiv (((u % 100000000 : Nat)) : Int) 10000 = ((u % 100000000 / 10000 : Nat) : Int) := rfl
    rw [this, w32_in (by omega) (by omega)]
  rw [e0, e1, e2, fmt4_eq (by omega), fmt4_eq (by omega)]
  have e3 : dkL 8 u = dkL 4 (u % 100000000 / 10000) ++ dkL 4 (u % 100000000 % 10000) := by
    have h1 : dkL 8 u = dkL 8 (u % 100000000) := (dkL_mod 8 u).symm
    have h2 : dkL 4 (u % 100000000 % 10000) = dkL 4 (u % 100000000) := dkL_mod 4 (u % 100000000)
    rw [h1, h2]; exact dkL_add 4 4 (u % 100000000)
  rw [e3, List.append_assoc]
theorem fmt1_eq {n x : Nat} (hn : n ≤ 1) (h : x < 10 ^ n) (acc : List UInt8) (k : List Int → Option AV) : fmt1 n x (acc.map u8I) k = k ((dkL n x ++ acc).map u8I) := by
  match n, hn with
  | 0, _ => rfl
  | 1, _ =>
    have h : x < 10 := by simpa using h
    show k (IntKind.wrap .u8 (w32 (48 + (x : Int))) :: acc.map u8I) = k ((([] ++ [dgt (x % 10)]) ++ acc).map u8I)
    rw [w32_in (by omega) (by omega), u8_in (by omega) (by omega), Nat.mod_eq_of_lt h]
    have : u8I (dgt x) = 48 + (x : Int) := by
      unfold u8I dgt
      rw [if_pos h, UInt8.toNat_ofNat']
      show (((48 + x) % 256 : Nat) : Int) = _
      omega
    rw [← this]; rfl
theorem fmt2_eq {n x : Nat} (hn : n ≤ 3) (h : x < 10 ^ n) (h32 : x < 4294967296) (acc : List UInt8) (k : List Int → Option AV) : fmt2 n x (acc.map u8I) k = k ((dkL n x ++ acc).map u8I) := by
  unfold fmt2
  by_cases h2 : 2 ≤ n
  · rw [bleT h2]
    show smk (w32 (Int.tmod (x : Int) 100 * 2)) _ _ = _
    have e1 : Int.tmod (x : Int) 100 = ((x % 100 : Nat) : Int) := rfl
    have e2 : w32 (Int.tdiv (x : Int) 100) = ((x / 100 : Nat) : Int) := by
      have : Int.tdiv (x : Int) 100 = ((x / 100 : Nat) : Int) := rfl
      rw [this, w32_in (by omega) (by omega)]
    obtain ⟨m, rfl⟩ : ∃ m, n = m + 2 := ⟨n - 2, by omega⟩
    have hx : x / 100 < 10 ^ m := by rw [Nat.pow_add] at h; exact Nat.div_lt_of_lt_mul (by rw [Nat.mul_comm]; exact h)
    rw [e1, e2, smk_eq (by omega)]
    show fmt1 m ((x / 100 : Nat) : Int) _ k = _
    have e3 : dkL 2 (x % 100) = dkL 2 x := dkL_mod 2 x
    rw [fmt1_eq (by omega) hx, dkL_add m 2 x, e3, List.append_assoc]
  · have : Nat.ble 2 n = false := by
      cases hb : Nat.ble 2 n with
      | false => rfl
      | true => exact absurd (Nat.le_of_ble_eq_true hb) h2
    rw [this]
    exact fmt1_eq (by omega) h acc k
theorem fmtR_eq {n x : Nat} (hn : n ≤ 7) (h : x < 10 ^ n) (h32 : x < 4294967296) (acc : List UInt8) (k : List Int → Option AV) : fmtR n x (acc.map u8I) k = k ((dkL n x ++ acc).map u8I) := by
  unfold fmtR
  by_cases h2 : 4 ≤ n
  · rw [bleT h2]
    show fmt4 (Int.tmod (x : Int) 10000) _ _ = _
    have e1 : Int.tmod (x : Int) 10000 = ((x % 10000 : Nat) : Int) := rfl
    have e2 : w32 (Int.tdiv (x : Int) 10000) = ((x / 10000 : Nat) : Int) := by
      have : Int.tdiv (x : Int) 10000 = ((x / 10000 : Nat) : Int) := rfl
      rw [this, w32_in (by omega) (by omega)]
    obtain ⟨m, rfl⟩ : ∃ m, n = m + 4 := ⟨n - 4, by omega⟩
    have hx : x / 10000 < 10 ^ m := by rw [Nat.pow_add] at h; exact Nat.div_lt_of_lt_mul (by rw [Nat.mul_comm]; exact h)
    rw [e1, e2, fmt4_eq (by omega)]
    show fmt2 m ((x / 10000 : Nat) : Int) _ k = _
    have e3 : dkL 4 (x % 10000) = dkL 4 x := dkL_mod 4 x
    rw [fmt2_eq (by omega) hx (by omega), dkL_add m 4 x, e3, List.append_assoc]
  · have : Nat.ble 4 n = false := by
      cases hb : Nat.ble 4 n with
      | false => rfl
      | true => exact absurd (Nat.le_of_ble_eq_true hb) h2
    rw [this]
    exact fmt2_eq (by omega) h h32 acc k
theorem fmtC_eq {n : Nat} (hn : n ≤ 7) : ∀ (q u : Nat) (acc : List UInt8) (k : List Int → Option AV), u < 10 ^ (n + 8 * q) → u < 18446744073709551616 → fmtC q n u (acc.map u8I) k = k ((dkL (n + 8 * q) u ++ acc).map u8I)
  | 0, u, acc, k, h, _ => by
    have h7 : 10 ^ n ≤ 10 ^ 7 := Nat.pow_le_pow_right (by omega) hn
    have h : u < 10 ^ n := h
    show fmtR n (w32 u) _ k = _
    rw [w32_in (by omega) (by omega)]
    exact fmtR_eq hn h (by omega) acc k
  | q + 1, u, acc, k, h, h64 => by
    have e1 : IntKind.wrap .u64 (Int.tdiv (u : Int) 100000000) = ((u / 100000000 : Nat) : Int) := by
      have : Int.tdiv (u : Int) 100000000 = ((u / 100000000 : Nat) : Int) := rfl
      rw [this, u64_in (by omega) (by omega)]
    show fmt8 u _ _ = _
    rw [fmt8_eq]
    have e2 : n + 8 * (q + 1) = (n + 8 * q) + 8 := by omega
    rw [e2] at h ⊢
    have hx : u / 100000000 < 10 ^ (n + 8 * q) := by rw [Nat.pow_add] at h; exact Nat.div_lt_of_lt_mul (by rw [Nat.mul_comm]; exact h)
    rw [e1, fmtC_eq hn q (u / 100000000) (dkL 8 u ++ acc) k hx (by omega), dkL_add (n + 8 * q) 8 u, List.append_assoc]

theorem num_dk : ∀ (k u f : Nat) (acc : List UInt8), u < 10 ^ (k + 1) → (k = 0 ∨ 10 ^ k ≤ u) → k < f → numL 10 f u acc = dkL (k + 1) u ++ acc
  | 0, u, 0, _, _, _, h => by omega
  | 0, u, f + 1, acc, h, _, _ => by
    have h : u < 10 := by simpa using h
    rw [numL, if_pos h]
    show _ = ([] ++ [dgt (u % 10)]) ++ acc
    rw [Nat.mod_eq_of_lt h]; rfl
  | k + 1, u, 0, _, _, _, h => by omega
  | k + 1, u, f + 1, acc, h, h0, hf => by
    have h0 : 10 ^ (k + 1) ≤ u := by rcases h0 with h | h; omega; exact h
    have hp : 0 < 10 ^ k := Nat.pow_pos (by omega)
    have h10 : 10 ≤ u := by rw [Nat.pow_succ] at h0; omega
    rw [numL, if_neg (by omega), num_dk k (u / 10) f (dgt (u % 10) :: acc) (by rw [Nat.pow_succ] at h; omega) (.inr (by rw [Nat.pow_succ] at h0; omega)) (by omega)]
    show _ = (dkL (k + 1) (u / 10) ++ [dgt (u % 10)]) ++ acc
    rw [List.append_assoc]; rfl
theorem many {u : Nat} (h0 : 0 < u) : ∀ k : Nat, u < 10 ^ k → ∃ j, j < k ∧ 10 ^ j ≤ u ∧ u < 10 ^ (j + 1)
  | 0, h => by simp at h; omega
  | k + 1, h => by
    by_cases hk : u < 10 ^ k
    · obtain ⟨j, h1, h2⟩ := many h0 k hk
      exact ⟨j, by omega, h2⟩
    · exact ⟨k, by omega, by omega, h⟩

def chkS : Option AV → List UInt8 → Bool
  | some (.str a), l => decide (a = l)
  | _, _ => false
theorem chkS_spec {r : Option AV} {l : List UInt8} (h : chkS r l = true) : r = some (.str l) := by
  unfold chkS at h
  split at h
  · rw [decide_eq_true_eq] at h; rw [h]
  · cases h
theorem smallI_all : ((List.range 100).all fun n => chkS (smallI (Int.ofNat n)) (numL 10 64 n [])) = true := by decide +kernel
theorem rest_eq {k : Nat} {n : Int} (hk : 1 ≤ k) (h0 : -9223372036854775808 ≤ n) (h1 : n < 9223372036854775808) (h2 : 10 ^ (k - 1) ≤ n.natAbs) (h3 : n.natAbs < 10 ^ k) : restI k n = some (.str (telS 10 [] n)) := by
  have hu : n.natAbs < 18446744073709551616 := by omega
  have hc : condN k ((n.natAbs : Nat) : Int) = true := by
    unfold condN
    rw [ltF (by omega), ltT (by omega), ltT (by omega), bleT hk]; rfl
  have hkk : k % 8 + 8 * (k / 8) = k := by omega
  have hnum : numL 10 64 n.natAbs [] = dkL k n.natAbs := by
    obtain ⟨j, rfl⟩ : ∃ j, k = j + 1 := ⟨k - 1, by omega⟩
    have hj : j < 64 := by
      have a : 10 ^ j < 10 ^ 20 := by
        have : (10 : Nat) ^ (j + 1 - 1) = 10 ^ j := by simp
        omega
      have := (Nat.pow_lt_pow_iff_right (a := 10) (by omega)).1 a
      omega
    have := num_dk j n.natAbs 64 [] h3 (.inr (by simpa using h2)) hj
    rw [List.append_nil] at this; exact this
  have hf : ∀ K : List Int → Option AV, fmtC (k / 8) (k % 8) ((n.natAbs : Nat) : Int) [] K = K ((numL 10 64 n.natAbs []).map u8I) := fun K => by
    have := fmtC_eq (n := k % 8) (by omega) (k / 8) n.natAbs [] K (by rw [hkk]; exact h3) hu
    rw [hkk, List.append_nil, ← hnum] at this
    exact this
  unfold restI telS
  rw [pick_lt]
  split
  · rename_i h
    rw [abs_neg h0 h, hc]
    show fmtC _ _ _ [] _ = _
    rw [hf, ltT h]
    show some (AV.str ((45 :: (numL 10 64 n.natAbs []).map u8I).map iU8)) = _
    rw [List.map_cons, map_iU8]; rfl
  · rename_i h
    rw [abs_pos h1 h, hc]
    show fmtC _ _ _ [] _ = _
    rw [hf, ltF (by omega)]
    show some (AV.str (((numL 10 64 n.natAbs []).map u8I).map iU8)) = _
    rw [map_iU8]; rfl
theorem dec_all (n : Int) : ∀ k : Nat, 1 ≤ k → k ≤ 19 → run22 k n = exp22 k n
  | 1, _, _ => dec1 n
  | 2, _, _ => dec2 n
  | 3, _, _ => dec3 n
  | 4, _, _ => dec4 n
  | 5, _, _ => dec5 n
  | 6, _, _ => dec6 n
  | 7, _, _ => dec7 n
  | 8, _, _ => dec8 n
  | 9, _, _ => dec9 n
  | 10, _, _ => dec10 n
  | 11, _, _ => dec11 n
  | 12, _, _ => dec12 n
  | 13, _, _ => dec13 n
  | 14, _, _ => dec14 n
  | 15, _, _ => dec15 n
  | 16, _, _ => dec16 n
  | 17, _, _ => dec17 n
  | 18, _, _ => dec18 n
  | 19, _, _ => dec19 n
  | 0, h, _ => absurd h (by omega)
  | k + 20, _, h => absurd h (by omega)
theorem dec_at {n : Int} (h0 : -9223372036854775808 ≤ n) (h1 : n < 9223372036854775808) : ∃ k, run22 k n = some (.str (telS 10 [] n)) := by
  by_cases hs : 0 ≤ n ∧ n < 100
  · refine ⟨1, ?_⟩
    rw [dec1]
    unfold exp22
    rw [ltF hs.1, ltT hs.2]
    show smallI n = _
    obtain ⟨m, rfl⟩ : ∃ m : Nat, n = Int.ofNat m := ⟨n.toNat, by show n = (n.toNat : Int); omega⟩
    have hm : m < 100 := by have := hs.2; have : (m : Int) < 100 := this; omega
    have := chkS_spec (List.all_eq_true.1 smallI_all m (List.mem_range.2 hm))
    rw [this]
    unfold telS
    rw [if_neg (by have := hs.1; omega)]
    rfl
  · have hu : 0 < n.natAbs := by omega
    obtain ⟨j, h2, h3, h4⟩ := many hu 19 (by omega)
    refine ⟨j + 1, ?_⟩
    rw [dec_all n (j + 1) (by omega) (by omega)]
    have hr := rest_eq (k := j + 1) (n := n) (by omega) h0 h1 (by simpa using h3) h4
    unfold exp22
    rw [hr, pick_nlt]
    split
    · rw [ltF (by omega)]
    · rfl
noncomputable def gDec (args : List AV) : Option (Bool × List PRes) :=
  match args with
  | [.int .i64 n] => some (!ltI n (-9223372036854775808) && ltI n 9223372036854775808, [.val (.str (telS 10 [] n))])
  | _ => none
theorem con22 : ConOk (Xg gvL) (cfOf (Xg gvL) noKnown) 22 gDec := fun args rs hg => by
  unfold gDec at hg
  split at hg
  · rename_i n
    simp only [Option.some.injEq, Prod.mk.injEq, Bool.and_eq_true, ltI_spec, Bool.not_eq_true', decide_eq_false_iff_not, decide_eq_true_eq] at hg
    obtain ⟨h1, rfl⟩ := hg
    obtain ⟨k, hk⟩ := dec_at (n := n) (by omega) (by omega)
    refine con_vals (g := fun args => match args with | [.int .i64 u] => some (decide (u = n), [.val (.str (telS 10 [] n))]) | _ => none) (nk 22) (ck_ok k) (fun args rs hg => ?_) [.int .i64 n] _ (by simp)
    split at hg
    · rename_i u'
      simp only [Option.some.injEq, Prod.mk.injEq, decide_eq_true_eq] at hg
      obtain ⟨rfl, rfl⟩ := hg
      exact ⟨[.str (telS 10 [] u')], an0, 5, hk, rfl, rfl⟩
    · cases hg
  · cases hg
end Go.Proofs.YtcafcgiemdlobaaDoor.lt

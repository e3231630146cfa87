/- Numbers in base 10. -/
import Derived.Test.YtcafcgiemdlobaaDoorLh
namespace Go.Proofs.YtcafcgiemdlobaaDoor.lt
open Go.Tv Go.Ev

theorem con_join {X : Cfg} {cf : Nat × Nat → Ev.CallF} {f : FuncId} {g : List AV → Option (Bool × List PRes)} (h : ∀ args rs, g args = some (true, rs) → ∃ g', ConOk X cf f g' ∧ g' args = some (true, rs)) : ConOk X cf f g := fun args rs hg => by
  obtain ⟨g', h1, h2⟩ := h args rs hg
  exact h1 args rs h2

/-! Len64 -/
def len8L : List UInt8 := [0, 1, 2, 2, 3, 3, 3, 3, 4, 4, 4, 4, 4, 4, 4, 4, 5, 5, 5, 5, 5, 5, 5, 5, 5, 5, 5, 5, 5, 5, 5, 5, 6, 6, 6, 6, 6, 6, 6, 6, 6, 6, 6, 6, 6, 6, 6, 6, 6, 6, 6, 6, 6, 6, 6, 6, 6, 6, 6, 6, 6, 6, 6, 6, 7, 7, 7, 7, 7, 7, 7, 7, 7, 7, 7, 7, 7, 7, 7, 7, 7, 7, 7, 7, 7, 7, 7, 7, 7, 7, 7, 7, 7, 7, 7, 7, 7, 7, 7, 7, 7, 7, 7, 7, 7, 7, 7, 7, 7, 7, 7, 7, 7, 7, 7, 7, 7, 7, 7, 7, 7, 7, 7, 7, 7, 7, 7, 7, 8, 8, 8, 8, 8, 8, 8, 8, 8, 8, 8, 8, 8, 8, 8, 8, 8, 8, 8, 8, 8, 8, 8, 8, 8, 8, 8, 8, 8, 8, 8, 8, 8, 8, 8, 8, 8, 8, 8, 8, 8, 8, 8, 8, 8, 8, 8, 8, 8, 8, 8, 8, 8, 8, 8, 8, 8, 8, 8, 8, 8, 8, 8, 8, 8, 8, 8, 8, 8, 8, 8, 8, 8, 8, 8, 8, 8, 8, 8, 8, 8, 8, 8, 8, 8, 8, 8, 8, 8, 8, 8, 8, 8, 8, 8, 8, 8, 8, 8, 8, 8, 8, 8, 8, 8, 8, 8, 8, 8, 8, 8, 8, 8, 8, 8, 8, 8, 8, 8, 8, 8, 8, 8, 8, 8, 8, 8, 8]
noncomputable def lenL (off x : Int) : Option AV := atK len8L (IntKind.wrap .u8 x) fun c => some (.int .i64 (IntKind.wrap .i64 (off + IntKind.wrap .i64 (u8I c))))
noncomputable def lenB (off x : Int) : Option AV := pick2 (!ltI x 256) (lenL (off + 8) (Int.fdiv x 256)) (lenL off x)
noncomputable def lenC (off x : Int) : Option AV := pick2 (!ltI x 65536) (lenB (off + 16) (Int.fdiv x 65536)) (lenB off x)
theorem tree85 (gv : Nat → List AV) (u : Int) : enterT (Xg gv) (c0 gv AV) an0 5 85 [.int .u64 u] TMem.empty (fun v _ => some v) = pick2 (!ltI u 4294967296) (lenC 32 (Int.fdiv u 4294967296)) (lenC 0 u) := by kernel_rfl
theorem len8_all : ((List.range 256).all fun x => decide (x = 0) || (decide (2 ^ ((len8L.getD x 0).toNat - 1) ≤ x) && decide (x < 2 ^ (len8L.getD x 0).toNat) && decide (0 < (len8L.getD x 0).toNat) && decide ((len8L.getD x 0).toNat ≤ 8))) = true := by decide +kernel
theorem len8_len : len8L.length = 256 := by kernel_rfl
theorem len8_at {x : Nat} (h0 : 0 < x) (h : x < 256) : ∃ t : Nat, getI len8L (x : Int) = some (UInt8.ofNat t) ∧ 0 < t ∧ t ≤ 8 ∧ 2 ^ (t - 1) ≤ x ∧ x < 2 ^ t := by
  have := List.all_eq_true.1 len8_all x (List.mem_range.2 h)
  simp only [Bool.or_eq_true, Bool.and_eq_true, decide_eq_true_eq] at this
  rcases this with h1 | h1
  · omega
  · refine ⟨(len8L.getD x 0).toNat, ?_, h1.1.2, h1.2, h1.1.1.1, h1.1.1.2⟩
    rw [getI_nat, UInt8.ofNat_toNat, List.getD_eq_getElem?_getD]
    have hl : x < len8L.length := by rw [len8_len]; exact h
    rw [List.getElem?_eq_getElem hl]; rfl
/-- A length of so many bits. -/
def bitsN (l u : Nat) : Prop := 0 < l ∧ 2 ^ (l - 1) ≤ u ∧ u < 2 ^ l
theorem lenL_at {off x : Nat} (ho : off ≤ 56) (h0 : 0 < x) (h : x < 256) : ∃ t, lenL off x = some (.int .i64 ((off + t : Nat) : Int)) ∧ bitsN t x ∧ t ≤ 8 := by
  obtain ⟨t, h1, h2, h3, h4, h5⟩ := len8_at h0 h
  refine ⟨t, ?_, ⟨h2, h4, h5⟩, h3⟩
  unfold lenL atK
  rw [u8_in (by omega) (by omega), h1]
  show some (AV.int .i64 (IntKind.wrap .i64 ((off : Int) + IntKind.wrap .i64 (u8I (UInt8.ofNat t))))) = _
  have e : u8I (UInt8.ofNat t) = (t : Int) := by unfold u8I; rw [UInt8.toNat_ofNat']; show ((t % 256 : Nat) : Int) = t; omega
  rw [e, i64_in (n := (t : Int)) (by omega) (by omega), i64_in (by omega) (by omega)]
  congr 2
theorem bits_up {t x s u : Nat} (h : bitsN t x) (hx : u / 2 ^ s = x) : bitsN (s + t) u := by
  obtain ⟨h1, h2, h3⟩ := h
  have hp : 0 < 2 ^ s := Nat.two_pow_pos s
  have e : s + t - 1 = (t - 1) + s := by omega
  refine ⟨by omega, ?_, ?_⟩
  · rw [e, Nat.pow_add]
    have : 2 ^ (t - 1) * 2 ^ s ≤ x * 2 ^ s := Nat.mul_le_mul_right _ h2
    exact Nat.le_trans this (by rw [← hx]; exact Nat.div_mul_le_self u (2 ^ s))
  · rw [Nat.add_comm s t, Nat.pow_add]
    rw [← hx] at h3
    exact (Nat.div_lt_iff_lt_mul hp).1 h3
theorem lenB_at {off x : Nat} (ho : off ≤ 48) (h0 : 0 < x) (h : x < 65536) : ∃ t, lenB off x = some (.int .i64 ((off + t : Nat) : Int)) ∧ bitsN t x ∧ t ≤ 16 := by
  unfold lenB
  rw [pick_nlt]
  split
  · have e : Int.fdiv (x : Int) 256 = ((x / 256 : Nat) : Int) := by rw [Int.fdiv_eq_ediv_of_nonneg _ (by omega)]; rfl
    obtain ⟨t, h1, h2, h3⟩ := lenL_at (off := off + 8) (x := x / 256) (by omega) (by omega) (by omega)
    rw [e]
    refine ⟨8 + t, ?_, bits_up (s := 8) h2 rfl, by omega⟩
    have : (((off + 8 : Nat) : Int)) = (off : Int) + 8 := by omega
    rw [this] at h1
    rw [h1]; congr 2; omega
  · obtain ⟨t, h1, h2, h3⟩ := lenL_at (off := off) (x := x) (by omega) (by omega) (by omega)
    exact ⟨t, h1, h2, by omega⟩
theorem lenC_at {off x : Nat} (ho : off ≤ 32) (h0 : 0 < x) (h : x < 4294967296) : ∃ t, lenC off x = some (.int .i64 ((off + t : Nat) : Int)) ∧ bitsN t x ∧ t ≤ 32 := by
  unfold lenC
  rw [pick_nlt]
  split
  · have e : Int.fdiv (x : Int) 65536 = ((x / 65536 : Nat) : Int) := by rw [Int.fdiv_eq_ediv_of_nonneg _ (by omega)]; rfl
    obtain ⟨t, h1, h2, h3⟩ := lenB_at (off := off + 16) (x := x / 65536) (by omega) (by omega) (by omega)
    rw [e]
    refine ⟨16 + t, ?_, bits_up (s := 16) h2 rfl, by omega⟩
    have : (((off + 16 : Nat) : Int)) = (off : Int) + 16 := by omega
    rw [this] at h1
    rw [h1]; congr 2; omega
  · obtain ⟨t, h1, h2, h3⟩ := lenB_at (off := off) (x := x) (by omega) (by omega) (by omega)
    exact ⟨t, h1, h2, by omega⟩
theorem len_at (gv : Nat → List AV) {u : Nat} (h0 : 0 < u) (h : u < 18446744073709551616) : ∃ t : Nat, enterT (Xg gv) (c0 gv AV) an0 5 85 [.int .u64 u] TMem.empty (fun v _ => some v) = some (.int .i64 (t : Int)) ∧ bitsN t u ∧ t ≤ 64 := by
  rw [tree85, pick_nlt]
  split
  · have e : Int.fdiv (u : Int) 4294967296 = ((u / 4294967296 : Nat) : Int) := by rw [Int.fdiv_eq_ediv_of_nonneg _ (by omega)]; rfl
    obtain ⟨t, h1, h2, h3⟩ := lenC_at (off := 32) (x := u / 4294967296) (by omega) (by omega) (by omega)
    rw [e]
    exact ⟨32 + t, h1, bits_up (s := 32) h2 rfl, by omega⟩
  · obtain ⟨t, h1, h2, h3⟩ := lenC_at (off := 0) (x := u) (by omega) (by omega) (by omega)
    rw [Nat.zero_add] at h1
    exact ⟨t, h1, h2, by omega⟩
theorem bits_one {l m u : Nat} (h : bitsN l u) (k : bitsN m u) : l = m := by
  obtain ⟨h1, h2, h3⟩ := h
  obtain ⟨k1, k2, k3⟩ := k
  have a : 2 ^ (l - 1) < 2 ^ m := by omega
  have b : 2 ^ (m - 1) < 2 ^ l := by omega
  have a := (Nat.pow_lt_pow_iff_right (a := 2) (by omega)).1 a
  have b := (Nat.pow_lt_pow_iff_right (a := 2) (by omega)).1 b
  omega
noncomputable def gLen (l : Nat) (args : List AV) : Option (Bool × List PRes) :=
  match args with
  | [.int .u64 u] => some (!ltI u ((2 ^ (l - 1) : Nat) : Int) && ltI u ((2 ^ l : Nat) : Int) && Nat.ble 1 l && Nat.ble l 64, [.val (.int .i64 (l : Int))])
  | _ => none
theorem con85 (gv : Nat → List AV) (l : Nat) : ConOk (Xg gv) (cfOf (Xg gv) noKnown) 85 (gLen l) :=
  con_vals (nk 85) (c0_ok gv) fun args rs hg => by
    unfold gLen at hg
    split at hg
    · rename_i u
      simp only [Option.some.injEq, Prod.mk.injEq, Bool.and_eq_true, ltI_spec, Bool.not_eq_true', decide_eq_false_iff_not, decide_eq_true_eq, Nat.ble_eq] at hg
      obtain ⟨⟨⟨⟨h1, h2⟩, h3⟩, h4⟩, rfl⟩ := hg
      have hp : 0 < 2 ^ (l - 1) := Nat.two_pow_pos _
      have hq : 2 ^ l ≤ 2 ^ 64 := Nat.pow_le_pow_right (by omega) h4
      obtain ⟨k, rfl⟩ : ∃ k : Nat, u = k := ⟨u.toNat, by omega⟩
      obtain ⟨t, e1, e2, e3⟩ := len_at gv (u := k) (by omega) (by omega)
      have : t = l := bits_one e2 ⟨h3, by omega, by omega⟩
      subst this
      exact ⟨[.int .i64 (t : Int)], an0, 5, e1, rfl, rfl⟩
    · cases hg

/-! numDigits -/
noncomputable def cl (l : Nat) (β : Type) : CallT β := callT (Xg gvL) (tab [(85, [none], gLen l)]) inl 20 β 20
theorem cl_ok (l : Nat) (β : Type) : CallTOk (Xg gvL) (cfOf (Xg gvL) noKnown) (cl l β) := callT_ok (show TabOk _ _ _ from .cons (con85 gvL l) .nil) (fun _ _ _ => rfl) 20 20 β
def ndl (l : Nat) : Nat := l * 78913 / 262144
noncomputable def run77 (l : Nat) (u : Int) : Option AV := enterT (Xg gvL) (cl l AV) an0 5 77 [.int .u64 u] TMem.empty (fun v _ => some v)
noncomputable def exp77 (l : Nat) (u : Int) : Option AV := pick2 (!ltI u ((2 ^ (l - 1) : Nat) : Int) && ltI u ((2 ^ l : Nat) : Int) && Nat.ble 1 l && Nat.ble l 64) (pick2 (!ltI u ((10 ^ ndl l : Nat) : Int)) (some (.int .i64 ((ndl l + 1 : Nat) : Int))) (some (.int .i64 (ndl l : Int)))) none
theorem nd1 (u : Int) : run77 1 u = exp77 1 u := by kernel_rfl
theorem nd2 (u : Int) : run77 2 u = exp77 2 u := by kernel_rfl
theorem nd3 (u : Int) : run77 3 u = exp77 3 u := by kernel_rfl
theorem nd4 (u : Int) : run77 4 u = exp77 4 u := by kernel_rfl
theorem nd5 (u : Int) : run77 5 u = exp77 5 u := by kernel_rfl
theorem nd6 (u : Int) : run77 6 u = exp77 6 u := by kernel_rfl
theorem nd7 (u : Int) : run77 7 u = exp77 7 u := by kernel_rfl
theorem nd8 (u : Int) : run77 8 u = exp77 8 u := by kernel_rfl
theorem nd9 (u : Int) : run77 9 u = exp77 9 u := by kernel_rfl
theorem nd10 (u : Int) : run77 10 u = exp77 10 u := by kernel_rfl
theorem nd11 (u : Int) : run77 11 u = exp77 11 u := by kernel_rfl
theorem nd12 (u : Int) : run77 12 u = exp77 12 u := by kernel_rfl
theorem nd13 (u : Int) : run77 13 u = exp77 13 u := by kernel_rfl
theorem nd14 (u : Int) : run77 14 u = exp77 14 u := by kernel_rfl
theorem nd15 (u : Int) : run77 15 u = exp77 15 u := by kernel_rfl
theorem nd16 (u : Int) : run77 16 u = exp77 16 u := by kernel_rfl
theorem nd17 (u : Int) : run77 17 u = exp77 17 u := by kernel_rfl
theorem nd18 (u : Int) : run77 18 u = exp77 18 u := by kernel_rfl
theorem nd19 (u : Int) : run77 19 u = exp77 19 u := by kernel_rfl
theorem nd20 (u : Int) : run77 20 u = exp77 20 u := by kernel_rfl
theorem nd21 (u : Int) : run77 21 u = exp77 21 u := by kernel_rfl
theorem nd22 (u : Int) : run77 22 u = exp77 22 u := by kernel_rfl
theorem nd23 (u : Int) : run77 23 u = exp77 23 u := by kernel_rfl
theorem nd24 (u : Int) : run77 24 u = exp77 24 u := by kernel_rfl
theorem nd25 (u : Int) : run77 25 u = exp77 25 u := by kernel_rfl
theorem nd26 (u : Int) : run77 26 u = exp77 26 u := by kernel_rfl
theorem nd27 (u : Int) : run77 27 u = exp77 27 u := by kernel_rfl
theorem nd28 (u : Int) : run77 28 u = exp77 28 u := by kernel_rfl
theorem nd29 (u : Int) : run77 29 u = exp77 29 u := by kernel_rfl
theorem nd30 (u : Int) : run77 30 u = exp77 30 u := by kernel_rfl
theorem nd31 (u : Int) : run77 31 u = exp77 31 u := by kernel_rfl
theorem nd32 (u : Int) : run77 32 u = exp77 32 u := by kernel_rfl
theorem nd33 (u : Int) : run77 33 u = exp77 33 u := by kernel_rfl
theorem nd34 (u : Int) : run77 34 u = exp77 34 u := by kernel_rfl
theorem nd35 (u : Int) : run77 35 u = exp77 35 u := by kernel_rfl
theorem nd36 (u : Int) : run77 36 u = exp77 36 u := by kernel_rfl
theorem nd37 (u : Int) : run77 37 u = exp77 37 u := by kernel_rfl
theorem nd38 (u : Int) : run77 38 u = exp77 38 u := by kernel_rfl
theorem nd39 (u : Int) : run77 39 u = exp77 39 u := by kernel_rfl
theorem nd40 (u : Int) : run77 40 u = exp77 40 u := by kernel_rfl
theorem nd41 (u : Int) : run77 41 u = exp77 41 u := by kernel_rfl
theorem nd42 (u : Int) : run77 42 u = exp77 42 u := by kernel_rfl
theorem nd43 (u : Int) : run77 43 u = exp77 43 u := by kernel_rfl
theorem nd44 (u : Int) : run77 44 u = exp77 44 u := by kernel_rfl
theorem nd45 (u : Int) : run77 45 u = exp77 45 u := by kernel_rfl
theorem nd46 (u : Int) : run77 46 u = exp77 46 u := by kernel_rfl
theorem nd47 (u : Int) : run77 47 u = exp77 47 u := by kernel_rfl
theorem nd48 (u : Int) : run77 48 u = exp77 48 u := by kernel_rfl
theorem nd49 (u : Int) : run77 49 u = exp77 49 u := by kernel_rfl
theorem nd50 (u : Int) : run77 50 u = exp77 50 u := by kernel_rfl
theorem nd51 (u : Int) : run77 51 u = exp77 51 u := by kernel_rfl
theorem nd52 (u : Int) : run77 52 u = exp77 52 u := by kernel_rfl
theorem nd53 (u : Int) : run77 53 u = exp77 53 u := by kernel_rfl
theorem nd54 (u : Int) : run77 54 u = exp77 54 u := by kernel_rfl
theorem nd55 (u : Int) : run77 55 u = exp77 55 u := by kernel_rfl
theorem nd56 (u : Int) : run77 56 u = exp77 56 u := by kernel_rfl
theorem nd57 (u : Int) : run77 57 u = exp77 57 u := by kernel_rfl
theorem nd58 (u : Int) : run77 58 u = exp77 58 u := by kernel_rfl
theorem nd59 (u : Int) : run77 59 u = exp77 59 u := by kernel_rfl
theorem nd60 (u : Int) : run77 60 u = exp77 60 u := by kernel_rfl
theorem nd61 (u : Int) : run77 61 u = exp77 61 u := by kernel_rfl
theorem nd62 (u : Int) : run77 62 u = exp77 62 u := by kernel_rfl
theorem nd63 (u : Int) : run77 63 u = exp77 63 u := by kernel_rfl
theorem nd64 (u : Int) : run77 64 u = exp77 64 u := by kernel_rfl
theorem nd_all (u : Int) : ∀ l : Nat, 1 ≤ l → l ≤ 64 → run77 l u = exp77 l u
  | 1, _, _ => nd1 u
  | 2, _, _ => nd2 u
  | 3, _, _ => nd3 u
  | 4, _, _ => nd4 u
  | 5, _, _ => nd5 u
  | 6, _, _ => nd6 u
  | 7, _, _ => nd7 u
  | 8, _, _ => nd8 u
  | 9, _, _ => nd9 u
  | 10, _, _ => nd10 u
  | 11, _, _ => nd11 u
  | 12, _, _ => nd12 u
  | 13, _, _ => nd13 u
  | 14, _, _ => nd14 u
  | 15, _, _ => nd15 u
  | 16, _, _ => nd16 u
  | 17, _, _ => nd17 u
  | 18, _, _ => nd18 u
  | 19, _, _ => nd19 u
  | 20, _, _ => nd20 u
  | 21, _, _ => nd21 u
  | 22, _, _ => nd22 u
  | 23, _, _ => nd23 u
  | 24, _, _ => nd24 u
  | 25, _, _ => nd25 u
  | 26, _, _ => nd26 u
  | 27, _, _ => nd27 u
  | 28, _, _ => nd28 u
  | 29, _, _ => nd29 u
  | 30, _, _ => nd30 u
  | 31, _, _ => nd31 u
  | 32, _, _ => nd32 u
  | 33, _, _ => nd33 u
  | 34, _, _ => nd34 u
  | 35, _, _ => nd35 u
  | 36, _, _ => nd36 u
  | 37, _, _ => nd37 u
  | 38, _, _ => nd38 u
  | 39, _, _ => nd39 u
  | 40, _, _ => nd40 u
  | 41, _, _ => nd41 u
  | 42, _, _ => nd42 u
  | 43, _, _ => nd43 u
  | 44, _, _ => nd44 u
  | 45, _, _ => nd45 u
  | 46, _, _ => nd46 u
  | 47, _, _ => nd47 u
  | 48, _, _ => nd48 u
  | 49, _, _ => nd49 u
  | 50, _, _ => nd50 u
  | 51, _, _ => nd51 u
  | 52, _, _ => nd52 u
  | 53, _, _ => nd53 u
  | 54, _, _ => nd54 u
  | 55, _, _ => nd55 u
  | 56, _, _ => nd56 u
  | 57, _, _ => nd57 u
  | 58, _, _ => nd58 u
  | 59, _, _ => nd59 u
  | 60, _, _ => nd60 u
  | 61, _, _ => nd61 u
  | 62, _, _ => nd62 u
  | 63, _, _ => nd63 u
  | 64, _, _ => nd64 u
  | 0, h, _ => absurd h (by omega)
  | l + 65, _, h => absurd h (by omega)
theorem nd_pow : ((List.range 65).all fun l => decide (l = 0) || (decide (10 ^ (ndl l - 1) ≤ 2 ^ (l - 1)) && decide (2 ^ l ≤ 10 ^ (ndl l + 1)))) = true := by decide +kernel
theorem nd_at {u k : Nat} (hk : 0 < k) (h0 : 10 ^ (k - 1) ≤ u) (h1 : u < 10 ^ k) (h64 : u < 18446744073709551616) : ∃ l, run77 l u = some (.int .i64 (k : Int)) := by
  have hu : 0 < u := Nat.lt_of_lt_of_le (Nat.pow_pos (by omega)) h0
  obtain ⟨l, _, ⟨b1, b2, b3⟩, b4⟩ := len_at gvL hu h64
  refine ⟨l, ?_⟩
  rw [nd_all u l b1 b4]
  have hp := List.all_eq_true.1 nd_pow l (List.mem_range.2 (by omega))
  simp only [Bool.or_eq_true, Bool.and_eq_true, decide_eq_true_eq] at hp
  obtain ⟨p1, p2⟩ : 10 ^ (ndl l - 1) ≤ 2 ^ (l - 1) ∧ 2 ^ l ≤ 10 ^ (ndl l + 1) := by
    rcases hp with h | h
    · omega
    · exact h
  have pw : ∀ a b : Nat, 10 ^ a < 10 ^ b → a < b := fun a b h => (Nat.pow_lt_pow_iff_right (a := 10) (by omega)).1 h
  have k1 := pw (k - 1) (ndl l + 1) (by omega)
  unfold exp77
  rw [ltF (by omega), ltT (by omega), bleT b1, bleT b4]
  show pick2 (!ltI (u : Int) ((10 ^ ndl l : Nat) : Int)) _ _ = _
  rw [pick_nlt]
  split
  · have k2 := pw (ndl l) k (by omega)
    have : k = ndl l + 1 := by omega
    rw [this]
  · have k2 := pw (k - 1) (ndl l) (by omega)
    have k3 := pw (ndl l - 1) k (by omega)
    have : k = ndl l := by omega
    rw [this]
noncomputable def gNd (k : Nat) (args : List AV) : Option (Bool × List PRes) :=
  match args with
  | [.int .u64 u] => some (!ltI u ((10 ^ (k - 1) : Nat) : Int) && ltI u ((10 ^ k : Nat) : Int) && ltI u 18446744073709551616 && Nat.ble 1 k, [.val (.int .i64 (k : Int))])
  | _ => none
theorem con77 (k : Nat) : ConOk (Xg gvL) (cfOf (Xg gvL) noKnown) 77 (gNd k) := fun args rs hg => by
  unfold gNd at hg
  split at hg
  · rename_i u
    simp only [Option.some.injEq, Prod.mk.injEq, Bool.and_eq_true, ltI_spec, Bool.not_eq_true', decide_eq_false_iff_not, decide_eq_true_eq, Nat.ble_eq] at hg
    obtain ⟨⟨⟨⟨h1, h2⟩, h3⟩, h4⟩, rfl⟩ := hg
    have hp : 0 < 10 ^ (k - 1) := Nat.pow_pos (by omega)
    obtain ⟨v, rfl⟩ : ∃ v : Nat, u = v := ⟨u.toNat, by omega⟩
    obtain ⟨l, hl⟩ := nd_at (u := v) (k := k) h4 (by omega) (by omega) (by omega)
    refine con_vals (g := fun args => match args with | [.int .u64 u] => some (decide (u = (v : Int)), [.val (.int .i64 (k : Int))]) | _ => none) (nk 77) (cl_ok l) (fun args rs hg => ?_) [.int .u64 v] _ (by simp)
    split at hg
    · rename_i u'
      simp only [Option.some.injEq, Prod.mk.injEq, decide_eq_true_eq] at hg
      obtain ⟨rfl, rfl⟩ := hg
      exact ⟨[.int .i64 (k : Int)], an0, 5, hl, rfl, rfl⟩
    · cases hg
  · cases hg
end Go.Proofs.YtcafcgiemdlobaaDoor.lt

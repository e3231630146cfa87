/- CondCompares comes to true. -/
import Derived.Test.YtpabmjpkkhmidaaCcA
namespace Go.Proofs.Ytpabmjpkkhmidaa.condCompares
open Go.Tv Go.Ev

theorem pk_lt (n : Int) : ∃ m : Nat, pk n = Int.ofNat m ∧ m < 16 := by
  unfold pk
  rw [pick2_eq]
  have h1 := Int.tmod_lt_of_pos n (b := 16) (by omega)
  have h2 := Int.tmod_lt_of_pos (-n) (b := 16) (by omega)
  rw [Int.neg_tmod] at h2
  split
  · rename_i h
    rw [ltI_spec, decide_eq_true_eq] at h
    have e : IntKind.wrap .i64 (Int.tmod n 16 + 16) = Int.tmod n 16 + 16 := by
      simp only [IntKind.wrap, IntKind.bits, IntKind.signed]
      have : (Int.tmod n 16 + 16) % (2 ^ 64 : Int) = Int.tmod n 16 + 16 := by omega
      simp only [this]
      rw [if_neg]
      simp; omega
    rw [e]
    exact ⟨(Int.tmod n 16 + 16).toNat, by show _ = ((Int.tmod n 16 + 16).toNat : Int); omega, by omega⟩
  · rename_i h
    rw [ltI_spec, decide_eq_true_eq] at h
    exact ⟨(Int.tmod n 16).toNat, by show _ = ((Int.tmod n 16).toNat : Int); omega, by omega⟩

theorem run_true {a b : Int} (h0 : 0 ≤ a) (h1 : a < 256) (h2 : 0 ≤ b) (h3 : b < 256) {n : Int} {m : Nat} (hm : m < 16) (hn : pk n = Int.ofNat m) : run8 m a b n = some (.bool true) := by
  have hc : ∀ m : Nat, pk n = Int.ofNat m → (eqI (pk n) (Int.ofNat m) && eqI 16 16) = true := fun m h => by rw [h]; simp only [eqI_spec]; simp
  match m, hm, hn with
  | 0, _, hn => rw [tr0]; have h := hc 0 hn; rw [show (eqI (pk n) 0 && eqI 16 16) = true from h]; exact y0 h0 h1 h2 h3
  | 1, _, hn => rw [tr1]; have h := hc 1 hn; rw [show (eqI (pk n) 1 && eqI 16 16) = true from h]; exact y1 h0 h1 h2 h3
  | 2, _, hn => rw [tr2]; have h := hc 2 hn; rw [show (eqI (pk n) 2 && eqI 16 16) = true from h]; exact y2 h0 h1 h2 h3
  | 3, _, hn => rw [tr3]; have h := hc 3 hn; rw [show (eqI (pk n) 3 && eqI 16 16) = true from h]; exact y3 h0 h1 h2 h3
  | 4, _, hn => rw [tr4]; have h := hc 4 hn; rw [show (eqI (pk n) 4 && eqI 16 16) = true from h]; exact y4 h0 h1 h2 h3
  | 5, _, hn => rw [tr5]; have h := hc 5 hn; rw [show (eqI (pk n) 5 && eqI 16 16) = true from h]; exact y5 h0 h1 h2 h3
  | 6, _, hn => rw [tr6]; have h := hc 6 hn; rw [show (eqI (pk n) 6 && eqI 16 16) = true from h]; exact y6 h0 h1 h2 h3
  | 7, _, hn => rw [tr7]; have h := hc 7 hn; rw [show (eqI (pk n) 7 && eqI 16 16) = true from h]; exact y7 h0 h1 h2 h3
  | 8, _, hn => rw [tr8]; have h := hc 8 hn; rw [show (eqI (pk n) 8 && eqI 16 16) = true from h]; exact y8 h0 h1 h2 h3
  | 9, _, hn => rw [tr9]; have h := hc 9 hn; rw [show (eqI (pk n) 9 && eqI 16 16) = true from h]; exact y9 h0 h1 h2 h3
  | 10, _, hn => rw [tr10]; have h := hc 10 hn; rw [show (eqI (pk n) 10 && eqI 16 16) = true from h]; exact y10 h0 h1 h2 h3
  | 11, _, hn => rw [tr11]; have h := hc 11 hn; rw [show (eqI (pk n) 11 && eqI 16 16) = true from h]; exact y11 h0 h1 h2 h3
  | 12, _, hn => rw [tr12]; have h := hc 12 hn; rw [show (eqI (pk n) 12 && eqI 16 16) = true from h]; exact y12 h0 h1 h2 h3
  | 13, _, hn => rw [tr13]; have h := hc 13 hn; rw [show (eqI (pk n) 13 && eqI 16 16) = true from h]; exact y13 h0 h1 h2 h3
  | 14, _, hn => rw [tr14]; have h := hc 14 hn; rw [show (eqI (pk n) 14 && eqI 16 16) = true from h]; exact y14 h0 h1 h2 h3
  | m + 16, hm, _ => exact absurd hm (by omega)
  | 15, _, hn => rw [tr15]; have h := hc 15 hn; rw [show (eqI (pk n) 15 && eqI 16 16) = true from h]; exact y15 h0 h1 h2 h3

theorem law8 {w : World} {args : List Value} {a b : Int} (h0 : 0 ≤ a) (h1 : a < 256) (h2 : 0 ≤ b) (h3 : b < 256) (n : Int) (ha : LV (woOf w) [.int .u8 a, .int .u8 b, .int .i64 n] args) :
    Calls Try.prog 8 args.toArray w fun e w' => e = .returned (.bool true) ∧ RowKit.Below w.heap.size w w' := by
  obtain ⟨m, hm, hlt⟩ := pk_lt n
  exact top_ok (X := X0) noOwn mixed kn_ok (v := .bool true) (fun S x hx => hx.bool_inv) rfl (fun S E argsE hr hg hl => top_run (inl_ok 8 rfl) (cc_ok (Int.ofNat m)) (run_true h0 h1 h2 h3 hlt hm) S E argsE hr hg hl) (Nat.zero_le _) (fun g hg => absurd hg (Nat.not_lt_zero _)) ha rfl

theorem byte {n : Int} (h : (Lit.int .u8 n).wf = true) : 0 ≤ n ∧ n < 256 := by
  simp only [Lit.wf, IntKind.min, IntKind.max, IntKind.bits, IntKind.signed, Bool.and_eq_true, decide_eq_true_eq] at h
  simp at h
  omega
end Go.Proofs.Ytpabmjpkkhmidaa.condCompares

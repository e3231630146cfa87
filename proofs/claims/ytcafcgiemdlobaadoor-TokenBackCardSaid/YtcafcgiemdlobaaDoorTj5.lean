/- How a token is written. -/
import Derived.Test.YtcafcgiemdlobaaDoorTj4
namespace Go.Proofs.YtcafcgiemdlobaaDoor.lt
open Go.Tv Go.Ev

/-- A token, written. -/
def writS (y : Piece) : List UInt8 := if y.1 = 2 then (if y.2.1 < 0 then unsS (IntKind.wrap .u64 y.2.1) else telS 16 [48, 120] y.2.1) else if y.1 = 3 then [34] ++ y.2.2.1 ++ [34] else y.2.2.1
noncomputable def treeW (y : Piece) : Option AV :=
  pick2 (eqI y.1 2) (pick2 (ltI y.2.1 0) (pick2 (!ltI (IntKind.wrap .u64 y.2.1) 0) (some (.str (unsS (IntKind.wrap .u64 y.2.1)))) none) (pick2 (!ltI y.2.1 (-9223372036854775808) && ltI y.2.1 9223372036854775808) (some (.str (telS 16 [48, 120] y.2.1))) none))
    (pick2 (eqI y.1 3) (pick2 (Nat.ble (1 + y.2.2.1.length) 9223372036854775807) (pick2 (Nat.ble (([34] ++ y.2.2.1).length + 1) 9223372036854775807) (some (.str ([34] ++ y.2.2.1 ++ [34]))) none) none) (some (.str y.2.2.1)))
theorem tree56 (y : Piece) : enterT (Xg gvT) (d7' AV) an0 20 56 [tokA y] TMem.empty (fun v _ => some v) = treeW y := by kernel_rfl
theorem u64_nn (n : Int) : 0 ≤ IntKind.wrap .u64 n := by rw [u64_mod]; omega
theorem treeW_eq (y : Piece) (h0 : -9223372036854775808 ≤ y.2.1) (h1 : y.2.1 < 9223372036854775808) (hs : y.2.2.1.length ≤ 1100) : treeW y = some (.str (writS y)) := by
  unfold treeW writS
  rw [pick_eq, pick_lt, ltF (u64_nn _), ltF h0, ltT h1, pick_eq, bleT (by omega), bleT (by simp; omega)]
  split
  · split <;> rfl
  · split <;> rfl
noncomputable def gWr (args : List AV) : Option (Bool × List PRes) :=
  match args with
  | [.agg [.int .i64 k, .int .i64 n, .str s, .int .i64 a]] => some (!ltI n (-9223372036854775808) && ltI n 9223372036854775808 && Nat.ble s.length 1100, [.val (.str (writS (k, n, s, a)))])
  | _ => none
theorem con56 : ConOk (Xg gvT) (cfOf (Xg gvT) noKnown) 56 gWr :=
  con_vals (nk 56) d7'_ok fun args rs hg => by
    unfold gWr at hg
    split at hg
    · rename_i k n s a
      simp only [Option.some.injEq, Prod.mk.injEq, Bool.and_eq_true, ltI_spec, Bool.not_eq_true', decide_eq_false_iff_not, decide_eq_true_eq, Nat.ble_eq] at hg
      obtain ⟨⟨⟨h1, h2⟩, h3⟩, rfl⟩ := hg
      exact ⟨[.str (writS (k, n, s, a))], an0, 20, (tree56 (k, n, s, a)).trans (treeW_eq (k, n, s, a) (by show -9223372036854775808 ≤ n; omega) h2 h3), rfl, rfl⟩
    · cases hg
noncomputable def dX (n K : Int) : Int := IntKind.wrap .i64 (and15 (Int.fdiv n K))
noncomputable def treeX (n : Int) : List Int → List UInt8 → Option AV
  | [], s => pick2 (Nat.ble (2 + s.length) 9223372036854775807) (some (.str ([48, 120] ++ s))) none
  | K :: l, s => pick2 (!ltI (dX n K) 0 && !ltI (IntKind.wrap .i64 (dX n K + 1)) (dX n K) && !ltI 16 (IntKind.wrap .i64 (dX n K + 1)))
      (pick2 (Nat.ble (s.length + (cutL digs16 (dX n K) (IntKind.wrap .i64 (dX n K + 1))).length) 9223372036854775807) (treeX n l (s ++ cutL digs16 (dX n K) (IntKind.wrap .i64 (dX n K + 1)))) none) none
def pows : List Int := [1152921504606846976, 72057594037927936, 4503599627370496, 281474976710656, 17592186044416, 1099511627776, 68719476736, 4294967296, 268435456, 16777216, 1048576, 65536, 4096, 256, 16, 1]
theorem tree60 (n : Int) : enterT (Xg gvT) (d7' AV) an0 20 60 [.int .i64 n] TMem.empty (fun v _ => some v) =
    pick2 (!ltI n 0) (pick2 (!ltI n (-9223372036854775808) && ltI n 9223372036854775808 && !ltI 16 2 && !ltI 16 16 && Nat.ble 2 999) (some (.str (telS 16 [48, 120] n))) none) (treeX n pows []) := by kernel_rfl
theorem treeX_eq (n : Int) : ∀ (l : List Int) (s : List UInt8), (∀ K ∈ l, 0 < K) → s.length + l.length ≤ 1000 → treeX n l s = some (.str ([48, 120] ++ (s ++ l.map fun K => dgI (n / K % 16))))
  | [], s, _, h => by rw [treeX, bleT (by simp at h; omega)]; simp
  | K :: l, s, hk, h => by
    simp only [List.length_cons] at h
    have h0 : 0 < K := hk K (by simp)
    have e : dX n K = n / K % 16 := by
      unfold dX
      rw [and15_eq, Int.fdiv_eq_ediv_of_nonneg _ (by omega), i64_in (by omega) (by omega)]
    rw [treeX, e]
    have d0 : 0 ≤ n / K % 16 := by omega
    have d1 : n / K % 16 < 16 := by omega
    rw [i64_in (n := n / K % 16 + 1) (by omega) (by omega), ltF d0, ltF (by omega), ltF (by omega), cut_dg d0 d1, bleT (by simp; omega)]
    show treeX n l (s ++ [dgI (n / K % 16)]) = _
    rw [treeX_eq n l _ (fun x hx => hk x (by simp [hx])) (by simp; omega)]
    simp
theorem uns_neg {n : Int} (h0 : -9223372036854775808 ≤ n) (h1 : n < 0) : unsS (IntKind.wrap .u64 n) = [48, 120] ++ pows.map fun K => dgI (n / K % 16) := by
  rw [u64_mod]
  have hu : n % 18446744073709551616 = n + 18446744073709551616 := by omega
  rw [hu]
  generalize hv : n + 18446744073709551616 = u
  unfold unsS pows
  simp only [setD, List.set, List.map, iU8_u8I, Nat.reduceSub, List.cons_append, List.nil_append]
  have k0 : u / 16 / 16 / 16 / 16 / 16 / 16 / 16 / 16 / 16 / 16 / 16 / 16 / 16 / 16 / 16 % 16 = n / 1152921504606846976 % 16 := by omega
  have k1 : u / 16 / 16 / 16 / 16 / 16 / 16 / 16 / 16 / 16 / 16 / 16 / 16 / 16 / 16 % 16 = n / 72057594037927936 % 16 := by omega
  have k2 : u / 16 / 16 / 16 / 16 / 16 / 16 / 16 / 16 / 16 / 16 / 16 / 16 / 16 % 16 = n / 4503599627370496 % 16 := by omega
  have k3 : u / 16 / 16 / 16 / 16 / 16 / 16 / 16 / 16 / 16 / 16 / 16 / 16 % 16 = n / 281474976710656 % 16 := by omega
  have k4 : u / 16 / 16 / 16 / 16 / 16 / 16 / 16 / 16 / 16 / 16 / 16 % 16 = n / 17592186044416 % 16 := by omega
  have k5 : u / 16 / 16 / 16 / 16 / 16 / 16 / 16 / 16 / 16 / 16 % 16 = n / 1099511627776 % 16 := by omega
  have k6 : u / 16 / 16 / 16 / 16 / 16 / 16 / 16 / 16 / 16 % 16 = n / 68719476736 % 16 := by omega
  have k7 : u / 16 / 16 / 16 / 16 / 16 / 16 / 16 / 16 % 16 = n / 4294967296 % 16 := by omega
  have k8 : u / 16 / 16 / 16 / 16 / 16 / 16 / 16 % 16 = n / 268435456 % 16 := by omega
  have k9 : u / 16 / 16 / 16 / 16 / 16 / 16 % 16 = n / 16777216 % 16 := by omega
  have k10 : u / 16 / 16 / 16 / 16 / 16 % 16 = n / 1048576 % 16 := by omega
  have k11 : u / 16 / 16 / 16 / 16 % 16 = n / 65536 % 16 := by omega
  have k12 : u / 16 / 16 / 16 % 16 = n / 4096 % 16 := by omega
  have k13 : u / 16 / 16 % 16 = n / 256 % 16 := by omega
  have k14 : u / 16 % 16 = n / 16 % 16 := by omega
  have k15 : u % 16 = n / 1 % 16 := by omega
  rw [k0, k1, k2, k3, k4, k5, k6, k7, k8, k9, k10, k11, k12, k13, k14, k15]
  rfl
def hexS (n : Int) : List UInt8 := if n < 0 then unsS (IntKind.wrap .u64 n) else telS 16 [48, 120] n
noncomputable def gHexX (args : List AV) : Option (Bool × List PRes) :=
  match args with
  | [.int .i64 n] => some (!ltI n (-9223372036854775808) && ltI n 9223372036854775808, [.val (.str (hexS n))])
  | _ => none
theorem run60 (n : Int) (h0 : -9223372036854775808 ≤ n) (h1 : n < 9223372036854775808) : enterT (Xg gvT) (d7' AV) an0 20 60 [.int .i64 n] TMem.empty (fun v _ => some v) = some (.str (hexS n)) := by
  rw [tree60, pick_nlt]
  unfold hexS
  split
  · rw [ltF h0, ltT h1, if_neg (by omega)]; rfl
  · rw [if_pos (by omega), treeX_eq n pows [] (by decide) (by decide), uns_neg h0 (by omega)]; rfl
theorem con60 : ConOk (Xg gvT) (cfOf (Xg gvT) noKnown) 60 gHexX :=
  con_vals (nk 60) d7'_ok fun args rs hg => by
    unfold gHexX at hg
    split at hg
    · rename_i n
      simp only [Option.some.injEq, Prod.mk.injEq, Bool.and_eq_true, ltI_spec, Bool.not_eq_true', decide_eq_false_iff_not, decide_eq_true_eq] at hg
      obtain ⟨⟨h1, h2⟩, rfl⟩ := hg
      exact ⟨[.str (hexS n)], an0, 20, run60 n (by omega) h2, rfl, rfl⟩
    · cases hg
noncomputable def M8' : List Con := (56, [none], gWr) :: (60, [none], gHexX) :: M7'
theorem M8'_ok : TabOk (Xg gvT) (cfOf (Xg gvT) noKnown) M8' := .cons con56 (.cons con60 M7'_ok)
noncomputable def d8' (β : Type) : CallT β := callT (Xg gvT) (tab M8') inl 200 β 20
theorem d8'_ok (β : Type) : CallTOk (Xg gvT) (cfOf (Xg gvT) noKnown) (d8' β) := callT_ok M8'_ok (fun _ _ _ => rfl) 200 20 β
end Go.Proofs.YtcafcgiemdlobaaDoor.lt

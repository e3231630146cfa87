/- Contracts of Read and LentBytes. -/
import Derived.Test.YtpabmjpkkhmidaaRx17
import Derived.Test.YtpabmjpkkhmidaaRx18
import Derived.Test.YtpabmjpkkhmidaaRxL
namespace Go.Proofs.Ytpabmjpkkhmidaa
open Go.Tv Go.Ev

theorem okB_spec {l : List Int} (h : okB l = true) : ∀ n ∈ l, ∃ i : Nat, n = Int.ofNat i ∧ i < 256 := fun n hn => by
  have := List.all_eq_true.1 h n hn
  simp only [ltI_spec, Bool.and_eq_true, Bool.not_eq_true', decide_eq_true_eq, decide_eq_false_iff_not] at this
  exact ⟨n.toNat, by show n = (n.toNat : Int); omega, by omega⟩

theorem four {p : Nat → Bool} (h0 : allN p 0 64 = true) (h1 : allN p 64 64 = true) (h2 : allN p 128 64 = true) (h3 : allN p 192 64 = true) (i : Nat) (hi : i < 256) : p i = true := by
  by_cases a : i < 64
  · exact allN_spec h0 i (by omega) (by omega)
  by_cases b : i < 128
  · exact allN_spec h1 i (by omega) (by omega)
  by_cases c : i < 192
  · exact allN_spec h2 i (by omega) (by omega)
  · exact allN_spec h3 i (by omega) (by omega)

theorem reads_all {f : FuncId} (e0 : reads f [] = true) (e1 : reads f [102] = true) (e2 : reads f [102, 242] = true) (e3 : reads f [102, 243] = true) (e4 : reads f [242] = true) (e5 : reads f [243] = true)
    (r0 : ∀ (t : List Int) (i : Nat), i < 256 → pick2 (end1 i) true (reads f (Int.ofNat i :: t)) = true)
    (r1 : ∀ (t : List Int) (i : Nat), i < 256 → pick2 (end2 i) true (reads f (102 :: Int.ofNat i :: t)) = true)
    (r2 : ∀ (t : List Int) (i : Nat), i < 256 → reads f (102 :: 242 :: Int.ofNat i :: t) = true)
    (r3 : ∀ (t : List Int) (i : Nat), i < 256 → reads f (102 :: 243 :: Int.ofNat i :: t) = true)
    (r4 : ∀ (t : List Int) (i : Nat), i < 256 → reads f (242 :: Int.ofNat i :: t) = true)
    (r5 : ∀ (t : List Int) (i : Nat), i < 256 → reads f (243 :: Int.ofNat i :: t) = true) (l : List Int) (h : okB l = true) : reads f l = true := by
  have ok := okB_spec h
  clear h
  cases l with
  | nil => exact e0
  | cons a t =>
    obtain ⟨i, rfl, hi⟩ := ok a (by simp)
    have h0 := r0 t i hi
    rw [pick2_eq] at h0
    split at h0
    · rename_i hend
      simp only [end1, Bool.or_eq_true, Nat.beq_eq] at hend
      cases t with
      | nil =>
        rcases hend with (rfl | rfl) | rfl
        · exact e1
        · exact e4
        · exact e5
      | cons b t =>
        obtain ⟨j, rfl, hj⟩ := ok b (by simp)
        rcases hend with (rfl | rfl) | rfl
        · have h1 := r1 t j hj
          rw [pick2_eq] at h1
          split at h1
          · rename_i hend
            simp only [end2, Bool.or_eq_true, Nat.beq_eq] at hend
            cases t with
            | nil =>
              rcases hend with rfl | rfl
              · exact e2
              · exact e3
            | cons c t =>
              obtain ⟨m, rfl, hm⟩ := ok c (by simp)
              rcases hend with rfl | rfl
              · exact r2 t m hm
              · exact r3 t m hm
          · exact h1
        · exact r4 t j hj
        · exact r5 t j hj
    · exact h0

theorem read17 : ∀ l, okB l = true → reads 17 l = true :=
  reads_all e17 e17h102 e17h102n242 e17h102n243 e17h242 e17h243
    (fun t => four (r17h0_0 t) (r17h0_1 t) (r17h0_2 t) (r17h0_3 t)) (fun t => four (r17h102_0 t) (r17h102_1 t) (r17h102_2 t) (r17h102_3 t))
    (fun t => four (r17h102n242_0 t) (r17h102n242_1 t) (r17h102n242_2 t) (r17h102n242_3 t)) (fun t => four (r17h102n243_0 t) (r17h102n243_1 t) (r17h102n243_2 t) (r17h102n243_3 t))
    (fun t => four (r17h242_0 t) (r17h242_1 t) (r17h242_2 t) (r17h242_3 t)) (fun t => four (r17h243_0 t) (r17h243_1 t) (r17h243_2 t) (r17h243_3 t))
theorem read18 : ∀ l, okB l = true → reads 18 l = true :=
  reads_all e18 e18h102 e18h102n242 e18h102n243 e18h242 e18h243
    (fun t => four (r18h0_0 t) (r18h0_1 t) (r18h0_2 t) (r18h0_3 t)) (fun t => four (r18h102_0 t) (r18h102_1 t) (r18h102_2 t) (r18h102_3 t))
    (fun t => four (r18h102n242_0 t) (r18h102n242_1 t) (r18h102n242_2 t) (r18h102n242_3 t)) (fun t => four (r18h102n243_0 t) (r18h102n243_1 t) (r18h102n243_2 t) (r18h102n243_3 t))
    (fun t => four (r18h242_0 t) (r18h242_1 t) (r18h242_2 t) (r18h242_3 t)) (fun t => four (r18h243_0 t) (r18h243_1 t) (r18h243_2 t) (r18h243_3 t))

theorem is3_spec {r : Option (AV × TMem)} {x : Int × Int × Int} (h : is3 r x = true) : ∃ H, r = some (.tup [.int .i64 x.1, .int .i64 x.2.1, .int .i64 x.2.2], H) := by
  unfold is3 at h
  split at h
  · rename_i a b c H x
    simp only [eqI_spec, Bool.and_eq_true, beq_iff_eq] at h
    obtain ⟨⟨rfl, rfl⟩, rfl⟩ := h
    exact ⟨_, rfl⟩
  · cases h

noncomputable def gRd (args : List AV) : Option (Bool × List PRes) :=
  match args with
  | [a] => match asL (.int .u8) a with
    | some l => some (okB l, [.val (.int .i64 (rd l).1), .val (.int .i64 (rd l).2.1), .val (.int .i64 (rd l).2.2)])
    | none => none
  | _ => none
noncomputable def gLent (args : List AV) : Option (Bool × List PRes) :=
  match args with
  | [a] => match asL (.int .u8) a with
    | some l => some (Nat.ble l.length 1000, [.room 5 (.int .u8) (lent l) l.length])
    | none => none
  | _ => none
noncomputable def gTrue (args : List AV) : Option (Bool × List PRes) :=
  match args with
  | [] => some (true, [.val (.bool true)])
  | _ => none

theorem gRd_spec {args : List AV} {rs : List PRes} (h : gRd args = some (true, rs)) : ∃ l, args = [.lst (.int .u8) l] ∧ okB l = true ∧ rs = [.val (.int .i64 (rd l).1), .val (.int .i64 (rd l).2.1), .val (.int .i64 (rd l).2.2)] := by
  unfold gRd at h
  split at h
  · rename_i a
    split at h
    · rename_i l hl
      injection h with h; injection h with h1 h2
      exact ⟨l, by rw [asL_spec hl], h1, h2.symm⟩
    · cases h
  · cases h

theorem con_read {f : FuncId} (hk : ∀ args, kn f args = none) (h : ∀ l, okB l = true → reads f l = true) : ConOk X0 (cfOf X0 kn) f gRd :=
  con_of hk c0_ok fun args rs hg => by
    obtain ⟨l, rfl, hl, rfl⟩ := gRd_spec hg
    obtain ⟨H, hH⟩ := is3_spec (h l hl)
    exact ⟨[_, _, _], H, an0, 40, hH, ⟨rfl, rfl, rfl, rfl, rfl, rfl, trivial⟩⟩

theorem con17 : ConOk X0 (cfOf X0 kn) 17 gRd := con_read (inl_ok 17 rfl) read17
theorem con18 : ConOk X0 (cfOf X0 kn) 18 gRd := con_read (inl_ok 18 rfl) read18

theorem con16 : ConOk X0 (cfOf X0 kn) 16 gLent :=
  con_of (inl_ok 16 rfl) c0_ok fun args rs hg => by
    unfold gLent at hg
    split at hg
    · rename_i a
      split at hg
      · rename_i l hl
        injection hg with h; injection h with h1 h2
        subst h2
        rw [asL_spec hl]
        refine ⟨[_], _, an0, 5, lent_run l (Nat.le_of_ble_eq_true h1) _, rfl, 0, 4, ?_, rfl, by simp, trivial⟩
        simp [lent]
      · cases hg
    · cases hg

theorem con15 : ConOk X0 (cfOf X0 kn) 15 gTrue :=
  con_known fun args rs hg => by
    unfold gTrue at hg
    split at hg
    · injection hg with h; injection h with h1 h2
      subst h2
      refine ⟨.bool true, .bool true, rfl, rfl, fun S => .bool true, rfl, fun S argsE hl => ?_⟩
      have : argsE = [] := List.length_eq_zero_iff.1 hl.1.symm
      subst this
      exact ⟨rfl, rfl⟩
    · cases hg
end Go.Proofs.Ytpabmjpkkhmidaa

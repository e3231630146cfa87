/- source.lines: the law of its iterator. -/
import Derived.Test.YtfggompceldfgaaGreatDoorSp
namespace Go.Proofs.YtfggompceldfgaaGreatDoor.sl
open Go.RowKit Go.Shelf Go.Lib
attribute [local go_sem] Oper.semAt_some

theorem parts_size {s : ByteArray} {xs : List ByteArray} (h : Parts s xs) : ∀ x ∈ xs, x.size ≤ s.size := by
  induction h with
  | last s _ => intro x hx; simp at hx; rw [hx]; exact Nat.le_refl _
  | cut s i rest _ hi _ ih =>
    intro x hx
    rcases List.mem_cons.1 hx with rfl | hx
    · simp [ByteArray.size_extract]; omega
    · have := ih x hx
      simp [ByteArray.size_extract] at this; omega

theorem round_any {P : Program} {n n' l l' : Nat} {f : FuncId} {tmps : Array Value} {assign body : Code} {w : World} {R : Ending → World → Prop} (h : RoundIn Fence.wide n P l f tmps assign body w R) : RoundIn (Fence.wide.inRound l') n' P l f tmps assign body w R :=
  ⟨trivial, fun c cs _ => h.2 c cs (room_wide _)⟩

/-- The rows of the iterator's own: none of them is held by who is handed the lines. -/
structure Priv (B0 l : Nat) (O : Nat → Prop) (W : World) : Prop where
  size : B0 + 4 ≤ W.heap.size
  b0 : ¬ O B0
  b1 : ¬ O (B0 + 1)
  b2 : ¬ O (B0 + 2)
  b3 : ¬ O (B0 + 3)
  b4 : ¬ O (B0 + 4)
  b5 : ¬ O (B0 + 5)
  box : W.cell? ⟨B0, 0, none⟩ = some (.func (.yield l) #[] #[])

theorem Priv.lo {B0 l : Nat} {O : Nat → Prop} {W W' : World} (h : Priv B0 l O W) (hl : Lo (B0 + 4) (B0 + 1) W W') : Priv B0 l O W' :=
  ⟨Nat.le_trans h.size hl.size, h.b0, h.b1, h.b2, h.b3, h.b4, h.b5, (cell_heap (hl.block B0 (by have := h.size; omega) (by omega) (by omega) (by omega))).trans h.box⟩
theorem Priv.beside {B0 l : Nat} {O : Nat → Prop} {W W' : World} (h : Priv B0 l O W) (hO : ∀ r, O r → r < W.heap.size) (hl : Lo (B0 + 4) (B0 + 1) W W') : Ev.Beside O W W' :=
  ⟨hl.os, hl.tape, hl.output, hl.size, fun r hr => hl.block r (hO r hr) (fun e => h.b1 (e ▸ hr)) (fun e => h.b4 (e ▸ hr)) (fun e => h.b5 (e ▸ hr))⟩

theorem below_beside {O : Nat → Prop} {W W' : World} (hO : ∀ r, O r → r < W.heap.size) (h : Below W.heap.size W W') : Ev.Beside O W W' :=
  ⟨h.os, h.tape, h.output, h.size, fun r hr => h.block r (hO r hr)⟩

set_option maxRecDepth 100000 in
set_option maxHeartbeats 4000000 in
theorem lines_in (trim : ByteArray → ByteArray) (htrim : ∀ (s : ByteArray) (w : World), s.size ≤ 1000000 → Calls Tryz.prog 56 #[.string s, .string ⟨#[13]⟩] w fun e w' => e = .returned (.string (trim s)) ∧ Below w.heap.size w w')
    (hm : Tryz.prog.follows .mixedOrders = true) (s : ByteArray) (hz : s.size ≤ 1000000) : Ev.IterLaw Tryz.prog 54 s (((splitA [] [] s.data.toList).map mkB).map fun x => .string (trim x)) := by
  refine ⟨fun args w => by simp [go_sem], fun n l rs W O J Jx hn hc hf hno hJ hJx hO hOx hY h0 => ?_⟩
  have hrs : rs < W.heap.size := World.block_lt_of_cell? _ _ hc
  refine callsIn_wide (n := n) |>.2 (callsIn_wide (n := 20) |>.1 ?_)
  refine callsIn_of_wp_marks Tryz.func54 rfl trivial ?_ rfl
  simp only [Tryz.ntmps54, List.size_toArray, List.length_cons, List.length_nil, Nat.reduceAdd, Nat.reduceSub, Array.replicate_succ, Array.replicate_zero, List.push_toArray, List.append_toArray, List.nil_append, List.cons_append]
  have hc1 : (W.alloc (.cells #[.func (.yield l) #[] #[]] 29)).cell? ⟨rs, 0, none⟩ = some (.string s) := (cell_heap (Below.heap_alloc _ _ _ hrs)).trans hc
  gi_wp2_with (refine ⟨trivial, ?_⟩; gi_at_call 55; refine (callsIn_wide.2 (call69 _ _ _)).mono ?_; rintro e w' ⟨rfl, rfl⟩)
  obtain ⟨B0, hB0⟩ : ∃ B0, B0 = W.heap.size := ⟨_, rfl⟩
  obtain ⟨W1, hW1⟩ : ∃ W1, W1 = ((((W.alloc (.cells #[.func (.yield l) #[] #[]] 29)).alloc (.cells #[.string s] 9)).alloc (.cells #[.string ⟨#[10]⟩] 9)).alloc (.cells #[.int .i64 0] 3)) := ⟨_, rfl⟩
  have hsz : W1.heap.size = B0 + 4 := by rw [hW1, hB0]; simp
  have cell : ∀ (X : World) (v : Value) (t : TypeId), (X.alloc (.cells #[v] t)).cell? ⟨X.heap.size, 0, none⟩ = some v := fun X v t => by
    have h := World.alloc_heap_new X (.cells #[v] t)
    unfold World.cell?; simp only [h]; rfl
  have froz : ∀ (X : World) (v : Value) (t : TypeId), (X.alloc (.cells #[v] t)).frozen? ⟨X.heap.size, 0, none⟩ = false := fun X v t => by
    have h := World.alloc_heap_new X (.cells #[v] t)
    unfold World.frozen?; simp only [h]; rfl
  have up : ∀ (X : World) (o : Obj) (b : Nat), b < X.heap.size → (X.alloc o).heap[b]? = X.heap[b]? := fun X o b h => Below.heap_alloc _ _ _ h
  have hbox : W1.cell? ⟨B0, 0, none⟩ = some (.func (.yield l) #[] #[]) := by
    rw [hW1, hB0]
    refine (cell_heap ?_).trans (cell W _ 29)
    rw [up _ _ _ (by simp <;> omega), up _ _ _ (by simp <;> omega), up _ _ _ (by simp)]
  have hs1 : W1.cell? ⟨B0 + 1, 0, none⟩ = some (.string s) := by
    have := cell (W.alloc (.cells #[.func (.yield l) #[] #[]] 29)) (.string s) 9
    rw [World.size_alloc] at this
    rw [hW1, hB0]
    refine (cell_heap ?_).trans this
    rw [up _ _ _ (by simp <;> omega), up _ _ _ (by simp)]
  have hf1 : W1.frozen? ⟨B0 + 1, 0, none⟩ = false := by
    have := froz (W.alloc (.cells #[.func (.yield l) #[] #[]] 29)) (.string s) 9
    rw [World.size_alloc] at this
    rw [hW1, hB0]
    refine (frozen_heap ?_).trans this
    rw [up _ _ _ (by simp <;> omega), up _ _ _ (by simp)]
  have hp1 : W1.cell? ⟨B0 + 1 + 1, 0, none⟩ = some (.string ⟨#[10]⟩) := by
    have := cell ((W.alloc (.cells #[.func (.yield l) #[] #[]] 29)).alloc (.cells #[.string s] 9)) (.string ⟨#[10]⟩) 9
    rw [World.size_alloc, World.size_alloc] at this
    rw [hW1, hB0]
    refine (cell_heap ?_).trans this
    rw [up _ _ _ (by simp)]
  have hv1 : W1.cell? ⟨B0 + 1 + 2, 0, none⟩ = some (.int .i64 0) := by
    have := cell (((W.alloc (.cells #[.func (.yield l) #[] #[]] 29)).alloc (.cells #[.string s] 9)).alloc (.cells #[.string ⟨#[10]⟩] 9)) (.int .i64 0) 3
    rw [World.size_alloc, World.size_alloc, World.size_alloc] at this
    rw [hW1, hB0]
    exact this
  have hbel : Below W.heap.size W W1 := by
    rw [hW1]
    exact ((((Below.refl _ W).alloc (Nat.le_refl _) _).alloc (by simp) _).alloc (by simp <;> omega) _).alloc (by simp <;> omega) _
  have hJ1 : J 0 O W1 := hJ _ _ _ _ h0 (below_beside (hO _ _ _ h0) hbel)
  have hOB : ∀ k, B0 ≤ k → ¬ O k := fun k hk ho => by have := hO _ _ _ h0 k ho; omega
  have hP1 : Priv B0 l O W1 := ⟨by omega, hOB _ (by omega), hOB _ (by omega), hOB _ (by omega), hOB _ (by omega), hOB _ (by omega), hOB _ (by omega), hbox⟩
  rw [← hW1, ← hB0]
  have hfin : ∀ (K : Nat), K = (((splitA [] [] s.data.toList).map mkB).map fun x => Value.string (trim x)).length → K = ((splitA [] [] s.data.toList).map mkB).length := fun K h => by rw [h]; simp
  refine range_law (m := B0 + 4) (Bs := B0 + 1) (Bp := B0 + 1 + 1) (Bv := B0 + 1 + 2) (by omega) hsz rfl (by omega) (by omega) (by omega) (by omega) (by omega) (parts_self s) hz hs1 hf1 hp1 hv1
    (fun pre X => ∃ O, J pre.length O X ∧ Priv B0 l O X) (fun pre X => ∃ O, Jx O X ∧ Priv B0 l O X)
    (fun pre X X' hl => fun ⟨O, h1, h2⟩ => ⟨O, hJ _ _ _ _ h1 (h2.beside (hO _ _ _ h1) hl), h2.lo hl⟩)
    (fun pre X X' hl => fun ⟨O, h1, h2⟩ => ⟨O, hJx _ _ _ h1 (h2.beside (hOx _ _ h1) hl), h2.lo hl⟩)
    ⟨O, hJ1, hP1⟩
    (fun x => { tmps := #[.func (.yield l) #[] #[], .pointer (some ⟨rs, 0, none⟩), .pointer (some ⟨B0, 0, none⟩), .string x, .string s,
      .func (.func 136) #[] #[.pointer (some ⟨B0 + 1 + 1, 0, none⟩), .pointer (some ⟨B0 + 1, 0, none⟩), .pointer (some ⟨B0 + 1 + 2, 0, none⟩)], .string x, undef, undef, undef, undef, undef], defers := [] }) ?assign ?body ?done ?stop
  case assign =>
    intro l2 x X K hK
    have e : ((#[6] : Array Tmp).zip (#[.string x] : Array Value)).foldl (fun t (p, v) => t.setIfInBounds p v) (#[.func (.yield l) #[] #[], .pointer (some ⟨rs, 0, none⟩), .pointer (some ⟨B0, 0, none⟩), undef, .string s,
      .func (.func 136) #[] #[.pointer (some ⟨B0 + 1 + 1, 0, none⟩), .pointer (some ⟨B0 + 1, 0, none⟩), .pointer (some ⟨B0 + 1 + 2, 0, none⟩)], undef, undef, undef, undef, undef, undef] : Array Value) =
      #[.func (.yield l) #[] #[], .pointer (some ⟨rs, 0, none⟩), .pointer (some ⟨B0, 0, none⟩), undef, .string s,
      .func (.func 136) #[] #[.pointer (some ⟨B0 + 1 + 1, 0, none⟩), .pointer (some ⟨B0 + 1, 0, none⟩), .pointer (some ⟨B0 + 1 + 2, 0, none⟩)], .string x, undef, undef, undef, undef, undef] := by simp
    dsimp only
    rw [e]
    gi_wp2
    exact hK
  case body =>
    rintro l2 pre x X hXs ⟨O2, hJ2, hP2⟩ hpx
    gi_wp2
    have hxz : x.size ≤ 1000000 := by
      obtain ⟨tl, htl⟩ := hpx
      exact Nat.le_trans (parts_size (parts_self s) x (by rw [← htl]; simp)) hz
    have hitem : ((((splitA [] [] s.data.toList).map mkB).map fun x => Value.string (trim x)))[pre.length]? = some (.string (trim x)) := by
      obtain ⟨tl, htl⟩ := hpx
      rw [List.getElem?_map, ← htl]
      simp
    have rest : ∀ (Wd W2 : World), Wd.heap = X.heap → Wd.os = X.os → Wd.tape = X.tape → Wd.output = X.output → Below Wd.heap.size Wd W2 → J pre.length O2 W2 ∧ Priv B0 l O2 W2 ∧ X.heap.size ≤ W2.heap.size ∧ (∀ r, r < X.heap.size → W2.heap[r]? = X.heap[r]?) := by
      intro Wd W2 e1 e2 e3 e4 hb
      have hk : ∀ r, r < X.heap.size → W2.heap[r]? = X.heap[r]? := fun r hr => (hb.block r (by rw [e1]; exact hr)).trans (by rw [e1])
      have hs : X.heap.size ≤ W2.heap.size := by have := hb.size; rw [e1] at this; exact this
      exact ⟨hJ _ _ _ _ hJ2 ⟨hb.os.trans e2, hb.tape.trans e3, hb.output.trans e4, hs, fun r hr => hk r (hO _ _ _ hJ2 r hr)⟩,
        ⟨Nat.le_trans hP2.size hs, hP2.b0, hP2.b1, hP2.b2, hP2.b3, hP2.b4, hP2.b5, (cell_heap (hk B0 (by omega))).trans hP2.box⟩, hs, hk⟩
    have fin : ∀ (W2 W3 : World) (O3 : Nat → Prop), Priv B0 l O2 W2 → X.heap.size ≤ W2.heap.size → (∀ r, r < X.heap.size → W2.heap[r]? = X.heap[r]?) → W2.heap.size ≤ W3.heap.size → (∀ r, O3 r → O2 r ∨ W2.heap.size ≤ r) → (∀ r, r < W2.heap.size → ¬ O2 r → W3.heap[r]? = W2.heap[r]?) →
        Priv B0 l O3 W3 ∧ ∀ r, r = B0 + 4 ∨ r = B0 + 4 + 1 ∨ r = B0 + 1 ∨ r = B0 + 1 + 1 ∨ r = B0 + 1 + 2 → W3.heap[r]? = X.heap[r]? := by
      intro W2 W3 O3 hP hs hk hs3 hO3 hk3
      have no : ∀ r, r < W2.heap.size → ¬ O2 r → ¬ O3 r := fun r hr hn h => by
        rcases hO3 r h with h | h
        · exact hn h
        · omega
      refine ⟨⟨by omega, no _ (by omega) hP.b0, no _ (by omega) hP.b1, no _ (by omega) hP.b2, no _ (by omega) hP.b3, no _ (by omega) hP.b4, no _ (by omega) hP.b5, (cell_heap (hk3 B0 (by omega) hP.b0)).trans hP.box⟩, fun r hr => ?_⟩
      have hn : ¬ O2 r := by
        rcases hr with rfl | rfl | rfl | rfl | rfl
        · exact hP.b4
        · exact hP.b5
        · exact hP.b1
        · exact hP.b2
        · exact hP.b3
      exact (hk3 r (by omega) hn).trans (hk r (by omega))
    have hY' : ∀ W2, J pre.length O2 W2 → YieldAt Fence.wide n Tryz.prog l #[.string (trim x)] W2 _ := fun W2 h => hY _ _ W2 _ h hitem
    refine region5 hm (orders (by rfl) (by kernel_rfl) (by kernel_rfl) (by kernel_rfl) (by kernel_rfl) (by kernel_rfl) (by kernel_rfl) (by kernel_rfl)) ?_ ?_ ?_
    · generalize hWd : ({ X with drawn := X.drawn + 1 } : World) = Wd
      have e1 : Wd.heap = X.heap := by rw [← hWd]
      have e2 : Wd.os = X.os := by rw [← hWd]
      have e3 : Wd.tape = X.tape := by rw [← hWd]
      have e4 : Wd.output = X.output := by rw [← hWd]
      have hbox2 : Wd.cell? ⟨B0, 0, none⟩ = some (.func (.yield l) #[] #[]) := (cell_heap (by rw [e1])).trans hP2.box
      have ht : CallsIn (Fence.wide.inRound l2) 17 Tryz.prog 56 #[.string x, .string ⟨#[13]⟩] Wd _ := callsIn_wide (n := 17) |>.2 (htrim x Wd hxz)
      refine wpListIn_plain rfl fun K hK => ?_
      simp [go_sem, hbox2]
      refine hK _ _ ?_
      refine wpListIn_plain rfl fun K hK => ?_
      simp [go_sem, hbox2]
      refine hK _ _ ?_
      refine wpListIn_plain rfl fun K hK => ?_
      simp [go_sem]
      refine ⟨trivial, ht.mono ?_⟩
      rintro e W2 ⟨rfl, hb⟩
      obtain ⟨hJ4, hP4, hs4, hk4⟩ := rest Wd W2 e1 e2 e3 e4 hb
      have hbox4 := hP4.box
      obtain ⟨fn, tm, asg, bd, hy, hR⟩ := hY' W2 hJ4
      refine hK _ _ ?_
      refine wpListIn_plain rfl fun K hK => ?_
      simp [go_sem, hy]
      refine (round_any hR).mono ?_
      rintro e W3 ⟨O3, hs3, hO3, hk3, ⟨rfl, hJ3⟩ | ⟨rfl, hJ3⟩⟩
      · refine hK _ _ ?_
        obtain ⟨hP5, hr5⟩ := fin W2 W3 O3 hP4 hs4 hk4 hs3 hO3 hk3
        refine wpListIn_plain rfl fun K hK => ?_
        simp [go_sem]
        refine hK _ _ ?_
        gi_wp2
        refine ⟨hr5, O3, ?_, hP5⟩
        rw [List.length_append]; exact hJ3
      · refine hK _ _ ?_
        obtain ⟨hP5, hr5⟩ := fin W2 W3 O3 hP4 hs4 hk4 hs3 hO3 hk3
        refine wpListIn_plain rfl fun K hK => ?_
        simp [go_sem]
        refine hK _ _ ?_
        gi_wp2
        exact ⟨hr5, O3, hJ3, hP5⟩
    · generalize hWd : ({ X with drawn := X.drawn + 1 } : World) = Wd
      have e1 : Wd.heap = X.heap := by rw [← hWd]
      have e2 : Wd.os = X.os := by rw [← hWd]
      have e3 : Wd.tape = X.tape := by rw [← hWd]
      have e4 : Wd.output = X.output := by rw [← hWd]
      have hbox2 : Wd.cell? ⟨B0, 0, none⟩ = some (.func (.yield l) #[] #[]) := (cell_heap (by rw [e1])).trans hP2.box
      have ht : CallsIn (Fence.wide.inRound l2) 17 Tryz.prog 56 #[.string x, .string ⟨#[13]⟩] Wd _ := callsIn_wide (n := 17) |>.2 (htrim x Wd hxz)
      refine wpListIn_plain rfl fun K hK => ?_
      simp [go_sem, hbox2]
      refine hK _ _ ?_
      refine wpListIn_plain rfl fun K hK => ?_
      simp [go_sem, hbox2]
      refine hK _ _ ?_
      refine wpListIn_plain rfl fun K hK => ?_
      simp [go_sem]
      refine ⟨trivial, ht.mono ?_⟩
      rintro e W2 ⟨rfl, hb⟩
      obtain ⟨hJ4, hP4, hs4, hk4⟩ := rest Wd W2 e1 e2 e3 e4 hb
      have hbox4 := hP4.box
      obtain ⟨fn, tm, asg, bd, hy, hR⟩ := hY' W2 hJ4
      refine hK _ _ ?_
      refine wpListIn_plain rfl fun K hK => ?_
      simp [go_sem, hy]
      refine (round_any hR).mono ?_
      rintro e W3 ⟨O3, hs3, hO3, hk3, ⟨rfl, hJ3⟩ | ⟨rfl, hJ3⟩⟩
      · refine hK _ _ ?_
        obtain ⟨hP5, hr5⟩ := fin W2 W3 O3 hP4 hs4 hk4 hs3 hO3 hk3
        refine wpListIn_plain rfl fun K hK => ?_
        simp [go_sem]
        refine hK _ _ ?_
        gi_wp2
        refine ⟨hr5, O3, ?_, hP5⟩
        rw [List.length_append]; exact hJ3
      · refine hK _ _ ?_
        obtain ⟨hP5, hr5⟩ := fin W2 W3 O3 hP4 hs4 hk4 hs3 hO3 hk3
        refine wpListIn_plain rfl fun K hK => ?_
        simp [go_sem]
        refine hK _ _ ?_
        gi_wp2
        exact ⟨hr5, O3, hJ3, hP5⟩
    · generalize hWd : ({ X with drawn := X.drawn + 1 } : World) = Wd
      have e1 : Wd.heap = X.heap := by rw [← hWd]
      have e2 : Wd.os = X.os := by rw [← hWd]
      have e3 : Wd.tape = X.tape := by rw [← hWd]
      have e4 : Wd.output = X.output := by rw [← hWd]
      have hbox2 : Wd.cell? ⟨B0, 0, none⟩ = some (.func (.yield l) #[] #[]) := (cell_heap (by rw [e1])).trans hP2.box
      have ht : CallsIn (Fence.wide.inRound l2) 17 Tryz.prog 56 #[.string x, .string ⟨#[13]⟩] Wd _ := callsIn_wide (n := 17) |>.2 (htrim x Wd hxz)
      refine wpListIn_plain rfl fun K hK => ?_
      simp [go_sem, hbox2]
      refine hK _ _ ?_
      refine wpListIn_plain rfl fun K hK => ?_
      simp [go_sem]
      refine ⟨trivial, ht.mono ?_⟩
      rintro e W2 ⟨rfl, hb⟩
      obtain ⟨hJ4, hP4, hs4, hk4⟩ := rest Wd W2 e1 e2 e3 e4 hb
      have hbox4 := hP4.box
      obtain ⟨fn, tm, asg, bd, hy, hR⟩ := hY' W2 hJ4
      refine hK _ _ ?_
      refine wpListIn_plain rfl fun K hK => ?_
      simp [go_sem, hbox4]
      refine hK _ _ ?_
      refine wpListIn_plain rfl fun K hK => ?_
      simp [go_sem, hy]
      refine (round_any hR).mono ?_
      rintro e W3 ⟨O3, hs3, hO3, hk3, ⟨rfl, hJ3⟩ | ⟨rfl, hJ3⟩⟩
      · refine hK _ _ ?_
        obtain ⟨hP5, hr5⟩ := fin W2 W3 O3 hP4 hs4 hk4 hs3 hO3 hk3
        refine wpListIn_plain rfl fun K hK => ?_
        simp [go_sem]
        refine hK _ _ ?_
        gi_wp2
        refine ⟨hr5, O3, ?_, hP5⟩
        rw [List.length_append]; exact hJ3
      · refine hK _ _ ?_
        obtain ⟨hP5, hr5⟩ := fin W2 W3 O3 hP4 hs4 hk4 hs3 hO3 hk3
        refine wpListIn_plain rfl fun K hK => ?_
        simp [go_sem]
        refine hK _ _ ?_
        gi_wp2
        exact ⟨hr5, O3, hJ3, hP5⟩
  case done =>
    rintro X ⟨O2, hJ2, hP2⟩ hK
    refine ⟨by simp, .inl ⟨_, _, rfl, run_takeDeferred hK, ?_⟩⟩
    refine ⟨_, results_none rfl _ _ _, ⟨_, rfl⟩, O2, .inl ?_⟩
    have := hJ _ _ _ _ hJ2 (hP2.beside (hO _ _ _ hJ2) (Lo.putObj X (.deferred none) (.inl rfl)))
    rw [List.length_map]
    exact this
  case stop =>
    rintro pre X hpre ⟨O2, hJ2, hP2⟩ hK
    gi_wp2
    refine ⟨by simp, .inl ⟨_, _, rfl, run_takeDeferred hK, ?_⟩⟩
    exact ⟨_, results_none rfl _ _ _, ⟨_, rfl⟩, O2, .inr (hJx _ _ _ hJ2 (hP2.beside (hOx _ _ hJ2) (Lo.putObj X (.deferred none) (.inl rfl))))⟩
end Go.Proofs.YtfggompceldfgaaGreatDoor.sl

/- The reference's Line: an event's line. -/
import Derived.Test.YtopclkkkchhgiaaDoorTrLine
import Derived.Test.YtopclkkkchhgiaaDoorNum
import Derived.Test.YtopclkkkchhgiaaDoorHeld
namespace Go.Proofs.YtopclkkkchhgiaaDoor
open Go.RowKit

theorem rwords_cells (w : World) : Calls Tryd.prog 32 #[] w fun e w' => ∃ b, e = .returned (.slice (some ⟨b, 0, none⟩) 10 10) ∧ (∀ (j : Nat) x, wordsB[j]? = some x → w'.cell? ⟨b, j, none⟩ = some (.string x)) ∧ Below w.heap.size w w' :=
  (rwords_any w).mono fun e w' ⟨b, he, hs, hb⟩ => ⟨b, he, fun j x hx => by
    obtain ⟨b', off, hA, _, hc⟩ := hs j x hx
    injection hA with hA
    injection hA with h1 h2
    subst h1 h2
    have := hc 0 _ rfl
    simpa [strs, Enc.of1] using this, hb⟩
theorem wordsB_at {kn : Nat} (h2 : kn ≤ 9) : wordsB[kn]? = some ⟨(wordOf (kn : Int)).toArray⟩ := by
  have : kn = 0 ∨ kn = 1 ∨ kn = 2 ∨ kn = 3 ∨ kn = 4 ∨ kn = 5 ∨ kn = 6 ∨ kn = 7 ∨ kn = 8 ∨ kn = 9 := by omega
  rcases this with rfl | rfl | rfl | rfl | rfl | rfl | rfl | rfl | rfl | rfl <;> rfl
theorem line_bytes (t k p a b : Int) (wh : ByteArray) (hwh : wh.data.toList = who p) :
    numS t.toNat ++ ⟨#[32]⟩ ++ ⟨(wordOf k).toArray⟩ ++ ⟨#[32]⟩ ++ wh ++ ⟨#[32]⟩ ++ numS a.toNat ++ ⟨#[32]⟩ ++ numS b.toNat = evLineS ⟨t, k, p, a, b⟩ := by
  apply ByteArray.ext
  rw [← Array.toList_inj]
  simp [evLineS, evLine, evParts, Lib.join_cons, Lib.joinTail, numS, hwh]

def RSt (w2 : World) (n : Nat) (t k a b : Int) (w' : World) : Prop :=
  Below w2.heap.size w2 w' ∧ w'.cell? ⟨n, 0, none⟩ = some (.int .i64 t) ∧ w'.cell? ⟨n, 1, none⟩ = some (.int .i64 k) ∧ w'.cell? ⟨n, 3, none⟩ = some (.int .i64 a) ∧ w'.cell? ⟨n, 4, none⟩ = some (.int .i64 b)
theorem RSt.below {w2 w w' : World} {n : Nat} {t k a b : Int} (h : RSt w2 n t k a b w) (hb : Below w.heap.size w w') : RSt w2 n t k a b w' := by
  obtain ⟨h1, h3, h4, h5, h6⟩ := h
  refine ⟨h1.trans (hb.mono h1.size), ?_, ?_, ?_, ?_⟩
  · exact (hb.cell (p := ⟨n, 0, none⟩) (cell_lt h3)).trans h3
  · exact (hb.cell (p := ⟨n, 1, none⟩) (cell_lt h4)).trans h4
  · exact (hb.cell (p := ⟨n, 3, none⟩) (cell_lt h5)).trans h5
  · exact (hb.cell (p := ⟨n, 4, none⟩) (cell_lt h6)).trans h6
theorem RSt.drew {w2 w : World} {n : Nat} {t k a b : Int} (h : RSt w2 n t k a b w) : RSt w2 n t k a b w.drew := h.below (Below.refl _ w).drew

def RSt2 (w2 : World) (n : Nat) (t k a b : Int) (bw kn : Nat) (x : ByteArray) (w' : World) : Prop := RSt w2 n t k a b w' ∧ w'.cell? ⟨bw, kn, none⟩ = some (.string x)
theorem RSt2.below {w2 w w' : World} {n : Nat} {t k a b : Int} {bw kn : Nat} {x : ByteArray} (h : RSt2 w2 n t k a b bw kn x w) (hb : Below w.heap.size w w') : RSt2 w2 n t k a b bw kn x w' :=
  ⟨h.1.below hb, (hb.cell (p := ⟨bw, kn, none⟩) (cell_lt h.2)).trans h.2⟩

set_option maxRecDepth 100000 in
set_option maxHeartbeats 4000000 in
theorem rline_any (e : Ev) (w : World) (h : EvR e) : Calls Tryd.prog 11 #[evV e] w fun r w' => r = .returned (.string (evLineS e)) ∧ Below w.heap.size w w' := by
  obtain ⟨t, k, p, a, b⟩ := e
  obtain ⟨k1, k2, t1, t2, a1, a2, b1, b2, hp⟩ := h
  simp only at k1 k2 t1 t2 a1 a2 b1 b2 hp
  have hfin := fun wh hwh => line_bytes t k p a b wh hwh
  obtain ⟨S1, hS1⟩ : ∃ x, numS t.toNat = x := ⟨_, rfl⟩
  obtain ⟨S3, hS3⟩ : ∃ x, numS a.toNat = x := ⟨_, rfl⟩
  obtain ⟨S4, hS4⟩ : ∃ x, numS b.toNat = x := ⟨_, rfl⟩
  obtain ⟨S2, hS2⟩ : ∃ x : ByteArray, ⟨(wordOf k).toArray⟩ = x := ⟨_, rfl⟩
  have l1 : S1.size ≤ 20 := by rw [← hS1]; exact numS_le (by omega)
  have l3 : S3.size ≤ 20 := by rw [← hS3]; exact numS_le (by omega)
  have l4 : S4.size ≤ 20 := by rw [← hS4]; exact numS_le (by omega)
  have l2 : S2.size ≤ 7 := by
    rw [← hS2]
    have : (⟨(wordOf k).toArray⟩ : ByteArray).size = (wordOf k).length := by simp [ByteArray.size]
    rw [this]
    exact words_len k
  have n1 := fun W => num_any (t.toNat + 1) t.toNat t W (by omega) (by omega) (by omega)
  have n3 := fun W => num_any (a.toNat + 1) a.toNat a W (by omega) (by omega) (by omega)
  have n4 := fun W => num_any (b.toNat + 1) b.toNat b W (by omega) (by omega) (by omega)
  have np := fun W (hp0 : 0 ≤ p) => num_any (p.toNat + 1) p.toNat p W (by omega) (by omega) (by omega)
  rw [hS1] at n1
  rw [hS3] at n3
  rw [hS4] at n4
  rw [hS1, hS2, hS3, hS4] at hfin
  obtain ⟨kn, rfl⟩ := Int.eq_ofNat_of_zero_le (show 0 ≤ k by omega)
  have hwk := wordsB_at (kn := kn) (by omega)
  rw [hS2] at hwk
  have hS0 : ∀ W, Below (w.alloc (.cells #[.int .i64 t, .int .i64 kn, .int .i64 p, .int .i64 a, .int .i64 b] 23)).heap.size (w.alloc (.cells #[.int .i64 t, .int .i64 kn, .int .i64 p, .int .i64 a, .int .i64 b] 23)) W → RSt W w.heap.size t kn a b W := by
    intro W hb
    have hc : ∀ j : Nat, W.cell? ⟨w.heap.size, j, none⟩ = #[Value.int .i64 t, .int .i64 kn, .int .i64 p, .int .i64 a, .int .i64 b][j]? := fun j => by
      rw [hb.cell (p := ⟨w.heap.size, j, none⟩) (by simp)]
      have := cells_new w #[Value.int .i64 t, .int .i64 kn, .int .i64 p, .int .i64 a, .int .i64 b] 23 j
      rw [Addr.add_lit, Nat.zero_add] at this
      exact this
    exact ⟨Below.refl _ _, hc 0, hc 1, hc 3, hc 4⟩
  have hS' := Lib.hid hS0
  have N1 := Lib.hid n1
  have N3 := Lib.hid n3
  have N4 := Lib.hid n4
  have HW := Lib.hid hwk
  have HF := Lib.hid hfin
  unfold evV
  simp only
  have k9 : (kn : Int) < 10 := by omega
  have k0 : (0 : Int) ≤ (kn : Int) := by omega
  clear hS0 hS1 hS2 hS3 hS4 n1 n3 n4 hwk hfin
  rcases hp with hp | ⟨p1, p2⟩
  · have hne : decide (0 ≤ p) = false := by rw [decide_eq_false_iff_not]; omega
    have HF' := Lib.hid (HF.out ⟨#[45]⟩ (by rw [hp]; rfl))
    clear hp np HF
    have z1 : ¬ 9223372036854775807 < S1.size + 1 := by omega
    have z2 : ¬ 9223372036854775807 < S1.size + 1 + S2.size := by omega
    have z3 : ¬ 9223372036854775807 < S1.size + 1 + S2.size + 1 := by omega
    have z4 : ¬ 9223372036854775807 < S1.size + 1 + S2.size + 1 + 1 := by omega
    have z5 : ¬ 9223372036854775807 < S1.size + 1 + S2.size + 1 + 1 + 1 := by omega
    have z6 : ¬ 9223372036854775807 < S1.size + 1 + S2.size + 1 + 1 + 1 + S3.size := by omega
    have z7 : ¬ 9223372036854775807 < S1.size + 1 + S2.size + 1 + 1 + 1 + S3.size + 1 := by omega
    have z8 : ¬ 9223372036854775807 < S1.size + 1 + S2.size + 1 + 1 + 1 + S3.size + 1 + S4.size := by omega
    go_enter Tryd.func11, Tryd.ntmps11
    go_wp2_with fail
    have hb := Below.refl (w.alloc (.cells #[.int .i64 t, .int .i64 kn, .int .i64 p, .int .i64 a, .int .i64 b] 23)).heap.size (w.alloc (.cells #[.int .i64 t, .int .i64 kn, .int .i64 p, .int .i64 a, .int .i64 b] 23))
    have hb' := (Below.refl w.heap.size w).alloc (Nat.le_refl _) (.cells #[.int .i64 t, .int .i64 kn, .int .i64 p, .int .i64 a, .int .i64 b] 23)
    have hS := hS'.out _ hb
    obtain ⟨n, hn⟩ : ∃ n, w.heap.size = n := ⟨_, rfl⟩
    obtain ⟨w1, hw1⟩ : ∃ x, w.alloc (.cells #[.int .i64 t, .int .i64 kn, .int .i64 p, .int .i64 a, .int .i64 b] 23) = x := ⟨_, rfl⟩
    rw [hw1] at hS hb' ⊢
    rw [hn] at hS hb' ⊢
    clear hb hS' hw1
    have hSd := hS.drew
    obtain ⟨s1, s3, s4, s5, s6⟩ := hS
    refine wp_region_held_drew (S := fun w' => Below w1.heap.size w1 w' ∧ w'.cell? ⟨n, 0, none⟩ = some (.int .i64 t) ∧ w'.cell? ⟨n, 1, none⟩ = some (.int .i64 kn) ∧ w'.cell? ⟨n, 3, none⟩ = some (.int .i64 a) ∧ w'.cell? ⟨n, 4, none⟩ = some (.int .i64 b)) (by kernel_rfl) hSd (fun hHeld => ?_)
    refine wpAnyH_take (i := 0) (oi := ?_) (v := ?_) ?_ (by kernel_rfl) (by kernel_rfl) (by kernel_rfl) ?_ (Or.inl ⟨?_, ?_⟩) (by assumption) ?_
    rotate_left 2
    · (simp only [List.getElem?_toArray, List.getElem?_cons_zero]; rfl)
    · exact fun _ _ _ h => h
    · rfl
    · ((intro wq hSq; (try dsimp only at hSq); go_simp); (try with_reducible rfl))
    try simp only [Act.put, List.setIfInBounds_toArray, List.set_cons_zero, List.set_cons_succ]
    refine wpAnyH_take (i := 1) (oi := ?_) (v := ?_) ?_ (by kernel_rfl) (by kernel_rfl) (by kernel_rfl) ?_ (Or.inl ⟨?_, ?_⟩) (by assumption) ?_
    rotate_left 2
    · (simp only [List.getElem?_toArray, List.getElem?_cons_succ, List.getElem?_cons_zero]; rfl)
    · exact fun _ _ _ h => h
    · rfl
    · ((intro wq hSq; (try dsimp only at hSq); go_simp); (try with_reducible rfl))
    try simp only [Act.put, List.setIfInBounds_toArray, List.set_cons_zero, List.set_cons_succ]
    refine wpAnyH_take (i := 5) (oi := ?_) (v := ?_) ?_ (by kernel_rfl) (by kernel_rfl) (by kernel_rfl) ?_ (Or.inl ⟨?_, ?_⟩) (by assumption) ?_
    rotate_left 2
    · (simp only [List.getElem?_toArray, List.getElem?_cons_succ, List.getElem?_cons_zero]; rfl)
    · exact fun _ _ _ h => h
    · rfl
    · ((intro wq hSq; (try dsimp only at hSq); go_simp); (try with_reducible rfl))
    try simp only [Act.put, List.setIfInBounds_toArray, List.set_cons_zero, List.set_cons_succ]
    refine wpAnyH_take (i := 6) (oi := ?_) (v := ?_) ?_ (by kernel_rfl) (by kernel_rfl) (by kernel_rfl) ?_ (Or.inl ⟨?_, ?_⟩) (by assumption) ?_
    rotate_left 2
    · (simp only [List.getElem?_toArray, List.getElem?_cons_succ, List.getElem?_cons_zero]; rfl)
    · exact fun _ _ _ h => h
    · rfl
    · ((intro wq hSq; (try dsimp only at hSq); go_simp); (try with_reducible rfl))
    try simp only [Act.put, List.setIfInBounds_toArray, List.set_cons_zero, List.set_cons_succ]
    refine wpAnyH_take (i := 11) (oi := ?_) (v := ?_) ?_ (by kernel_rfl) (by kernel_rfl) (by kernel_rfl) ?_ (Or.inl ⟨?_, ?_⟩) (by assumption) ?_
    rotate_left 2
    · (simp only [List.getElem?_toArray, List.getElem?_cons_succ, List.getElem?_cons_zero]; rfl)
    · exact fun _ _ _ h => h
    · rfl
    · ((intro wq hSq; (try dsimp only at hSq); go_simp); (try with_reducible rfl))
    try simp only [Act.put, List.setIfInBounds_toArray, List.set_cons_zero, List.set_cons_succ]
    refine wpAnyH_take (i := 14) (oi := ?_) (v := ?_) ?_ (by kernel_rfl) (by kernel_rfl) (by kernel_rfl) ?_ (Or.inl ⟨?_, ?_⟩) (by assumption) ?_
    rotate_left 2
    · (simp only [List.getElem?_toArray, List.getElem?_cons_succ, List.getElem?_cons_zero]; rfl)
    · exact fun _ _ _ h => h
    · rfl
    · ((intro wq hSq; (try dsimp only at hSq); go_simp); (try with_reducible rfl))
    try simp only [Act.put, List.setIfInBounds_toArray, List.set_cons_zero, List.set_cons_succ]
    refine wpAnyH_take (i := 15) (oi := ?_) (v := ?_) ?_ (by kernel_rfl) (by kernel_rfl) (by kernel_rfl) ?_ (Or.inl ⟨?_, ?_⟩) (by assumption) ?_
    rotate_left 2
    · (simp only [List.getElem?_toArray, List.getElem?_cons_succ, List.getElem?_cons_zero]; rfl)
    · exact fun _ _ _ h => h
    · rfl
    · ((intro wq hSq; (try dsimp only at hSq); go_simp); (try with_reducible rfl))
    try simp only [Act.put, List.setIfInBounds_toArray, List.set_cons_zero, List.set_cons_succ]
    refine wpAnyH_take (i := 19) (oi := ?_) (v := ?_) ?_ (by kernel_rfl) (by kernel_rfl) (by kernel_rfl) ?_ (Or.inl ⟨?_, ?_⟩) (by assumption) ?_
    rotate_left 2
    · (simp only [List.getElem?_toArray, List.getElem?_cons_succ, List.getElem?_cons_zero]; rfl)
    · exact fun _ _ _ h => h
    · rfl
    · ((intro wq hSq; (try dsimp only at hSq); go_simp); (try with_reducible rfl))
    try simp only [Act.put, List.setIfInBounds_toArray, List.set_cons_zero, List.set_cons_succ]
    refine wpAnyH_take (i := 20) (oi := ?_) (v := ?_) ?_ (by kernel_rfl) (by kernel_rfl) (by kernel_rfl) ?_ (Or.inl ⟨?_, ?_⟩) (by assumption) ?_
    rotate_left 2
    · (simp only [List.getElem?_toArray, List.getElem?_cons_succ, List.getElem?_cons_zero]; rfl)
    · exact fun _ _ _ h => h
    · rfl
    · ((intro wq hSq; (try dsimp only at hSq); go_simp); (try with_reducible rfl))
    try simp only [Act.put, List.setIfInBounds_toArray, List.set_cons_zero, List.set_cons_succ]
    refine wpAnyH_ready (rs := [2]) (by kernel_rfl) (by simp) ?_
    refine AllReadyH.cons (o := ?_) ?_ (fun K hK => ?_) AllReadyH.nil
    rotate_left
    · (simp only [List.getElem?_toArray, List.getElem?_cons_succ, List.getElem?_cons_zero]; rfl)
    go_simp
    go_at_call 31
    refine (N1.out _).mono ?_
    rintro e wx ⟨rfl, hbx⟩
    have hSx := RSt.below (w2 := w1) (n := n) (t := t) (k := kn) (a := a) (b := b) (by assumption) hbx
    refine hK.out _ _ hSx (fun hHeld => ?_)
    clear hK K
    try simp only [Act.put, List.setIfInBounds_toArray, List.set_cons_zero, List.set_cons_succ]
    refine wpAnyH_take (i := 3) (oi := ?_) (v := ?_) ?_ (by kernel_rfl) (by kernel_rfl) (by kernel_rfl) ?_ (Or.inl ⟨?_, ?_⟩) (by assumption) ?_
    rotate_left 2
    · (simp only [List.getElem?_toArray, List.getElem?_cons_succ, List.getElem?_cons_zero]; rfl)
    · exact fun _ _ _ h => h
    · rfl
    · ((intro wq hSq; (try dsimp only at hSq); go_simp); (try with_reducible rfl))
    try simp only [Act.put, List.setIfInBounds_toArray, List.set_cons_zero, List.set_cons_succ]
    refine wpAnyH_ready (rs := [4]) (by kernel_rfl) (by simp) ?_
    refine AllReadyH.cons (o := ?_) ?_ (fun K hK => ?_) AllReadyH.nil
    rotate_left
    · (simp only [List.getElem?_toArray, List.getElem?_cons_succ, List.getElem?_cons_zero]; rfl)
    go_simp
    go_at_call 32
    refine (rwords_cells _).mono ?_
    rintro e wx ⟨bw, rfl, hcw, hbx⟩
    have hSx := RSt.below (w2 := w1) (n := n) (t := t) (k := kn) (a := a) (b := b) (by assumption) hbx
    replace hcw := hcw _ _ HW.out
    refine hK.out _ _ hSx (fun hHeld => ?_)
    clear hK K
    try simp only [Act.put, List.setIfInBounds_toArray, List.set_cons_zero, List.set_cons_succ]
    have hSy : RSt2 w1 n t kn a b bw kn S2 _ := ⟨hHeld, hcw⟩
    refine wpAnyH_strong (S' := fun w' => (Below w1.heap.size w1 w' ∧ w'.cell? ⟨n, 0, none⟩ = some (.int .i64 t) ∧ w'.cell? ⟨n, 1, none⟩ = some (.int .i64 kn) ∧ w'.cell? ⟨n, 3, none⟩ = some (.int .i64 a) ∧ w'.cell? ⟨n, 4, none⟩ = some (.int .i64 b)) ∧ w'.cell? ⟨bw, kn, none⟩ = some (.string S2)) (fun w h => h.1) _ _ _ _ ?_
    refine wpAnyH_take (i := 7) (oi := ?_) (v := ?_) ?_ (by kernel_rfl) (by kernel_rfl) (by kernel_rfl) ?_ (Or.inl ⟨?_, ?_⟩) (by assumption) ?_
    rotate_left 2
    · (simp only [List.getElem?_toArray, List.getElem?_cons_succ, List.getElem?_cons_zero]; rfl)
    · exact fun _ _ _ h => h
    · rfl
    · ((intro wq hSq; (try dsimp only at hSq); go_simp); (try with_reducible rfl))
    try simp only [Act.put, List.setIfInBounds_toArray, List.set_cons_zero, List.set_cons_succ]
    refine wpAnyH_take (i := 8) (oi := ?_) (v := ?_) ?_ (by kernel_rfl) (by kernel_rfl) (by kernel_rfl) ?_ (Or.inl ⟨?_, ?_⟩) (by assumption) ?_
    rotate_left 2
    · (simp only [List.getElem?_toArray, List.getElem?_cons_succ, List.getElem?_cons_zero]; rfl)
    · exact fun _ _ _ h => h
    · rfl
    · ((intro wq hSq; (try dsimp only at hSq); go_simp); (try with_reducible rfl))
    try simp only [Act.put, List.setIfInBounds_toArray, List.set_cons_zero, List.set_cons_succ]
    refine wpAnyH_take (i := 9) (oi := ?_) (v := ?_) ?_ (by kernel_rfl) (by kernel_rfl) (by kernel_rfl) ?_ (Or.inl ⟨?_, ?_⟩) (by assumption) ?_
    rotate_left 2
    · (simp only [List.getElem?_toArray, List.getElem?_cons_succ, List.getElem?_cons_zero]; rfl)
    · exact fun _ _ _ h => h
    · rfl
    · ((intro wq hSq; (try dsimp only at hSq); go_simp); (try with_reducible rfl))
    try simp only [Act.put, List.setIfInBounds_toArray, List.set_cons_zero, List.set_cons_succ]
    refine wpAnyH_take (i := 10) (oi := ?_) (v := ?_) ?_ (by kernel_rfl) (by kernel_rfl) (by kernel_rfl) ?_ (Or.inl ⟨?_, ?_⟩) (by assumption) ?_
    rotate_left 2
    · (simp only [List.getElem?_toArray, List.getElem?_cons_succ, List.getElem?_cons_zero]; rfl)
    · exact fun _ _ _ h => h
    · rfl
    · ((intro wq hSq; (try dsimp only at hSq); go_simp); (try with_reducible rfl))
    try simp only [Act.put, List.setIfInBounds_toArray, List.set_cons_zero, List.set_cons_succ]
    refine wpAnyH_take (i := 12) (oi := ?_) (v := ?_) ?_ (by kernel_rfl) (by kernel_rfl) (by kernel_rfl) ?_ (Or.inl ⟨?_, ?_⟩) (by assumption) ?_
    rotate_left 2
    · (simp only [List.getElem?_toArray, List.getElem?_cons_succ, List.getElem?_cons_zero]; rfl)
    · exact fun _ _ _ h => h
    · rfl
    · ((intro wq hSq; (try dsimp only at hSq); go_simp); (try with_reducible rfl))
    try simp only [Act.put, List.setIfInBounds_toArray, List.set_cons_zero, List.set_cons_succ]
    refine wpAnyH_take (i := 13) (oi := ?_) (v := ?_) ?_ (by kernel_rfl) (by kernel_rfl) (by kernel_rfl) ?_ (Or.inl ⟨?_, ?_⟩) (by assumption) ?_
    rotate_left 2
    · (simp only [List.getElem?_toArray, List.getElem?_cons_succ, List.getElem?_cons_zero]; rfl)
    · exact fun _ _ _ h => h
    · rfl
    · ((intro wq hSq; (try dsimp only at hSq); go_simp); (try with_reducible rfl))
    try simp only [Act.put, List.setIfInBounds_toArray, List.set_cons_zero, List.set_cons_succ]
    refine wpAnyH_ready (rs := [16]) (by kernel_rfl) (by simp) ?_
    refine AllReadyH.cons (o := ?_) ?_ (fun K hK => ?_) AllReadyH.nil
    rotate_left
    · (simp only [List.getElem?_toArray, List.getElem?_cons_succ, List.getElem?_cons_zero]; rfl)
    go_simp
    go_at_call 31
    refine (N3.out _).mono ?_
    rintro e wx ⟨rfl, hbx⟩
    have hSx := RSt2.below (w2 := w1) (n := n) (t := t) (k := kn) (a := a) (b := b) (x := S2) (by assumption) hbx
    refine hK.out _ _ hSx (fun hHeld => ?_)
    clear hK K
    try simp only [Act.put, List.setIfInBounds_toArray, List.set_cons_zero, List.set_cons_succ]
    refine wpAnyH_take (i := 17) (oi := ?_) (v := ?_) ?_ (by kernel_rfl) (by kernel_rfl) (by kernel_rfl) ?_ (Or.inl ⟨?_, ?_⟩) (by assumption) ?_
    rotate_left 2
    · (simp only [List.getElem?_toArray, List.getElem?_cons_succ, List.getElem?_cons_zero]; rfl)
    · exact fun _ _ _ h => h
    · rfl
    · ((intro wq hSq; (try dsimp only at hSq); go_simp); (try with_reducible rfl))
    try simp only [Act.put, List.setIfInBounds_toArray, List.set_cons_zero, List.set_cons_succ]
    refine wpAnyH_take (i := 18) (oi := ?_) (v := ?_) ?_ (by kernel_rfl) (by kernel_rfl) (by kernel_rfl) ?_ (Or.inl ⟨?_, ?_⟩) (by assumption) ?_
    rotate_left 2
    · (simp only [List.getElem?_toArray, List.getElem?_cons_succ, List.getElem?_cons_zero]; rfl)
    · exact fun _ _ _ h => h
    · rfl
    · ((intro wq hSq; (try dsimp only at hSq); go_simp); (try with_reducible rfl))
    try simp only [Act.put, List.setIfInBounds_toArray, List.set_cons_zero, List.set_cons_succ]
    refine wpAnyH_ready (rs := [21]) (by kernel_rfl) (by simp) ?_
    refine AllReadyH.cons (o := ?_) ?_ (fun K hK => ?_) AllReadyH.nil
    rotate_left
    · (simp only [List.getElem?_toArray, List.getElem?_cons_succ, List.getElem?_cons_zero]; rfl)
    go_simp
    go_at_call 31
    refine (N4.out _).mono ?_
    rintro e wx ⟨rfl, hbx⟩
    have hSx := RSt2.below (w2 := w1) (n := n) (t := t) (k := kn) (a := a) (b := b) (x := S2) (by assumption) hbx
    refine hK.out _ _ hSx (fun hHeld => ?_)
    clear hK K
    try simp only [Act.put, List.setIfInBounds_toArray, List.set_cons_zero, List.set_cons_succ]
    refine wpAnyH_take (i := 22) (oi := ?_) (v := ?_) ?_ (by kernel_rfl) (by kernel_rfl) (by kernel_rfl) ?_ (Or.inl ⟨?_, ?_⟩) (by assumption) ?_
    rotate_left 2
    · (simp only [List.getElem?_toArray, List.getElem?_cons_succ, List.getElem?_cons_zero]; rfl)
    · exact fun _ _ _ h => h
    · rfl
    · ((intro wq hSq; (try dsimp only at hSq); go_simp); (try with_reducible rfl))
    try simp only [Act.put, List.setIfInBounds_toArray, List.set_cons_zero, List.set_cons_succ]
    refine wpAnyH_take (i := 23) (oi := ?_) (v := ?_) ?_ (by kernel_rfl) (by kernel_rfl) (by kernel_rfl) ?_ (Or.inl ⟨?_, ?_⟩) (by assumption) ?_
    rotate_left 2
    · (simp only [List.getElem?_toArray, List.getElem?_cons_succ, List.getElem?_cons_zero]; rfl)
    · exact fun _ _ _ h => h
    · rfl
    · ((intro wq hSq; (try dsimp only at hSq); go_simp); (try with_reducible rfl))
    try simp only [Act.put, List.setIfInBounds_toArray, List.set_cons_zero, List.set_cons_succ]
    refine wpAnyH_done (by kernel_rfl) ?_ _
    all_goals
      go_wp2_with fail
      go_ret
      exact ⟨by rw [← HF'.out]; rfl, by (try rw [hn]); exact hb'.trans (hSx.1.1.mono (by have := hb'.size; omega))⟩
  · have hne : decide (0 ≤ p) = true := by rw [decide_eq_true_iff]; omega
    have np' := fun W => np W p1
    obtain ⟨H, hH⟩ : ∃ x, numS p.toNat = x := ⟨_, rfl⟩
    have lh : H.size ≤ 20 := by rw [← hH]; exact numS_le (by omega)
    rw [hH] at np'
    have NP := Lib.hid np'
    have HF' := Lib.hid (HF.out H (by rw [← hH]; unfold who; rw [if_neg (by omega)]; rfl))
    clear np np' hH HF
    have z1 : ¬ 9223372036854775807 < S1.size + 1 := by omega
    have z2 : ¬ 9223372036854775807 < S1.size + 1 + S2.size := by omega
    have z3 : ¬ 9223372036854775807 < S1.size + 1 + S2.size + 1 := by omega
    have z4 : ¬ 9223372036854775807 < S1.size + 1 + S2.size + 1 + H.size := by omega
    have z5 : ¬ 9223372036854775807 < S1.size + 1 + S2.size + 1 + H.size + 1 := by omega
    have z6 : ¬ 9223372036854775807 < S1.size + 1 + S2.size + 1 + H.size + 1 + S3.size := by omega
    have z7 : ¬ 9223372036854775807 < S1.size + 1 + S2.size + 1 + H.size + 1 + S3.size + 1 := by omega
    have z8 : ¬ 9223372036854775807 < S1.size + 1 + S2.size + 1 + H.size + 1 + S3.size + 1 + S4.size := by omega
    go_enter Tryd.func11, Tryd.ntmps11
    go_wp2_with fail
    refine (NP.out _).mono ?_
    rintro e w1 ⟨rfl, hb⟩
    have hb' := ((Below.refl w.heap.size w).alloc (Nat.le_refl _) (.cells #[.int .i64 t, .int .i64 kn, .int .i64 p, .int .i64 a, .int .i64 b] 23)).trans (hb.mono (by simp))
    have hS := hS'.out _ hb
    obtain ⟨n, hn⟩ : ∃ n, w.heap.size = n := ⟨_, rfl⟩
    rw [hn] at hS hb' ⊢
    clear hb hS'
    go_wp2_with fail
    have hSd := hS.drew
    obtain ⟨s1, s3, s4, s5, s6⟩ := hS
    refine wp_region_held_drew (S := fun w' => Below w1.heap.size w1 w' ∧ w'.cell? ⟨n, 0, none⟩ = some (.int .i64 t) ∧ w'.cell? ⟨n, 1, none⟩ = some (.int .i64 kn) ∧ w'.cell? ⟨n, 3, none⟩ = some (.int .i64 a) ∧ w'.cell? ⟨n, 4, none⟩ = some (.int .i64 b)) (by kernel_rfl) hSd (fun hHeld => ?_)
    refine wpAnyH_take (i := 0) (oi := ?_) (v := ?_) ?_ (by kernel_rfl) (by kernel_rfl) (by kernel_rfl) ?_ (Or.inl ⟨?_, ?_⟩) (by assumption) ?_
    rotate_left 2
    · (simp only [List.getElem?_toArray, List.getElem?_cons_zero]; rfl)
    · exact fun _ _ _ h => h
    · rfl
    · ((intro wq hSq; (try dsimp only at hSq); go_simp); (try with_reducible rfl))
    try simp only [Act.put, List.setIfInBounds_toArray, List.set_cons_zero, List.set_cons_succ]
    refine wpAnyH_take (i := 1) (oi := ?_) (v := ?_) ?_ (by kernel_rfl) (by kernel_rfl) (by kernel_rfl) ?_ (Or.inl ⟨?_, ?_⟩) (by assumption) ?_
    rotate_left 2
    · (simp only [List.getElem?_toArray, List.getElem?_cons_succ, List.getElem?_cons_zero]; rfl)
    · exact fun _ _ _ h => h
    · rfl
    · ((intro wq hSq; (try dsimp only at hSq); go_simp); (try with_reducible rfl))
    try simp only [Act.put, List.setIfInBounds_toArray, List.set_cons_zero, List.set_cons_succ]
    refine wpAnyH_take (i := 5) (oi := ?_) (v := ?_) ?_ (by kernel_rfl) (by kernel_rfl) (by kernel_rfl) ?_ (Or.inl ⟨?_, ?_⟩) (by assumption) ?_
    rotate_left 2
    · (simp only [List.getElem?_toArray, List.getElem?_cons_succ, List.getElem?_cons_zero]; rfl)
    · exact fun _ _ _ h => h
    · rfl
    · ((intro wq hSq; (try dsimp only at hSq); go_simp); (try with_reducible rfl))
    try simp only [Act.put, List.setIfInBounds_toArray, List.set_cons_zero, List.set_cons_succ]
    refine wpAnyH_take (i := 6) (oi := ?_) (v := ?_) ?_ (by kernel_rfl) (by kernel_rfl) (by kernel_rfl) ?_ (Or.inl ⟨?_, ?_⟩) (by assumption) ?_
    rotate_left 2
    · (simp only [List.getElem?_toArray, List.getElem?_cons_succ, List.getElem?_cons_zero]; rfl)
    · exact fun _ _ _ h => h
    · rfl
    · ((intro wq hSq; (try dsimp only at hSq); go_simp); (try with_reducible rfl))
    try simp only [Act.put, List.setIfInBounds_toArray, List.set_cons_zero, List.set_cons_succ]
    refine wpAnyH_take (i := 11) (oi := ?_) (v := ?_) ?_ (by kernel_rfl) (by kernel_rfl) (by kernel_rfl) ?_ (Or.inl ⟨?_, ?_⟩) (by assumption) ?_
    rotate_left 2
    · (simp only [List.getElem?_toArray, List.getElem?_cons_succ, List.getElem?_cons_zero]; rfl)
    · exact fun _ _ _ h => h
    · rfl
    · ((intro wq hSq; (try dsimp only at hSq); go_simp); (try with_reducible rfl))
    try simp only [Act.put, List.setIfInBounds_toArray, List.set_cons_zero, List.set_cons_succ]
    refine wpAnyH_take (i := 14) (oi := ?_) (v := ?_) ?_ (by kernel_rfl) (by kernel_rfl) (by kernel_rfl) ?_ (Or.inl ⟨?_, ?_⟩) (by assumption) ?_
    rotate_left 2
    · (simp only [List.getElem?_toArray, List.getElem?_cons_succ, List.getElem?_cons_zero]; rfl)
    · exact fun _ _ _ h => h
    · rfl
    · ((intro wq hSq; (try dsimp only at hSq); go_simp); (try with_reducible rfl))
    try simp only [Act.put, List.setIfInBounds_toArray, List.set_cons_zero, List.set_cons_succ]
    refine wpAnyH_take (i := 15) (oi := ?_) (v := ?_) ?_ (by kernel_rfl) (by kernel_rfl) (by kernel_rfl) ?_ (Or.inl ⟨?_, ?_⟩) (by assumption) ?_
    rotate_left 2
    · (simp only [List.getElem?_toArray, List.getElem?_cons_succ, List.getElem?_cons_zero]; rfl)
    · exact fun _ _ _ h => h
    · rfl
    · ((intro wq hSq; (try dsimp only at hSq); go_simp); (try with_reducible rfl))
    try simp only [Act.put, List.setIfInBounds_toArray, List.set_cons_zero, List.set_cons_succ]
    refine wpAnyH_take (i := 19) (oi := ?_) (v := ?_) ?_ (by kernel_rfl) (by kernel_rfl) (by kernel_rfl) ?_ (Or.inl ⟨?_, ?_⟩) (by assumption) ?_
    rotate_left 2
    · (simp only [List.getElem?_toArray, List.getElem?_cons_succ, List.getElem?_cons_zero]; rfl)
    · exact fun _ _ _ h => h
    · rfl
    · ((intro wq hSq; (try dsimp only at hSq); go_simp); (try with_reducible rfl))
    try simp only [Act.put, List.setIfInBounds_toArray, List.set_cons_zero, List.set_cons_succ]
    refine wpAnyH_take (i := 20) (oi := ?_) (v := ?_) ?_ (by kernel_rfl) (by kernel_rfl) (by kernel_rfl) ?_ (Or.inl ⟨?_, ?_⟩) (by assumption) ?_
    rotate_left 2
    · (simp only [List.getElem?_toArray, List.getElem?_cons_succ, List.getElem?_cons_zero]; rfl)
    · exact fun _ _ _ h => h
    · rfl
    · ((intro wq hSq; (try dsimp only at hSq); go_simp); (try with_reducible rfl))
    try simp only [Act.put, List.setIfInBounds_toArray, List.set_cons_zero, List.set_cons_succ]
    refine wpAnyH_ready (rs := [2]) (by kernel_rfl) (by simp) ?_
    refine AllReadyH.cons (o := ?_) ?_ (fun K hK => ?_) AllReadyH.nil
    rotate_left
    · (simp only [List.getElem?_toArray, List.getElem?_cons_succ, List.getElem?_cons_zero]; rfl)
    go_simp
    go_at_call 31
    refine (N1.out _).mono ?_
    rintro e wx ⟨rfl, hbx⟩
    have hSx := RSt.below (w2 := w1) (n := n) (t := t) (k := kn) (a := a) (b := b) (by assumption) hbx
    refine hK.out _ _ hSx (fun hHeld => ?_)
    clear hK K
    try simp only [Act.put, List.setIfInBounds_toArray, List.set_cons_zero, List.set_cons_succ]
    refine wpAnyH_take (i := 3) (oi := ?_) (v := ?_) ?_ (by kernel_rfl) (by kernel_rfl) (by kernel_rfl) ?_ (Or.inl ⟨?_, ?_⟩) (by assumption) ?_
    rotate_left 2
    · (simp only [List.getElem?_toArray, List.getElem?_cons_succ, List.getElem?_cons_zero]; rfl)
    · exact fun _ _ _ h => h
    · rfl
    · ((intro wq hSq; (try dsimp only at hSq); go_simp); (try with_reducible rfl))
    try simp only [Act.put, List.setIfInBounds_toArray, List.set_cons_zero, List.set_cons_succ]
    refine wpAnyH_ready (rs := [4]) (by kernel_rfl) (by simp) ?_
    refine AllReadyH.cons (o := ?_) ?_ (fun K hK => ?_) AllReadyH.nil
    rotate_left
    · (simp only [List.getElem?_toArray, List.getElem?_cons_succ, List.getElem?_cons_zero]; rfl)
    go_simp
    go_at_call 32
    refine (rwords_cells _).mono ?_
    rintro e wx ⟨bw, rfl, hcw, hbx⟩
    have hSx := RSt.below (w2 := w1) (n := n) (t := t) (k := kn) (a := a) (b := b) (by assumption) hbx
    replace hcw := hcw _ _ HW.out
    refine hK.out _ _ hSx (fun hHeld => ?_)
    clear hK K
    try simp only [Act.put, List.setIfInBounds_toArray, List.set_cons_zero, List.set_cons_succ]
    have hSy : RSt2 w1 n t kn a b bw kn S2 _ := ⟨hHeld, hcw⟩
    refine wpAnyH_strong (S' := fun w' => (Below w1.heap.size w1 w' ∧ w'.cell? ⟨n, 0, none⟩ = some (.int .i64 t) ∧ w'.cell? ⟨n, 1, none⟩ = some (.int .i64 kn) ∧ w'.cell? ⟨n, 3, none⟩ = some (.int .i64 a) ∧ w'.cell? ⟨n, 4, none⟩ = some (.int .i64 b)) ∧ w'.cell? ⟨bw, kn, none⟩ = some (.string S2)) (fun w h => h.1) _ _ _ _ ?_
    refine wpAnyH_take (i := 7) (oi := ?_) (v := ?_) ?_ (by kernel_rfl) (by kernel_rfl) (by kernel_rfl) ?_ (Or.inl ⟨?_, ?_⟩) (by assumption) ?_
    rotate_left 2
    · (simp only [List.getElem?_toArray, List.getElem?_cons_succ, List.getElem?_cons_zero]; rfl)
    · exact fun _ _ _ h => h
    · rfl
    · ((intro wq hSq; (try dsimp only at hSq); go_simp); (try with_reducible rfl))
    try simp only [Act.put, List.setIfInBounds_toArray, List.set_cons_zero, List.set_cons_succ]
    refine wpAnyH_take (i := 8) (oi := ?_) (v := ?_) ?_ (by kernel_rfl) (by kernel_rfl) (by kernel_rfl) ?_ (Or.inl ⟨?_, ?_⟩) (by assumption) ?_
    rotate_left 2
    · (simp only [List.getElem?_toArray, List.getElem?_cons_succ, List.getElem?_cons_zero]; rfl)
    · exact fun _ _ _ h => h
    · rfl
    · ((intro wq hSq; (try dsimp only at hSq); go_simp); (try with_reducible rfl))
    try simp only [Act.put, List.setIfInBounds_toArray, List.set_cons_zero, List.set_cons_succ]
    refine wpAnyH_take (i := 9) (oi := ?_) (v := ?_) ?_ (by kernel_rfl) (by kernel_rfl) (by kernel_rfl) ?_ (Or.inl ⟨?_, ?_⟩) (by assumption) ?_
    rotate_left 2
    · (simp only [List.getElem?_toArray, List.getElem?_cons_succ, List.getElem?_cons_zero]; rfl)
    · exact fun _ _ _ h => h
    · rfl
    · ((intro wq hSq; (try dsimp only at hSq); go_simp); (try with_reducible rfl))
    try simp only [Act.put, List.setIfInBounds_toArray, List.set_cons_zero, List.set_cons_succ]
    refine wpAnyH_take (i := 10) (oi := ?_) (v := ?_) ?_ (by kernel_rfl) (by kernel_rfl) (by kernel_rfl) ?_ (Or.inl ⟨?_, ?_⟩) (by assumption) ?_
    rotate_left 2
    · (simp only [List.getElem?_toArray, List.getElem?_cons_succ, List.getElem?_cons_zero]; rfl)
    · exact fun _ _ _ h => h
    · rfl
    · ((intro wq hSq; (try dsimp only at hSq); go_simp); (try with_reducible rfl))
    try simp only [Act.put, List.setIfInBounds_toArray, List.set_cons_zero, List.set_cons_succ]
    refine wpAnyH_take (i := 12) (oi := ?_) (v := ?_) ?_ (by kernel_rfl) (by kernel_rfl) (by kernel_rfl) ?_ (Or.inl ⟨?_, ?_⟩) (by assumption) ?_
    rotate_left 2
    · (simp only [List.getElem?_toArray, List.getElem?_cons_succ, List.getElem?_cons_zero]; rfl)
    · exact fun _ _ _ h => h
    · rfl
    · ((intro wq hSq; (try dsimp only at hSq); go_simp); (try with_reducible rfl))
    try simp only [Act.put, List.setIfInBounds_toArray, List.set_cons_zero, List.set_cons_succ]
    refine wpAnyH_take (i := 13) (oi := ?_) (v := ?_) ?_ (by kernel_rfl) (by kernel_rfl) (by kernel_rfl) ?_ (Or.inl ⟨?_, ?_⟩) (by assumption) ?_
    rotate_left 2
    · (simp only [List.getElem?_toArray, List.getElem?_cons_succ, List.getElem?_cons_zero]; rfl)
    · exact fun _ _ _ h => h
    · rfl
    · ((intro wq hSq; (try dsimp only at hSq); go_simp); (try with_reducible rfl))
    try simp only [Act.put, List.setIfInBounds_toArray, List.set_cons_zero, List.set_cons_succ]
    refine wpAnyH_ready (rs := [16]) (by kernel_rfl) (by simp) ?_
    refine AllReadyH.cons (o := ?_) ?_ (fun K hK => ?_) AllReadyH.nil
    rotate_left
    · (simp only [List.getElem?_toArray, List.getElem?_cons_succ, List.getElem?_cons_zero]; rfl)
    go_simp
    go_at_call 31
    refine (N3.out _).mono ?_
    rintro e wx ⟨rfl, hbx⟩
    have hSx := RSt2.below (w2 := w1) (n := n) (t := t) (k := kn) (a := a) (b := b) (x := S2) (by assumption) hbx
    refine hK.out _ _ hSx (fun hHeld => ?_)
    clear hK K
    try simp only [Act.put, List.setIfInBounds_toArray, List.set_cons_zero, List.set_cons_succ]
    refine wpAnyH_take (i := 17) (oi := ?_) (v := ?_) ?_ (by kernel_rfl) (by kernel_rfl) (by kernel_rfl) ?_ (Or.inl ⟨?_, ?_⟩) (by assumption) ?_
    rotate_left 2
    · (simp only [List.getElem?_toArray, List.getElem?_cons_succ, List.getElem?_cons_zero]; rfl)
    · exact fun _ _ _ h => h
    · rfl
    · ((intro wq hSq; (try dsimp only at hSq); go_simp); (try with_reducible rfl))
    try simp only [Act.put, List.setIfInBounds_toArray, List.set_cons_zero, List.set_cons_succ]
    refine wpAnyH_take (i := 18) (oi := ?_) (v := ?_) ?_ (by kernel_rfl) (by kernel_rfl) (by kernel_rfl) ?_ (Or.inl ⟨?_, ?_⟩) (by assumption) ?_
    rotate_left 2
    · (simp only [List.getElem?_toArray, List.getElem?_cons_succ, List.getElem?_cons_zero]; rfl)
    · exact fun _ _ _ h => h
    · rfl
    · ((intro wq hSq; (try dsimp only at hSq); go_simp); (try with_reducible rfl))
    try simp only [Act.put, List.setIfInBounds_toArray, List.set_cons_zero, List.set_cons_succ]
    refine wpAnyH_ready (rs := [21]) (by kernel_rfl) (by simp) ?_
    refine AllReadyH.cons (o := ?_) ?_ (fun K hK => ?_) AllReadyH.nil
    rotate_left
    · (simp only [List.getElem?_toArray, List.getElem?_cons_succ, List.getElem?_cons_zero]; rfl)
    go_simp
    go_at_call 31
    refine (N4.out _).mono ?_
    rintro e wx ⟨rfl, hbx⟩
    have hSx := RSt2.below (w2 := w1) (n := n) (t := t) (k := kn) (a := a) (b := b) (x := S2) (by assumption) hbx
    refine hK.out _ _ hSx (fun hHeld => ?_)
    clear hK K
    try simp only [Act.put, List.setIfInBounds_toArray, List.set_cons_zero, List.set_cons_succ]
    refine wpAnyH_take (i := 22) (oi := ?_) (v := ?_) ?_ (by kernel_rfl) (by kernel_rfl) (by kernel_rfl) ?_ (Or.inl ⟨?_, ?_⟩) (by assumption) ?_
    rotate_left 2
    · (simp only [List.getElem?_toArray, List.getElem?_cons_succ, List.getElem?_cons_zero]; rfl)
    · exact fun _ _ _ h => h
    · rfl
    · ((intro wq hSq; (try dsimp only at hSq); go_simp); (try with_reducible rfl))
    try simp only [Act.put, List.setIfInBounds_toArray, List.set_cons_zero, List.set_cons_succ]
    refine wpAnyH_take (i := 23) (oi := ?_) (v := ?_) ?_ (by kernel_rfl) (by kernel_rfl) (by kernel_rfl) ?_ (Or.inl ⟨?_, ?_⟩) (by assumption) ?_
    rotate_left 2
    · (simp only [List.getElem?_toArray, List.getElem?_cons_succ, List.getElem?_cons_zero]; rfl)
    · exact fun _ _ _ h => h
    · rfl
    · ((intro wq hSq; (try dsimp only at hSq); go_simp); (try with_reducible rfl))
    try simp only [Act.put, List.setIfInBounds_toArray, List.set_cons_zero, List.set_cons_succ]
    refine wpAnyH_done (by kernel_rfl) ?_ _
    all_goals
      go_wp2_with fail
      go_ret
      exact ⟨by rw [← HF'.out]; rfl, by (try rw [hn]); exact hb'.trans (hSx.1.1.mono (by have := hb'.size; omega))⟩

end Go.Proofs.YtopclkkkchhgiaaDoor

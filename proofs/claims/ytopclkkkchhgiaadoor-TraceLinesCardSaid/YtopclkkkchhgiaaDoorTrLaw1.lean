/- The law TraceLines, walked. -/
import Derived.Test.YtopclkkkchhgiaaDoorTrAwake
import Derived.Test.YtopclkkkchhgiaaDoorTrRRead
namespace Go.Proofs.YtopclkkkchhgiaaDoor
open Go.RowKit

theorem big_any (v : Value) (hv : ∃ t k p a b, v = evV ⟨t, k, p, a, b⟩) (s : ByteArray) (w : World) (hs : 200 < s.size) (hT : Tab w) (hM : Mx w) :
    Calls Tryd.prog 3 #[v, .string s] w fun e w' => e = .returned (.bool true) ∧ Below w.heap.size w w' := by
  obtain ⟨t, k, p, a, b, rfl⟩ := hv
  unfold evV
  simp only
  have t1 : decide ((200 : Int) < (s.size : Int)) = true := by rw [decide_eq_true_iff]; omega
  have hb0 := (Below.refl w.heap.size w).alloc (Nat.le_refl _) (.cells #[.int .i64 t, .int .i64 k, .int .i64 p, .int .i64 a, .int .i64 b] 23)
  go_enter Tryd.func3, Tryd.ntmps3
  go_wp2_with (go_at_call 9; refine (awake_any _ (hT.below hb0) (hM.below hb0)).mono ?_; rintro e w1 ⟨rfl, hb⟩)
  go_ret
  exact ⟨rfl, hb0.trans (hb.mono hb0.size)⟩

set_option maxRecDepth 100000 in
set_option maxHeartbeats 4000000 in
theorem lines_small (e : Ev) (s : ByteArray) (w : World) (hs : s.size ≤ 200) (hT : Tab w) (hM : Mx w) :
    Calls Tryd.prog 3 #[evV e, .string s] w fun e w' => e = .returned (.bool true) ∧ Below w.heap.size w w' := by
  obtain ⟨t, k, p, a, b⟩ := e
  have t1 : decide ((200 : Int) < (s.size : Int)) = false := by rw [decide_eq_false_iff_not]; omega
  have h1 := fun W => rright_any ⟨t, k, p, a, b⟩ W
  have h2 := fun W hT => line_any ⟨t, k, p, a, b⟩ W hT
  have h3 := fun W => right_any ⟨t, k, p, a, b⟩ W
  have h4 := fun W hT hM => tread_any s W (by omega) hT hM
  have h5 := fun W => rread_any s W (by omega)
  have h6 := fun W h => rline_any ⟨t, k, p, a, b⟩ W h
  obtain ⟨rd, hrd⟩ : ∃ x, readX s.data.toList = x := ⟨_, rfl⟩
  obtain ⟨ro, hro⟩ : ∃ x, readOk s.data.toList = x := ⟨_, rfl⟩
  rw [hrd, hro] at h4 h5
  clear hrd hro
  obtain ⟨x0, x1, x2, x3, x4⟩ := rd
  have hq : (evB ⟨t, k, p, a, b⟩ = true ∧ lineR ⟨t, k, p, a, b⟩ = evLineS ⟨t, k, p, a, b⟩) ∨ (evB ⟨t, k, p, a, b⟩ = false ∧ lineR ⟨t, k, p, a, b⟩ = ⟨#[]⟩) := by
    rcases h : evB ⟨t, k, p, a, b⟩ with _ | _
    · exact .inr ⟨rfl, by unfold lineR; rw [h]; rfl⟩
    · exact .inl ⟨rfl, by unfold lineR; rw [h]; rfl⟩
  have hb0 := (Below.refl w.heap.size w).alloc (Nat.le_refl _) (.cells #[.int .i64 t, .int .i64 k, .int .i64 p, .int .i64 a, .int .i64 b] 23)
  have hbx0 := EvBox.new w ⟨t, k, p, a, b⟩
  unfold evV at h1 h2 h3 h4 h5 h6 ⊢
  simp only at h1 h2 h3 h4 h5 h6 ⊢
  rcases hq with ⟨q1, q2⟩ | ⟨q1, q2⟩
  · have h6' := fun W => h6 W (evB_iff.1 q1)
    obtain ⟨S, hS⟩ : ∃ x, evLineS ⟨t, k, p, a, b⟩ = x := ⟨_, rfl⟩
    rw [q1] at h1 h3
    rw [q1, q2, hS] at h2
    rw [hS] at h6'
    have H1 := Lib.hid h1
    have H2 := Lib.hid h2
    have H3 := Lib.hid h3
    have H4 := Lib.hid h4
    have H5 := Lib.hid h5
    have H6 := Lib.hid h6'
    clear h1 h2 h3 h4 h5 h6 h6' q1 q2 hS
    go_enter Tryd.func3, Tryd.ntmps3
    go_wp2_with fail
    refine (H1.out _).mono ?_
    rintro e w1 ⟨rfl, hb1⟩
    have hB1 := hb0.trans (hb1.mono hb0.size)
    have hbx1 := hbx0.kept hb1
    obtain ⟨n, hn⟩ : ∃ n, w.heap.size = n := ⟨_, rfl⟩
    rw [hn] at hbx1 hB1 ⊢
    clear hb0 hb1 hbx0
    obtain ⟨b0, b1, b2, b3, b4⟩ := hbx1.cells
    go_wp2_with fail
    refine (H6.out _).mono ?_
    rintro e w2 ⟨rfl, hb2⟩
    have hB2 := hB1.trans (hb2.mono (by have := hB1.size; rw [hn] at this; exact this))
    have hbx2 := hbx1.kept hb2
    clear hb2 hbx1 hB1 b0 b1 b2 b3 b4
    obtain ⟨b0, b1, b2, b3, b4⟩ := hbx2.cells
    go_wp2_with fail
    refine (H2.out _ (hT.below (by rw [hn]; exact hB2))).mono ?_
    rintro e w3 ⟨rfl, hb3⟩
    have hB3 := hB2.trans (hb3.mono (by have := hB2.size; rw [hn] at this; exact this))
    have hbx3 := hbx2.kept hb3
    clear hb3 hbx2 hB2 b0 b1 b2 b3 b4
    go_wp2_with fail
    refine (H4.out _ (hT.below (by rw [hn]; exact hB3)) (hM.below (by rw [hn]; exact hB3))).mono ?_
    rintro e w4 ⟨rfl, hb4⟩
    have hB4 := hB3.trans (hb4.mono (by have := hB3.size; rw [hn] at this; exact this))
    have hbx4 := hbx3.kept hb4
    clear hb4 hbx3 hB3
    have hx4 := EvBox.new w4 ⟨x0, x1, x2, x3, x4⟩
    have hs4 : n ≤ w4.heap.size := by have := hB4.size; rw [hn] at this; exact this
    go_wp2_with fail
    refine (H5.out _).mono ?_
    rintro e w5 ⟨rfl, hb5⟩
    have hB5 := (hB4.alloc hs4 (.cells #[.int .i64 x0, .int .i64 x1, .int .i64 x2, .int .i64 x3, .int .i64 x4] 23)).trans (hb5.mono (by simp; omega))
    have hbx5 := (hbx4.kept ((Below.refl _ w4).alloc (Nat.le_refl _) (.cells #[.int .i64 x0, .int .i64 x1, .int .i64 x2, .int .i64 x3, .int .i64 x4] 23))).kept hb5
    have hx5 := hx4.kept hb5
    have hy5 := EvBox.new w5 ⟨x0, x1, x2, x3, x4⟩
    have hs5 : n ≤ w5.heap.size := by have := hB5.size; rw [hn] at this; exact this
    obtain ⟨m4, hm4⟩ : ∃ n, w4.heap.size = n := ⟨_, rfl⟩
    rw [hm4] at hx5 ⊢
    clear hb5 hx4 hbx4 hB4 hs4 hm4
    have hbx6 := hbx5.kept ((Below.refl _ w5).alloc (Nat.le_refl _) (.cells #[.int .i64 x0, .int .i64 x1, .int .i64 x2, .int .i64 x3, .int .i64 x4] 23))
    obtain ⟨b0, b1, b2, b3, b4⟩ := hbx5.cells
    have hlt5 := hbx5.lt
    have hne5 : n ≠ w5.heap.size := by omega
    have hy6 := hx5.kept ((Below.refl _ w5).alloc (Nat.le_refl _) (.cells #[.int .i64 x0, .int .i64 x1, .int .i64 x2, .int .i64 x3, .int .i64 x4] 23))
    have hB6 := hB5.alloc hs5 (.cells #[.int .i64 x0, .int .i64 x1, .int .i64 x2, .int .i64 x3, .int .i64 x4] 23)
    have hs6 : n ≤ (w5.alloc (.cells #[.int .i64 x0, .int .i64 x1, .int .i64 x2, .int .i64 x3, .int .i64 x4] 23)).heap.size := by rw [World.size_alloc]; omega
    go_wp2_with fail
    refine (H3.out _).mono ?_
    rintro e w7 ⟨rfl, hb7⟩
    have hB7 := hB6.trans (hb7.mono hs6)
    have hX := hy6.kept hb7
    have hY := hy5.kept hb7
    obtain ⟨m5, hm5⟩ : ∃ n, w5.heap.size = n := ⟨_, rfl⟩
    rw [hm5] at hY ⊢
    clear hb7 hy6 hy5 hB6 hs6 hbx6 hbx5 hB5 hs5 hx5 b0 b1 b2 b3 b4 hm5
    obtain ⟨c0, c1, c2, c3, c4⟩ := hX.cells
    obtain ⟨d0, d1, d2, d3, d4⟩ := hY.cells
    rcases ro with _ | _
    all_goals
      go_wp2_with fail
      refine (awake_any _ (hT.below (by rw [hn]; exact hB7)) (hM.below (by rw [hn]; exact hB7))).mono ?_
      rintro e w8 ⟨rfl, hb8⟩
      go_wp2_with fail
      go_ret
      exact ⟨rfl, by rw [hn]; exact hB7.trans (hb8.mono (by have := hB7.size; rw [hn] at this; exact this))⟩
  · rw [q1] at h1 h3
    rw [q1, q2] at h2
    have H1 := Lib.hid h1
    have H2 := Lib.hid h2
    have H3 := Lib.hid h3
    have H4 := Lib.hid h4
    have H5 := Lib.hid h5
    clear h1 h2 h3 h4 h5 h6 q1 q2
    go_enter Tryd.func3, Tryd.ntmps3
    go_wp2_with fail
    refine (H1.out _).mono ?_
    rintro e w1 ⟨rfl, hb1⟩
    have hB1 := hb0.trans (hb1.mono hb0.size)
    have hbx1 := hbx0.kept hb1
    obtain ⟨n, hn⟩ : ∃ n, w.heap.size = n := ⟨_, rfl⟩
    rw [hn] at hbx1 hB1 ⊢
    clear hb0 hb1 hbx0
    obtain ⟨b0, b1, b2, b3, b4⟩ := hbx1.cells
    go_wp2_with fail
    refine (H2.out _ (hT.below (by rw [hn]; exact hB1))).mono ?_
    rintro e w3 ⟨rfl, hb3⟩
    have hB3 := hB1.trans (hb3.mono (by have := hB1.size; rw [hn] at this; exact this))
    have hbx3 := hbx1.kept hb3
    clear hb3 hbx1 hB1 b0 b1 b2 b3 b4
    go_wp2_with fail
    refine (H4.out _ (hT.below (by rw [hn]; exact hB3)) (hM.below (by rw [hn]; exact hB3))).mono ?_
    rintro e w4 ⟨rfl, hb4⟩
    have hB4 := hB3.trans (hb4.mono (by have := hB3.size; rw [hn] at this; exact this))
    have hbx4 := hbx3.kept hb4
    clear hb4 hbx3 hB3
    have hx4 := EvBox.new w4 ⟨x0, x1, x2, x3, x4⟩
    have hs4 : n ≤ w4.heap.size := by have := hB4.size; rw [hn] at this; exact this
    go_wp2_with fail
    refine (H5.out _).mono ?_
    rintro e w5 ⟨rfl, hb5⟩
    have hB5 := (hB4.alloc hs4 (.cells #[.int .i64 x0, .int .i64 x1, .int .i64 x2, .int .i64 x3, .int .i64 x4] 23)).trans (hb5.mono (by simp; omega))
    have hbx5 := (hbx4.kept ((Below.refl _ w4).alloc (Nat.le_refl _) (.cells #[.int .i64 x0, .int .i64 x1, .int .i64 x2, .int .i64 x3, .int .i64 x4] 23))).kept hb5
    have hx5 := hx4.kept hb5
    have hy5 := EvBox.new w5 ⟨x0, x1, x2, x3, x4⟩
    have hs5 : n ≤ w5.heap.size := by have := hB5.size; rw [hn] at this; exact this
    obtain ⟨m4, hm4⟩ : ∃ n, w4.heap.size = n := ⟨_, rfl⟩
    rw [hm4] at hx5 ⊢
    clear hb5 hx4 hbx4 hB4 hs4 hm4
    have hbx6 := hbx5.kept ((Below.refl _ w5).alloc (Nat.le_refl _) (.cells #[.int .i64 x0, .int .i64 x1, .int .i64 x2, .int .i64 x3, .int .i64 x4] 23))
    obtain ⟨b0, b1, b2, b3, b4⟩ := hbx5.cells
    have hlt5 := hbx5.lt
    have hne5 : n ≠ w5.heap.size := by omega
    have hy6 := hx5.kept ((Below.refl _ w5).alloc (Nat.le_refl _) (.cells #[.int .i64 x0, .int .i64 x1, .int .i64 x2, .int .i64 x3, .int .i64 x4] 23))
    have hB6 := hB5.alloc hs5 (.cells #[.int .i64 x0, .int .i64 x1, .int .i64 x2, .int .i64 x3, .int .i64 x4] 23)
    have hs6 : n ≤ (w5.alloc (.cells #[.int .i64 x0, .int .i64 x1, .int .i64 x2, .int .i64 x3, .int .i64 x4] 23)).heap.size := by rw [World.size_alloc]; omega
    go_wp2_with fail
    refine (H3.out _).mono ?_
    rintro e w7 ⟨rfl, hb7⟩
    have hB7 := hB6.trans (hb7.mono hs6)
    have hX := hy6.kept hb7
    have hY := hy5.kept hb7
    obtain ⟨m5, hm5⟩ : ∃ n, w5.heap.size = n := ⟨_, rfl⟩
    rw [hm5] at hY ⊢
    clear hb7 hy6 hy5 hB6 hs6 hbx6 hbx5 hB5 hs5 hx5 b0 b1 b2 b3 b4 hm5
    obtain ⟨c0, c1, c2, c3, c4⟩ := hX.cells
    obtain ⟨d0, d1, d2, d3, d4⟩ := hY.cells
    rcases ro with _ | _
    all_goals
      go_wp2_with fail
      refine (awake_any _ (hT.below (by rw [hn]; exact hB7)) (hM.below (by rw [hn]; exact hB7))).mono ?_
      rintro e w8 ⟨rfl, hb8⟩
      go_wp2_with fail
      go_ret
      exact ⟨rfl, by rw [hn]; exact hB7.trans (hb8.mono (by have := hB7.size; rw [hn] at this; exact this))⟩

end Go.Proofs.YtopclkkkchhgiaaDoor

/- The law AsmLines, walked. -/
import Derived.Test.YtkcdmonmgnmojaaDoorAsmAw
import Derived.Test.YtkcdmonmgnmojaaDoorAsmRR
namespace Go.Proofs.YtkcdmonmgnmojaaDoor
open Go.RowKit

theorem lines_big (e : Ins) (s : ByteArray) (w : World) (hs : 200 < s.size) (hT : Tab w) (hM : Mx w) :
    Calls Tryd.prog 3 #[insV e, .string s] w fun e w' => e = .returned (.bool true) ∧ Below w.heap.size w w' := by
  obtain ⟨op, a, b, c, m⟩ := e
  unfold insV
  simp only
  have t1 : decide ((200 : Int) < (s.size : Int)) = true := by rw [decide_eq_true_iff]; omega
  have hb0 := (Below.refl _ w).alloc (Nat.le_refl _) (.cells #[.int .i64 op, .int .i64 a, .int .i64 b, .int .i64 c, .int .u32 m] 24)
  have hb0' := Lib.hid hb0
  clear hb0
  go_enter Tryd.func3, Tryd.ntmps3
  go_wp2_with fail
  refine (awake_any _ (hT.below hb0'.out) (hM.below hb0'.out)).mono ?_
  rintro e w1 ⟨rfl, hb⟩
  go_wp2_with fail
  go_ret
  exact ⟨rfl, hb0'.out.trans (hb.mono (by simp))⟩

set_option maxRecDepth 100000 in
set_option maxHeartbeats 4000000 in
theorem lines_small (e : Ins) (s : ByteArray) (w : World) (hs : s.size ≤ 200) (hk : e.ok) (hT : Tab w) (hM : Mx w) :
    Calls Tryd.prog 3 #[insV e, .string s] w fun e w' => e = .returned (.bool true) ∧ Below w.heap.size w w' := by
  have t1 : decide ((200 : Int) < (s.size : Int)) = false := by rw [decide_eq_false_iff_not]; omega
  have h1 := fun W => rright_any e W
  have h2 := fun W h => rline_any e W h hk
  have h3 := fun W hT => line_any e hk W hT
  have h4 := fun W hT hM => aread_any s W (by omega) hT hM
  have h5 := fun W => aread9_any s W (by omega)
  have hbx0 := InBox.new w e
  have hb0 := (Below.refl _ w).alloc (Nat.le_refl _) (.cells #[.int .i64 e.op, .int .i64 e.a, .int .i64 e.b, .int .i64 e.c, .int .u32 e.n] 24)
  obtain ⟨RX, hRX⟩ : ∃ x, readX s.data.toList = x := ⟨_, rfl⟩
  obtain ⟨ro, hro⟩ : ∃ x, readOk s.data.toList = x := ⟨_, rfl⟩
  rw [hRX, hro] at h4 h5
  obtain ⟨x0, x1, x2, x3, x4⟩ := RX
  obtain ⟨LS, hLS⟩ : ∃ x, lineS e = x := ⟨_, rfl⟩
  rw [hLS] at h2 h3
  obtain ⟨q, hq⟩ : ∃ x, insB e = x := ⟨_, rfl⟩
  rw [hq] at h1 h2 h3
  obtain ⟨op, a, b, c, m⟩ := e
  unfold insV at h1 h2 h3 h4 h5 ⊢
  simp only at h1 h2 h3 h4 h5 hbx0 hb0 ⊢
  have H1 := Lib.hid h1
  have H4 := Lib.hid h4
  have H5 := Lib.hid h5
  clear h1 h4 h5 hRX hro hLS hq hk
  rcases q with _ | _
  · simp only [Bool.false_eq_true, if_false] at h3
    have H3 := Lib.hid h3
    clear h2 h3
    go_enter Tryd.func3, Tryd.ntmps3
    go_wp2_with fail
    refine (H1.out _).mono ?_
    rintro e w1 ⟨rfl, hb1⟩
    have hB1 := hb0.trans (hb1.mono (by simp))
    have hbx1 := hbx0.kept hb1
    clear hb0 hb1 hbx0
    obtain ⟨b0, b1, b2, b3, b4⟩ := hbx1.cells
    go_wp2_with fail
    refine (H3.out _ (hT.below hB1)).mono ?_
    rintro e w3 ⟨rfl, hb3⟩
    have hB3 := hB1.trans (hb3.mono hB1.size)
    clear b0 b1 b2 b3 b4 hb3 hbx1
    go_wp2_with fail
    refine (H4.out _ (hT.below hB3) (hM.below hB3)).mono ?_
    rintro e w4 ⟨rfl, hb4⟩
    have hB4 := hB3.trans (hb4.mono hB3.size)
    have hx4 := InBox.new w4 ⟨x0, x1, x2, x3, x4⟩
    have hB4a := hB4.alloc hB4.size (.cells #[.int .i64 x0, .int .i64 x1, .int .i64 x2, .int .i64 x3, .int .u32 x4] 24)
    have hB4a' := Lib.hid hB4a
    clear hb4 hB3 hB4 hB4a hB1
    go_wp2_with fail
    refine (H5.out _).mono ?_
    rintro e w5 ⟨rfl, hb5⟩
    have hB5 := hB4a'.out.trans (hb5.mono hB4a'.out.size)
    have hx5 := hx4.kept hb5
    obtain ⟨m4, hm4⟩ : ∃ n, w4.heap.size = n := ⟨_, rfl⟩
    rw [hm4] at hx5 ⊢
    have hlt5 := hx5.lt
    have hne5 : m4 ≠ w5.heap.size := by omega
    obtain ⟨c0, c1, c2, c3, c4⟩ := hx5.cells
    have hB6 := hB5.alloc hB5.size (.cells #[.int .i64 x0, .int .i64 x1, .int .i64 x2, .int .i64 x3, .int .u32 x4] 24)
    have hB6' := Lib.hid hB6
    clear hb5 hx4 hB5 hB6 hm4
    rcases ro with _ | _
    all_goals
      go_wp2_with fail
      refine (awake_any _ (hT.below hB6'.out) (hM.below hB6'.out)).mono ?_
      rintro e w8 ⟨rfl, hb8⟩
      go_wp2_with fail
      go_ret
      exact ⟨rfl, hB6'.out.trans (hb8.mono hB6'.out.size)⟩
  · simp only [if_true] at h3
    have H2 := Lib.hid (fun W => h2 W rfl)
    have H3 := Lib.hid h3
    clear h2 h3
    go_enter Tryd.func3, Tryd.ntmps3
    go_wp2_with fail
    refine (H1.out _).mono ?_
    rintro e w1 ⟨rfl, hb1⟩
    have hB1 := hb0.trans (hb1.mono (by simp))
    have hbx1 := hbx0.kept hb1
    clear hb0 hb1 hbx0
    obtain ⟨b0, b1, b2, b3, b4⟩ := hbx1.cells
    go_wp2_with fail
    refine (H2.out _).mono ?_
    rintro e w2 ⟨rfl, hb2⟩
    have hB2 := hB1.trans (hb2.mono hB1.size)
    have hbx2 := hbx1.kept hb2
    clear b0 b1 b2 b3 b4 hb2 hbx1 hB1
    obtain ⟨b0, b1, b2, b3, b4⟩ := hbx2.cells
    go_wp2_with fail
    refine (H3.out _ (hT.below hB2)).mono ?_
    rintro e w3 ⟨rfl, hb3⟩
    have hB3 := hB2.trans (hb3.mono hB2.size)
    clear b0 b1 b2 b3 b4 hb3 hbx2 hB2
    go_wp2_with fail
    refine (H4.out _ (hT.below hB3) (hM.below hB3)).mono ?_
    rintro e w4 ⟨rfl, hb4⟩
    have hB4 := hB3.trans (hb4.mono hB3.size)
    have hx4 := InBox.new w4 ⟨x0, x1, x2, x3, x4⟩
    have hB4a := hB4.alloc hB4.size (.cells #[.int .i64 x0, .int .i64 x1, .int .i64 x2, .int .i64 x3, .int .u32 x4] 24)
    have hB4a' := Lib.hid hB4a
    clear hb4 hB3 hB4 hB4a
    go_wp2_with fail
    refine (H5.out _).mono ?_
    rintro e w5 ⟨rfl, hb5⟩
    have hB5 := hB4a'.out.trans (hb5.mono hB4a'.out.size)
    have hx5 := hx4.kept hb5
    obtain ⟨m4, hm4⟩ : ∃ n, w4.heap.size = n := ⟨_, rfl⟩
    rw [hm4] at hx5 ⊢
    have hlt5 := hx5.lt
    have hne5 : m4 ≠ w5.heap.size := by omega
    obtain ⟨c0, c1, c2, c3, c4⟩ := hx5.cells
    have hB6 := hB5.alloc hB5.size (.cells #[.int .i64 x0, .int .i64 x1, .int .i64 x2, .int .i64 x3, .int .u32 x4] 24)
    have hB6' := Lib.hid hB6
    clear hb5 hx4 hB5 hB6 hm4
    rcases ro with _ | _
    all_goals
      go_wp2_with fail
      refine (awake_any _ (hT.below hB6'.out) (hM.below hB6'.out)).mono ?_
      rintro e w8 ⟨rfl, hb8⟩
      go_wp2_with fail
      go_ret
      exact ⟨rfl, hB6'.out.trans (hb8.mono hB6'.out.size)⟩

end Go.Proofs.YtkcdmonmgnmojaaDoor

/- The statement ObjectEnds: an operation ends within its bound, whatever others do. -/
import Derived.Test.YtgjcniokgdicpaaGreatDoorOgV
namespace Go.Proofs.YtgjcniokgdicpaaGreatDoor
open Go.RowKit
attribute [local go_sem] Oper.semAt_some

theorem tab_low {W w : World} (h : Tab64 W) (hb : Below W.heap.size W w) : Tab64 w := h.tch (Tch.of_below (fun _ => False) hb) (fun h => h)
def smallB (o : Ob) : Prop := o.ni ≤ 100 ∧ o.nr ≤ 100
def lightB (c : Cs) : Prop := c.o.ni ≤ 100 ∧ c.o.nr ≤ 100 ∧ c.rn ≤ 100 ∧ c.ln ≤ 400 ∧ c.pn ≤ 100

set_option maxRecDepth 100000 in
set_option maxHeartbeats 1000000 in
theorem small_0 (o : Ob) (w : World) (h1 : decide ((o.ni : Int) ≤ 100) = true) (h2 : decide ((o.nr : Int) ≤ 100) = true) : Calls Tryz.prog 29 #[.agg (obA o)] w fun e w' => e = .returned (.bool true) ∧ Below w.heap.size w w' := by
  have hB := Lib.hid ((Below.refl w.heap.size w).alloc (Nat.le_refl _) (.cells (obA o) 36))
  have k1 : decide (o.ni ≤ 100) = true := by rw [← h1, decide_eq_decide]; omega
  have k2 : decide (o.nr ≤ 100) = true := by rw [← h2, decide_eq_decide]; omega
  unfold obA at hB
  unfold obA
  go_enter Tryz.func29, Tryz.ntmps29
  go_wp2_with fail
  go_ret
  exact ⟨rfl, hB.out⟩
set_option maxRecDepth 100000 in
set_option maxHeartbeats 1000000 in
theorem small_1 (o : Ob) (w : World) (h1 : decide ((o.ni : Int) ≤ 100) = true) (h2 : decide ((o.nr : Int) ≤ 100) = false) : Calls Tryz.prog 29 #[.agg (obA o)] w fun e w' => e = .returned (.bool false) ∧ Below w.heap.size w w' := by
  have hB := Lib.hid ((Below.refl w.heap.size w).alloc (Nat.le_refl _) (.cells (obA o) 36))
  have k1 : decide (o.ni ≤ 100) = true := by rw [← h1, decide_eq_decide]; omega
  have k2 : decide (o.nr ≤ 100) = false := by rw [← h2, decide_eq_decide]; omega
  unfold obA at hB
  unfold obA
  go_enter Tryz.func29, Tryz.ntmps29
  go_wp2_with fail
  go_ret
  exact ⟨rfl, hB.out⟩
set_option maxRecDepth 100000 in
set_option maxHeartbeats 1000000 in
theorem small_2 (o : Ob) (w : World) (h1 : decide ((o.ni : Int) ≤ 100) = false) : Calls Tryz.prog 29 #[.agg (obA o)] w fun e w' => e = .returned (.bool false) ∧ Below w.heap.size w w' := by
  have hB := Lib.hid ((Below.refl w.heap.size w).alloc (Nat.le_refl _) (.cells (obA o) 36))
  have k1 : decide (o.ni ≤ 100) = false := by rw [← h1, decide_eq_decide]; omega
  skip
  unfold obA at hB
  unfold obA
  go_enter Tryz.func29, Tryz.ntmps29
  go_wp2_with fail
  go_ret
  exact ⟨rfl, hB.out⟩
instance (o : Ob) : Decidable (smallB o) := by unfold smallB; infer_instance
instance (c : Cs) : Decidable (lightB c) := by unfold lightB; infer_instance
theorem small_g (o : Ob) (w : World) : Calls Tryz.prog 29 #[.agg (obA o)] w fun e w' => e = .returned (.bool (decide (smallB o))) ∧ Below w.heap.size w w' := by
  by_cases h1 : o.ni ≤ 100
  · by_cases h2 : o.nr ≤ 100
    · rw [decide_eq_true (show smallB o from ⟨h1, h2⟩)]
      exact small_0 o w (decide_eq_true (by omega)) (decide_eq_true (by omega))
    · rw [decide_eq_false (fun h : smallB o => h2 h.2)]
      exact small_1 o w (decide_eq_true (by omega)) (decide_eq_false (by omega))
  · rw [decide_eq_false (fun h : smallB o => h1 h.1)]
    exact small_2 o w (decide_eq_false (by omega))
set_option maxRecDepth 100000 in
set_option maxHeartbeats 1000000 in
theorem light_0 (c : Cs) (w : World) (h0 : decide (smallB c.o) = true) (h1 : decide (c.rn ≤ 100) = true) (h2 : decide (c.ln ≤ 400) = true) (h3 : decide (c.pn ≤ 100) = true) : Calls Tryz.prog 14 #[.agg (csA c)] w fun e w' => e = .returned (.bool true) ∧ Below w.heap.size w w' := by
  have hba := (Below.refl w.heap.size w).alloc (Nat.le_refl _) (.cells (csA c) 39)
  have hn := RowB.new w (csA c) 39
  have hsm := small_g c.o
  rw [h0] at hsm
  have HS := Lib.hid hsm
  clear hsm h0
  have k1 : decide ((c.rn : Int) ≤ 100) = true := by rw [← h1, decide_eq_decide]; omega
  have k2 : decide ((c.ln : Int) ≤ 400) = true := by rw [← h2, decide_eq_decide]; omega
  have k3 : decide ((c.pn : Int) ≤ 100) = true := by rw [← h3, decide_eq_decide]; omega
  have HB := Lib.hid hba
  obtain ⟨n, hn'⟩ : ∃ n, w.heap.size = n := ⟨_, rfl⟩
  rw [hn'] at hn
  have HN := Lib.hid hn
  clear hba hn
  unfold csA at HB HN
  unfold obA at HS
  unfold csA
  go_enter Tryz.func14, Tryz.ntmps14
  go_wp2_with fail
  refine (HS.out _).mono ?_
  rintro e w1 ⟨rfl, hb1⟩
  have hn1 := HN.out.kept hb1
  have c11 : w1.cell? ⟨n, 11, none⟩ = some (.slice c.RA c.rn c.rc) := (hn1.cell 11).trans rfl
  have c12 : w1.cell? ⟨n, 12, none⟩ = some (.slice c.LA c.ln c.lc) := (hn1.cell 12).trans rfl
  have c13 : w1.cell? ⟨n, 13, none⟩ = some (.slice c.PA c.pn c.pc) := (hn1.cell 13).trans rfl
  have HB1 := Lib.hid (HB.out.trans (hb1.mono HB.out.size))
  clear hn1 hb1
  go_wp2_with fail
  go_ret
  exact ⟨rfl, HB1.out⟩
set_option maxRecDepth 100000 in
set_option maxHeartbeats 1000000 in
theorem light_1 (c : Cs) (w : World) (h0 : decide (smallB c.o) = true) (h1 : decide (c.rn ≤ 100) = true) (h2 : decide (c.ln ≤ 400) = true) (h3 : decide (c.pn ≤ 100) = false) : Calls Tryz.prog 14 #[.agg (csA c)] w fun e w' => e = .returned (.bool false) ∧ Below w.heap.size w w' := by
  have hba := (Below.refl w.heap.size w).alloc (Nat.le_refl _) (.cells (csA c) 39)
  have hn := RowB.new w (csA c) 39
  have hsm := small_g c.o
  rw [h0] at hsm
  have HS := Lib.hid hsm
  clear hsm h0
  have k1 : decide ((c.rn : Int) ≤ 100) = true := by rw [← h1, decide_eq_decide]; omega
  have k2 : decide ((c.ln : Int) ≤ 400) = true := by rw [← h2, decide_eq_decide]; omega
  have k3 : decide ((c.pn : Int) ≤ 100) = false := by rw [← h3, decide_eq_decide]; omega
  have HB := Lib.hid hba
  obtain ⟨n, hn'⟩ : ∃ n, w.heap.size = n := ⟨_, rfl⟩
  rw [hn'] at hn
  have HN := Lib.hid hn
  clear hba hn
  unfold csA at HB HN
  unfold obA at HS
  unfold csA
  go_enter Tryz.func14, Tryz.ntmps14
  go_wp2_with fail
  refine (HS.out _).mono ?_
  rintro e w1 ⟨rfl, hb1⟩
  have hn1 := HN.out.kept hb1
  have c11 : w1.cell? ⟨n, 11, none⟩ = some (.slice c.RA c.rn c.rc) := (hn1.cell 11).trans rfl
  have c12 : w1.cell? ⟨n, 12, none⟩ = some (.slice c.LA c.ln c.lc) := (hn1.cell 12).trans rfl
  have c13 : w1.cell? ⟨n, 13, none⟩ = some (.slice c.PA c.pn c.pc) := (hn1.cell 13).trans rfl
  have HB1 := Lib.hid (HB.out.trans (hb1.mono HB.out.size))
  clear hn1 hb1
  go_wp2_with fail
  go_ret
  exact ⟨rfl, HB1.out⟩
set_option maxRecDepth 100000 in
set_option maxHeartbeats 1000000 in
theorem light_2 (c : Cs) (w : World) (h0 : decide (smallB c.o) = true) (h1 : decide (c.rn ≤ 100) = true) (h2 : decide (c.ln ≤ 400) = false) : Calls Tryz.prog 14 #[.agg (csA c)] w fun e w' => e = .returned (.bool false) ∧ Below w.heap.size w w' := by
  have hba := (Below.refl w.heap.size w).alloc (Nat.le_refl _) (.cells (csA c) 39)
  have hn := RowB.new w (csA c) 39
  have hsm := small_g c.o
  rw [h0] at hsm
  have HS := Lib.hid hsm
  clear hsm h0
  have k1 : decide ((c.rn : Int) ≤ 100) = true := by rw [← h1, decide_eq_decide]; omega
  have k2 : decide ((c.ln : Int) ≤ 400) = false := by rw [← h2, decide_eq_decide]; omega
  have HB := Lib.hid hba
  obtain ⟨n, hn'⟩ : ∃ n, w.heap.size = n := ⟨_, rfl⟩
  rw [hn'] at hn
  have HN := Lib.hid hn
  clear hba hn
  unfold csA at HB HN
  unfold obA at HS
  unfold csA
  go_enter Tryz.func14, Tryz.ntmps14
  go_wp2_with fail
  refine (HS.out _).mono ?_
  rintro e w1 ⟨rfl, hb1⟩
  have hn1 := HN.out.kept hb1
  have c11 : w1.cell? ⟨n, 11, none⟩ = some (.slice c.RA c.rn c.rc) := (hn1.cell 11).trans rfl
  have c12 : w1.cell? ⟨n, 12, none⟩ = some (.slice c.LA c.ln c.lc) := (hn1.cell 12).trans rfl
  have c13 : w1.cell? ⟨n, 13, none⟩ = some (.slice c.PA c.pn c.pc) := (hn1.cell 13).trans rfl
  have HB1 := Lib.hid (HB.out.trans (hb1.mono HB.out.size))
  clear hn1 hb1
  go_wp2_with fail
  go_ret
  exact ⟨rfl, HB1.out⟩
set_option maxRecDepth 100000 in
set_option maxHeartbeats 1000000 in
theorem light_3 (c : Cs) (w : World) (h0 : decide (smallB c.o) = true) (h1 : decide (c.rn ≤ 100) = false) : Calls Tryz.prog 14 #[.agg (csA c)] w fun e w' => e = .returned (.bool false) ∧ Below w.heap.size w w' := by
  have hba := (Below.refl w.heap.size w).alloc (Nat.le_refl _) (.cells (csA c) 39)
  have hn := RowB.new w (csA c) 39
  have hsm := small_g c.o
  rw [h0] at hsm
  have HS := Lib.hid hsm
  clear hsm h0
  have k1 : decide ((c.rn : Int) ≤ 100) = false := by rw [← h1, decide_eq_decide]; omega
  have HB := Lib.hid hba
  obtain ⟨n, hn'⟩ : ∃ n, w.heap.size = n := ⟨_, rfl⟩
  rw [hn'] at hn
  have HN := Lib.hid hn
  clear hba hn
  unfold csA at HB HN
  unfold obA at HS
  unfold csA
  go_enter Tryz.func14, Tryz.ntmps14
  go_wp2_with fail
  refine (HS.out _).mono ?_
  rintro e w1 ⟨rfl, hb1⟩
  have hn1 := HN.out.kept hb1
  have c11 : w1.cell? ⟨n, 11, none⟩ = some (.slice c.RA c.rn c.rc) := (hn1.cell 11).trans rfl
  have c12 : w1.cell? ⟨n, 12, none⟩ = some (.slice c.LA c.ln c.lc) := (hn1.cell 12).trans rfl
  have c13 : w1.cell? ⟨n, 13, none⟩ = some (.slice c.PA c.pn c.pc) := (hn1.cell 13).trans rfl
  have HB1 := Lib.hid (HB.out.trans (hb1.mono HB.out.size))
  clear hn1 hb1
  go_wp2_with fail
  go_ret
  exact ⟨rfl, HB1.out⟩
set_option maxRecDepth 100000 in
set_option maxHeartbeats 1000000 in
theorem light_4 (c : Cs) (w : World) (h0 : decide (smallB c.o) = false) : Calls Tryz.prog 14 #[.agg (csA c)] w fun e w' => e = .returned (.bool false) ∧ Below w.heap.size w w' := by
  have hba := (Below.refl w.heap.size w).alloc (Nat.le_refl _) (.cells (csA c) 39)
  have hn := RowB.new w (csA c) 39
  have hsm := small_g c.o
  rw [h0] at hsm
  have HS := Lib.hid hsm
  clear hsm h0
  have HB := Lib.hid hba
  obtain ⟨n, hn'⟩ : ∃ n, w.heap.size = n := ⟨_, rfl⟩
  rw [hn'] at hn
  have HN := Lib.hid hn
  clear hba hn
  unfold csA at HB HN
  unfold obA at HS
  unfold csA
  go_enter Tryz.func14, Tryz.ntmps14
  go_wp2_with fail
  refine (HS.out _).mono ?_
  rintro e w1 ⟨rfl, hb1⟩
  have hn1 := HN.out.kept hb1
  have c11 : w1.cell? ⟨n, 11, none⟩ = some (.slice c.RA c.rn c.rc) := (hn1.cell 11).trans rfl
  have c12 : w1.cell? ⟨n, 12, none⟩ = some (.slice c.LA c.ln c.lc) := (hn1.cell 12).trans rfl
  have c13 : w1.cell? ⟨n, 13, none⟩ = some (.slice c.PA c.pn c.pc) := (hn1.cell 13).trans rfl
  have HB1 := Lib.hid (HB.out.trans (hb1.mono HB.out.size))
  clear hn1 hb1
  go_wp2_with fail
  go_ret
  exact ⟨rfl, HB1.out⟩
theorem light_g (c : Cs) (w : World) : Calls Tryz.prog 14 #[.agg (csA c)] w fun e w' => e = .returned (.bool (decide (lightB c))) ∧ Below w.heap.size w w' := by
  by_cases h0 : smallB c.o
  · by_cases h1 : c.rn ≤ 100
    · by_cases h2 : c.ln ≤ 400
      · by_cases h3 : c.pn ≤ 100
        · rw [decide_eq_true (show lightB c from ⟨h0.1, h0.2, h1, h2, h3⟩)]
          exact light_0 c w (decide_eq_true h0) (decide_eq_true h1) (decide_eq_true h2) (decide_eq_true h3)
        · rw [decide_eq_false (fun h : lightB c => h3 h.2.2.2.2)]
          exact light_1 c w (decide_eq_true h0) (decide_eq_true h1) (decide_eq_true h2) (decide_eq_false h3)
      · rw [decide_eq_false (fun h : lightB c => h2 h.2.2.2.1)]
        exact light_2 c w (decide_eq_true h0) (decide_eq_true h1) (decide_eq_false h2)
    · rw [decide_eq_false (fun h : lightB c => h1 h.2.2.1)]
      exact light_3 c w (decide_eq_true h0) (decide_eq_false h1)
  · rw [decide_eq_false (fun h : lightB c => h0 ⟨h.1, h.2.1⟩)]
    exact light_4 c w (decide_eq_false h0)

end Go.Proofs.YtgjcniokgdicpaaGreatDoor

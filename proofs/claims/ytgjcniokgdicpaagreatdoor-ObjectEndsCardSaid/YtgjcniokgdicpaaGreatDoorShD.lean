/- Which objects may be: object.Shaped, coxswainref14.Right. -/
import Derived.Test.YtgjcniokgdicpaaGreatDoorShC
namespace Go.Proofs.YtgjcniokgdicpaaGreatDoor
open Go.RowKit

theorem any_four {o : Ob} (h : o.k = 1) : decide (anyR o) = decide (fourR o) := by
  obtain ⟨k1, k2, k3, k4, k5, k6⟩ := @kind_of o
  rw [decide_eq_decide]
  unfold anyR
  constructor
  · rintro (q | q | q | q | q | q)
    · exact q
    · exfalso; have := k2 q; omega
    · exfalso; have := k3 q; omega
    · exfalso; have := k4 q; omega
    · exfalso; have := k5 q; omega
    · exfalso; have := k6 q; omega
  · exact fun q => .inl q
theorem any_chen {o : Ob} (h : o.k = 2) : decide (anyR o) = decide (chenR o) := by
  obtain ⟨k1, k2, k3, k4, k5, k6⟩ := @kind_of o
  rw [decide_eq_decide]
  unfold anyR
  constructor
  · rintro (q | q | q | q | q | q)
    · exfalso; have := k1 q; omega
    · exact q
    · exfalso; have := k3 q; omega
    · exfalso; have := k4 q; omega
    · exfalso; have := k5 q; omega
    · exfalso; have := k6 q; omega
  · exact fun q => .inr (.inl q)
theorem any_seq {o : Ob} (h : o.k = 3) : decide (anyR o) = decide (seqR o) := by
  obtain ⟨k1, k2, k3, k4, k5, k6⟩ := @kind_of o
  rw [decide_eq_decide]
  unfold anyR
  constructor
  · rintro (q | q | q | q | q | q)
    · exfalso; have := k1 q; omega
    · exfalso; have := k2 q; omega
    · exact q
    · exfalso; have := k4 q; omega
    · exfalso; have := k5 q; omega
    · exfalso; have := k6 q; omega
  · exact fun q => .inr (.inr (.inl q))
theorem any_ring {o : Ob} (h : o.k = 4) : decide (anyR o) = decide (ringR o) := by
  obtain ⟨k1, k2, k3, k4, k5, k6⟩ := @kind_of o
  rw [decide_eq_decide]
  unfold anyR
  constructor
  · rintro (q | q | q | q | q | q)
    · exfalso; have := k1 q; omega
    · exfalso; have := k2 q; omega
    · exfalso; have := k3 q; omega
    · exact q
    · exfalso; have := k5 q; omega
    · exfalso; have := k6 q; omega
  · exact fun q => .inr (.inr (.inr (.inl q)))
theorem any_cab {o : Ob} (h : o.k = 5) : decide (anyR o) = decide (cabR o) := by
  obtain ⟨k1, k2, k3, k4, k5, k6⟩ := @kind_of o
  rw [decide_eq_decide]
  unfold anyR
  constructor
  · rintro (q | q | q | q | q | q)
    · exfalso; have := k1 q; omega
    · exfalso; have := k2 q; omega
    · exfalso; have := k3 q; omega
    · exfalso; have := k4 q; omega
    · exact q
    · exfalso; have := k6 q; omega
  · exact fun q => .inr (.inr (.inr (.inr (.inl q))))
theorem any_fifo {o : Ob} (h : ¬ o.k = 1 ∧ ¬ o.k = 2 ∧ ¬ o.k = 3 ∧ ¬ o.k = 4 ∧ ¬ o.k = 5) : decide (anyR o) = decide (fifoR o) := by
  obtain ⟨k1, k2, k3, k4, k5, k6⟩ := @kind_of o
  rw [decide_eq_decide]
  unfold anyR
  constructor
  · rintro (q | q | q | q | q | q)
    · exfalso; have := k1 q; omega
    · exfalso; have := k2 q; omega
    · exfalso; have := k3 q; omega
    · exfalso; have := k4 q; omega
    · exfalso; have := k5 q; omega
    · exact q
  · exact fun q => .inr (.inr (.inr (.inr (.inr q))))
set_option maxRecDepth 100000 in
set_option maxHeartbeats 2000000 in
theorem shaped_o (o : Ob) (ho : o.Ok) (w : World) : Calls Tryz.prog 32 #[.agg (obA o)] w fun e w' => e = .returned (.bool (decide (anyR o))) ∧ Below w.heap.size w w' := by
  have hn := ObX.new w o
  have hB := (Below.refl w.heap.size w).alloc (Nat.le_refl _) (.cells (obA o) 36)
  obtain ⟨n, hn0⟩ : ∃ n, w.heap.size = n := ⟨_, rfl⟩
  rw [hn0] at hn hB
  have HN := Lib.hid hn
  have HB := Lib.hid hB
  clear hn hB
  rw [hn0]
  by_cases hk1 : o.k = 1
  · have kb1 : (o.k == 1) = true := by simpa using hk1
    rw [any_four hk1]
    have HK1 := Lib.hid hk1
    clear hk1
    have hr := fun W => fourRight_o o ho W
    unfold obA at hr
    have HR := Lib.hid hr
    clear hr
    unfold obA at *
    go_enter Tryz.func32, Tryz.ntmps32
    go_wp2_with fail
    refine (HR.out _).mono ?_
    rintro e w1 ⟨rfl, hb1⟩
    have ho1 := ObX.kept (HN.out) hb1
    have hB1 := (HB.out).trans (hb1.mono (by have := (HB.out).size; omega))
    obtain ⟨d0, d1, d2, d3, d4, d5, d6, d7⟩ := ho1.cells
    go_wp2_with fail
    go_ret
    exact ⟨rfl, hB1⟩
  · have kb1 : (o.k == 1) = false := by simpa using hk1
    by_cases hk2 : o.k = 2
    · have kb2 : (o.k == 2) = true := by simpa using hk2
      rw [any_chen hk2]
      have HK1 := Lib.hid hk1
      clear hk1
      have HK2 := Lib.hid hk2
      clear hk2
      have hr := fun W => chenRight_o o ho W
      unfold obA at hr
      have HR := Lib.hid hr
      clear hr
      unfold obA at *
      go_enter Tryz.func32, Tryz.ntmps32
      go_wp2_with fail
      refine (HR.out _).mono ?_
      rintro e w1 ⟨rfl, hb1⟩
      have ho1 := ObX.kept (HN.out) hb1
      have hB1 := (HB.out).trans (hb1.mono (by have := (HB.out).size; omega))
      obtain ⟨d0, d1, d2, d3, d4, d5, d6, d7⟩ := ho1.cells
      go_wp2_with fail
      go_ret
      exact ⟨rfl, hB1⟩
    · have kb2 : (o.k == 2) = false := by simpa using hk2
      by_cases hk3 : o.k = 3
      · have kb3 : (o.k == 3) = true := by simpa using hk3
        rw [any_seq hk3]
        have HK1 := Lib.hid hk1
        clear hk1
        have HK2 := Lib.hid hk2
        clear hk2
        have HK3 := Lib.hid hk3
        clear hk3
        have hr := fun W => seqRight_o o ho W
        unfold obA at hr
        have HR := Lib.hid hr
        clear hr
        unfold obA at *
        go_enter Tryz.func32, Tryz.ntmps32
        go_wp2_with fail
        refine (HR.out _).mono ?_
        rintro e w1 ⟨rfl, hb1⟩
        have ho1 := ObX.kept (HN.out) hb1
        have hB1 := (HB.out).trans (hb1.mono (by have := (HB.out).size; omega))
        obtain ⟨d0, d1, d2, d3, d4, d5, d6, d7⟩ := ho1.cells
        go_wp2_with fail
        go_ret
        exact ⟨rfl, hB1⟩
      · have kb3 : (o.k == 3) = false := by simpa using hk3
        by_cases hk4 : o.k = 4
        · have kb4 : (o.k == 4) = true := by simpa using hk4
          rw [any_ring hk4]
          have HK1 := Lib.hid hk1
          clear hk1
          have HK2 := Lib.hid hk2
          clear hk2
          have HK3 := Lib.hid hk3
          clear hk3
          have HK4 := Lib.hid hk4
          clear hk4
          have hr := fun W => ringRight_o o W
          unfold obA at hr
          have HR := Lib.hid hr
          clear hr
          unfold obA at *
          go_enter Tryz.func32, Tryz.ntmps32
          go_wp2_with fail
          refine (HR.out _).mono ?_
          rintro e w1 ⟨rfl, hb1⟩
          have ho1 := ObX.kept (HN.out) hb1
          have hB1 := (HB.out).trans (hb1.mono (by have := (HB.out).size; omega))
          obtain ⟨d0, d1, d2, d3, d4, d5, d6, d7⟩ := ho1.cells
          go_wp2_with fail
          go_ret
          exact ⟨rfl, hB1⟩
        · have kb4 : (o.k == 4) = false := by simpa using hk4
          by_cases hk5 : o.k = 5
          · have kb5 : (o.k == 5) = true := by simpa using hk5
            rw [any_cab hk5]
            have HK1 := Lib.hid hk1
            clear hk1
            have HK2 := Lib.hid hk2
            clear hk2
            have HK3 := Lib.hid hk3
            clear hk3
            have HK4 := Lib.hid hk4
            clear hk4
            have HK5 := Lib.hid hk5
            clear hk5
            have hr := fun W => cabRight_o o ho W
            unfold obA at hr
            have HR := Lib.hid hr
            clear hr
            unfold obA at *
            go_enter Tryz.func32, Tryz.ntmps32
            go_wp2_with fail
            refine (HR.out _).mono ?_
            rintro e w1 ⟨rfl, hb1⟩
            have ho1 := ObX.kept (HN.out) hb1
            have hB1 := (HB.out).trans (hb1.mono (by have := (HB.out).size; omega))
            obtain ⟨d0, d1, d2, d3, d4, d5, d6, d7⟩ := ho1.cells
            go_wp2_with fail
            go_ret
            exact ⟨rfl, hB1⟩
          · have kb5 : (o.k == 5) = false := by simpa using hk5
            rw [any_fifo ⟨hk1, hk2, hk3, hk4, hk5⟩]
            have HK1 := Lib.hid hk1
            clear hk1
            have HK2 := Lib.hid hk2
            clear hk2
            have HK3 := Lib.hid hk3
            clear hk3
            have HK4 := Lib.hid hk4
            clear hk4
            have HK5 := Lib.hid hk5
            clear hk5
            have hr := fun W => fifoRight_o o W
            unfold obA at hr
            have HR := Lib.hid hr
            clear hr
            unfold obA at *
            go_enter Tryz.func32, Tryz.ntmps32
            go_wp2_with fail
            refine (HR.out _).mono ?_
            rintro e w1 ⟨rfl, hb1⟩
            have ho1 := ObX.kept (HN.out) hb1
            have hB1 := (HB.out).trans (hb1.mono (by have := (HB.out).size; omega))
            obtain ⟨d0, d1, d2, d3, d4, d5, d6, d7⟩ := ho1.cells
            go_wp2_with fail
            go_ret
            exact ⟨rfl, hB1⟩

end Go.Proofs.YtgjcniokgdicpaaGreatDoor

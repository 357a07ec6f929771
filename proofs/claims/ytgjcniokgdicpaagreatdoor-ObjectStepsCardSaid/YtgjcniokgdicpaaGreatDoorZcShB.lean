/- Which objects may be: micro.Words, Caps, the kinds' Right. -/
import Derived.Test.YtgjcniokgdicpaaGreatDoorZcA
namespace Go.Proofs.YtgjcniokgdicpaaGreatDoor
open Go.RowKit
set_option maxRecDepth 100000
theorem words_o (o : Ob) (kind init : Int) (w : World) : Calls Tryz.prog 155 #[.agg (obA o), .int .i64 kind, .int .i64 init] w fun e w' => e = .returned (.bool (decide (wordsR o kind init))) ∧ Below w.heap.size w w' := by
 have hn := ObX.new w o
 have hB := (Below.refl w.heap.size w).alloc (Nat.le_refl _) (.cells (obA o) 36)
 obtain ⟨n, hn0⟩ : ∃ n, w.heap.size = n := ⟨_, rfl⟩
 rw [hn0] at hn hB
 have HN := Lib.hid hn
 have HB := Lib.hid hB
 clear hn hB
 rw [hn0]
 rcases h0 : (o.k == kind) with _ | _
 ·unfold obA at *
  go_enter Tryz.func155, Tryz.ntmps155
  go_wp2_with fail
  go_ret
  exact ⟨ret_bool (by have p0 : ¬ (o.k = kind) := (by first | exact of_decide_eq_true h0 | exact of_decide_eq_false h0 | simpa using h0 | (have hh := h0; simp at hh; omega)); have q : decide (wordsR o kind init) = false := (by rw [decide_eq_false_iff_not]; unfold wordsR; first | omega | simp [p0]); rw [q]; (try assumption)), HB.out⟩
 ·rcases h1 : (decide (1 ≤ o.wd)) with _ | _
  ·unfold obA at *
   go_enter Tryz.func155, Tryz.ntmps155
   go_wp2_with fail
   go_ret
   exact ⟨ret_bool (by have p0 : o.k = kind := (by first | exact of_decide_eq_true h0 | exact of_decide_eq_false h0 | simpa using h0 | (have hh := h0; simp at hh; omega)); have p1 : ¬ (1 ≤ o.wd) := (by first | exact of_decide_eq_true h1 | exact of_decide_eq_false h1 | simpa using h1 | (have hh := h1; simp at hh; omega)); have q : decide (wordsR o kind init) = false := (by rw [decide_eq_false_iff_not]; unfold wordsR; first | omega | simp [p0, p1]); rw [q]; (try assumption)), HB.out⟩
  ·rcases h2 : (decide (o.wd ≤ 8)) with _ | _
   ·unfold obA at *
    go_enter Tryz.func155, Tryz.ntmps155
    go_wp2_with fail
    go_ret
    exact ⟨ret_bool (by have p0 : o.k = kind := (by first | exact of_decide_eq_true h0 | exact of_decide_eq_false h0 | simpa using h0 | (have hh := h0; simp at hh; omega)); have p1 : 1 ≤ o.wd := (by first | exact of_decide_eq_true h1 | exact of_decide_eq_false h1 | simpa using h1 | (have hh := h1; simp at hh; omega)); have p2 : ¬ (o.wd ≤ 8) := (by first | exact of_decide_eq_true h2 | exact of_decide_eq_false h2 | simpa using h2 | (have hh := h2; simp at hh; omega)); have q : decide (wordsR o kind init) = false := (by rw [decide_eq_false_iff_not]; unfold wordsR; first | omega | simp [p0, p1, p2]); rw [q]; (try assumption)), HB.out⟩
   ·rcases h3 : (((o.ni : Int) == init)) with _ | _
    ·unfold obA at *
     go_enter Tryz.func155, Tryz.ntmps155
     go_wp2_with fail
     go_ret
     exact ⟨ret_bool (by have p0 : o.k = kind := (by first | exact of_decide_eq_true h0 | exact of_decide_eq_false h0 | simpa using h0 | (have hh := h0; simp at hh; omega)); have p1 : 1 ≤ o.wd := (by first | exact of_decide_eq_true h1 | exact of_decide_eq_false h1 | simpa using h1 | (have hh := h1; simp at hh; omega)); have p2 : o.wd ≤ 8 := (by first | exact of_decide_eq_true h2 | exact of_decide_eq_false h2 | simpa using h2 | (have hh := h2; simp at hh; omega)); have p3 : ¬ ((o.ni : Int) = init) := (by first | exact of_decide_eq_true h3 | exact of_decide_eq_false h3 | simpa using h3 | (have hh := h3; simp at hh; omega)); have q : decide (wordsR o kind init) = false := (by rw [decide_eq_false_iff_not]; unfold wordsR; first | omega | simp [p0, p1, p2, p3]); rw [q]; (try assumption)), HB.out⟩
    ·rcases h4 : (decide ((1 : Int) ≤ (o.nr : Int))) with _ | _
     ·unfold obA at *
      go_enter Tryz.func155, Tryz.ntmps155
      go_wp2_with fail
      go_ret
      exact ⟨ret_bool (by have p0 : o.k = kind := (by first | exact of_decide_eq_true h0 | exact of_decide_eq_false h0 | simpa using h0 | (have hh := h0; simp at hh; omega)); have p1 : 1 ≤ o.wd := (by first | exact of_decide_eq_true h1 | exact of_decide_eq_false h1 | simpa using h1 | (have hh := h1; simp at hh; omega)); have p2 : o.wd ≤ 8 := (by first | exact of_decide_eq_true h2 | exact of_decide_eq_false h2 | simpa using h2 | (have hh := h2; simp at hh; omega)); have p3 : (o.ni : Int) = init := (by first | exact of_decide_eq_true h3 | exact of_decide_eq_false h3 | simpa using h3 | (have hh := h3; simp at hh; omega)); have p4 : ¬ ((1 : Int) ≤ (o.nr : Int)) := (by first | exact of_decide_eq_true h4 | exact of_decide_eq_false h4 | simpa using h4 | (have hh := h4; simp at hh; omega)); have q : decide (wordsR o kind init) = false := (by rw [decide_eq_false_iff_not]; unfold wordsR; first | omega | simp [p0, p1, p2, p3, p4]); rw [q]; (try assumption)), HB.out⟩
     ·rcases h5 : (decide ((o.nr : Int) ≤ 4)) with _ | _
      ·unfold obA at *
       go_enter Tryz.func155, Tryz.ntmps155
       go_wp2_with fail
       go_ret
       exact ⟨ret_bool (by have p0 : o.k = kind := (by first | exact of_decide_eq_true h0 | exact of_decide_eq_false h0 | simpa using h0 | (have hh := h0; simp at hh; omega)); have p1 : 1 ≤ o.wd := (by first | exact of_decide_eq_true h1 | exact of_decide_eq_false h1 | simpa using h1 | (have hh := h1; simp at hh; omega)); have p2 : o.wd ≤ 8 := (by first | exact of_decide_eq_true h2 | exact of_decide_eq_false h2 | simpa using h2 | (have hh := h2; simp at hh; omega)); have p3 : (o.ni : Int) = init := (by first | exact of_decide_eq_true h3 | exact of_decide_eq_false h3 | simpa using h3 | (have hh := h3; simp at hh; omega)); have p4 : (1 : Int) ≤ (o.nr : Int) := (by first | exact of_decide_eq_true h4 | exact of_decide_eq_false h4 | simpa using h4 | (have hh := h4; simp at hh; omega)); have p5 : ¬ ((o.nr : Int) ≤ 4) := (by first | exact of_decide_eq_true h5 | exact of_decide_eq_false h5 | simpa using h5 | (have hh := h5; simp at hh; omega)); have q : decide (wordsR o kind init) = false := (by rw [decide_eq_false_iff_not]; unfold wordsR; first | omega | simp [p0, p1, p2, p3, p4, p5]); rw [q]; (try assumption)), HB.out⟩
      ·unfold obA at *
       go_enter Tryz.func155, Tryz.ntmps155
       go_wp2_with fail
       go_ret
       exact ⟨ret_bool (by have p0 : o.k = kind := (by first | exact of_decide_eq_true h0 | exact of_decide_eq_false h0 | simpa using h0 | (have hh := h0; simp at hh; omega)); have p1 : 1 ≤ o.wd := (by first | exact of_decide_eq_true h1 | exact of_decide_eq_false h1 | simpa using h1 | (have hh := h1; simp at hh; omega)); have p2 : o.wd ≤ 8 := (by first | exact of_decide_eq_true h2 | exact of_decide_eq_false h2 | simpa using h2 | (have hh := h2; simp at hh; omega)); have p3 : (o.ni : Int) = init := (by first | exact of_decide_eq_true h3 | exact of_decide_eq_false h3 | simpa using h3 | (have hh := h3; simp at hh; omega)); have p4 : (1 : Int) ≤ (o.nr : Int) := (by first | exact of_decide_eq_true h4 | exact of_decide_eq_false h4 | simpa using h4 | (have hh := h4; simp at hh; omega)); have p5 : (o.nr : Int) ≤ 4 := (by first | exact of_decide_eq_true h5 | exact of_decide_eq_false h5 | simpa using h5 | (have hh := h5; simp at hh; omega)); have q : decide (wordsR o kind init) = true := (by rw [decide_eq_true_iff]; unfold wordsR; first | omega | simp [p0, p1, p2, p3, p4, p5]); rw [q]; (try assumption)), HB.out⟩
theorem caps_o (o : Ob) (w : World) : Calls Tryz.prog 156 #[.agg (obA o)] w fun e w' => e = .returned (.bool (decide (capsR o))) ∧ Below w.heap.size w w' := by
 have hn := ObX.new w o
 have hB := (Below.refl w.heap.size w).alloc (Nat.le_refl _) (.cells (obA o) 36)
 obtain ⟨n, hn0⟩ : ∃ n, w.heap.size = n := ⟨_, rfl⟩
 rw [hn0] at hn hB
 have HN := Lib.hid hn
 have HB := Lib.hid hB
 clear hn hB
 rw [hn0]
 rcases h0 : (decide (1 ≤ o.c)) with _ | _
 ·unfold obA at *
  go_enter Tryz.func156, Tryz.ntmps156
  go_wp2_with fail
  go_ret
  exact ⟨ret_bool (by have p0 : ¬ (1 ≤ o.c) := (by first | exact of_decide_eq_true h0 | exact of_decide_eq_false h0 | simpa using h0 | (have hh := h0; simp at hh; omega)); have q : decide (capsR o) = false := (by rw [decide_eq_false_iff_not]; unfold capsR; first | omega | simp [p0]); rw [q]; (try assumption)), HB.out⟩
 ·rcases h1 : (decide (o.c ≤ 16)) with _ | _
  ·unfold obA at *
   go_enter Tryz.func156, Tryz.ntmps156
   go_wp2_with fail
   go_ret
   exact ⟨ret_bool (by have p0 : 1 ≤ o.c := (by first | exact of_decide_eq_true h0 | exact of_decide_eq_false h0 | simpa using h0 | (have hh := h0; simp at hh; omega)); have p1 : ¬ (o.c ≤ 16) := (by first | exact of_decide_eq_true h1 | exact of_decide_eq_false h1 | simpa using h1 | (have hh := h1; simp at hh; omega)); have q : decide (capsR o) = false := (by rw [decide_eq_false_iff_not]; unfold capsR; first | omega | simp [p0, p1]); rw [q]; (try assumption)), HB.out⟩
  ·unfold obA at *
   go_enter Tryz.func156, Tryz.ntmps156
   go_wp2_with fail
   go_ret
   exact ⟨ret_bool (by have p0 : 1 ≤ o.c := (by first | exact of_decide_eq_true h0 | exact of_decide_eq_false h0 | simpa using h0 | (have hh := h0; simp at hh; omega)); have p1 : o.c ≤ 16 := (by first | exact of_decide_eq_true h1 | exact of_decide_eq_false h1 | simpa using h1 | (have hh := h1; simp at hh; omega)); have q : decide (capsR o) = true := (by rw [decide_eq_true_iff]; unfold capsR; first | omega | simp [p0, p1]); rw [q]; (try assumption)), HB.out⟩
theorem fourRight_o (o : Ob) (_ho : o.Ok) (w : World) : Calls Tryz.prog 106 #[.agg (obA o)] w fun e w' => e = .returned (.bool (decide (fourR o))) ∧ Below w.heap.size w w' := by
 have hn := ObX.new w o
 have hB := (Below.refl w.heap.size w).alloc (Nat.le_refl _) (.cells (obA o) 36)
 obtain ⟨n, hn0⟩ : ∃ n, w.heap.size = n := ⟨_, rfl⟩
 rw [hn0] at hn hB
 have HN := Lib.hid hn
 have HB := Lib.hid hB
 clear hn hB
 rw [hn0]
 rcases h0 : (decide (wordsR o 1 o.wd)) with _ | _
 ·have hw := fun W => words_o o 1 o.wd W
  simp only [h0] at hw
  unfold obA at hw
  have HW := Lib.hid hw
  clear hw
  unfold obA at *
  go_enter Tryz.func106, Tryz.ntmps106
  go_wp2_with fail
  refine (HW.out _).mono ?_
  rintro e w1 ⟨rfl, hb1⟩
  have ho1 := ObX.kept (HN.out) hb1
  have hB1 := (HB.out).trans (hb1.mono (by have := (HB.out).size; omega))
  obtain ⟨d0, d1, d2, d3, d4, d5, d6, d7⟩ := ho1.cells
  go_wp2_with fail
  go_ret
  exact ⟨ret_bool (by have p0 : ¬ (wordsR o 1 o.wd) := (by first | exact of_decide_eq_true h0 | exact of_decide_eq_false h0 | simpa using h0 | (have hh := h0; simp at hh; omega)); have q : decide (fourR o) = false := (by rw [decide_eq_false_iff_not]; unfold fourR; first | omega | simp [p0]); rw [q]; (try assumption)), hB1⟩
 ·rcases h1 : (o.s == 0) with _ | _
  ·have hw := fun W => words_o o 1 o.wd W
   simp only [h0] at hw
   unfold obA at hw
   have HW := Lib.hid hw
   clear hw
   unfold obA at *
   go_enter Tryz.func106, Tryz.ntmps106
   go_wp2_with fail
   refine (HW.out _).mono ?_
   rintro e w1 ⟨rfl, hb1⟩
   have ho1 := ObX.kept (HN.out) hb1
   have hB1 := (HB.out).trans (hb1.mono (by have := (HB.out).size; omega))
   obtain ⟨d0, d1, d2, d3, d4, d5, d6, d7⟩ := ho1.cells
   go_wp2_with fail
   go_ret
   exact ⟨ret_bool (by have p0 : wordsR o 1 o.wd := (by first | exact of_decide_eq_true h0 | exact of_decide_eq_false h0 | simpa using h0 | (have hh := h0; simp at hh; omega)); have p1 : ¬ (o.s = 0) := (by first | exact of_decide_eq_true h1 | exact of_decide_eq_false h1 | simpa using h1 | (have hh := h1; simp at hh; omega)); have q : decide (fourR o) = false := (by rw [decide_eq_false_iff_not]; unfold fourR; first | omega | simp [p0, p1]); rw [q]; (try assumption)), hB1⟩
  ·rcases h2 : (o.c == 0) with _ | _
   ·have hw := fun W => words_o o 1 o.wd W
    simp only [h0] at hw
    unfold obA at hw
    have HW := Lib.hid hw
    clear hw
    unfold obA at *
    go_enter Tryz.func106, Tryz.ntmps106
    go_wp2_with fail
    refine (HW.out _).mono ?_
    rintro e w1 ⟨rfl, hb1⟩
    have ho1 := ObX.kept (HN.out) hb1
    have hB1 := (HB.out).trans (hb1.mono (by have := (HB.out).size; omega))
    obtain ⟨d0, d1, d2, d3, d4, d5, d6, d7⟩ := ho1.cells
    go_wp2_with fail
    go_ret
    exact ⟨ret_bool (by have p0 : wordsR o 1 o.wd := (by first | exact of_decide_eq_true h0 | exact of_decide_eq_false h0 | simpa using h0 | (have hh := h0; simp at hh; omega)); have p1 : o.s = 0 := (by first | exact of_decide_eq_true h1 | exact of_decide_eq_false h1 | simpa using h1 | (have hh := h1; simp at hh; omega)); have p2 : ¬ (o.c = 0) := (by first | exact of_decide_eq_true h2 | exact of_decide_eq_false h2 | simpa using h2 | (have hh := h2; simp at hh; omega)); have q : decide (fourR o) = false := (by rw [decide_eq_false_iff_not]; unfold fourR; first | omega | simp [p0, p1, p2]); rw [q]; (try assumption)), hB1⟩
   ·rcases h3 : (o.st == 0) with _ | _
    ·have hw := fun W => words_o o 1 o.wd W
     simp only [h0] at hw
     unfold obA at hw
     have HW := Lib.hid hw
     clear hw
     unfold obA at *
     go_enter Tryz.func106, Tryz.ntmps106
     go_wp2_with fail
     refine (HW.out _).mono ?_
     rintro e w1 ⟨rfl, hb1⟩
     have ho1 := ObX.kept (HN.out) hb1
     have hB1 := (HB.out).trans (hb1.mono (by have := (HB.out).size; omega))
     obtain ⟨d0, d1, d2, d3, d4, d5, d6, d7⟩ := ho1.cells
     go_wp2_with fail
     go_ret
     exact ⟨ret_bool (by have p0 : wordsR o 1 o.wd := (by first | exact of_decide_eq_true h0 | exact of_decide_eq_false h0 | simpa using h0 | (have hh := h0; simp at hh; omega)); have p1 : o.s = 0 := (by first | exact of_decide_eq_true h1 | exact of_decide_eq_false h1 | simpa using h1 | (have hh := h1; simp at hh; omega)); have p2 : o.c = 0 := (by first | exact of_decide_eq_true h2 | exact of_decide_eq_false h2 | simpa using h2 | (have hh := h2; simp at hh; omega)); have p3 : ¬ (o.st = 0) := (by first | exact of_decide_eq_true h3 | exact of_decide_eq_false h3 | simpa using h3 | (have hh := h3; simp at hh; omega)); have q : decide (fourR o) = false := (by rw [decide_eq_false_iff_not]; unfold fourR; first | omega | simp [p0, p1, p2, p3]); rw [q]; (try assumption)), hB1⟩
    ·rcases h4 : (((o.nr : Int) == 1)) with _ | _
     ·have hw := fun W => words_o o 1 o.wd W
      simp only [h0] at hw
      unfold obA at hw
      have HW := Lib.hid hw
      clear hw
      unfold obA at *
      go_enter Tryz.func106, Tryz.ntmps106
      go_wp2_with fail
      refine (HW.out _).mono ?_
      rintro e w1 ⟨rfl, hb1⟩
      have ho1 := ObX.kept (HN.out) hb1
      have hB1 := (HB.out).trans (hb1.mono (by have := (HB.out).size; omega))
      obtain ⟨d0, d1, d2, d3, d4, d5, d6, d7⟩ := ho1.cells
      go_wp2_with fail
      go_ret
      exact ⟨ret_bool (by have p0 : wordsR o 1 o.wd := (by first | exact of_decide_eq_true h0 | exact of_decide_eq_false h0 | simpa using h0 | (have hh := h0; simp at hh; omega)); have p1 : o.s = 0 := (by first | exact of_decide_eq_true h1 | exact of_decide_eq_false h1 | simpa using h1 | (have hh := h1; simp at hh; omega)); have p2 : o.c = 0 := (by first | exact of_decide_eq_true h2 | exact of_decide_eq_false h2 | simpa using h2 | (have hh := h2; simp at hh; omega)); have p3 : o.st = 0 := (by first | exact of_decide_eq_true h3 | exact of_decide_eq_false h3 | simpa using h3 | (have hh := h3; simp at hh; omega)); have p4 : ¬ (o.nr = 1) := (by first | exact of_decide_eq_true h4 | exact of_decide_eq_false h4 | simpa using h4 | (have hh := h4; simp at hh; omega)); have q : decide (fourR o) = false := (by rw [decide_eq_false_iff_not]; unfold fourR; first | omega | simp [p0, p1, p2, p3, p4]); rw [q]; (try assumption)), hB1⟩
     ·have hw := fun W => words_o o 1 o.wd W
      simp only [h0] at hw
      unfold obA at hw
      have HW := Lib.hid hw
      clear hw
      unfold obA at *
      go_enter Tryz.func106, Tryz.ntmps106
      go_wp2_with fail
      refine (HW.out _).mono ?_
      rintro e w1 ⟨rfl, hb1⟩
      have ho1 := ObX.kept (HN.out) hb1
      have hB1 := (HB.out).trans (hb1.mono (by have := (HB.out).size; omega))
      obtain ⟨d0, d1, d2, d3, d4, d5, d6, d7⟩ := ho1.cells
      go_wp2_with fail
      go_ret
      exact ⟨ret_bool (by have p0 : wordsR o 1 o.wd := (by first | exact of_decide_eq_true h0 | exact of_decide_eq_false h0 | simpa using h0 | (have hh := h0; simp at hh; omega)); have p1 : o.s = 0 := (by first | exact of_decide_eq_true h1 | exact of_decide_eq_false h1 | simpa using h1 | (have hh := h1; simp at hh; omega)); have p2 : o.c = 0 := (by first | exact of_decide_eq_true h2 | exact of_decide_eq_false h2 | simpa using h2 | (have hh := h2; simp at hh; omega)); have p3 : o.st = 0 := (by first | exact of_decide_eq_true h3 | exact of_decide_eq_false h3 | simpa using h3 | (have hh := h3; simp at hh; omega)); have p4 : o.nr = 1 := (by first | exact of_decide_eq_true h4 | exact of_decide_eq_false h4 | simpa using h4 | (have hh := h4; simp at hh; omega)); have q : decide (fourR o) = true := (by rw [decide_eq_true_iff]; unfold fourR; first | omega | simp [p0, p1, p2, p3, p4]); rw [q]; (try assumption)), hB1⟩
theorem chenRight_o (o : Ob) (_ho : o.Ok) (w : World) : Calls Tryz.prog 107 #[.agg (obA o)] w fun e w' => e = .returned (.bool (decide (chenR o))) ∧ Below w.heap.size w w' := by
 have hn := ObX.new w o
 have hB := (Below.refl w.heap.size w).alloc (Nat.le_refl _) (.cells (obA o) 36)
 obtain ⟨n, hn0⟩ : ∃ n, w.heap.size = n := ⟨_, rfl⟩
 rw [hn0] at hn hB
 have HN := Lib.hid hn
 have HB := Lib.hid hB
 clear hn hB
 rw [hn0]
 rcases h0 : (decide (wordsR o 2 o.wd)) with _ | _
 ·have hw := fun W => words_o o 2 o.wd W
  simp only [h0] at hw
  unfold obA at hw
  have HW := Lib.hid hw
  clear hw
  unfold obA at *
  go_enter Tryz.func107, Tryz.ntmps107
  go_wp2_with fail
  refine (HW.out _).mono ?_
  rintro e w1 ⟨rfl, hb1⟩
  have ho1 := ObX.kept (HN.out) hb1
  have hB1 := (HB.out).trans (hb1.mono (by have := (HB.out).size; omega))
  obtain ⟨d0, d1, d2, d3, d4, d5, d6, d7⟩ := ho1.cells
  go_wp2_with fail
  go_ret
  exact ⟨ret_bool (by have p0 : ¬ (wordsR o 2 o.wd) := (by first | exact of_decide_eq_true h0 | exact of_decide_eq_false h0 | simpa using h0 | (have hh := h0; simp at hh; omega)); have q : decide (chenR o) = false := (by rw [decide_eq_false_iff_not]; unfold chenR; first | omega | simp [p0]); rw [q]; (try assumption)), hB1⟩
 ·rcases h1 : (o.s == 0) with _ | _
  ·have hw := fun W => words_o o 2 o.wd W
   simp only [h0] at hw
   unfold obA at hw
   have HW := Lib.hid hw
   clear hw
   unfold obA at *
   go_enter Tryz.func107, Tryz.ntmps107
   go_wp2_with fail
   refine (HW.out _).mono ?_
   rintro e w1 ⟨rfl, hb1⟩
   have ho1 := ObX.kept (HN.out) hb1
   have hB1 := (HB.out).trans (hb1.mono (by have := (HB.out).size; omega))
   obtain ⟨d0, d1, d2, d3, d4, d5, d6, d7⟩ := ho1.cells
   go_wp2_with fail
   go_ret
   exact ⟨ret_bool (by have p0 : wordsR o 2 o.wd := (by first | exact of_decide_eq_true h0 | exact of_decide_eq_false h0 | simpa using h0 | (have hh := h0; simp at hh; omega)); have p1 : ¬ (o.s = 0) := (by first | exact of_decide_eq_true h1 | exact of_decide_eq_false h1 | simpa using h1 | (have hh := h1; simp at hh; omega)); have q : decide (chenR o) = false := (by rw [decide_eq_false_iff_not]; unfold chenR; first | omega | simp [p0, p1]); rw [q]; (try assumption)), hB1⟩
  ·rcases h2 : (o.c == 0) with _ | _
   ·have hw := fun W => words_o o 2 o.wd W
    simp only [h0] at hw
    unfold obA at hw
    have HW := Lib.hid hw
    clear hw
    unfold obA at *
    go_enter Tryz.func107, Tryz.ntmps107
    go_wp2_with fail
    refine (HW.out _).mono ?_
    rintro e w1 ⟨rfl, hb1⟩
    have ho1 := ObX.kept (HN.out) hb1
    have hB1 := (HB.out).trans (hb1.mono (by have := (HB.out).size; omega))
    obtain ⟨d0, d1, d2, d3, d4, d5, d6, d7⟩ := ho1.cells
    go_wp2_with fail
    go_ret
    exact ⟨ret_bool (by have p0 : wordsR o 2 o.wd := (by first | exact of_decide_eq_true h0 | exact of_decide_eq_false h0 | simpa using h0 | (have hh := h0; simp at hh; omega)); have p1 : o.s = 0 := (by first | exact of_decide_eq_true h1 | exact of_decide_eq_false h1 | simpa using h1 | (have hh := h1; simp at hh; omega)); have p2 : ¬ (o.c = 0) := (by first | exact of_decide_eq_true h2 | exact of_decide_eq_false h2 | simpa using h2 | (have hh := h2; simp at hh; omega)); have q : decide (chenR o) = false := (by rw [decide_eq_false_iff_not]; unfold chenR; first | omega | simp [p0, p1, p2]); rw [q]; (try assumption)), hB1⟩
   ·rcases h3 : (o.st == 0) with _ | _
    ·have hw := fun W => words_o o 2 o.wd W
     simp only [h0] at hw
     unfold obA at hw
     have HW := Lib.hid hw
     clear hw
     unfold obA at *
     go_enter Tryz.func107, Tryz.ntmps107
     go_wp2_with fail
     refine (HW.out _).mono ?_
     rintro e w1 ⟨rfl, hb1⟩
     have ho1 := ObX.kept (HN.out) hb1
     have hB1 := (HB.out).trans (hb1.mono (by have := (HB.out).size; omega))
     obtain ⟨d0, d1, d2, d3, d4, d5, d6, d7⟩ := ho1.cells
     go_wp2_with fail
     go_ret
     exact ⟨ret_bool (by have p0 : wordsR o 2 o.wd := (by first | exact of_decide_eq_true h0 | exact of_decide_eq_false h0 | simpa using h0 | (have hh := h0; simp at hh; omega)); have p1 : o.s = 0 := (by first | exact of_decide_eq_true h1 | exact of_decide_eq_false h1 | simpa using h1 | (have hh := h1; simp at hh; omega)); have p2 : o.c = 0 := (by first | exact of_decide_eq_true h2 | exact of_decide_eq_false h2 | simpa using h2 | (have hh := h2; simp at hh; omega)); have p3 : ¬ (o.st = 0) := (by first | exact of_decide_eq_true h3 | exact of_decide_eq_false h3 | simpa using h3 | (have hh := h3; simp at hh; omega)); have q : decide (chenR o) = false := (by rw [decide_eq_false_iff_not]; unfold chenR; first | omega | simp [p0, p1, p2, p3]); rw [q]; (try assumption)), hB1⟩
    ·have hw := fun W => words_o o 2 o.wd W
     simp only [h0] at hw
     unfold obA at hw
     have HW := Lib.hid hw
     clear hw
     unfold obA at *
     go_enter Tryz.func107, Tryz.ntmps107
     go_wp2_with fail
     refine (HW.out _).mono ?_
     rintro e w1 ⟨rfl, hb1⟩
     have ho1 := ObX.kept (HN.out) hb1
     have hB1 := (HB.out).trans (hb1.mono (by have := (HB.out).size; omega))
     obtain ⟨d0, d1, d2, d3, d4, d5, d6, d7⟩ := ho1.cells
     go_wp2_with fail
     go_ret
     exact ⟨ret_bool (by have p0 : wordsR o 2 o.wd := (by first | exact of_decide_eq_true h0 | exact of_decide_eq_false h0 | simpa using h0 | (have hh := h0; simp at hh; omega)); have p1 : o.s = 0 := (by first | exact of_decide_eq_true h1 | exact of_decide_eq_false h1 | simpa using h1 | (have hh := h1; simp at hh; omega)); have p2 : o.c = 0 := (by first | exact of_decide_eq_true h2 | exact of_decide_eq_false h2 | simpa using h2 | (have hh := h2; simp at hh; omega)); have p3 : o.st = 0 := (by first | exact of_decide_eq_true h3 | exact of_decide_eq_false h3 | simpa using h3 | (have hh := h3; simp at hh; omega)); have q : decide (chenR o) = true := (by rw [decide_eq_true_iff]; unfold chenR; first | omega | simp [p0, p1, p2, p3]); rw [q]; (try assumption)), hB1⟩
theorem seqRight_o (o : Ob) (ho : o.Ok) (w : World) : Calls Tryz.prog 108 #[.agg (obA o)] w fun e w' => e = .returned (.bool (decide (seqR o))) ∧ Below w.heap.size w w' := by
 have e1 : o.st.tmod 2 = o.st % 2 := Int.tmod_eq_emod_of_nonneg ho.st0
 have e2 : IntKind.u32.wrap (o.st % 2) = o.st % 2 := sh_wrap32 (by omega) (by omega)
 have hn := ObX.new w o
 have hB := (Below.refl w.heap.size w).alloc (Nat.le_refl _) (.cells (obA o) 36)
 obtain ⟨n, hn0⟩ : ∃ n, w.heap.size = n := ⟨_, rfl⟩
 rw [hn0] at hn hB
 have HN := Lib.hid hn
 have HB := Lib.hid hB
 clear hn hB
 rw [hn0]
 rcases h0 : (decide (wordsR o 3 o.wd)) with _ | _
 ·have hw := fun W => words_o o 3 o.wd W
  simp only [h0] at hw
  unfold obA at hw
  have HW := Lib.hid hw
  clear hw
  unfold obA at *
  go_enter Tryz.func108, Tryz.ntmps108
  go_wp2_with fail
  refine (HW.out _).mono ?_
  rintro e w1 ⟨rfl, hb1⟩
  have ho1 := ObX.kept (HN.out) hb1
  have hB1 := (HB.out).trans (hb1.mono (by have := (HB.out).size; omega))
  obtain ⟨d0, d1, d2, d3, d4, d5, d6, d7⟩ := ho1.cells
  go_wp2_with fail
  go_ret
  exact ⟨ret_bool (by have p0 : ¬ (wordsR o 3 o.wd) := (by first | exact of_decide_eq_true h0 | exact of_decide_eq_false h0 | simpa using h0 | (have hh := h0; simp at hh; omega)); have q : decide (seqR o) = false := (by rw [decide_eq_false_iff_not]; unfold seqR; first | omega | simp [p0]); rw [q]; (try assumption)), hB1⟩
 ·rcases h1 : (o.s == 0) with _ | _
  ·have hw := fun W => words_o o 3 o.wd W
   simp only [h0] at hw
   unfold obA at hw
   have HW := Lib.hid hw
   clear hw
   unfold obA at *
   go_enter Tryz.func108, Tryz.ntmps108
   go_wp2_with fail
   refine (HW.out _).mono ?_
   rintro e w1 ⟨rfl, hb1⟩
   have ho1 := ObX.kept (HN.out) hb1
   have hB1 := (HB.out).trans (hb1.mono (by have := (HB.out).size; omega))
   obtain ⟨d0, d1, d2, d3, d4, d5, d6, d7⟩ := ho1.cells
   go_wp2_with fail
   go_ret
   exact ⟨ret_bool (by have p0 : wordsR o 3 o.wd := (by first | exact of_decide_eq_true h0 | exact of_decide_eq_false h0 | simpa using h0 | (have hh := h0; simp at hh; omega)); have p1 : ¬ (o.s = 0) := (by first | exact of_decide_eq_true h1 | exact of_decide_eq_false h1 | simpa using h1 | (have hh := h1; simp at hh; omega)); have q : decide (seqR o) = false := (by rw [decide_eq_false_iff_not]; unfold seqR; first | omega | simp [p0, p1]); rw [q]; (try assumption)), hB1⟩
  ·rcases h2 : (decide (capsR o)) with _ | _
   ·have hc := fun W => caps_o o W
    simp only [h2] at hc
    unfold obA at hc
    have HC := Lib.hid hc
    clear hc
    have hw := fun W => words_o o 3 o.wd W
    simp only [h0] at hw
    unfold obA at hw
    have HW := Lib.hid hw
    clear hw
    unfold obA at *
    go_enter Tryz.func108, Tryz.ntmps108
    go_wp2_with fail
    refine (HW.out _).mono ?_
    rintro e w1 ⟨rfl, hb1⟩
    have ho1 := ObX.kept (HN.out) hb1
    have hB1 := (HB.out).trans (hb1.mono (by have := (HB.out).size; omega))
    obtain ⟨d0, d1, d2, d3, d4, d5, d6, d7⟩ := ho1.cells
    go_wp2_with fail
    refine (HC.out _).mono ?_
    rintro e w2 ⟨rfl, hb2⟩
    have ho2 := ObX.kept (ho1) hb2
    have hB2 := (hB1).trans (hb2.mono (by have := (hB1).size; omega))
    clear d0 d1 d2 d3 d4 d5 d6 d7
    obtain ⟨d0, d1, d2, d3, d4, d5, d6, d7⟩ := ho2.cells
    go_wp2_with fail
    go_ret
    exact ⟨ret_bool (by have p0 : wordsR o 3 o.wd := (by first | exact of_decide_eq_true h0 | exact of_decide_eq_false h0 | simpa using h0 | (have hh := h0; simp at hh; omega)); have p1 : o.s = 0 := (by first | exact of_decide_eq_true h1 | exact of_decide_eq_false h1 | simpa using h1 | (have hh := h1; simp at hh; omega)); have p2 : ¬ (capsR o) := (by first | exact of_decide_eq_true h2 | exact of_decide_eq_false h2 | simpa using h2 | (have hh := h2; simp at hh; omega)); have q : decide (seqR o) = false := (by rw [decide_eq_false_iff_not]; unfold seqR; first | omega | simp [p0, p1, p2]); rw [q]; (try assumption)), hB2⟩
   ·rcases h3 : ((o.st % 2 == 0)) with _ | _
    ·have hc := fun W => caps_o o W
     simp only [h2] at hc
     unfold obA at hc
     have HC := Lib.hid hc
     clear hc
     have hw := fun W => words_o o 3 o.wd W
     simp only [h0] at hw
     unfold obA at hw
     have HW := Lib.hid hw
     clear hw
     unfold obA at *
     go_enter Tryz.func108, Tryz.ntmps108
     go_wp2_with fail
     refine (HW.out _).mono ?_
     rintro e w1 ⟨rfl, hb1⟩
     have ho1 := ObX.kept (HN.out) hb1
     have hB1 := (HB.out).trans (hb1.mono (by have := (HB.out).size; omega))
     obtain ⟨d0, d1, d2, d3, d4, d5, d6, d7⟩ := ho1.cells
     go_wp2_with fail
     refine (HC.out _).mono ?_
     rintro e w2 ⟨rfl, hb2⟩
     have ho2 := ObX.kept (ho1) hb2
     have hB2 := (hB1).trans (hb2.mono (by have := (hB1).size; omega))
     clear d0 d1 d2 d3 d4 d5 d6 d7
     obtain ⟨d0, d1, d2, d3, d4, d5, d6, d7⟩ := ho2.cells
     go_wp2_with fail
     go_ret
     exact ⟨ret_bool (by have p0 : wordsR o 3 o.wd := (by first | exact of_decide_eq_true h0 | exact of_decide_eq_false h0 | simpa using h0 | (have hh := h0; simp at hh; omega)); have p1 : o.s = 0 := (by first | exact of_decide_eq_true h1 | exact of_decide_eq_false h1 | simpa using h1 | (have hh := h1; simp at hh; omega)); have p2 : capsR o := (by first | exact of_decide_eq_true h2 | exact of_decide_eq_false h2 | simpa using h2 | (have hh := h2; simp at hh; omega)); have p3 : ¬ (o.st % 2 = 0) := (by first | exact of_decide_eq_true h3 | exact of_decide_eq_false h3 | simpa using h3 | (have hh := h3; simp at hh; omega)); have q : decide (seqR o) = false := (by rw [decide_eq_false_iff_not]; unfold seqR; first | omega | simp [p0, p1, p2, p3]); rw [q]; (try assumption)), hB2⟩
    ·have hc := fun W => caps_o o W
     simp only [h2] at hc
     unfold obA at hc
     have HC := Lib.hid hc
     clear hc
     have hw := fun W => words_o o 3 o.wd W
     simp only [h0] at hw
     unfold obA at hw
     have HW := Lib.hid hw
     clear hw
     unfold obA at *
     go_enter Tryz.func108, Tryz.ntmps108
     go_wp2_with fail
     refine (HW.out _).mono ?_
     rintro e w1 ⟨rfl, hb1⟩
     have ho1 := ObX.kept (HN.out) hb1
     have hB1 := (HB.out).trans (hb1.mono (by have := (HB.out).size; omega))
     obtain ⟨d0, d1, d2, d3, d4, d5, d6, d7⟩ := ho1.cells
     go_wp2_with fail
     refine (HC.out _).mono ?_
     rintro e w2 ⟨rfl, hb2⟩
     have ho2 := ObX.kept (ho1) hb2
     have hB2 := (hB1).trans (hb2.mono (by have := (hB1).size; omega))
     clear d0 d1 d2 d3 d4 d5 d6 d7
     obtain ⟨d0, d1, d2, d3, d4, d5, d6, d7⟩ := ho2.cells
     go_wp2_with fail
     go_ret
     exact ⟨ret_bool (by have p0 : wordsR o 3 o.wd := (by first | exact of_decide_eq_true h0 | exact of_decide_eq_false h0 | simpa using h0 | (have hh := h0; simp at hh; omega)); have p1 : o.s = 0 := (by first | exact of_decide_eq_true h1 | exact of_decide_eq_false h1 | simpa using h1 | (have hh := h1; simp at hh; omega)); have p2 : capsR o := (by first | exact of_decide_eq_true h2 | exact of_decide_eq_false h2 | simpa using h2 | (have hh := h2; simp at hh; omega)); have p3 : o.st % 2 = 0 := (by first | exact of_decide_eq_true h3 | exact of_decide_eq_false h3 | simpa using h3 | (have hh := h3; simp at hh; omega)); have q : decide (seqR o) = true := (by rw [decide_eq_true_iff]; unfold seqR; first | omega | simp [p0, p1, p2, p3]); rw [q]; (try assumption)), hB2⟩
theorem cabRight_o (o : Ob) (ho : o.Ok) (w : World) : Calls Tryz.prog 110 #[.agg (obA o)] w fun e w' => e = .returned (.bool (decide (cabR o))) ∧ Below w.heap.size w w' := by
 have e1 : IntKind.i64.wrap ((o.nr : Int) + 2) = (o.nr : Int) + 2 := sh_wrap (by omega) (by have := ho.nr1; omega)
 have hn := ObX.new w o
 have hB := (Below.refl w.heap.size w).alloc (Nat.le_refl _) (.cells (obA o) 36)
 obtain ⟨n, hn0⟩ : ∃ n, w.heap.size = n := ⟨_, rfl⟩
 rw [hn0] at hn hB
 have HN := Lib.hid hn
 have HB := Lib.hid hB
 clear hn hB
 rw [hn0]
 rcases h0 : (decide (wordsR o 5 o.wd)) with _ | _
 ·have hw := fun W => words_o o 5 o.wd W
  simp only [h0] at hw
  unfold obA at hw
  have HW := Lib.hid hw
  clear hw
  unfold obA at *
  go_enter Tryz.func110, Tryz.ntmps110
  go_wp2_with fail
  refine (HW.out _).mono ?_
  rintro e w1 ⟨rfl, hb1⟩
  have ho1 := ObX.kept (HN.out) hb1
  have hB1 := (HB.out).trans (hb1.mono (by have := (HB.out).size; omega))
  obtain ⟨d0, d1, d2, d3, d4, d5, d6, d7⟩ := ho1.cells
  go_wp2_with fail
  go_ret
  exact ⟨ret_bool (by have p0 : ¬ (wordsR o 5 o.wd) := (by first | exact of_decide_eq_true h0 | exact of_decide_eq_false h0 | simpa using h0 | (have hh := h0; simp at hh; omega)); have q : decide (cabR o) = false := (by rw [decide_eq_false_iff_not]; unfold cabR; first | omega | simp [p0]); rw [q]; (try assumption)), hB1⟩
 ·rcases h1 : (decide ((o.nr : Int) + 2 ≤ o.s)) with _ | _
  ·have hw := fun W => words_o o 5 o.wd W
   simp only [h0] at hw
   unfold obA at hw
   have HW := Lib.hid hw
   clear hw
   unfold obA at *
   go_enter Tryz.func110, Tryz.ntmps110
   go_wp2_with fail
   refine (HW.out _).mono ?_
   rintro e w1 ⟨rfl, hb1⟩
   have ho1 := ObX.kept (HN.out) hb1
   have hB1 := (HB.out).trans (hb1.mono (by have := (HB.out).size; omega))
   obtain ⟨d0, d1, d2, d3, d4, d5, d6, d7⟩ := ho1.cells
   go_wp2_with fail
   go_ret
   exact ⟨ret_bool (by have p0 : wordsR o 5 o.wd := (by first | exact of_decide_eq_true h0 | exact of_decide_eq_false h0 | simpa using h0 | (have hh := h0; simp at hh; omega)); have p1 : ¬ ((o.nr : Int) + 2 ≤ o.s) := (by first | exact of_decide_eq_true h1 | exact of_decide_eq_false h1 | simpa using h1 | (have hh := h1; simp at hh; omega)); have q : decide (cabR o) = false := (by rw [decide_eq_false_iff_not]; unfold cabR; first | omega | simp [p0, p1]); rw [q]; (try assumption)), hB1⟩
  ·rcases h2 : (decide (o.s ≤ 16)) with _ | _
   ·have hw := fun W => words_o o 5 o.wd W
    simp only [h0] at hw
    unfold obA at hw
    have HW := Lib.hid hw
    clear hw
    unfold obA at *
    go_enter Tryz.func110, Tryz.ntmps110
    go_wp2_with fail
    refine (HW.out _).mono ?_
    rintro e w1 ⟨rfl, hb1⟩
    have ho1 := ObX.kept (HN.out) hb1
    have hB1 := (HB.out).trans (hb1.mono (by have := (HB.out).size; omega))
    obtain ⟨d0, d1, d2, d3, d4, d5, d6, d7⟩ := ho1.cells
    go_wp2_with fail
    go_ret
    exact ⟨ret_bool (by have p0 : wordsR o 5 o.wd := (by first | exact of_decide_eq_true h0 | exact of_decide_eq_false h0 | simpa using h0 | (have hh := h0; simp at hh; omega)); have p1 : (o.nr : Int) + 2 ≤ o.s := (by first | exact of_decide_eq_true h1 | exact of_decide_eq_false h1 | simpa using h1 | (have hh := h1; simp at hh; omega)); have p2 : ¬ (o.s ≤ 16) := (by first | exact of_decide_eq_true h2 | exact of_decide_eq_false h2 | simpa using h2 | (have hh := h2; simp at hh; omega)); have q : decide (cabR o) = false := (by rw [decide_eq_false_iff_not]; unfold cabR; first | omega | simp [p0, p1, p2]); rw [q]; (try assumption)), hB1⟩
   ·rcases h3 : (decide (capsR o)) with _ | _
    ·have hc := fun W => caps_o o W
     simp only [h3] at hc
     unfold obA at hc
     have HC := Lib.hid hc
     clear hc
     have hw := fun W => words_o o 5 o.wd W
     simp only [h0] at hw
     unfold obA at hw
     have HW := Lib.hid hw
     clear hw
     unfold obA at *
     go_enter Tryz.func110, Tryz.ntmps110
     go_wp2_with fail
     refine (HW.out _).mono ?_
     rintro e w1 ⟨rfl, hb1⟩
     have ho1 := ObX.kept (HN.out) hb1
     have hB1 := (HB.out).trans (hb1.mono (by have := (HB.out).size; omega))
     obtain ⟨d0, d1, d2, d3, d4, d5, d6, d7⟩ := ho1.cells
     go_wp2_with fail
     refine (HC.out _).mono ?_
     rintro e w2 ⟨rfl, hb2⟩
     have ho2 := ObX.kept (ho1) hb2
     have hB2 := (hB1).trans (hb2.mono (by have := (hB1).size; omega))
     clear d0 d1 d2 d3 d4 d5 d6 d7
     obtain ⟨d0, d1, d2, d3, d4, d5, d6, d7⟩ := ho2.cells
     go_wp2_with fail
     go_ret
     exact ⟨ret_bool (by have p0 : wordsR o 5 o.wd := (by first | exact of_decide_eq_true h0 | exact of_decide_eq_false h0 | simpa using h0 | (have hh := h0; simp at hh; omega)); have p1 : (o.nr : Int) + 2 ≤ o.s := (by first | exact of_decide_eq_true h1 | exact of_decide_eq_false h1 | simpa using h1 | (have hh := h1; simp at hh; omega)); have p2 : o.s ≤ 16 := (by first | exact of_decide_eq_true h2 | exact of_decide_eq_false h2 | simpa using h2 | (have hh := h2; simp at hh; omega)); have p3 : ¬ (capsR o) := (by first | exact of_decide_eq_true h3 | exact of_decide_eq_false h3 | simpa using h3 | (have hh := h3; simp at hh; omega)); have q : decide (cabR o) = false := (by rw [decide_eq_false_iff_not]; unfold cabR; first | omega | simp [p0, p1, p2, p3]); rw [q]; (try assumption)), hB2⟩
    ·rcases h4 : (o.st == 0) with _ | _
     ·have hc := fun W => caps_o o W
      simp only [h3] at hc
      unfold obA at hc
      have HC := Lib.hid hc
      clear hc
      have hw := fun W => words_o o 5 o.wd W
      simp only [h0] at hw
      unfold obA at hw
      have HW := Lib.hid hw
      clear hw
      unfold obA at *
      go_enter Tryz.func110, Tryz.ntmps110
      go_wp2_with fail
      refine (HW.out _).mono ?_
      rintro e w1 ⟨rfl, hb1⟩
      have ho1 := ObX.kept (HN.out) hb1
      have hB1 := (HB.out).trans (hb1.mono (by have := (HB.out).size; omega))
      obtain ⟨d0, d1, d2, d3, d4, d5, d6, d7⟩ := ho1.cells
      go_wp2_with fail
      refine (HC.out _).mono ?_
      rintro e w2 ⟨rfl, hb2⟩
      have ho2 := ObX.kept (ho1) hb2
      have hB2 := (hB1).trans (hb2.mono (by have := (hB1).size; omega))
      clear d0 d1 d2 d3 d4 d5 d6 d7
      obtain ⟨d0, d1, d2, d3, d4, d5, d6, d7⟩ := ho2.cells
      go_wp2_with fail
      go_ret
      exact ⟨ret_bool (by have p0 : wordsR o 5 o.wd := (by first | exact of_decide_eq_true h0 | exact of_decide_eq_false h0 | simpa using h0 | (have hh := h0; simp at hh; omega)); have p1 : (o.nr : Int) + 2 ≤ o.s := (by first | exact of_decide_eq_true h1 | exact of_decide_eq_false h1 | simpa using h1 | (have hh := h1; simp at hh; omega)); have p2 : o.s ≤ 16 := (by first | exact of_decide_eq_true h2 | exact of_decide_eq_false h2 | simpa using h2 | (have hh := h2; simp at hh; omega)); have p3 : capsR o := (by first | exact of_decide_eq_true h3 | exact of_decide_eq_false h3 | simpa using h3 | (have hh := h3; simp at hh; omega)); have p4 : ¬ (o.st = 0) := (by first | exact of_decide_eq_true h4 | exact of_decide_eq_false h4 | simpa using h4 | (have hh := h4; simp at hh; omega)); have q : decide (cabR o) = false := (by rw [decide_eq_false_iff_not]; unfold cabR; first | omega | simp [p0, p1, p2, p3, p4]); rw [q]; (try assumption)), hB2⟩
     ·have hc := fun W => caps_o o W
      simp only [h3] at hc
      unfold obA at hc
      have HC := Lib.hid hc
      clear hc
      have hw := fun W => words_o o 5 o.wd W
      simp only [h0] at hw
      unfold obA at hw
      have HW := Lib.hid hw
      clear hw
      unfold obA at *
      go_enter Tryz.func110, Tryz.ntmps110
      go_wp2_with fail
      refine (HW.out _).mono ?_
      rintro e w1 ⟨rfl, hb1⟩
      have ho1 := ObX.kept (HN.out) hb1
      have hB1 := (HB.out).trans (hb1.mono (by have := (HB.out).size; omega))
      obtain ⟨d0, d1, d2, d3, d4, d5, d6, d7⟩ := ho1.cells
      go_wp2_with fail
      refine (HC.out _).mono ?_
      rintro e w2 ⟨rfl, hb2⟩
      have ho2 := ObX.kept (ho1) hb2
      have hB2 := (hB1).trans (hb2.mono (by have := (hB1).size; omega))
      clear d0 d1 d2 d3 d4 d5 d6 d7
      obtain ⟨d0, d1, d2, d3, d4, d5, d6, d7⟩ := ho2.cells
      go_wp2_with fail
      go_ret
      exact ⟨ret_bool (by have p0 : wordsR o 5 o.wd := (by first | exact of_decide_eq_true h0 | exact of_decide_eq_false h0 | simpa using h0 | (have hh := h0; simp at hh; omega)); have p1 : (o.nr : Int) + 2 ≤ o.s := (by first | exact of_decide_eq_true h1 | exact of_decide_eq_false h1 | simpa using h1 | (have hh := h1; simp at hh; omega)); have p2 : o.s ≤ 16 := (by first | exact of_decide_eq_true h2 | exact of_decide_eq_false h2 | simpa using h2 | (have hh := h2; simp at hh; omega)); have p3 : capsR o := (by first | exact of_decide_eq_true h3 | exact of_decide_eq_false h3 | simpa using h3 | (have hh := h3; simp at hh; omega)); have p4 : o.st = 0 := (by first | exact of_decide_eq_true h4 | exact of_decide_eq_false h4 | simpa using h4 | (have hh := h4; simp at hh; omega)); have q : decide (cabR o) = true := (by rw [decide_eq_true_iff]; unfold cabR; first | omega | simp [p0, p1, p2, p3, p4]); rw [q]; (try assumption)), hB2⟩
end Go.Proofs.YtgjcniokgdicpaaGreatDoor

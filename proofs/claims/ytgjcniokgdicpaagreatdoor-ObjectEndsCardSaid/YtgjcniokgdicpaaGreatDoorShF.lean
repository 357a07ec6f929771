/- How many words, how many steps. -/
import Derived.Test.YtgjcniokgdicpaaGreatDoorShD
import Derived.Test.YtgjcniokgdicpaaGreatDoorRowB
namespace Go.Proofs.YtgjcniokgdicpaaGreatDoor
open Go.RowKit
attribute [local go_sem] Oper.semAt_some

theorem mul_bd {a b : Int} (h1 : 0 ≤ a) (h2 : a ≤ 16) (h3 : 0 ≤ b) (h4 : b ≤ 16) : 0 ≤ a * b ∧ a * b ≤ 256 :=
  ⟨Int.mul_nonneg h1 h3, by have := Int.mul_le_mul h2 h4 h3 (by omega : (0 : Int) ≤ 16); omega⟩
theorem sizeZ_no {o : Ob} (h : ¬ anyR o) : sizeZ o = 0 := by
  unfold anyR at h
  unfold sizeZ
  rw [if_neg (fun q => h (.inl q)), if_neg (fun q => h (.inr (.inl q))), if_neg (fun q => h (.inr (.inr (.inl q)))), if_neg (fun q => h (.inr (.inr (.inr (.inl q))))), if_neg (fun q => h (.inr (.inr (.inr (.inr (.inl q)))))), if_neg (fun q => h (.inr (.inr (.inr (.inr (.inr q))))))]
theorem boundZ_no {o : Ob} (op : Int) (h : ¬ anyR o) : boundZ o op = 0 := by
  unfold anyR at h
  unfold boundZ
  rw [if_neg (fun q => h (.inl q)), if_neg (fun q => h (.inr (.inl q))), if_neg (fun q => h (.inr (.inr (.inl q)))), if_neg (fun q => h (.inr (.inr (.inr (.inl q))))), if_neg (fun q => h (.inr (.inr (.inr (.inr (.inl q)))))), if_neg (fun q => h (.inr (.inr (.inr (.inr (.inr q))))))]
theorem sizeZ_four {o : Ob} (h : fourR o) : sizeZ o = (4 + 4 * o.wd) := by
  obtain ⟨k1, k2, k3, k4, k5, k6⟩ := @kind_of o
  unfold sizeZ
  rw [if_pos h]
theorem boundZ_four {o : Ob} (op : Int) (h : fourR o) : boundZ o op = (if op = 2 then o.wd + 4 else if op = 1 then o.wd + 3 else 0) := by
  obtain ⟨k1, k2, k3, k4, k5, k6⟩ := @kind_of o
  unfold boundZ
  rw [if_pos h]
theorem sizeZ_chen {o : Ob} (h : chenR o) : sizeZ o = (1 + o.nr + ((o.nr : Int) + 2) * o.wd) := by
  obtain ⟨k1, k2, k3, k4, k5, k6⟩ := @kind_of o
  unfold sizeZ
  rw [if_neg (fun q => absurd (k1 q) (by have := k2 h; omega)), if_pos h]
theorem boundZ_chen {o : Ob} (op : Int) (h : chenR o) : boundZ o op = (if op = 2 then o.wd + 2 * o.nr + 2 else if op = 1 then o.wd + 4 else 0) := by
  obtain ⟨k1, k2, k3, k4, k5, k6⟩ := @kind_of o
  unfold boundZ
  rw [if_neg (fun q => absurd (k1 q) (by have := k2 h; omega)), if_pos h]
theorem sizeZ_seq {o : Ob} (h : seqR o) : sizeZ o = (1 + o.wd) := by
  obtain ⟨k1, k2, k3, k4, k5, k6⟩ := @kind_of o
  unfold sizeZ
  rw [if_neg (fun q => absurd (k1 q) (by have := k3 h; omega)), if_neg (fun q => absurd (k2 q) (by have := k3 h; omega)), if_pos h]
theorem boundZ_seq {o : Ob} (op : Int) (h : seqR o) : boundZ o op = (if op = 2 then o.wd + 3 else if op = 1 then o.c * (o.wd + 2) else 0) := by
  obtain ⟨k1, k2, k3, k4, k5, k6⟩ := @kind_of o
  unfold boundZ
  rw [if_neg (fun q => absurd (k1 q) (by have := k3 h; omega)), if_neg (fun q => absurd (k2 q) (by have := k3 h; omega)), if_pos h]
theorem sizeZ_ring {o : Ob} (h : ringR o) : sizeZ o = (1 + o.s * o.wd) := by
  obtain ⟨k1, k2, k3, k4, k5, k6⟩ := @kind_of o
  unfold sizeZ
  rw [if_neg (fun q => absurd (k1 q) (by have := k4 h; omega)), if_neg (fun q => absurd (k2 q) (by have := k4 h; omega)), if_neg (fun q => absurd (k3 q) (by have := k4 h; omega)), if_pos h]
theorem boundZ_ring {o : Ob} (op : Int) (h : ringR o) : boundZ o op = (if op = 2 then o.wd + 2 else if op = 1 then o.c * (o.wd + 2) else 0) := by
  obtain ⟨k1, k2, k3, k4, k5, k6⟩ := @kind_of o
  unfold boundZ
  rw [if_neg (fun q => absurd (k1 q) (by have := k4 h; omega)), if_neg (fun q => absurd (k2 q) (by have := k4 h; omega)), if_neg (fun q => absurd (k3 q) (by have := k4 h; omega)), if_pos h]
theorem sizeZ_cab {o : Ob} (h : cabR o) : sizeZ o = (1 + o.nr + o.s * o.wd) := by
  obtain ⟨k1, k2, k3, k4, k5, k6⟩ := @kind_of o
  unfold sizeZ
  rw [if_neg (fun q => absurd (k1 q) (by have := k5 h; omega)), if_neg (fun q => absurd (k2 q) (by have := k5 h; omega)), if_neg (fun q => absurd (k3 q) (by have := k5 h; omega)), if_neg (fun q => absurd (k4 q) (by have := k5 h; omega)), if_pos h]
theorem boundZ_cab {o : Ob} (op : Int) (h : cabR o) : boundZ o op = (if op = 2 then o.wd + o.nr + 2 else if op = 1 then 3 * o.c + o.wd + 1 else 0) := by
  obtain ⟨k1, k2, k3, k4, k5, k6⟩ := @kind_of o
  unfold boundZ
  rw [if_neg (fun q => absurd (k1 q) (by have := k5 h; omega)), if_neg (fun q => absurd (k2 q) (by have := k5 h; omega)), if_neg (fun q => absurd (k3 q) (by have := k5 h; omega)), if_neg (fun q => absurd (k4 q) (by have := k5 h; omega)), if_pos h]
theorem sizeZ_fifo {o : Ob} (h : fifoR o) : sizeZ o = (2 + o.s * o.wd) := by
  obtain ⟨k1, k2, k3, k4, k5, k6⟩ := @kind_of o
  unfold sizeZ
  rw [if_neg (fun q => absurd (k1 q) (by have := k6 h; omega)), if_neg (fun q => absurd (k2 q) (by have := k6 h; omega)), if_neg (fun q => absurd (k3 q) (by have := k6 h; omega)), if_neg (fun q => absurd (k4 q) (by have := k6 h; omega)), if_neg (fun q => absurd (k5 q) (by have := k6 h; omega)), if_pos h]
theorem boundZ_fifo {o : Ob} (op : Int) (h : fifoR o) : boundZ o op = (if op = 3 ∨ op = 4 then o.wd + 3 else 0) := by
  obtain ⟨k1, k2, k3, k4, k5, k6⟩ := @kind_of o
  unfold boundZ
  rw [if_neg (fun q => absurd (k1 q) (by have := k6 h; omega)), if_neg (fun q => absurd (k2 q) (by have := k6 h; omega)), if_neg (fun q => absurd (k3 q) (by have := k6 h; omega)), if_neg (fun q => absurd (k4 q) (by have := k6 h; omega)), if_neg (fun q => absurd (k5 q) (by have := k6 h; omega)), if_pos h]
theorem four_bd {o : Ob} (h : fourR o) : 1 ≤ o.wd ∧ o.wd ≤ 8 ∧ 1 ≤ o.nr ∧ o.nr ≤ 4 := by
  unfold fourR wordsR at h
  omega
theorem chen_bd {o : Ob} (h : chenR o) : 1 ≤ o.wd ∧ o.wd ≤ 8 ∧ 1 ≤ o.nr ∧ o.nr ≤ 4 := by
  unfold chenR wordsR at h
  omega
theorem seq_bd {o : Ob} (h : seqR o) : 1 ≤ o.wd ∧ o.wd ≤ 8 ∧ 1 ≤ o.nr ∧ o.nr ≤ 4 ∧ 1 ≤ o.c ∧ o.c ≤ 16 := by
  unfold seqR wordsR capsR at h
  omega
theorem ring_bd {o : Ob} (h : ringR o) : 1 ≤ o.wd ∧ o.wd ≤ 8 ∧ 1 ≤ o.nr ∧ o.nr ≤ 4 ∧ 1 ≤ o.c ∧ o.c ≤ 16 ∧ 2 ≤ o.s ∧ o.s ≤ 16 := by
  unfold ringR wordsR capsR at h
  omega
theorem cab_bd {o : Ob} (h : cabR o) : 1 ≤ o.wd ∧ o.wd ≤ 8 ∧ 1 ≤ o.nr ∧ o.nr ≤ 4 ∧ 1 ≤ o.c ∧ o.c ≤ 16 ∧ (o.nr : Int) + 2 ≤ o.s ∧ o.s ≤ 16 := by
  unfold cabR wordsR capsR at h
  omega
theorem fifo_bd {o : Ob} (h : fifoR o) : 1 ≤ o.wd ∧ o.wd ≤ 8 ∧ 1 ≤ o.nr ∧ o.nr ≤ 4 ∧ 1 ≤ o.s ∧ o.s ≤ 16 := by
  unfold fifoR wordsR at h
  omega
set_option maxRecDepth 100000 in
theorem chenData_o (o : Ob) (h : o.nr ≤ 4) (w : World) : Calls Tryz.prog 159 #[.agg (obA o)] w fun e w' => e = .returned (.int .i64 (1 + o.nr)) ∧ Below w.heap.size w w' := by
  have q5 : (o.nr : Int) ≤ 4 := by omega
  have hn := ObX.new w o
  have hB := (Below.refl w.heap.size w).alloc (Nat.le_refl _) (.cells (obA o) 36)
  obtain ⟨n, hn0⟩ : ∃ n, w.heap.size = n := ⟨_, rfl⟩
  rw [hn0] at hn hB
  have HN := Lib.hid hn
  have HB := Lib.hid hB
  clear hn hB
  rw [hn0]
  unfold obA at *
  go_enter Tryz.func159, Tryz.ntmps159
  go_wp2_with fail
  go_ret
  exact ⟨rfl, HB.out⟩
set_option maxRecDepth 100000 in
theorem chenSlots_o (o : Ob) (h : o.nr ≤ 4) (w : World) : Calls Tryz.prog 162 #[.agg (obA o)] w fun e w' => e = .returned (.int .i64 ((o.nr : Int) + 2)) ∧ Below w.heap.size w w' := by
  have q5 : (o.nr : Int) ≤ 4 := by omega
  have hn := ObX.new w o
  have hB := (Below.refl w.heap.size w).alloc (Nat.le_refl _) (.cells (obA o) 36)
  obtain ⟨n, hn0⟩ : ∃ n, w.heap.size = n := ⟨_, rfl⟩
  rw [hn0] at hn hB
  have HN := Lib.hid hn
  have HB := Lib.hid hB
  clear hn hB
  rw [hn0]
  unfold obA at *
  go_enter Tryz.func162, Tryz.ntmps162
  go_wp2_with fail
  go_ret
  exact ⟨rfl, HB.out⟩
set_option maxRecDepth 100000 in
theorem cabData_o (o : Ob) (h : o.nr ≤ 4) (w : World) : Calls Tryz.prog 161 #[.agg (obA o)] w fun e w' => e = .returned (.int .i64 (1 + o.nr)) ∧ Below w.heap.size w w' := by
  have q5 : (o.nr : Int) ≤ 4 := by omega
  have hn := ObX.new w o
  have hB := (Below.refl w.heap.size w).alloc (Nat.le_refl _) (.cells (obA o) 36)
  obtain ⟨n, hn0⟩ : ∃ n, w.heap.size = n := ⟨_, rfl⟩
  rw [hn0] at hn hB
  have HN := Lib.hid hn
  have HB := Lib.hid hB
  clear hn hB
  rw [hn0]
  unfold obA at *
  go_enter Tryz.func161, Tryz.ntmps161
  go_wp2_with fail
  go_ret
  exact ⟨rfl, HB.out⟩
set_option maxRecDepth 100000 in
theorem fourSz_o (o : Ob) (h : fourR o) (w : World) : Calls Tryz.prog 121 #[.agg (obA o)] w fun e w' => e = .returned (.int .i64 (4 + 4 * o.wd)) ∧ Below w.heap.size w w' := by
  obtain ⟨q1, q2, q3, q4⟩ := four_bd h
  clear h
  have hn := ObX.new w o
  have hB := (Below.refl w.heap.size w).alloc (Nat.le_refl _) (.cells (obA o) 36)
  obtain ⟨n, hn0⟩ : ∃ n, w.heap.size = n := ⟨_, rfl⟩
  rw [hn0] at hn hB
  have HN := Lib.hid hn
  have HB := Lib.hid hB
  clear hn hB
  rw [hn0]
  unfold obA at *
  go_enter Tryz.func121, Tryz.ntmps121
  go_wp2_with fail
  go_ret
  exact ⟨rfl, HB.out⟩
set_option maxRecDepth 100000 in
theorem seqSz_o (o : Ob) (h : seqR o) (w : World) : Calls Tryz.prog 123 #[.agg (obA o)] w fun e w' => e = .returned (.int .i64 (1 + o.wd)) ∧ Below w.heap.size w w' := by
  obtain ⟨q1, q2, q3, q4, q5, q6⟩ := seq_bd h
  clear h
  have hn := ObX.new w o
  have hB := (Below.refl w.heap.size w).alloc (Nat.le_refl _) (.cells (obA o) 36)
  obtain ⟨n, hn0⟩ : ∃ n, w.heap.size = n := ⟨_, rfl⟩
  rw [hn0] at hn hB
  have HN := Lib.hid hn
  have HB := Lib.hid hB
  clear hn hB
  rw [hn0]
  unfold obA at *
  go_enter Tryz.func123, Tryz.ntmps123
  go_wp2_with fail
  go_ret
  exact ⟨rfl, HB.out⟩
set_option maxRecDepth 100000 in
theorem ringSz_o (o : Ob) (h : ringR o) (w : World) : Calls Tryz.prog 124 #[.agg (obA o)] w fun e w' => e = .returned (.int .i64 (1 + o.s * o.wd)) ∧ Below w.heap.size w w' := by
  obtain ⟨q1, q2, q3, q4, q5, q6, q7, q8⟩ := ring_bd h
  clear h
  have m := mul_bd (a := o.s) (b := o.wd) (by omega) (by omega) (by omega) (by omega)
  have e1 : IntKind.i64.wrap (o.s * o.wd) = o.s * o.wd := sh_wrap (by omega) (by omega)
  have e2 : IntKind.i64.wrap (1 + o.s * o.wd) = 1 + o.s * o.wd := sh_wrap (by omega) (by omega)
  have hn := ObX.new w o
  have hB := (Below.refl w.heap.size w).alloc (Nat.le_refl _) (.cells (obA o) 36)
  obtain ⟨n, hn0⟩ : ∃ n, w.heap.size = n := ⟨_, rfl⟩
  rw [hn0] at hn hB
  have HN := Lib.hid hn
  have HB := Lib.hid hB
  clear hn hB
  rw [hn0]
  unfold obA at *
  go_enter Tryz.func124, Tryz.ntmps124
  go_wp2_with fail
  go_ret
  exact ⟨rfl, HB.out⟩
set_option maxRecDepth 100000 in
theorem fifoSz_o (o : Ob) (h : fifoR o) (w : World) : Calls Tryz.prog 126 #[.agg (obA o)] w fun e w' => e = .returned (.int .i64 (2 + o.s * o.wd)) ∧ Below w.heap.size w w' := by
  obtain ⟨q1, q2, q3, q4, q5, q6⟩ := fifo_bd h
  clear h
  have m := mul_bd (a := o.s) (b := o.wd) (by omega) (by omega) (by omega) (by omega)
  have e1 : IntKind.i64.wrap (o.s * o.wd) = o.s * o.wd := sh_wrap (by omega) (by omega)
  have e2 : IntKind.i64.wrap (2 + o.s * o.wd) = 2 + o.s * o.wd := sh_wrap (by omega) (by omega)
  have hn := ObX.new w o
  have hB := (Below.refl w.heap.size w).alloc (Nat.le_refl _) (.cells (obA o) 36)
  obtain ⟨n, hn0⟩ : ∃ n, w.heap.size = n := ⟨_, rfl⟩
  rw [hn0] at hn hB
  have HN := Lib.hid hn
  have HB := Lib.hid hB
  clear hn hB
  rw [hn0]
  unfold obA at *
  go_enter Tryz.func126, Tryz.ntmps126
  go_wp2_with fail
  go_ret
  exact ⟨rfl, HB.out⟩
set_option maxRecDepth 100000 in
set_option maxHeartbeats 1000000 in
theorem chenSz_o (o : Ob) (h : chenR o) (w : World) : Calls Tryz.prog 122 #[.agg (obA o)] w fun e w' => e = .returned (.int .i64 (1 + o.nr + ((o.nr : Int) + 2) * o.wd)) ∧ Below w.heap.size w w' := by
  obtain ⟨q1, q2, q3, q4⟩ := chen_bd h
  have hc0 := fun W => chenData_o o q4 W
  unfold obA at hc0
  have HC0 := Lib.hid hc0
  clear hc0
  have hc1 := fun W => chenSlots_o o q4 W
  unfold obA at hc1
  have HC1 := Lib.hid hc1
  clear hc1
  clear h
  have m := mul_bd (a := (o.nr : Int) + 2) (b := o.wd) (by omega) (by omega) (by omega) (by omega)
  have e1 : IntKind.i64.wrap (((o.nr : Int) + 2) * o.wd) = ((o.nr : Int) + 2) * o.wd := sh_wrap (by omega) (by omega)
  have e2 : IntKind.i64.wrap (1 + (o.nr : Int) + ((o.nr : Int) + 2) * o.wd) = 1 + (o.nr : Int) + ((o.nr : Int) + 2) * o.wd := sh_wrap (by omega) (by omega)
  obtain ⟨W0, hW0⟩ : ∃ W0, w.alloc (.cells #[.int .i64 o.k, .int .i64 o.wd, .int .i64 o.s, .int .i64 o.c, .int .u32 o.st, .slice o.I o.ni o.ci, .int .i64 o.wr, .slice o.R o.nr o.cr] 36) = W0 := ⟨_, rfl⟩
  have hn := ObX.new w o
  have hB := (Below.refl w.heap.size w).alloc (Nat.le_refl _) (.cells (obA o) 36)
  unfold obA at hn hB
  rw [hW0] at hn hB
  obtain ⟨n, hn0⟩ : ∃ n, w.heap.size = n := ⟨_, rfl⟩
  rw [hn0] at hn hB
  have HN := Lib.hid hn
  have HB := Lib.hid hB
  clear hn hB
  rw [hn0]
  unfold obA
  go_enter Tryz.func122, Tryz.ntmps122
  go_wp2_with fail
  have hSd : (fun w' : World => Below W0.heap.size W0 w' ∧ w'.cell? ⟨n, 0, none⟩ = some (.int .i64 o.k) ∧ w'.cell? ⟨n, 1, none⟩ = some (.int .i64 o.wd) ∧ w'.cell? ⟨n, 2, none⟩ = some (.int .i64 o.s) ∧ w'.cell? ⟨n, 3, none⟩ = some (.int .i64 o.c) ∧ w'.cell? ⟨n, 4, none⟩ = some (.int .u32 o.st) ∧ w'.cell? ⟨n, 5, none⟩ = some (.slice o.I o.ni o.ci) ∧ w'.cell? ⟨n, 6, none⟩ = some (.int .i64 o.wr) ∧ w'.cell? ⟨n, 7, none⟩ = some (.slice o.R o.nr o.cr)) W0.drew := ⟨(Below.refl _ W0).drew, (ObX.kept HN.out (Below.refl _ W0).drew).cells⟩
  refine wp_region_held_drew (S := (fun w' : World => Below W0.heap.size W0 w' ∧ w'.cell? ⟨n, 0, none⟩ = some (.int .i64 o.k) ∧ w'.cell? ⟨n, 1, none⟩ = some (.int .i64 o.wd) ∧ w'.cell? ⟨n, 2, none⟩ = some (.int .i64 o.s) ∧ w'.cell? ⟨n, 3, none⟩ = some (.int .i64 o.c) ∧ w'.cell? ⟨n, 4, none⟩ = some (.int .u32 o.st) ∧ w'.cell? ⟨n, 5, none⟩ = some (.slice o.I o.ni o.ci) ∧ w'.cell? ⟨n, 6, none⟩ = some (.int .i64 o.wr) ∧ w'.cell? ⟨n, 7, none⟩ = some (.slice o.R o.nr o.cr))) (by kernel_rfl) hSd (fun hHeld => ?_)
  generalize W0.drew = wd at hHeld ⊢
  have hHeld : (fun w' : World => Below W0.heap.size W0 w' ∧ w'.cell? ⟨n, 0, none⟩ = some (.int .i64 o.k) ∧ w'.cell? ⟨n, 1, none⟩ = some (.int .i64 o.wd) ∧ w'.cell? ⟨n, 2, none⟩ = some (.int .i64 o.s) ∧ w'.cell? ⟨n, 3, none⟩ = some (.int .i64 o.c) ∧ w'.cell? ⟨n, 4, none⟩ = some (.int .u32 o.st) ∧ w'.cell? ⟨n, 5, none⟩ = some (.slice o.I o.ni o.ci) ∧ w'.cell? ⟨n, 6, none⟩ = some (.int .i64 o.wr) ∧ w'.cell? ⟨n, 7, none⟩ = some (.slice o.R o.nr o.cr)) wd := hHeld
  refine tkH 0 ?_
  refine tkH 2 ?_
  refine tkH 4 ?_
  refine tkH 5 ?_
  refine clH 1 (fun K hK => ?_)
  go_simp
  go_at_call 159
  refine (HC0.out _).mono ?_
  rintro ex wx ⟨rfl, hbx⟩
  have hSx : (fun w' : World => Below W0.heap.size W0 w' ∧ w'.cell? ⟨n, 0, none⟩ = some (.int .i64 o.k) ∧ w'.cell? ⟨n, 1, none⟩ = some (.int .i64 o.wd) ∧ w'.cell? ⟨n, 2, none⟩ = some (.int .i64 o.s) ∧ w'.cell? ⟨n, 3, none⟩ = some (.int .i64 o.c) ∧ w'.cell? ⟨n, 4, none⟩ = some (.int .u32 o.st) ∧ w'.cell? ⟨n, 5, none⟩ = some (.slice o.I o.ni o.ci) ∧ w'.cell? ⟨n, 6, none⟩ = some (.int .i64 o.wr) ∧ w'.cell? ⟨n, 7, none⟩ = some (.slice o.R o.nr o.cr)) wx := by
    obtain ⟨h0, u0, u1, u2, u3, u4, u5, u6, u7⟩ := hHeld
    have hk : ∀ {i : Nat} {u : Value}, _ → wx.cell? ⟨n, i, none⟩ = some u := fun {i u} hc => (hbx.cell (p := ⟨n, i, none⟩) (cell_lt hc)).trans hc
    exact ⟨h0.trans (hbx.mono h0.size), hk u0, hk u1, hk u2, hk u3, hk u4, hk u5, hk u6, hk u7⟩
  refine hK.out _ _ hSx (fun hHeld => ?_)
  clear hK K
  try first | simp only [pS, List.set] | simp only [pN]
  refine clH 3 (fun K hK => ?_)
  go_simp
  go_at_call 162
  refine (HC1.out _).mono ?_
  rintro ex wx ⟨rfl, hbx⟩
  have hSx : (fun w' : World => Below W0.heap.size W0 w' ∧ w'.cell? ⟨n, 0, none⟩ = some (.int .i64 o.k) ∧ w'.cell? ⟨n, 1, none⟩ = some (.int .i64 o.wd) ∧ w'.cell? ⟨n, 2, none⟩ = some (.int .i64 o.s) ∧ w'.cell? ⟨n, 3, none⟩ = some (.int .i64 o.c) ∧ w'.cell? ⟨n, 4, none⟩ = some (.int .u32 o.st) ∧ w'.cell? ⟨n, 5, none⟩ = some (.slice o.I o.ni o.ci) ∧ w'.cell? ⟨n, 6, none⟩ = some (.int .i64 o.wr) ∧ w'.cell? ⟨n, 7, none⟩ = some (.slice o.R o.nr o.cr)) wx := by
    obtain ⟨h0, u0, u1, u2, u3, u4, u5, u6, u7⟩ := hHeld
    have hk : ∀ {i : Nat} {u : Value}, _ → wx.cell? ⟨n, i, none⟩ = some u := fun {i u} hc => (hbx.cell (p := ⟨n, i, none⟩) (cell_lt hc)).trans hc
    exact ⟨h0.trans (hbx.mono h0.size), hk u0, hk u1, hk u2, hk u3, hk u4, hk u5, hk u6, hk u7⟩
  refine hK.out _ _ hSx (fun hHeld => ?_)
  clear hK K
  try first | simp only [pS, List.set] | simp only [pN]
  refine tkH 6 ?_
  refine tkH 7 ?_
  refine tkH 8 ?_
  refine wpAnyH_done (by kernel_rfl) ?_ _
  clear hSd
  go_wp2_with fail
  go_ret
  exact ⟨rfl, HB.out.trans (hHeld.1.mono (by have := HB.out.size; omega))⟩
set_option maxRecDepth 100000 in
set_option maxHeartbeats 1000000 in
theorem cabSz_o (o : Ob) (h : cabR o) (w : World) : Calls Tryz.prog 125 #[.agg (obA o)] w fun e w' => e = .returned (.int .i64 (1 + o.nr + o.s * o.wd)) ∧ Below w.heap.size w w' := by
  obtain ⟨q1, q2, q3, q4, q5, q6, q7, q8⟩ := cab_bd h
  have hc0 := fun W => cabData_o o q4 W
  unfold obA at hc0
  have HC0 := Lib.hid hc0
  clear hc0
  clear h
  have m := mul_bd (a := o.s) (b := o.wd) (by omega) (by omega) (by omega) (by omega)
  have e1 : IntKind.i64.wrap (o.s * o.wd) = o.s * o.wd := sh_wrap (by omega) (by omega)
  have e2 : IntKind.i64.wrap (1 + (o.nr : Int) + o.s * o.wd) = 1 + (o.nr : Int) + o.s * o.wd := sh_wrap (by omega) (by omega)
  obtain ⟨W0, hW0⟩ : ∃ W0, w.alloc (.cells #[.int .i64 o.k, .int .i64 o.wd, .int .i64 o.s, .int .i64 o.c, .int .u32 o.st, .slice o.I o.ni o.ci, .int .i64 o.wr, .slice o.R o.nr o.cr] 36) = W0 := ⟨_, rfl⟩
  have hn := ObX.new w o
  have hB := (Below.refl w.heap.size w).alloc (Nat.le_refl _) (.cells (obA o) 36)
  unfold obA at hn hB
  rw [hW0] at hn hB
  obtain ⟨n, hn0⟩ : ∃ n, w.heap.size = n := ⟨_, rfl⟩
  rw [hn0] at hn hB
  have HN := Lib.hid hn
  have HB := Lib.hid hB
  clear hn hB
  rw [hn0]
  unfold obA
  go_enter Tryz.func125, Tryz.ntmps125
  go_wp2_with fail
  have hSd : (fun w' : World => Below W0.heap.size W0 w' ∧ w'.cell? ⟨n, 0, none⟩ = some (.int .i64 o.k) ∧ w'.cell? ⟨n, 1, none⟩ = some (.int .i64 o.wd) ∧ w'.cell? ⟨n, 2, none⟩ = some (.int .i64 o.s) ∧ w'.cell? ⟨n, 3, none⟩ = some (.int .i64 o.c) ∧ w'.cell? ⟨n, 4, none⟩ = some (.int .u32 o.st) ∧ w'.cell? ⟨n, 5, none⟩ = some (.slice o.I o.ni o.ci) ∧ w'.cell? ⟨n, 6, none⟩ = some (.int .i64 o.wr) ∧ w'.cell? ⟨n, 7, none⟩ = some (.slice o.R o.nr o.cr)) W0.drew := ⟨(Below.refl _ W0).drew, (ObX.kept HN.out (Below.refl _ W0).drew).cells⟩
  refine wp_region_held_drew (S := (fun w' : World => Below W0.heap.size W0 w' ∧ w'.cell? ⟨n, 0, none⟩ = some (.int .i64 o.k) ∧ w'.cell? ⟨n, 1, none⟩ = some (.int .i64 o.wd) ∧ w'.cell? ⟨n, 2, none⟩ = some (.int .i64 o.s) ∧ w'.cell? ⟨n, 3, none⟩ = some (.int .i64 o.c) ∧ w'.cell? ⟨n, 4, none⟩ = some (.int .u32 o.st) ∧ w'.cell? ⟨n, 5, none⟩ = some (.slice o.I o.ni o.ci) ∧ w'.cell? ⟨n, 6, none⟩ = some (.int .i64 o.wr) ∧ w'.cell? ⟨n, 7, none⟩ = some (.slice o.R o.nr o.cr))) (by kernel_rfl) hSd (fun hHeld => ?_)
  generalize W0.drew = wd at hHeld ⊢
  have hHeld : (fun w' : World => Below W0.heap.size W0 w' ∧ w'.cell? ⟨n, 0, none⟩ = some (.int .i64 o.k) ∧ w'.cell? ⟨n, 1, none⟩ = some (.int .i64 o.wd) ∧ w'.cell? ⟨n, 2, none⟩ = some (.int .i64 o.s) ∧ w'.cell? ⟨n, 3, none⟩ = some (.int .i64 o.c) ∧ w'.cell? ⟨n, 4, none⟩ = some (.int .u32 o.st) ∧ w'.cell? ⟨n, 5, none⟩ = some (.slice o.I o.ni o.ci) ∧ w'.cell? ⟨n, 6, none⟩ = some (.int .i64 o.wr) ∧ w'.cell? ⟨n, 7, none⟩ = some (.slice o.R o.nr o.cr)) wd := hHeld
  refine tkH 0 ?_
  refine tkH 2 ?_
  refine tkH 3 ?_
  refine tkH 4 ?_
  refine tkH 5 ?_
  refine tkH 6 ?_
  refine clH 1 (fun K hK => ?_)
  go_simp
  go_at_call 161
  refine (HC0.out _).mono ?_
  rintro ex wx ⟨rfl, hbx⟩
  have hSx : (fun w' : World => Below W0.heap.size W0 w' ∧ w'.cell? ⟨n, 0, none⟩ = some (.int .i64 o.k) ∧ w'.cell? ⟨n, 1, none⟩ = some (.int .i64 o.wd) ∧ w'.cell? ⟨n, 2, none⟩ = some (.int .i64 o.s) ∧ w'.cell? ⟨n, 3, none⟩ = some (.int .i64 o.c) ∧ w'.cell? ⟨n, 4, none⟩ = some (.int .u32 o.st) ∧ w'.cell? ⟨n, 5, none⟩ = some (.slice o.I o.ni o.ci) ∧ w'.cell? ⟨n, 6, none⟩ = some (.int .i64 o.wr) ∧ w'.cell? ⟨n, 7, none⟩ = some (.slice o.R o.nr o.cr)) wx := by
    obtain ⟨h0, u0, u1, u2, u3, u4, u5, u6, u7⟩ := hHeld
    have hk : ∀ {i : Nat} {u : Value}, _ → wx.cell? ⟨n, i, none⟩ = some u := fun {i u} hc => (hbx.cell (p := ⟨n, i, none⟩) (cell_lt hc)).trans hc
    exact ⟨h0.trans (hbx.mono h0.size), hk u0, hk u1, hk u2, hk u3, hk u4, hk u5, hk u6, hk u7⟩
  refine hK.out _ _ hSx (fun hHeld => ?_)
  clear hK K
  try first | simp only [pS, List.set] | simp only [pN]
  refine tkH 7 ?_
  refine tkH 8 ?_
  refine wpAnyH_done (by kernel_rfl) ?_ _
  clear hSd
  go_wp2_with fail
  go_ret
  exact ⟨rfl, HB.out.trans (hHeld.1.mono (by have := HB.out.size; omega))⟩
set_option maxRecDepth 100000 in
theorem fourSize_o (o : Ob) (ho : o.Ok) (hk : o.k = 1) (w : World) : Calls Tryz.prog 48 #[.agg (obA o)] w fun e w' => e = .returned (.int .i64 (sizeZ o)) ∧ Below w.heap.size w w' := by
  by_cases h : fourR o
  · rw [sizeZ_four h]
    have hr := fun W => fourRight_o o ho W
    rw [decide_eq_true h] at hr
    have hs := fun W => fourSz_o o h W
    clear h hk ho
    unfold obA at hr hs
    have HR := Lib.hid hr
    have HS := Lib.hid hs
    clear hr hs
    have hn := ObX.new w o
    have hB := (Below.refl w.heap.size w).alloc (Nat.le_refl _) (.cells (obA o) 36)
    obtain ⟨n, hn0⟩ : ∃ n, w.heap.size = n := ⟨_, rfl⟩
    rw [hn0] at hn hB
    have HN := Lib.hid hn
    have HB := Lib.hid hB
    clear hn hB
    rw [hn0]
    unfold obA at *
    go_enter Tryz.func48, Tryz.ntmps48
    go_wp2_with fail
    refine (HR.out _).mono ?_
    rintro e w1 ⟨rfl, hb1⟩
    have ho1 := ObX.kept (HN.out) hb1
    have hB1 := (HB.out).trans (hb1.mono (by have := (HB.out).size; omega))
    obtain ⟨d0, d1, d2, d3, d4, d5, d6, d7⟩ := ho1.cells
    go_wp2_with fail
    refine (HS.out _).mono ?_
    rintro e w2 ⟨rfl, hb2⟩
    have ho2 := ObX.kept (ho1) hb2
    have hB2 := (hB1).trans (hb2.mono (by have := (hB1).size; omega))
    clear d0 d1 d2 d3 d4 d5 d6 d7
    obtain ⟨d0, d1, d2, d3, d4, d5, d6, d7⟩ := ho2.cells
    go_wp2_with fail
    go_ret
    exact ⟨rfl, hB2⟩
  · have hna : ¬ anyR o := fun q => h (of_decide_eq_true ((any_four hk).symm.trans (decide_eq_true q)))
    rw [sizeZ_no hna]
    have hr := fun W => fourRight_o o ho W
    rw [decide_eq_false h] at hr
    clear h hk ho hna
    unfold obA at hr
    have HR := Lib.hid hr
    clear hr
    have hn := ObX.new w o
    have hB := (Below.refl w.heap.size w).alloc (Nat.le_refl _) (.cells (obA o) 36)
    obtain ⟨n, hn0⟩ : ∃ n, w.heap.size = n := ⟨_, rfl⟩
    rw [hn0] at hn hB
    have HN := Lib.hid hn
    have HB := Lib.hid hB
    clear hn hB
    rw [hn0]
    unfold obA at *
    go_enter Tryz.func48, Tryz.ntmps48
    go_wp2_with fail
    refine (HR.out _).mono ?_
    rintro e w1 ⟨rfl, hb1⟩
    have ho1 := ObX.kept (HN.out) hb1
    have hB1 := (HB.out).trans (hb1.mono (by have := (HB.out).size; omega))
    obtain ⟨d0, d1, d2, d3, d4, d5, d6, d7⟩ := ho1.cells
    go_wp2_with fail
    go_ret
    exact ⟨rfl, hB1⟩
set_option maxRecDepth 100000 in
theorem chenSize_o (o : Ob) (ho : o.Ok) (hk : o.k = 2) (w : World) : Calls Tryz.prog 49 #[.agg (obA o)] w fun e w' => e = .returned (.int .i64 (sizeZ o)) ∧ Below w.heap.size w w' := by
  by_cases h : chenR o
  · rw [sizeZ_chen h]
    have hr := fun W => chenRight_o o ho W
    rw [decide_eq_true h] at hr
    have hs := fun W => chenSz_o o h W
    clear h hk ho
    unfold obA at hr hs
    have HR := Lib.hid hr
    have HS := Lib.hid hs
    clear hr hs
    have hn := ObX.new w o
    have hB := (Below.refl w.heap.size w).alloc (Nat.le_refl _) (.cells (obA o) 36)
    obtain ⟨n, hn0⟩ : ∃ n, w.heap.size = n := ⟨_, rfl⟩
    rw [hn0] at hn hB
    have HN := Lib.hid hn
    have HB := Lib.hid hB
    clear hn hB
    rw [hn0]
    unfold obA at *
    go_enter Tryz.func49, Tryz.ntmps49
    go_wp2_with fail
    refine (HR.out _).mono ?_
    rintro e w1 ⟨rfl, hb1⟩
    have ho1 := ObX.kept (HN.out) hb1
    have hB1 := (HB.out).trans (hb1.mono (by have := (HB.out).size; omega))
    obtain ⟨d0, d1, d2, d3, d4, d5, d6, d7⟩ := ho1.cells
    go_wp2_with fail
    refine (HS.out _).mono ?_
    rintro e w2 ⟨rfl, hb2⟩
    have ho2 := ObX.kept (ho1) hb2
    have hB2 := (hB1).trans (hb2.mono (by have := (hB1).size; omega))
    clear d0 d1 d2 d3 d4 d5 d6 d7
    obtain ⟨d0, d1, d2, d3, d4, d5, d6, d7⟩ := ho2.cells
    go_wp2_with fail
    go_ret
    exact ⟨rfl, hB2⟩
  · have hna : ¬ anyR o := fun q => h (of_decide_eq_true ((any_chen hk).symm.trans (decide_eq_true q)))
    rw [sizeZ_no hna]
    have hr := fun W => chenRight_o o ho W
    rw [decide_eq_false h] at hr
    clear h hk ho hna
    unfold obA at hr
    have HR := Lib.hid hr
    clear hr
    have hn := ObX.new w o
    have hB := (Below.refl w.heap.size w).alloc (Nat.le_refl _) (.cells (obA o) 36)
    obtain ⟨n, hn0⟩ : ∃ n, w.heap.size = n := ⟨_, rfl⟩
    rw [hn0] at hn hB
    have HN := Lib.hid hn
    have HB := Lib.hid hB
    clear hn hB
    rw [hn0]
    unfold obA at *
    go_enter Tryz.func49, Tryz.ntmps49
    go_wp2_with fail
    refine (HR.out _).mono ?_
    rintro e w1 ⟨rfl, hb1⟩
    have ho1 := ObX.kept (HN.out) hb1
    have hB1 := (HB.out).trans (hb1.mono (by have := (HB.out).size; omega))
    obtain ⟨d0, d1, d2, d3, d4, d5, d6, d7⟩ := ho1.cells
    go_wp2_with fail
    go_ret
    exact ⟨rfl, hB1⟩
set_option maxRecDepth 100000 in
theorem seqSize_o (o : Ob) (ho : o.Ok) (hk : o.k = 3) (w : World) : Calls Tryz.prog 50 #[.agg (obA o)] w fun e w' => e = .returned (.int .i64 (sizeZ o)) ∧ Below w.heap.size w w' := by
  by_cases h : seqR o
  · rw [sizeZ_seq h]
    have hr := fun W => seqRight_o o ho W
    rw [decide_eq_true h] at hr
    have hs := fun W => seqSz_o o h W
    clear h hk ho
    unfold obA at hr hs
    have HR := Lib.hid hr
    have HS := Lib.hid hs
    clear hr hs
    have hn := ObX.new w o
    have hB := (Below.refl w.heap.size w).alloc (Nat.le_refl _) (.cells (obA o) 36)
    obtain ⟨n, hn0⟩ : ∃ n, w.heap.size = n := ⟨_, rfl⟩
    rw [hn0] at hn hB
    have HN := Lib.hid hn
    have HB := Lib.hid hB
    clear hn hB
    rw [hn0]
    unfold obA at *
    go_enter Tryz.func50, Tryz.ntmps50
    go_wp2_with fail
    refine (HR.out _).mono ?_
    rintro e w1 ⟨rfl, hb1⟩
    have ho1 := ObX.kept (HN.out) hb1
    have hB1 := (HB.out).trans (hb1.mono (by have := (HB.out).size; omega))
    obtain ⟨d0, d1, d2, d3, d4, d5, d6, d7⟩ := ho1.cells
    go_wp2_with fail
    refine (HS.out _).mono ?_
    rintro e w2 ⟨rfl, hb2⟩
    have ho2 := ObX.kept (ho1) hb2
    have hB2 := (hB1).trans (hb2.mono (by have := (hB1).size; omega))
    clear d0 d1 d2 d3 d4 d5 d6 d7
    obtain ⟨d0, d1, d2, d3, d4, d5, d6, d7⟩ := ho2.cells
    go_wp2_with fail
    go_ret
    exact ⟨rfl, hB2⟩
  · have hna : ¬ anyR o := fun q => h (of_decide_eq_true ((any_seq hk).symm.trans (decide_eq_true q)))
    rw [sizeZ_no hna]
    have hr := fun W => seqRight_o o ho W
    rw [decide_eq_false h] at hr
    clear h hk ho hna
    unfold obA at hr
    have HR := Lib.hid hr
    clear hr
    have hn := ObX.new w o
    have hB := (Below.refl w.heap.size w).alloc (Nat.le_refl _) (.cells (obA o) 36)
    obtain ⟨n, hn0⟩ : ∃ n, w.heap.size = n := ⟨_, rfl⟩
    rw [hn0] at hn hB
    have HN := Lib.hid hn
    have HB := Lib.hid hB
    clear hn hB
    rw [hn0]
    unfold obA at *
    go_enter Tryz.func50, Tryz.ntmps50
    go_wp2_with fail
    refine (HR.out _).mono ?_
    rintro e w1 ⟨rfl, hb1⟩
    have ho1 := ObX.kept (HN.out) hb1
    have hB1 := (HB.out).trans (hb1.mono (by have := (HB.out).size; omega))
    obtain ⟨d0, d1, d2, d3, d4, d5, d6, d7⟩ := ho1.cells
    go_wp2_with fail
    go_ret
    exact ⟨rfl, hB1⟩
set_option maxRecDepth 100000 in
theorem ringSize_o (o : Ob) (ho : o.Ok) (hk : o.k = 4) (w : World) : Calls Tryz.prog 51 #[.agg (obA o)] w fun e w' => e = .returned (.int .i64 (sizeZ o)) ∧ Below w.heap.size w w' := by
  by_cases h : ringR o
  · rw [sizeZ_ring h]
    have hr := fun W => ringRight_o o W
    rw [decide_eq_true h] at hr
    have hs := fun W => ringSz_o o h W
    clear h hk ho
    unfold obA at hr hs
    have HR := Lib.hid hr
    have HS := Lib.hid hs
    clear hr hs
    have hn := ObX.new w o
    have hB := (Below.refl w.heap.size w).alloc (Nat.le_refl _) (.cells (obA o) 36)
    obtain ⟨n, hn0⟩ : ∃ n, w.heap.size = n := ⟨_, rfl⟩
    rw [hn0] at hn hB
    have HN := Lib.hid hn
    have HB := Lib.hid hB
    clear hn hB
    rw [hn0]
    unfold obA at *
    go_enter Tryz.func51, Tryz.ntmps51
    go_wp2_with fail
    refine (HR.out _).mono ?_
    rintro e w1 ⟨rfl, hb1⟩
    have ho1 := ObX.kept (HN.out) hb1
    have hB1 := (HB.out).trans (hb1.mono (by have := (HB.out).size; omega))
    obtain ⟨d0, d1, d2, d3, d4, d5, d6, d7⟩ := ho1.cells
    go_wp2_with fail
    refine (HS.out _).mono ?_
    rintro e w2 ⟨rfl, hb2⟩
    have ho2 := ObX.kept (ho1) hb2
    have hB2 := (hB1).trans (hb2.mono (by have := (hB1).size; omega))
    clear d0 d1 d2 d3 d4 d5 d6 d7
    obtain ⟨d0, d1, d2, d3, d4, d5, d6, d7⟩ := ho2.cells
    go_wp2_with fail
    go_ret
    exact ⟨rfl, hB2⟩
  · have hna : ¬ anyR o := fun q => h (of_decide_eq_true ((any_ring hk).symm.trans (decide_eq_true q)))
    rw [sizeZ_no hna]
    have hr := fun W => ringRight_o o W
    rw [decide_eq_false h] at hr
    clear h hk ho hna
    unfold obA at hr
    have HR := Lib.hid hr
    clear hr
    have hn := ObX.new w o
    have hB := (Below.refl w.heap.size w).alloc (Nat.le_refl _) (.cells (obA o) 36)
    obtain ⟨n, hn0⟩ : ∃ n, w.heap.size = n := ⟨_, rfl⟩
    rw [hn0] at hn hB
    have HN := Lib.hid hn
    have HB := Lib.hid hB
    clear hn hB
    rw [hn0]
    unfold obA at *
    go_enter Tryz.func51, Tryz.ntmps51
    go_wp2_with fail
    refine (HR.out _).mono ?_
    rintro e w1 ⟨rfl, hb1⟩
    have ho1 := ObX.kept (HN.out) hb1
    have hB1 := (HB.out).trans (hb1.mono (by have := (HB.out).size; omega))
    obtain ⟨d0, d1, d2, d3, d4, d5, d6, d7⟩ := ho1.cells
    go_wp2_with fail
    go_ret
    exact ⟨rfl, hB1⟩
set_option maxRecDepth 100000 in
theorem cabSize_o (o : Ob) (ho : o.Ok) (hk : o.k = 5) (w : World) : Calls Tryz.prog 52 #[.agg (obA o)] w fun e w' => e = .returned (.int .i64 (sizeZ o)) ∧ Below w.heap.size w w' := by
  by_cases h : cabR o
  · rw [sizeZ_cab h]
    have hr := fun W => cabRight_o o ho W
    rw [decide_eq_true h] at hr
    have hs := fun W => cabSz_o o h W
    clear h hk ho
    unfold obA at hr hs
    have HR := Lib.hid hr
    have HS := Lib.hid hs
    clear hr hs
    have hn := ObX.new w o
    have hB := (Below.refl w.heap.size w).alloc (Nat.le_refl _) (.cells (obA o) 36)
    obtain ⟨n, hn0⟩ : ∃ n, w.heap.size = n := ⟨_, rfl⟩
    rw [hn0] at hn hB
    have HN := Lib.hid hn
    have HB := Lib.hid hB
    clear hn hB
    rw [hn0]
    unfold obA at *
    go_enter Tryz.func52, Tryz.ntmps52
    go_wp2_with fail
    refine (HR.out _).mono ?_
    rintro e w1 ⟨rfl, hb1⟩
    have ho1 := ObX.kept (HN.out) hb1
    have hB1 := (HB.out).trans (hb1.mono (by have := (HB.out).size; omega))
    obtain ⟨d0, d1, d2, d3, d4, d5, d6, d7⟩ := ho1.cells
    go_wp2_with fail
    refine (HS.out _).mono ?_
    rintro e w2 ⟨rfl, hb2⟩
    have ho2 := ObX.kept (ho1) hb2
    have hB2 := (hB1).trans (hb2.mono (by have := (hB1).size; omega))
    clear d0 d1 d2 d3 d4 d5 d6 d7
    obtain ⟨d0, d1, d2, d3, d4, d5, d6, d7⟩ := ho2.cells
    go_wp2_with fail
    go_ret
    exact ⟨rfl, hB2⟩
  · have hna : ¬ anyR o := fun q => h (of_decide_eq_true ((any_cab hk).symm.trans (decide_eq_true q)))
    rw [sizeZ_no hna]
    have hr := fun W => cabRight_o o ho W
    rw [decide_eq_false h] at hr
    clear h hk ho hna
    unfold obA at hr
    have HR := Lib.hid hr
    clear hr
    have hn := ObX.new w o
    have hB := (Below.refl w.heap.size w).alloc (Nat.le_refl _) (.cells (obA o) 36)
    obtain ⟨n, hn0⟩ : ∃ n, w.heap.size = n := ⟨_, rfl⟩
    rw [hn0] at hn hB
    have HN := Lib.hid hn
    have HB := Lib.hid hB
    clear hn hB
    rw [hn0]
    unfold obA at *
    go_enter Tryz.func52, Tryz.ntmps52
    go_wp2_with fail
    refine (HR.out _).mono ?_
    rintro e w1 ⟨rfl, hb1⟩
    have ho1 := ObX.kept (HN.out) hb1
    have hB1 := (HB.out).trans (hb1.mono (by have := (HB.out).size; omega))
    obtain ⟨d0, d1, d2, d3, d4, d5, d6, d7⟩ := ho1.cells
    go_wp2_with fail
    go_ret
    exact ⟨rfl, hB1⟩
set_option maxRecDepth 100000 in
theorem fifoSize_o (o : Ob) (ho : o.Ok) (hk : ¬ o.k = 1 ∧ ¬ o.k = 2 ∧ ¬ o.k = 3 ∧ ¬ o.k = 4 ∧ ¬ o.k = 5) (w : World) : Calls Tryz.prog 53 #[.agg (obA o)] w fun e w' => e = .returned (.int .i64 (sizeZ o)) ∧ Below w.heap.size w w' := by
  by_cases h : fifoR o
  · rw [sizeZ_fifo h]
    have hr := fun W => fifoRight_o o W
    rw [decide_eq_true h] at hr
    have hs := fun W => fifoSz_o o h W
    clear h hk ho
    unfold obA at hr hs
    have HR := Lib.hid hr
    have HS := Lib.hid hs
    clear hr hs
    have hn := ObX.new w o
    have hB := (Below.refl w.heap.size w).alloc (Nat.le_refl _) (.cells (obA o) 36)
    obtain ⟨n, hn0⟩ : ∃ n, w.heap.size = n := ⟨_, rfl⟩
    rw [hn0] at hn hB
    have HN := Lib.hid hn
    have HB := Lib.hid hB
    clear hn hB
    rw [hn0]
    unfold obA at *
    go_enter Tryz.func53, Tryz.ntmps53
    go_wp2_with fail
    refine (HR.out _).mono ?_
    rintro e w1 ⟨rfl, hb1⟩
    have ho1 := ObX.kept (HN.out) hb1
    have hB1 := (HB.out).trans (hb1.mono (by have := (HB.out).size; omega))
    obtain ⟨d0, d1, d2, d3, d4, d5, d6, d7⟩ := ho1.cells
    go_wp2_with fail
    refine (HS.out _).mono ?_
    rintro e w2 ⟨rfl, hb2⟩
    have ho2 := ObX.kept (ho1) hb2
    have hB2 := (hB1).trans (hb2.mono (by have := (hB1).size; omega))
    clear d0 d1 d2 d3 d4 d5 d6 d7
    obtain ⟨d0, d1, d2, d3, d4, d5, d6, d7⟩ := ho2.cells
    go_wp2_with fail
    go_ret
    exact ⟨rfl, hB2⟩
  · have hna : ¬ anyR o := fun q => h (of_decide_eq_true ((any_fifo hk).symm.trans (decide_eq_true q)))
    rw [sizeZ_no hna]
    have hr := fun W => fifoRight_o o W
    rw [decide_eq_false h] at hr
    clear h hk ho hna
    unfold obA at hr
    have HR := Lib.hid hr
    clear hr
    have hn := ObX.new w o
    have hB := (Below.refl w.heap.size w).alloc (Nat.le_refl _) (.cells (obA o) 36)
    obtain ⟨n, hn0⟩ : ∃ n, w.heap.size = n := ⟨_, rfl⟩
    rw [hn0] at hn hB
    have HN := Lib.hid hn
    have HB := Lib.hid hB
    clear hn hB
    rw [hn0]
    unfold obA at *
    go_enter Tryz.func53, Tryz.ntmps53
    go_wp2_with fail
    refine (HR.out _).mono ?_
    rintro e w1 ⟨rfl, hb1⟩
    have ho1 := ObX.kept (HN.out) hb1
    have hB1 := (HB.out).trans (hb1.mono (by have := (HB.out).size; omega))
    obtain ⟨d0, d1, d2, d3, d4, d5, d6, d7⟩ := ho1.cells
    go_wp2_with fail
    go_ret
    exact ⟨rfl, hB1⟩
set_option maxRecDepth 100000 in
set_option maxHeartbeats 2000000 in
theorem size_o (o : Ob) (ho : o.Ok) (w : World) : Calls Tryz.prog 16 #[.agg (obA o)] w fun e w' => e = .returned (.int .i64 (sizeZ o)) ∧ Below w.heap.size w w' := by
  obtain ⟨Z, hZ⟩ : ∃ Z, sizeZ o = Z := ⟨_, rfl⟩
  rw [hZ]
  have hn := ObX.new w o
  have hB := (Below.refl w.heap.size w).alloc (Nat.le_refl _) (.cells (obA o) 36)
  obtain ⟨n, hn0⟩ : ∃ n, w.heap.size = n := ⟨_, rfl⟩
  rw [hn0] at hn hB
  have HN := Lib.hid hn
  have HB := Lib.hid hB
  clear hn hB
  rw [hn0]
  by_cases hk1 : o.k = 1
  · have kb1 : (o.k == 1) = true := by simpa using hk1
    have hr := fun W => fourSize_o o ho hk1 W
    rw [hZ] at hr
    clear hZ
    clear hk1
    unfold obA at hr
    have HR := Lib.hid hr
    clear hr
    unfold obA at *
    go_enter Tryz.func16, Tryz.ntmps16
    go_wp2_with fail
    refine (HR.out _).mono ?_
    rintro e w1 ⟨rfl, hb1⟩
    have ho1 := ObX.kept (HN.out) hb1
    have hB1 := (HB.out).trans (hb1.mono (by have := (HB.out).size; omega))
    obtain ⟨d0, d1, d2, d3, d4, d5, d6, d7⟩ := ho1.cells
    go_wp2_with fail
    go_ret
    exact ⟨rfl, hB1⟩
  · have kb1 : (o.k == 1) = false := by simpa using hk1
    by_cases hk2 : o.k = 2
    · have kb2 : (o.k == 2) = true := by simpa using hk2
      have hr := fun W => chenSize_o o ho hk2 W
      rw [hZ] at hr
      clear hZ
      clear hk1
      clear hk2
      unfold obA at hr
      have HR := Lib.hid hr
      clear hr
      unfold obA at *
      go_enter Tryz.func16, Tryz.ntmps16
      go_wp2_with fail
      refine (HR.out _).mono ?_
      rintro e w1 ⟨rfl, hb1⟩
      have ho1 := ObX.kept (HN.out) hb1
      have hB1 := (HB.out).trans (hb1.mono (by have := (HB.out).size; omega))
      obtain ⟨d0, d1, d2, d3, d4, d5, d6, d7⟩ := ho1.cells
      go_wp2_with fail
      go_ret
      exact ⟨rfl, hB1⟩
    · have kb2 : (o.k == 2) = false := by simpa using hk2
      by_cases hk3 : o.k = 3
      · have kb3 : (o.k == 3) = true := by simpa using hk3
        have hr := fun W => seqSize_o o ho hk3 W
        rw [hZ] at hr
        clear hZ
        clear hk1
        clear hk2
        clear hk3
        unfold obA at hr
        have HR := Lib.hid hr
        clear hr
        unfold obA at *
        go_enter Tryz.func16, Tryz.ntmps16
        go_wp2_with fail
        refine (HR.out _).mono ?_
        rintro e w1 ⟨rfl, hb1⟩
        have ho1 := ObX.kept (HN.out) hb1
        have hB1 := (HB.out).trans (hb1.mono (by have := (HB.out).size; omega))
        obtain ⟨d0, d1, d2, d3, d4, d5, d6, d7⟩ := ho1.cells
        go_wp2_with fail
        go_ret
        exact ⟨rfl, hB1⟩
      · have kb3 : (o.k == 3) = false := by simpa using hk3
        by_cases hk4 : o.k = 4
        · have kb4 : (o.k == 4) = true := by simpa using hk4
          have hr := fun W => ringSize_o o ho hk4 W
          rw [hZ] at hr
          clear hZ
          clear hk1
          clear hk2
          clear hk3
          clear hk4
          unfold obA at hr
          have HR := Lib.hid hr
          clear hr
          unfold obA at *
          go_enter Tryz.func16, Tryz.ntmps16
          go_wp2_with fail
          refine (HR.out _).mono ?_
          rintro e w1 ⟨rfl, hb1⟩
          have ho1 := ObX.kept (HN.out) hb1
          have hB1 := (HB.out).trans (hb1.mono (by have := (HB.out).size; omega))
          obtain ⟨d0, d1, d2, d3, d4, d5, d6, d7⟩ := ho1.cells
          go_wp2_with fail
          go_ret
          exact ⟨rfl, hB1⟩
        · have kb4 : (o.k == 4) = false := by simpa using hk4
          by_cases hk5 : o.k = 5
          · have kb5 : (o.k == 5) = true := by simpa using hk5
            have hr := fun W => cabSize_o o ho hk5 W
            rw [hZ] at hr
            clear hZ
            clear hk1
            clear hk2
            clear hk3
            clear hk4
            clear hk5
            unfold obA at hr
            have HR := Lib.hid hr
            clear hr
            unfold obA at *
            go_enter Tryz.func16, Tryz.ntmps16
            go_wp2_with fail
            refine (HR.out _).mono ?_
            rintro e w1 ⟨rfl, hb1⟩
            have ho1 := ObX.kept (HN.out) hb1
            have hB1 := (HB.out).trans (hb1.mono (by have := (HB.out).size; omega))
            obtain ⟨d0, d1, d2, d3, d4, d5, d6, d7⟩ := ho1.cells
            go_wp2_with fail
            go_ret
            exact ⟨rfl, hB1⟩
          · have kb5 : (o.k == 5) = false := by simpa using hk5
            have hr := fun W => fifoSize_o o ho ⟨hk1, hk2, hk3, hk4, hk5⟩ W
            rw [hZ] at hr
            clear hZ
            clear hk1
            clear hk2
            clear hk3
            clear hk4
            clear hk5
            unfold obA at hr
            have HR := Lib.hid hr
            clear hr
            unfold obA at *
            go_enter Tryz.func16, Tryz.ntmps16
            go_wp2_with fail
            refine (HR.out _).mono ?_
            rintro e w1 ⟨rfl, hb1⟩
            have ho1 := ObX.kept (HN.out) hb1
            have hB1 := (HB.out).trans (hb1.mono (by have := (HB.out).size; omega))
            obtain ⟨d0, d1, d2, d3, d4, d5, d6, d7⟩ := ho1.cells
            go_wp2_with fail
            go_ret
            exact ⟨rfl, hB1⟩
set_option maxRecDepth 100000 in
set_option maxHeartbeats 1000000 in
theorem fourBound_o (o : Ob) (ho : o.Ok) (hk : o.k = 1) (op : Int) (w : World) : Calls Tryz.prog 62 #[.agg (obA o), .int .i64 op] w fun e w' => e = .returned (.int .i64 (boundZ o op)) ∧ Below w.heap.size w w' := by
  by_cases h : fourR o
  · rw [boundZ_four op h]
    have hr := fun W => fourRight_o o ho W
    rw [decide_eq_true h] at hr
    obtain ⟨q1, q2, q3, q4⟩ := four_bd h
    clear h hk ho
    unfold obA at hr
    have HR := Lib.hid hr
    clear hr
    have hn := ObX.new w o
    have hB := (Below.refl w.heap.size w).alloc (Nat.le_refl _) (.cells (obA o) 36)
    obtain ⟨n, hn0⟩ : ∃ n, w.heap.size = n := ⟨_, rfl⟩
    rw [hn0] at hn hB
    have HN := Lib.hid hn
    have HB := Lib.hid hB
    clear hn hB
    rw [hn0]
    by_cases h2 : op = 2
    · have b2 : (op == 2) = true := by simpa using h2
      rw [if_pos h2]
      clear h2
      unfold obA at *
      go_enter Tryz.func62, Tryz.ntmps62
      go_wp2_with fail
      refine (HR.out _).mono ?_
      rintro e w1 ⟨rfl, hb1⟩
      have ho1 := ObX.kept (HN.out) hb1
      have hB1 := (HB.out).trans (hb1.mono (by have := (HB.out).size; omega))
      obtain ⟨d0, d1, d2, d3, d4, d5, d6, d7⟩ := ho1.cells
      go_wp2_with fail
      go_ret
      exact ⟨rfl, hB1⟩
    · have b2 : (op == 2) = false := by simpa using h2
      rw [if_neg h2]
      clear h2
      by_cases h1 : op = 1
      · have b1 : (op == 1) = true := by simpa using h1
        rw [if_pos h1]
        clear h1
        unfold obA at *
        go_enter Tryz.func62, Tryz.ntmps62
        go_wp2_with fail
        refine (HR.out _).mono ?_
        rintro e w1 ⟨rfl, hb1⟩
        have ho1 := ObX.kept (HN.out) hb1
        have hB1 := (HB.out).trans (hb1.mono (by have := (HB.out).size; omega))
        obtain ⟨d0, d1, d2, d3, d4, d5, d6, d7⟩ := ho1.cells
        go_wp2_with fail
        go_ret
        exact ⟨rfl, hB1⟩
      · have b1 : (op == 1) = false := by simpa using h1
        rw [if_neg h1]
        clear h1
        unfold obA at *
        go_enter Tryz.func62, Tryz.ntmps62
        go_wp2_with fail
        refine (HR.out _).mono ?_
        rintro e w1 ⟨rfl, hb1⟩
        have ho1 := ObX.kept (HN.out) hb1
        have hB1 := (HB.out).trans (hb1.mono (by have := (HB.out).size; omega))
        obtain ⟨d0, d1, d2, d3, d4, d5, d6, d7⟩ := ho1.cells
        go_wp2_with fail
        go_ret
        exact ⟨rfl, hB1⟩
  · have hna : ¬ anyR o := fun q => h (of_decide_eq_true ((any_four hk).symm.trans (decide_eq_true q)))
    rw [boundZ_no op hna]
    have hr := fun W => fourRight_o o ho W
    rw [decide_eq_false h] at hr
    clear h hk ho hna
    unfold obA at hr
    have HR := Lib.hid hr
    clear hr
    have hn := ObX.new w o
    have hB := (Below.refl w.heap.size w).alloc (Nat.le_refl _) (.cells (obA o) 36)
    obtain ⟨n, hn0⟩ : ∃ n, w.heap.size = n := ⟨_, rfl⟩
    rw [hn0] at hn hB
    have HN := Lib.hid hn
    have HB := Lib.hid hB
    clear hn hB
    rw [hn0]
    unfold obA at *
    go_enter Tryz.func62, Tryz.ntmps62
    go_wp2_with fail
    refine (HR.out _).mono ?_
    rintro e w1 ⟨rfl, hb1⟩
    have ho1 := ObX.kept (HN.out) hb1
    have hB1 := (HB.out).trans (hb1.mono (by have := (HB.out).size; omega))
    obtain ⟨d0, d1, d2, d3, d4, d5, d6, d7⟩ := ho1.cells
    go_wp2_with fail
    go_ret
    exact ⟨rfl, hB1⟩
set_option maxRecDepth 100000 in
set_option maxHeartbeats 1000000 in
theorem chenBound_o (o : Ob) (ho : o.Ok) (hk : o.k = 2) (op : Int) (w : World) : Calls Tryz.prog 63 #[.agg (obA o), .int .i64 op] w fun e w' => e = .returned (.int .i64 (boundZ o op)) ∧ Below w.heap.size w w' := by
  by_cases h : chenR o
  · rw [boundZ_chen op h]
    have hr := fun W => chenRight_o o ho W
    rw [decide_eq_true h] at hr
    obtain ⟨q1, q2, q3, q4⟩ := chen_bd h
    clear h hk ho
    unfold obA at hr
    have HR := Lib.hid hr
    clear hr
    have hn := ObX.new w o
    have hB := (Below.refl w.heap.size w).alloc (Nat.le_refl _) (.cells (obA o) 36)
    obtain ⟨n, hn0⟩ : ∃ n, w.heap.size = n := ⟨_, rfl⟩
    rw [hn0] at hn hB
    have HN := Lib.hid hn
    have HB := Lib.hid hB
    clear hn hB
    rw [hn0]
    by_cases h2 : op = 2
    · have b2 : (op == 2) = true := by simpa using h2
      rw [if_pos h2]
      clear h2
      unfold obA at *
      go_enter Tryz.func63, Tryz.ntmps63
      go_wp2_with fail
      refine (HR.out _).mono ?_
      rintro e w1 ⟨rfl, hb1⟩
      have ho1 := ObX.kept (HN.out) hb1
      have hB1 := (HB.out).trans (hb1.mono (by have := (HB.out).size; omega))
      obtain ⟨d0, d1, d2, d3, d4, d5, d6, d7⟩ := ho1.cells
      go_wp2_with fail
      go_ret
      exact ⟨rfl, hB1⟩
    · have b2 : (op == 2) = false := by simpa using h2
      rw [if_neg h2]
      clear h2
      by_cases h1 : op = 1
      · have b1 : (op == 1) = true := by simpa using h1
        rw [if_pos h1]
        clear h1
        unfold obA at *
        go_enter Tryz.func63, Tryz.ntmps63
        go_wp2_with fail
        refine (HR.out _).mono ?_
        rintro e w1 ⟨rfl, hb1⟩
        have ho1 := ObX.kept (HN.out) hb1
        have hB1 := (HB.out).trans (hb1.mono (by have := (HB.out).size; omega))
        obtain ⟨d0, d1, d2, d3, d4, d5, d6, d7⟩ := ho1.cells
        go_wp2_with fail
        go_ret
        exact ⟨rfl, hB1⟩
      · have b1 : (op == 1) = false := by simpa using h1
        rw [if_neg h1]
        clear h1
        unfold obA at *
        go_enter Tryz.func63, Tryz.ntmps63
        go_wp2_with fail
        refine (HR.out _).mono ?_
        rintro e w1 ⟨rfl, hb1⟩
        have ho1 := ObX.kept (HN.out) hb1
        have hB1 := (HB.out).trans (hb1.mono (by have := (HB.out).size; omega))
        obtain ⟨d0, d1, d2, d3, d4, d5, d6, d7⟩ := ho1.cells
        go_wp2_with fail
        go_ret
        exact ⟨rfl, hB1⟩
  · have hna : ¬ anyR o := fun q => h (of_decide_eq_true ((any_chen hk).symm.trans (decide_eq_true q)))
    rw [boundZ_no op hna]
    have hr := fun W => chenRight_o o ho W
    rw [decide_eq_false h] at hr
    clear h hk ho hna
    unfold obA at hr
    have HR := Lib.hid hr
    clear hr
    have hn := ObX.new w o
    have hB := (Below.refl w.heap.size w).alloc (Nat.le_refl _) (.cells (obA o) 36)
    obtain ⟨n, hn0⟩ : ∃ n, w.heap.size = n := ⟨_, rfl⟩
    rw [hn0] at hn hB
    have HN := Lib.hid hn
    have HB := Lib.hid hB
    clear hn hB
    rw [hn0]
    unfold obA at *
    go_enter Tryz.func63, Tryz.ntmps63
    go_wp2_with fail
    refine (HR.out _).mono ?_
    rintro e w1 ⟨rfl, hb1⟩
    have ho1 := ObX.kept (HN.out) hb1
    have hB1 := (HB.out).trans (hb1.mono (by have := (HB.out).size; omega))
    obtain ⟨d0, d1, d2, d3, d4, d5, d6, d7⟩ := ho1.cells
    go_wp2_with fail
    go_ret
    exact ⟨rfl, hB1⟩
set_option maxRecDepth 100000 in
set_option maxHeartbeats 1000000 in
theorem seqBound_o (o : Ob) (ho : o.Ok) (hk : o.k = 3) (op : Int) (w : World) : Calls Tryz.prog 64 #[.agg (obA o), .int .i64 op] w fun e w' => e = .returned (.int .i64 (boundZ o op)) ∧ Below w.heap.size w w' := by
  by_cases h : seqR o
  · rw [boundZ_seq op h]
    have hr := fun W => seqRight_o o ho W
    rw [decide_eq_true h] at hr
    obtain ⟨q1, q2, q3, q4, q5, q6⟩ := seq_bd h
    have m := mul_bd (a := o.c) (b := o.wd + 2) (by omega) (by omega) (by omega) (by omega)
    have e1 : IntKind.i64.wrap (o.c * (o.wd + 2)) = o.c * (o.wd + 2) := sh_wrap (by omega) (by omega)
    clear h hk ho
    unfold obA at hr
    have HR := Lib.hid hr
    clear hr
    have hn := ObX.new w o
    have hB := (Below.refl w.heap.size w).alloc (Nat.le_refl _) (.cells (obA o) 36)
    obtain ⟨n, hn0⟩ : ∃ n, w.heap.size = n := ⟨_, rfl⟩
    rw [hn0] at hn hB
    have HN := Lib.hid hn
    have HB := Lib.hid hB
    clear hn hB
    rw [hn0]
    by_cases h2 : op = 2
    · have b2 : (op == 2) = true := by simpa using h2
      rw [if_pos h2]
      clear h2
      unfold obA at *
      go_enter Tryz.func64, Tryz.ntmps64
      go_wp2_with fail
      refine (HR.out _).mono ?_
      rintro e w1 ⟨rfl, hb1⟩
      have ho1 := ObX.kept (HN.out) hb1
      have hB1 := (HB.out).trans (hb1.mono (by have := (HB.out).size; omega))
      obtain ⟨d0, d1, d2, d3, d4, d5, d6, d7⟩ := ho1.cells
      go_wp2_with fail
      go_ret
      exact ⟨rfl, hB1⟩
    · have b2 : (op == 2) = false := by simpa using h2
      rw [if_neg h2]
      clear h2
      by_cases h1 : op = 1
      · have b1 : (op == 1) = true := by simpa using h1
        rw [if_pos h1]
        clear h1
        unfold obA at *
        go_enter Tryz.func64, Tryz.ntmps64
        go_wp2_with fail
        refine (HR.out _).mono ?_
        rintro e w1 ⟨rfl, hb1⟩
        have ho1 := ObX.kept (HN.out) hb1
        have hB1 := (HB.out).trans (hb1.mono (by have := (HB.out).size; omega))
        obtain ⟨d0, d1, d2, d3, d4, d5, d6, d7⟩ := ho1.cells
        go_wp2_with fail
        go_ret
        exact ⟨rfl, hB1⟩
      · have b1 : (op == 1) = false := by simpa using h1
        rw [if_neg h1]
        clear h1
        unfold obA at *
        go_enter Tryz.func64, Tryz.ntmps64
        go_wp2_with fail
        refine (HR.out _).mono ?_
        rintro e w1 ⟨rfl, hb1⟩
        have ho1 := ObX.kept (HN.out) hb1
        have hB1 := (HB.out).trans (hb1.mono (by have := (HB.out).size; omega))
        obtain ⟨d0, d1, d2, d3, d4, d5, d6, d7⟩ := ho1.cells
        go_wp2_with fail
        go_ret
        exact ⟨rfl, hB1⟩
  · have hna : ¬ anyR o := fun q => h (of_decide_eq_true ((any_seq hk).symm.trans (decide_eq_true q)))
    rw [boundZ_no op hna]
    have hr := fun W => seqRight_o o ho W
    rw [decide_eq_false h] at hr
    clear h hk ho hna
    unfold obA at hr
    have HR := Lib.hid hr
    clear hr
    have hn := ObX.new w o
    have hB := (Below.refl w.heap.size w).alloc (Nat.le_refl _) (.cells (obA o) 36)
    obtain ⟨n, hn0⟩ : ∃ n, w.heap.size = n := ⟨_, rfl⟩
    rw [hn0] at hn hB
    have HN := Lib.hid hn
    have HB := Lib.hid hB
    clear hn hB
    rw [hn0]
    unfold obA at *
    go_enter Tryz.func64, Tryz.ntmps64
    go_wp2_with fail
    refine (HR.out _).mono ?_
    rintro e w1 ⟨rfl, hb1⟩
    have ho1 := ObX.kept (HN.out) hb1
    have hB1 := (HB.out).trans (hb1.mono (by have := (HB.out).size; omega))
    obtain ⟨d0, d1, d2, d3, d4, d5, d6, d7⟩ := ho1.cells
    go_wp2_with fail
    go_ret
    exact ⟨rfl, hB1⟩
set_option maxRecDepth 100000 in
set_option maxHeartbeats 1000000 in
theorem ringBound_o (o : Ob) (ho : o.Ok) (hk : o.k = 4) (op : Int) (w : World) : Calls Tryz.prog 65 #[.agg (obA o), .int .i64 op] w fun e w' => e = .returned (.int .i64 (boundZ o op)) ∧ Below w.heap.size w w' := by
  by_cases h : ringR o
  · rw [boundZ_ring op h]
    have hr := fun W => ringRight_o o W
    rw [decide_eq_true h] at hr
    obtain ⟨q1, q2, q3, q4, q5, q6, q7, q8⟩ := ring_bd h
    have m := mul_bd (a := o.c) (b := o.wd + 2) (by omega) (by omega) (by omega) (by omega)
    have e1 : IntKind.i64.wrap (o.c * (o.wd + 2)) = o.c * (o.wd + 2) := sh_wrap (by omega) (by omega)
    clear h hk ho
    unfold obA at hr
    have HR := Lib.hid hr
    clear hr
    have hn := ObX.new w o
    have hB := (Below.refl w.heap.size w).alloc (Nat.le_refl _) (.cells (obA o) 36)
    obtain ⟨n, hn0⟩ : ∃ n, w.heap.size = n := ⟨_, rfl⟩
    rw [hn0] at hn hB
    have HN := Lib.hid hn
    have HB := Lib.hid hB
    clear hn hB
    rw [hn0]
    by_cases h2 : op = 2
    · have b2 : (op == 2) = true := by simpa using h2
      rw [if_pos h2]
      clear h2
      unfold obA at *
      go_enter Tryz.func65, Tryz.ntmps65
      go_wp2_with fail
      refine (HR.out _).mono ?_
      rintro e w1 ⟨rfl, hb1⟩
      have ho1 := ObX.kept (HN.out) hb1
      have hB1 := (HB.out).trans (hb1.mono (by have := (HB.out).size; omega))
      obtain ⟨d0, d1, d2, d3, d4, d5, d6, d7⟩ := ho1.cells
      go_wp2_with fail
      go_ret
      exact ⟨rfl, hB1⟩
    · have b2 : (op == 2) = false := by simpa using h2
      rw [if_neg h2]
      clear h2
      by_cases h1 : op = 1
      · have b1 : (op == 1) = true := by simpa using h1
        rw [if_pos h1]
        clear h1
        unfold obA at *
        go_enter Tryz.func65, Tryz.ntmps65
        go_wp2_with fail
        refine (HR.out _).mono ?_
        rintro e w1 ⟨rfl, hb1⟩
        have ho1 := ObX.kept (HN.out) hb1
        have hB1 := (HB.out).trans (hb1.mono (by have := (HB.out).size; omega))
        obtain ⟨d0, d1, d2, d3, d4, d5, d6, d7⟩ := ho1.cells
        go_wp2_with fail
        go_ret
        exact ⟨rfl, hB1⟩
      · have b1 : (op == 1) = false := by simpa using h1
        rw [if_neg h1]
        clear h1
        unfold obA at *
        go_enter Tryz.func65, Tryz.ntmps65
        go_wp2_with fail
        refine (HR.out _).mono ?_
        rintro e w1 ⟨rfl, hb1⟩
        have ho1 := ObX.kept (HN.out) hb1
        have hB1 := (HB.out).trans (hb1.mono (by have := (HB.out).size; omega))
        obtain ⟨d0, d1, d2, d3, d4, d5, d6, d7⟩ := ho1.cells
        go_wp2_with fail
        go_ret
        exact ⟨rfl, hB1⟩
  · have hna : ¬ anyR o := fun q => h (of_decide_eq_true ((any_ring hk).symm.trans (decide_eq_true q)))
    rw [boundZ_no op hna]
    have hr := fun W => ringRight_o o W
    rw [decide_eq_false h] at hr
    clear h hk ho hna
    unfold obA at hr
    have HR := Lib.hid hr
    clear hr
    have hn := ObX.new w o
    have hB := (Below.refl w.heap.size w).alloc (Nat.le_refl _) (.cells (obA o) 36)
    obtain ⟨n, hn0⟩ : ∃ n, w.heap.size = n := ⟨_, rfl⟩
    rw [hn0] at hn hB
    have HN := Lib.hid hn
    have HB := Lib.hid hB
    clear hn hB
    rw [hn0]
    unfold obA at *
    go_enter Tryz.func65, Tryz.ntmps65
    go_wp2_with fail
    refine (HR.out _).mono ?_
    rintro e w1 ⟨rfl, hb1⟩
    have ho1 := ObX.kept (HN.out) hb1
    have hB1 := (HB.out).trans (hb1.mono (by have := (HB.out).size; omega))
    obtain ⟨d0, d1, d2, d3, d4, d5, d6, d7⟩ := ho1.cells
    go_wp2_with fail
    go_ret
    exact ⟨rfl, hB1⟩
set_option maxRecDepth 100000 in
set_option maxHeartbeats 1000000 in
theorem cabBound_o (o : Ob) (ho : o.Ok) (hk : o.k = 5) (op : Int) (w : World) : Calls Tryz.prog 66 #[.agg (obA o), .int .i64 op] w fun e w' => e = .returned (.int .i64 (boundZ o op)) ∧ Below w.heap.size w w' := by
  by_cases h : cabR o
  · rw [boundZ_cab op h]
    have hr := fun W => cabRight_o o ho W
    rw [decide_eq_true h] at hr
    obtain ⟨q1, q2, q3, q4, q5, q6, q7, q8⟩ := cab_bd h
    clear h hk ho
    unfold obA at hr
    have HR := Lib.hid hr
    clear hr
    have hn := ObX.new w o
    have hB := (Below.refl w.heap.size w).alloc (Nat.le_refl _) (.cells (obA o) 36)
    obtain ⟨n, hn0⟩ : ∃ n, w.heap.size = n := ⟨_, rfl⟩
    rw [hn0] at hn hB
    have HN := Lib.hid hn
    have HB := Lib.hid hB
    clear hn hB
    rw [hn0]
    by_cases h2 : op = 2
    · have b2 : (op == 2) = true := by simpa using h2
      rw [if_pos h2]
      clear h2
      unfold obA at *
      go_enter Tryz.func66, Tryz.ntmps66
      go_wp2_with fail
      refine (HR.out _).mono ?_
      rintro e w1 ⟨rfl, hb1⟩
      have ho1 := ObX.kept (HN.out) hb1
      have hB1 := (HB.out).trans (hb1.mono (by have := (HB.out).size; omega))
      obtain ⟨d0, d1, d2, d3, d4, d5, d6, d7⟩ := ho1.cells
      go_wp2_with fail
      go_ret
      exact ⟨rfl, hB1⟩
    · have b2 : (op == 2) = false := by simpa using h2
      rw [if_neg h2]
      clear h2
      by_cases h1 : op = 1
      · have b1 : (op == 1) = true := by simpa using h1
        rw [if_pos h1]
        clear h1
        unfold obA at *
        go_enter Tryz.func66, Tryz.ntmps66
        go_wp2_with fail
        refine (HR.out _).mono ?_
        rintro e w1 ⟨rfl, hb1⟩
        have ho1 := ObX.kept (HN.out) hb1
        have hB1 := (HB.out).trans (hb1.mono (by have := (HB.out).size; omega))
        obtain ⟨d0, d1, d2, d3, d4, d5, d6, d7⟩ := ho1.cells
        go_wp2_with fail
        go_ret
        exact ⟨rfl, hB1⟩
      · have b1 : (op == 1) = false := by simpa using h1
        rw [if_neg h1]
        clear h1
        unfold obA at *
        go_enter Tryz.func66, Tryz.ntmps66
        go_wp2_with fail
        refine (HR.out _).mono ?_
        rintro e w1 ⟨rfl, hb1⟩
        have ho1 := ObX.kept (HN.out) hb1
        have hB1 := (HB.out).trans (hb1.mono (by have := (HB.out).size; omega))
        obtain ⟨d0, d1, d2, d3, d4, d5, d6, d7⟩ := ho1.cells
        go_wp2_with fail
        go_ret
        exact ⟨rfl, hB1⟩
  · have hna : ¬ anyR o := fun q => h (of_decide_eq_true ((any_cab hk).symm.trans (decide_eq_true q)))
    rw [boundZ_no op hna]
    have hr := fun W => cabRight_o o ho W
    rw [decide_eq_false h] at hr
    clear h hk ho hna
    unfold obA at hr
    have HR := Lib.hid hr
    clear hr
    have hn := ObX.new w o
    have hB := (Below.refl w.heap.size w).alloc (Nat.le_refl _) (.cells (obA o) 36)
    obtain ⟨n, hn0⟩ : ∃ n, w.heap.size = n := ⟨_, rfl⟩
    rw [hn0] at hn hB
    have HN := Lib.hid hn
    have HB := Lib.hid hB
    clear hn hB
    rw [hn0]
    unfold obA at *
    go_enter Tryz.func66, Tryz.ntmps66
    go_wp2_with fail
    refine (HR.out _).mono ?_
    rintro e w1 ⟨rfl, hb1⟩
    have ho1 := ObX.kept (HN.out) hb1
    have hB1 := (HB.out).trans (hb1.mono (by have := (HB.out).size; omega))
    obtain ⟨d0, d1, d2, d3, d4, d5, d6, d7⟩ := ho1.cells
    go_wp2_with fail
    go_ret
    exact ⟨rfl, hB1⟩
set_option maxRecDepth 100000 in
set_option maxHeartbeats 1000000 in
theorem fifoBound_o (o : Ob) (ho : o.Ok) (hk : ¬ o.k = 1 ∧ ¬ o.k = 2 ∧ ¬ o.k = 3 ∧ ¬ o.k = 4 ∧ ¬ o.k = 5) (op : Int) (w : World) : Calls Tryz.prog 67 #[.agg (obA o), .int .i64 op] w fun e w' => e = .returned (.int .i64 (boundZ o op)) ∧ Below w.heap.size w w' := by
  by_cases h : fifoR o
  · rw [boundZ_fifo op h]
    have hr := fun W => fifoRight_o o W
    rw [decide_eq_true h] at hr
    obtain ⟨q1, q2, q3, q4, q5, q6⟩ := fifo_bd h
    clear h hk ho
    unfold obA at hr
    have HR := Lib.hid hr
    clear hr
    have hn := ObX.new w o
    have hB := (Below.refl w.heap.size w).alloc (Nat.le_refl _) (.cells (obA o) 36)
    obtain ⟨n, hn0⟩ : ∃ n, w.heap.size = n := ⟨_, rfl⟩
    rw [hn0] at hn hB
    have HN := Lib.hid hn
    have HB := Lib.hid hB
    clear hn hB
    rw [hn0]
    by_cases h3 : op = 3
    · have b3 : (op != 3) = false := by simpa using h3
      rw [if_pos (.inl h3)]
      clear h3
      unfold obA at *
      go_enter Tryz.func67, Tryz.ntmps67
      go_wp2_with fail
      refine (HR.out _).mono ?_
      rintro e w1 ⟨rfl, hb1⟩
      have ho1 := ObX.kept (HN.out) hb1
      have hB1 := (HB.out).trans (hb1.mono (by have := (HB.out).size; omega))
      obtain ⟨d0, d1, d2, d3, d4, d5, d6, d7⟩ := ho1.cells
      go_wp2_with fail
      go_ret
      exact ⟨rfl, hB1⟩
    · have b3 : (op != 3) = true := by simpa using h3
      by_cases h4 : op = 4
      · have b4 : (op != 4) = false := by simpa using h4
        rw [if_pos (.inr h4)]
        clear h3 h4
        unfold obA at *
        go_enter Tryz.func67, Tryz.ntmps67
        go_wp2_with fail
        refine (HR.out _).mono ?_
        rintro e w1 ⟨rfl, hb1⟩
        have ho1 := ObX.kept (HN.out) hb1
        have hB1 := (HB.out).trans (hb1.mono (by have := (HB.out).size; omega))
        obtain ⟨d0, d1, d2, d3, d4, d5, d6, d7⟩ := ho1.cells
        go_wp2_with fail
        go_ret
        exact ⟨rfl, hB1⟩
      · have b4 : (op != 4) = true := by simpa using h4
        rw [if_neg (by omega)]
        clear h3 h4
        unfold obA at *
        go_enter Tryz.func67, Tryz.ntmps67
        go_wp2_with fail
        refine (HR.out _).mono ?_
        rintro e w1 ⟨rfl, hb1⟩
        have ho1 := ObX.kept (HN.out) hb1
        have hB1 := (HB.out).trans (hb1.mono (by have := (HB.out).size; omega))
        obtain ⟨d0, d1, d2, d3, d4, d5, d6, d7⟩ := ho1.cells
        go_wp2_with fail
        go_ret
        exact ⟨rfl, hB1⟩
  · have hna : ¬ anyR o := fun q => h (of_decide_eq_true ((any_fifo hk).symm.trans (decide_eq_true q)))
    rw [boundZ_no op hna]
    have hr := fun W => fifoRight_o o W
    rw [decide_eq_false h] at hr
    clear h hk ho hna
    unfold obA at hr
    have HR := Lib.hid hr
    clear hr
    have hn := ObX.new w o
    have hB := (Below.refl w.heap.size w).alloc (Nat.le_refl _) (.cells (obA o) 36)
    obtain ⟨n, hn0⟩ : ∃ n, w.heap.size = n := ⟨_, rfl⟩
    rw [hn0] at hn hB
    have HN := Lib.hid hn
    have HB := Lib.hid hB
    clear hn hB
    rw [hn0]
    unfold obA at *
    go_enter Tryz.func67, Tryz.ntmps67
    go_wp2_with fail
    refine (HR.out _).mono ?_
    rintro e w1 ⟨rfl, hb1⟩
    have ho1 := ObX.kept (HN.out) hb1
    have hB1 := (HB.out).trans (hb1.mono (by have := (HB.out).size; omega))
    obtain ⟨d0, d1, d2, d3, d4, d5, d6, d7⟩ := ho1.cells
    go_wp2_with fail
    go_ret
    exact ⟨rfl, hB1⟩
set_option maxRecDepth 100000 in
set_option maxHeartbeats 2000000 in
theorem bound_o (o : Ob) (ho : o.Ok) (op : Int) (w : World) : Calls Tryz.prog 19 #[.agg (obA o), .int .i64 op] w fun e w' => e = .returned (.int .i64 (boundZ o op)) ∧ Below w.heap.size w w' := by
  obtain ⟨Z, hZ⟩ : ∃ Z, boundZ o op = Z := ⟨_, rfl⟩
  rw [hZ]
  have hn := ObX.new w o
  have hB := (Below.refl w.heap.size w).alloc (Nat.le_refl _) (.cells (obA o) 36)
  obtain ⟨n, hn0⟩ : ∃ n, w.heap.size = n := ⟨_, rfl⟩
  rw [hn0] at hn hB
  have HN := Lib.hid hn
  have HB := Lib.hid hB
  clear hn hB
  rw [hn0]
  by_cases hk1 : o.k = 1
  · have kb1 : (o.k == 1) = true := by simpa using hk1
    have hr := fun W => fourBound_o o ho hk1 op W
    rw [hZ] at hr
    clear hZ
    clear hk1
    unfold obA at hr
    have HR := Lib.hid hr
    clear hr
    unfold obA at *
    go_enter Tryz.func19, Tryz.ntmps19
    go_wp2_with fail
    refine (HR.out _).mono ?_
    rintro e w1 ⟨rfl, hb1⟩
    have ho1 := ObX.kept (HN.out) hb1
    have hB1 := (HB.out).trans (hb1.mono (by have := (HB.out).size; omega))
    obtain ⟨d0, d1, d2, d3, d4, d5, d6, d7⟩ := ho1.cells
    go_wp2_with fail
    go_ret
    exact ⟨rfl, hB1⟩
  · have kb1 : (o.k == 1) = false := by simpa using hk1
    by_cases hk2 : o.k = 2
    · have kb2 : (o.k == 2) = true := by simpa using hk2
      have hr := fun W => chenBound_o o ho hk2 op W
      rw [hZ] at hr
      clear hZ
      clear hk1
      clear hk2
      unfold obA at hr
      have HR := Lib.hid hr
      clear hr
      unfold obA at *
      go_enter Tryz.func19, Tryz.ntmps19
      go_wp2_with fail
      refine (HR.out _).mono ?_
      rintro e w1 ⟨rfl, hb1⟩
      have ho1 := ObX.kept (HN.out) hb1
      have hB1 := (HB.out).trans (hb1.mono (by have := (HB.out).size; omega))
      obtain ⟨d0, d1, d2, d3, d4, d5, d6, d7⟩ := ho1.cells
      go_wp2_with fail
      go_ret
      exact ⟨rfl, hB1⟩
    · have kb2 : (o.k == 2) = false := by simpa using hk2
      by_cases hk3 : o.k = 3
      · have kb3 : (o.k == 3) = true := by simpa using hk3
        have hr := fun W => seqBound_o o ho hk3 op W
        rw [hZ] at hr
        clear hZ
        clear hk1
        clear hk2
        clear hk3
        unfold obA at hr
        have HR := Lib.hid hr
        clear hr
        unfold obA at *
        go_enter Tryz.func19, Tryz.ntmps19
        go_wp2_with fail
        refine (HR.out _).mono ?_
        rintro e w1 ⟨rfl, hb1⟩
        have ho1 := ObX.kept (HN.out) hb1
        have hB1 := (HB.out).trans (hb1.mono (by have := (HB.out).size; omega))
        obtain ⟨d0, d1, d2, d3, d4, d5, d6, d7⟩ := ho1.cells
        go_wp2_with fail
        go_ret
        exact ⟨rfl, hB1⟩
      · have kb3 : (o.k == 3) = false := by simpa using hk3
        by_cases hk4 : o.k = 4
        · have kb4 : (o.k == 4) = true := by simpa using hk4
          have hr := fun W => ringBound_o o ho hk4 op W
          rw [hZ] at hr
          clear hZ
          clear hk1
          clear hk2
          clear hk3
          clear hk4
          unfold obA at hr
          have HR := Lib.hid hr
          clear hr
          unfold obA at *
          go_enter Tryz.func19, Tryz.ntmps19
          go_wp2_with fail
          refine (HR.out _).mono ?_
          rintro e w1 ⟨rfl, hb1⟩
          have ho1 := ObX.kept (HN.out) hb1
          have hB1 := (HB.out).trans (hb1.mono (by have := (HB.out).size; omega))
          obtain ⟨d0, d1, d2, d3, d4, d5, d6, d7⟩ := ho1.cells
          go_wp2_with fail
          go_ret
          exact ⟨rfl, hB1⟩
        · have kb4 : (o.k == 4) = false := by simpa using hk4
          by_cases hk5 : o.k = 5
          · have kb5 : (o.k == 5) = true := by simpa using hk5
            have hr := fun W => cabBound_o o ho hk5 op W
            rw [hZ] at hr
            clear hZ
            clear hk1
            clear hk2
            clear hk3
            clear hk4
            clear hk5
            unfold obA at hr
            have HR := Lib.hid hr
            clear hr
            unfold obA at *
            go_enter Tryz.func19, Tryz.ntmps19
            go_wp2_with fail
            refine (HR.out _).mono ?_
            rintro e w1 ⟨rfl, hb1⟩
            have ho1 := ObX.kept (HN.out) hb1
            have hB1 := (HB.out).trans (hb1.mono (by have := (HB.out).size; omega))
            obtain ⟨d0, d1, d2, d3, d4, d5, d6, d7⟩ := ho1.cells
            go_wp2_with fail
            go_ret
            exact ⟨rfl, hB1⟩
          · have kb5 : (o.k == 5) = false := by simpa using hk5
            have hr := fun W => fifoBound_o o ho ⟨hk1, hk2, hk3, hk4, hk5⟩ op W
            rw [hZ] at hr
            clear hZ
            clear hk1
            clear hk2
            clear hk3
            clear hk4
            clear hk5
            unfold obA at hr
            have HR := Lib.hid hr
            clear hr
            unfold obA at *
            go_enter Tryz.func19, Tryz.ntmps19
            go_wp2_with fail
            refine (HR.out _).mono ?_
            rintro e w1 ⟨rfl, hb1⟩
            have ho1 := ObX.kept (HN.out) hb1
            have hB1 := (HB.out).trans (hb1.mono (by have := (HB.out).size; omega))
            obtain ⟨d0, d1, d2, d3, d4, d5, d6, d7⟩ := ho1.cells
            go_wp2_with fail
            go_ret
            exact ⟨rfl, hB1⟩

end Go.Proofs.YtgjcniokgdicpaaGreatDoor

/- The reference's Right and Words of instructions. -/
import Derived.Test.YtkcdmonmgnmojaaDoorAsm1
import Derived.Test.YtkcdmonmgnmojaaDoorStrTy
namespace Go.Proofs.YtkcdmonmgnmojaaDoor
open Go.RowKit

theorem reg8_any (n : Int) (w : World) : Calls Tryd.prog 34 #[.int .i64 n] w fun e w' => e = .returned (.bool (fitB 1 n)) ∧ w' = w := by
  rcases h1 : decide (0 ≤ n) with _ | _ <;> rcases h2 : decide (n ≤ 7) with _ | _
  all_goals
    have hr : fitB 1 n = (decide (0 ≤ n) && decide (n ≤ 7)) := by
      show (decide (0 ≤ n) && decide (n < 8)) = _
      congr 1
      exact decide_eq_decide.2 (by omega)
    rw [h1, h2] at hr
    have hr' := Lib.hid hr
    clear hr
    go_enter Tryd.func34, Tryd.ntmps34
    go_wp2_with fail
    go_ret
    exact ⟨ret_bool (by rw [hr'.out]; rfl), rfl⟩

set_option maxRecDepth 100000 in
theorem rright_0 (a b c m : Int) (w : World) : Calls Tryd.prog 10 #[.agg #[.int .i64 0, .int .i64 a, .int .i64 b, .int .i64 c, .int .u32 m]] w fun r w' => r = .returned (.bool (insB ⟨0, a, b, c, m⟩)) ∧ Below w.heap.size w w' := by
  have hr : insB ⟨0, a, b, c, m⟩ = ((a == 0) && (b == 0) && (c == 0) && (m == 0)) := rfl
  rw [hr]
  clear hr
  go_enter Tryd.func10, Tryd.ntmps10
  go_wp2_with (go_at_call 34; refine (reg8_any _ _).mono ?_; rintro e w1 ⟨rfl, rfl⟩)
  all_goals
    go_ret
    exact ⟨ret_bool (by simp [*] <;> omega), (Below.refl _ w).alloc (Nat.le_refl _) _⟩
set_option maxRecDepth 100000 in
theorem rright_1 (a b c m : Int) (w : World) : Calls Tryd.prog 10 #[.agg #[.int .i64 1, .int .i64 a, .int .i64 b, .int .i64 c, .int .u32 m]] w fun r w' => r = .returned (.bool (insB ⟨1, a, b, c, m⟩)) ∧ Below w.heap.size w w' := by
  have hr : insB ⟨1, a, b, c, m⟩ = (fitB 1 a && (b == 0) && (c == 0) && true) := rfl
  rw [hr]
  clear hr
  go_enter Tryd.func10, Tryd.ntmps10
  go_wp2_with (go_at_call 34; refine (reg8_any _ _).mono ?_; rintro e w1 ⟨rfl, rfl⟩)
  all_goals
    go_ret
    exact ⟨ret_bool (by simp [*] <;> omega), (Below.refl _ w).alloc (Nat.le_refl _) _⟩
set_option maxRecDepth 100000 in
theorem rright_2 (a b c m : Int) (w : World) : Calls Tryd.prog 10 #[.agg #[.int .i64 2, .int .i64 a, .int .i64 b, .int .i64 c, .int .u32 m]] w fun r w' => r = .returned (.bool (insB ⟨2, a, b, c, m⟩)) ∧ Below w.heap.size w w' := by
  have hr : insB ⟨2, a, b, c, m⟩ = (fitB 1 a && fitB 1 b && (c == 0) && (m == 0)) := rfl
  rw [hr]
  clear hr
  go_enter Tryd.func10, Tryd.ntmps10
  go_wp2_with (go_at_call 34; refine (reg8_any _ _).mono ?_; rintro e w1 ⟨rfl, rfl⟩)
  all_goals
    go_ret
    exact ⟨ret_bool (by simp [*] <;> omega), (Below.refl _ w).alloc (Nat.le_refl _) _⟩
set_option maxRecDepth 100000 in
theorem rright_3 (a b c m : Int) (w : World) : Calls Tryd.prog 10 #[.agg #[.int .i64 3, .int .i64 a, .int .i64 b, .int .i64 c, .int .u32 m]] w fun r w' => r = .returned (.bool (insB ⟨3, a, b, c, m⟩)) ∧ Below w.heap.size w w' := by
  have hr : insB ⟨3, a, b, c, m⟩ = (fitB 1 a && fitB 1 b && fitB 1 c && (m == 0)) := rfl
  rw [hr]
  clear hr
  go_enter Tryd.func10, Tryd.ntmps10
  go_wp2_with (go_at_call 34; refine (reg8_any _ _).mono ?_; rintro e w1 ⟨rfl, rfl⟩)
  all_goals
    go_ret
    exact ⟨ret_bool (by simp [*] <;> omega), (Below.refl _ w).alloc (Nat.le_refl _) _⟩
set_option maxRecDepth 100000 in
theorem rright_4 (a b c m : Int) (w : World) : Calls Tryd.prog 10 #[.agg #[.int .i64 4, .int .i64 a, .int .i64 b, .int .i64 c, .int .u32 m]] w fun r w' => r = .returned (.bool (insB ⟨4, a, b, c, m⟩)) ∧ Below w.heap.size w w' := by
  have hr : insB ⟨4, a, b, c, m⟩ = (fitB 1 a && fitB 1 b && fitB 1 c && (m == 0)) := rfl
  rw [hr]
  clear hr
  go_enter Tryd.func10, Tryd.ntmps10
  go_wp2_with (go_at_call 34; refine (reg8_any _ _).mono ?_; rintro e w1 ⟨rfl, rfl⟩)
  all_goals
    go_ret
    exact ⟨ret_bool (by simp [*] <;> omega), (Below.refl _ w).alloc (Nat.le_refl _) _⟩
set_option maxRecDepth 100000 in
theorem rright_5 (a b c m : Int) (w : World) : Calls Tryd.prog 10 #[.agg #[.int .i64 5, .int .i64 a, .int .i64 b, .int .i64 c, .int .u32 m]] w fun r w' => r = .returned (.bool (insB ⟨5, a, b, c, m⟩)) ∧ Below w.heap.size w w' := by
  have hr : insB ⟨5, a, b, c, m⟩ = (fitB 1 a && fitB 1 b && fitB 1 c && (m == 0)) := rfl
  rw [hr]
  clear hr
  go_enter Tryd.func10, Tryd.ntmps10
  go_wp2_with (go_at_call 34; refine (reg8_any _ _).mono ?_; rintro e w1 ⟨rfl, rfl⟩)
  all_goals
    go_ret
    exact ⟨ret_bool (by simp [*] <;> omega), (Below.refl _ w).alloc (Nat.le_refl _) _⟩
set_option maxRecDepth 100000 in
theorem rright_6 (a b c m : Int) (w : World) : Calls Tryd.prog 10 #[.agg #[.int .i64 6, .int .i64 a, .int .i64 b, .int .i64 c, .int .u32 m]] w fun r w' => r = .returned (.bool (insB ⟨6, a, b, c, m⟩)) ∧ Below w.heap.size w w' := by
  have hr : insB ⟨6, a, b, c, m⟩ = (fitB 1 a && fitB 1 b && fitB 1 c && (m == 0)) := rfl
  rw [hr]
  clear hr
  go_enter Tryd.func10, Tryd.ntmps10
  go_wp2_with (go_at_call 34; refine (reg8_any _ _).mono ?_; rintro e w1 ⟨rfl, rfl⟩)
  all_goals
    go_ret
    exact ⟨ret_bool (by simp [*] <;> omega), (Below.refl _ w).alloc (Nat.le_refl _) _⟩
set_option maxRecDepth 100000 in
theorem rright_7 (a b c m : Int) (w : World) : Calls Tryd.prog 10 #[.agg #[.int .i64 7, .int .i64 a, .int .i64 b, .int .i64 c, .int .u32 m]] w fun r w' => r = .returned (.bool (insB ⟨7, a, b, c, m⟩)) ∧ Below w.heap.size w w' := by
  have hr : insB ⟨7, a, b, c, m⟩ = (fitB 1 a && fitB 1 b && fitB 1 c && (m == 0)) := rfl
  rw [hr]
  clear hr
  go_enter Tryd.func10, Tryd.ntmps10
  go_wp2_with (go_at_call 34; refine (reg8_any _ _).mono ?_; rintro e w1 ⟨rfl, rfl⟩)
  all_goals
    go_ret
    exact ⟨ret_bool (by simp [*] <;> omega), (Below.refl _ w).alloc (Nat.le_refl _) _⟩
set_option maxRecDepth 100000 in
theorem rright_8 (a b c m : Int) (w : World) : Calls Tryd.prog 10 #[.agg #[.int .i64 8, .int .i64 a, .int .i64 b, .int .i64 c, .int .u32 m]] w fun r w' => r = .returned (.bool (insB ⟨8, a, b, c, m⟩)) ∧ Below w.heap.size w w' := by
  have hr : insB ⟨8, a, b, c, m⟩ = (fitB 1 a && fitB 1 b && fitB 1 c && (m == 0)) := rfl
  rw [hr]
  clear hr
  go_enter Tryd.func10, Tryd.ntmps10
  go_wp2_with (go_at_call 34; refine (reg8_any _ _).mono ?_; rintro e w1 ⟨rfl, rfl⟩)
  all_goals
    go_ret
    exact ⟨ret_bool (by simp [*] <;> omega), (Below.refl _ w).alloc (Nat.le_refl _) _⟩
set_option maxRecDepth 100000 in
theorem rright_9 (a b c m : Int) (w : World) : Calls Tryd.prog 10 #[.agg #[.int .i64 9, .int .i64 a, .int .i64 b, .int .i64 c, .int .u32 m]] w fun r w' => r = .returned (.bool (insB ⟨9, a, b, c, m⟩)) ∧ Below w.heap.size w w' := by
  have hr : insB ⟨9, a, b, c, m⟩ = (fitB 1 a && fitB 1 b && fitB 1 c && (m == 0)) := rfl
  rw [hr]
  clear hr
  go_enter Tryd.func10, Tryd.ntmps10
  go_wp2_with (go_at_call 34; refine (reg8_any _ _).mono ?_; rintro e w1 ⟨rfl, rfl⟩)
  all_goals
    go_ret
    exact ⟨ret_bool (by simp [*] <;> omega), (Below.refl _ w).alloc (Nat.le_refl _) _⟩
set_option maxRecDepth 100000 in
theorem rright_10 (a b c m : Int) (w : World) : Calls Tryd.prog 10 #[.agg #[.int .i64 10, .int .i64 a, .int .i64 b, .int .i64 c, .int .u32 m]] w fun r w' => r = .returned (.bool (insB ⟨10, a, b, c, m⟩)) ∧ Below w.heap.size w w' := by
  have hr : insB ⟨10, a, b, c, m⟩ = (fitB 1 a && fitB 1 b && fitB 1 c && (m == 0)) := rfl
  rw [hr]
  clear hr
  go_enter Tryd.func10, Tryd.ntmps10
  go_wp2_with (go_at_call 34; refine (reg8_any _ _).mono ?_; rintro e w1 ⟨rfl, rfl⟩)
  all_goals
    go_ret
    exact ⟨ret_bool (by simp [*] <;> omega), (Below.refl _ w).alloc (Nat.le_refl _) _⟩
set_option maxRecDepth 100000 in
theorem rright_11 (a b c m : Int) (w : World) : Calls Tryd.prog 10 #[.agg #[.int .i64 11, .int .i64 a, .int .i64 b, .int .i64 c, .int .u32 m]] w fun r w' => r = .returned (.bool (insB ⟨11, a, b, c, m⟩)) ∧ Below w.heap.size w w' := by
  have hr : insB ⟨11, a, b, c, m⟩ = (fitB 1 a && fitB 1 b && (c == 0) && true) := rfl
  rw [hr]
  clear hr
  go_enter Tryd.func10, Tryd.ntmps10
  go_wp2_with (go_at_call 34; refine (reg8_any _ _).mono ?_; rintro e w1 ⟨rfl, rfl⟩)
  all_goals
    go_ret
    exact ⟨ret_bool (by simp [*] <;> omega), (Below.refl _ w).alloc (Nat.le_refl _) _⟩
set_option maxRecDepth 100000 in
theorem rright_12 (a b c m : Int) (w : World) : Calls Tryd.prog 10 #[.agg #[.int .i64 12, .int .i64 a, .int .i64 b, .int .i64 c, .int .u32 m]] w fun r w' => r = .returned (.bool (insB ⟨12, a, b, c, m⟩)) ∧ Below w.heap.size w w' := by
  have hr : insB ⟨12, a, b, c, m⟩ = (fitB 1 a && fitB 1 b && (c == 0) && true) := rfl
  rw [hr]
  clear hr
  go_enter Tryd.func10, Tryd.ntmps10
  go_wp2_with (go_at_call 34; refine (reg8_any _ _).mono ?_; rintro e w1 ⟨rfl, rfl⟩)
  all_goals
    go_ret
    exact ⟨ret_bool (by simp [*] <;> omega), (Below.refl _ w).alloc (Nat.le_refl _) _⟩
set_option maxRecDepth 100000 in
theorem rright_13 (a b c m : Int) (w : World) : Calls Tryd.prog 10 #[.agg #[.int .i64 13, .int .i64 a, .int .i64 b, .int .i64 c, .int .u32 m]] w fun r w' => r = .returned (.bool (insB ⟨13, a, b, c, m⟩)) ∧ Below w.heap.size w w' := by
  have hr : insB ⟨13, a, b, c, m⟩ = (fitB 1 a && fitB 1 b && fitB 1 c && true) := rfl
  rw [hr]
  clear hr
  go_enter Tryd.func10, Tryd.ntmps10
  go_wp2_with (go_at_call 34; refine (reg8_any _ _).mono ?_; rintro e w1 ⟨rfl, rfl⟩)
  all_goals
    go_ret
    exact ⟨ret_bool (by simp [*] <;> omega), (Below.refl _ w).alloc (Nat.le_refl _) _⟩
set_option maxRecDepth 100000 in
theorem rright_14 (a b c m : Int) (w : World) : Calls Tryd.prog 10 #[.agg #[.int .i64 14, .int .i64 a, .int .i64 b, .int .i64 c, .int .u32 m]] w fun r w' => r = .returned (.bool (insB ⟨14, a, b, c, m⟩)) ∧ Below w.heap.size w w' := by
  have hr : insB ⟨14, a, b, c, m⟩ = ((a == 0) && (b == 0) && (c == 0) && decide (m < 64)) := rfl
  rw [hr]
  clear hr
  go_enter Tryd.func10, Tryd.ntmps10
  go_wp2_with (go_at_call 34; refine (reg8_any _ _).mono ?_; rintro e w1 ⟨rfl, rfl⟩)
  all_goals
    go_ret
    exact ⟨ret_bool (by simp [*] <;> omega), (Below.refl _ w).alloc (Nat.le_refl _) _⟩
set_option maxRecDepth 100000 in
theorem rright_15 (a b c m : Int) (w : World) : Calls Tryd.prog 10 #[.agg #[.int .i64 15, .int .i64 a, .int .i64 b, .int .i64 c, .int .u32 m]] w fun r w' => r = .returned (.bool (insB ⟨15, a, b, c, m⟩)) ∧ Below w.heap.size w w' := by
  have hr : insB ⟨15, a, b, c, m⟩ = (fitB 1 a && (b == 0) && (c == 0) && decide (m < 64)) := rfl
  rw [hr]
  clear hr
  go_enter Tryd.func10, Tryd.ntmps10
  go_wp2_with (go_at_call 34; refine (reg8_any _ _).mono ?_; rintro e w1 ⟨rfl, rfl⟩)
  all_goals
    go_ret
    exact ⟨ret_bool (by simp [*] <;> omega), (Below.refl _ w).alloc (Nat.le_refl _) _⟩
set_option maxRecDepth 100000 in
theorem rright_16 (a b c m : Int) (w : World) : Calls Tryd.prog 10 #[.agg #[.int .i64 16, .int .i64 a, .int .i64 b, .int .i64 c, .int .u32 m]] w fun r w' => r = .returned (.bool (insB ⟨16, a, b, c, m⟩)) ∧ Below w.heap.size w w' := by
  have hr : insB ⟨16, a, b, c, m⟩ = ((a == 0) && (b == 0) && (decide (1 ≤ c) && decide (c ≤ 255)) && decide (m < 64)) := rfl
  rw [hr]
  clear hr
  go_enter Tryd.func10, Tryd.ntmps10
  go_wp2_with (go_at_call 34; refine (reg8_any _ _).mono ?_; rintro e w1 ⟨rfl, rfl⟩)
  all_goals
    go_ret
    exact ⟨ret_bool (by simp [*] <;> omega), (Below.refl _ w).alloc (Nat.le_refl _) _⟩
set_option maxRecDepth 100000 in
theorem rright_17 (a b c m : Int) (w : World) : Calls Tryd.prog 10 #[.agg #[.int .i64 17, .int .i64 a, .int .i64 b, .int .i64 c, .int .u32 m]] w fun r w' => r = .returned (.bool (insB ⟨17, a, b, c, m⟩)) ∧ Below w.heap.size w w' := by
  have hr : insB ⟨17, a, b, c, m⟩ = (fitB 1 a && (decide (0 ≤ b) && decide (b < 8)) && (c == 0) && decide (m < 64)) := rfl
  rw [hr]
  clear hr
  go_enter Tryd.func10, Tryd.ntmps10
  go_wp2_with (go_at_call 34; refine (reg8_any _ _).mono ?_; rintro e w1 ⟨rfl, rfl⟩)
  all_goals
    go_ret
    exact ⟨ret_bool (by simp [*] <;> omega), (Below.refl _ w).alloc (Nat.le_refl _) _⟩
set_option maxRecDepth 100000 in
theorem rright_18 (a b c m : Int) (w : World) : Calls Tryd.prog 10 #[.agg #[.int .i64 18, .int .i64 a, .int .i64 b, .int .i64 c, .int .u32 m]] w fun r w' => r = .returned (.bool (insB ⟨18, a, b, c, m⟩)) ∧ Below w.heap.size w w' := by
  have hr : insB ⟨18, a, b, c, m⟩ = (fitB 1 a && (decide (0 ≤ b) && decide (b < 8)) && (c == 0) && decide (m < 64)) := rfl
  rw [hr]
  clear hr
  go_enter Tryd.func10, Tryd.ntmps10
  go_wp2_with (go_at_call 34; refine (reg8_any _ _).mono ?_; rintro e w1 ⟨rfl, rfl⟩)
  all_goals
    go_ret
    exact ⟨ret_bool (by simp [*] <;> omega), (Below.refl _ w).alloc (Nat.le_refl _) _⟩
set_option maxRecDepth 100000 in
theorem rright_19 (a b c m : Int) (w : World) : Calls Tryd.prog 10 #[.agg #[.int .i64 19, .int .i64 a, .int .i64 b, .int .i64 c, .int .u32 m]] w fun r w' => r = .returned (.bool (insB ⟨19, a, b, c, m⟩)) ∧ Below w.heap.size w w' := by
  have hr : insB ⟨19, a, b, c, m⟩ = (fitB 1 a && (decide (0 ≤ b) && decide (b < 8)) && (c == 0) && decide (m < 64)) := rfl
  rw [hr]
  clear hr
  go_enter Tryd.func10, Tryd.ntmps10
  go_wp2_with (go_at_call 34; refine (reg8_any _ _).mono ?_; rintro e w1 ⟨rfl, rfl⟩)
  all_goals
    go_ret
    exact ⟨ret_bool (by simp [*] <;> omega), (Below.refl _ w).alloc (Nat.le_refl _) _⟩
set_option maxRecDepth 100000 in
theorem rright_20 (a b c m : Int) (w : World) : Calls Tryd.prog 10 #[.agg #[.int .i64 20, .int .i64 a, .int .i64 b, .int .i64 c, .int .u32 m]] w fun r w' => r = .returned (.bool (insB ⟨20, a, b, c, m⟩)) ∧ Below w.heap.size w w' := by
  have hr : insB ⟨20, a, b, c, m⟩ = (fitB 1 a && (decide (0 ≤ b) && decide (b < 8)) && (c == 0) && decide (m < 64)) := rfl
  rw [hr]
  clear hr
  go_enter Tryd.func10, Tryd.ntmps10
  go_wp2_with (go_at_call 34; refine (reg8_any _ _).mono ?_; rintro e w1 ⟨rfl, rfl⟩)
  all_goals
    go_ret
    exact ⟨ret_bool (by simp [*] <;> omega), (Below.refl _ w).alloc (Nat.le_refl _) _⟩
set_option maxRecDepth 100000 in
theorem rright_21 (a b c m : Int) (w : World) : Calls Tryd.prog 10 #[.agg #[.int .i64 21, .int .i64 a, .int .i64 b, .int .i64 c, .int .u32 m]] w fun r w' => r = .returned (.bool (insB ⟨21, a, b, c, m⟩)) ∧ Below w.heap.size w w' := by
  have hr : insB ⟨21, a, b, c, m⟩ = ((a == 0) && (b == 0) && (c == 0) && (m == 0)) := rfl
  rw [hr]
  clear hr
  go_enter Tryd.func10, Tryd.ntmps10
  go_wp2_with (go_at_call 34; refine (reg8_any _ _).mono ?_; rintro e w1 ⟨rfl, rfl⟩)
  all_goals
    go_ret
    exact ⟨ret_bool (by simp [*] <;> omega), (Below.refl _ w).alloc (Nat.le_refl _) _⟩
set_option maxRecDepth 100000 in
theorem rright_no (op a b c m : Int) (w : World) (h : known op = false) : Calls Tryd.prog 10 #[.agg #[.int .i64 op, .int .i64 a, .int .i64 b, .int .i64 c, .int .u32 m]] w fun r w' => r = .returned (.bool false) ∧ Below w.heap.size w w' := by
  have ho : ¬(0 ≤ op ∧ op < 22) := fun e => by rw [known_iff.2 e] at h; cases h
  have x0 : (op == 0) = false := by rw [beq_eq_false_iff_ne]; omega
  have x1 : (op == 1) = false := by rw [beq_eq_false_iff_ne]; omega
  have x2 : (op == 2) = false := by rw [beq_eq_false_iff_ne]; omega
  have x3 : (op == 3) = false := by rw [beq_eq_false_iff_ne]; omega
  have x4 : (op == 4) = false := by rw [beq_eq_false_iff_ne]; omega
  have x5 : (op == 5) = false := by rw [beq_eq_false_iff_ne]; omega
  have x6 : (op == 6) = false := by rw [beq_eq_false_iff_ne]; omega
  have x7 : (op == 7) = false := by rw [beq_eq_false_iff_ne]; omega
  have x8 : (op == 8) = false := by rw [beq_eq_false_iff_ne]; omega
  have x9 : (op == 9) = false := by rw [beq_eq_false_iff_ne]; omega
  have x10 : (op == 10) = false := by rw [beq_eq_false_iff_ne]; omega
  have x11 : (op == 11) = false := by rw [beq_eq_false_iff_ne]; omega
  have x12 : (op == 12) = false := by rw [beq_eq_false_iff_ne]; omega
  have x13 : (op == 13) = false := by rw [beq_eq_false_iff_ne]; omega
  have x14 : (op == 14) = false := by rw [beq_eq_false_iff_ne]; omega
  have x15 : (op == 15) = false := by rw [beq_eq_false_iff_ne]; omega
  have x16 : (op == 16) = false := by rw [beq_eq_false_iff_ne]; omega
  have x17 : (op == 17) = false := by rw [beq_eq_false_iff_ne]; omega
  have x18 : (op == 18) = false := by rw [beq_eq_false_iff_ne]; omega
  have x19 : (op == 19) = false := by rw [beq_eq_false_iff_ne]; omega
  have x20 : (op == 20) = false := by rw [beq_eq_false_iff_ne]; omega
  have x21 : (op == 21) = false := by rw [beq_eq_false_iff_ne]; omega
  clear h ho
  go_enter Tryd.func10, Tryd.ntmps10
  go_wp2_with fail
  go_ret
  exact ⟨rfl, (Below.refl _ w).alloc (Nat.le_refl _) _⟩
theorem rright_any (e : Ins) (w : World) : Calls Tryd.prog 10 #[insV e] w fun r w' => r = .returned (.bool (insB e)) ∧ Below w.heap.size w w' := by
  obtain ⟨op, a, b, c, m⟩ := e
  unfold insV
  simp only
  rcases h : known op with _ | _
  · have hi : insB ⟨op, a, b, c, m⟩ = false := by unfold insB; simp only [h, Bool.false_and]
    rw [hi]
    exact rright_no op a b c m w h
  · refine op_all (P := fun op => Calls Tryd.prog 10 #[.agg #[.int .i64 op, .int .i64 a, .int .i64 b, .int .i64 c, .int .u32 m]] w fun r w' => r = .returned (.bool (insB ⟨op, a, b, c, m⟩)) ∧ Below w.heap.size w w') ?_ op h
    intro k hk
    have hc : k = 0 ∨ k = 1 ∨ k = 2 ∨ k = 3 ∨ k = 4 ∨ k = 5 ∨ k = 6 ∨ k = 7 ∨ k = 8 ∨ k = 9 ∨ k = 10 ∨ k = 11 ∨ k = 12 ∨ k = 13 ∨ k = 14 ∨ k = 15 ∨ k = 16 ∨ k = 17 ∨ k = 18 ∨ k = 19 ∨ k = 20 ∨ k = 21 := by omega
    rcases hc with rfl | rfl | rfl | rfl | rfl | rfl | rfl | rfl | rfl | rfl | rfl | rfl | rfl | rfl | rfl | rfl | rfl | rfl | rfl | rfl | rfl | rfl
    · exact rright_0 a b c m w
    · exact rright_1 a b c m w
    · exact rright_2 a b c m w
    · exact rright_3 a b c m w
    · exact rright_4 a b c m w
    · exact rright_5 a b c m w
    · exact rright_6 a b c m w
    · exact rright_7 a b c m w
    · exact rright_8 a b c m w
    · exact rright_9 a b c m w
    · exact rright_10 a b c m w
    · exact rright_11 a b c m w
    · exact rright_12 a b c m w
    · exact rright_13 a b c m w
    · exact rright_14 a b c m w
    · exact rright_15 a b c m w
    · exact rright_16 a b c m w
    · exact rright_17 a b c m w
    · exact rright_18 a b c m w
    · exact rright_19 a b c m w
    · exact rright_20 a b c m w
    · exact rright_21 a b c m w

def wordsB : List ByteArray := shs.map fun s => ⟨s.w.toArray⟩
theorem rwords_any (w : World) : Calls Tryd.prog 35 #[] w fun e w' => ∃ b, e = .returned (.slice (some ⟨b, 0, none⟩) 22 22) ∧ (∀ (j : Nat) x, wordsB[j]? = some x → w'.cell? ⟨b, j, none⟩ = some (.string x)) ∧ w.heap.size ≤ b ∧ Below w.heap.size w w' := by
  go_enter Tryd.func35, Tryd.ntmps35
  go_wp2_with fail
  go_ret
  refine ⟨_, rfl, fun j x hx => ?_, Nat.le_refl _, (Below.refl _ w).alloc (Nat.le_refl _) _⟩
  have h1 := cells_new w (wordsB.map Value.string).toArray 9 j
  rw [Addr.add_lit, Nat.zero_add, List.getElem?_toArray, List.getElem?_map, hx] at h1
  exact h1

end Go.Proofs.YtkcdmonmgnmojaaDoor

/- What is done with each kind. -/
import Derived.Test.YtgjcniokgdicpaaGreatDoorWalk
namespace Go.Proofs.YtgjcniokgdicpaaGreatDoor
open Go.RowKit
attribute [local go_sem] Oper.semAt_some

def isK (k : Int) : Bool := decide (1 ≤ k) && decide (k ≤ 6)
def oA (k : Int) : Int := if isK k = true then (if k = 6 then 3 else 2) else 0
def oB (k : Int) : Int := if isK k = true then (if k = 6 then 4 else 1) else 0
theorem isK_cases (k : Int) : (isK k = true ∧ (k = 1 ∨ k = 2 ∨ k = 3 ∨ k = 4 ∨ k = 5 ∨ k = 6)) ∨ (isK k = false ∧ k ≠ 1 ∧ k ≠ 2 ∧ k ≠ 3 ∧ k ≠ 4 ∧ k ≠ 5 ∧ k ≠ 6) := by
  unfold isK
  by_cases h1 : 1 ≤ k <;> by_cases h2 : k ≤ 6
  · left
    rw [decide_eq_true h1, decide_eq_true h2]
    exact ⟨rfl, by omega⟩
  · right
    rw [decide_eq_false h2, Bool.and_false]
    exact ⟨rfl, by omega, by omega, by omega, by omega, by omega, by omega⟩
  · right
    rw [decide_eq_false h1, Bool.false_and]
    exact ⟨rfl, by omega, by omega, by omega, by omega, by omega, by omega⟩
  · omega
set_option maxRecDepth 100000 in
theorem oops_any (k : Int) (w : World) : Calls Tryz.prog 8 #[.int .i64 k] w fun e w' => e = .returned (.tuple #[.int .i64 (oA k), .int .i64 (oB k), .bool (isK k)]) ∧ w' = w := by
  rcases isK_cases k with ⟨hk, rfl | rfl | rfl | rfl | rfl | rfl⟩ | ⟨hk, h1, h2, h3, h4, h5, h6⟩
  · go_enter Tryz.func8, Tryz.ntmps8
    go_wp2_with fail
    refine bodyPost_ret (v := .tuple #[.int .i64 (oA 1), .int .i64 (oB 1), .bool (isK 1)]) (by simp [results, go_sem, oA, oB, isK]) rfl ?_
    exact ⟨rfl, rfl⟩
  · go_enter Tryz.func8, Tryz.ntmps8
    go_wp2_with fail
    refine bodyPost_ret (v := .tuple #[.int .i64 (oA 2), .int .i64 (oB 2), .bool (isK 2)]) (by simp [results, go_sem, oA, oB, isK]) rfl ?_
    exact ⟨rfl, rfl⟩
  · go_enter Tryz.func8, Tryz.ntmps8
    go_wp2_with fail
    refine bodyPost_ret (v := .tuple #[.int .i64 (oA 3), .int .i64 (oB 3), .bool (isK 3)]) (by simp [results, go_sem, oA, oB, isK]) rfl ?_
    exact ⟨rfl, rfl⟩
  · go_enter Tryz.func8, Tryz.ntmps8
    go_wp2_with fail
    refine bodyPost_ret (v := .tuple #[.int .i64 (oA 4), .int .i64 (oB 4), .bool (isK 4)]) (by simp [results, go_sem, oA, oB, isK]) rfl ?_
    exact ⟨rfl, rfl⟩
  · go_enter Tryz.func8, Tryz.ntmps8
    go_wp2_with fail
    refine bodyPost_ret (v := .tuple #[.int .i64 (oA 5), .int .i64 (oB 5), .bool (isK 5)]) (by simp [results, go_sem, oA, oB, isK]) rfl ?_
    exact ⟨rfl, rfl⟩
  · go_enter Tryz.func8, Tryz.ntmps8
    go_wp2_with fail
    refine bodyPost_ret (v := .tuple #[.int .i64 (oA 6), .int .i64 (oB 6), .bool (isK 6)]) (by simp [results, go_sem, oA, oB, isK]) rfl ?_
    exact ⟨rfl, rfl⟩
  · have a1 : (k == 1) = false := by rw [beq_eq_false_iff_ne]; exact h1
    have a2 : (k == 2) = false := by rw [beq_eq_false_iff_ne]; exact h2
    have a3 : (k == 3) = false := by rw [beq_eq_false_iff_ne]; exact h3
    have a4 : (k == 4) = false := by rw [beq_eq_false_iff_ne]; exact h4
    have a5 : (k == 5) = false := by rw [beq_eq_false_iff_ne]; exact h5
    have a6 : (k == 6) = false := by rw [beq_eq_false_iff_ne]; exact h6
    have e1 : oA k = 0 := by unfold oA; rw [hk]; rfl
    have e2 : oB k = 0 := by unfold oB; rw [hk]; rfl
    rw [e1, e2, hk]
    clear e1 e2 hk h1 h2 h3 h4 h5 h6
    go_enter Tryz.func8, Tryz.ntmps8
    go_wp2_with fail
    refine bodyPost_ret (v := .tuple #[.int .i64 0, .int .i64 0, .bool false]) (by simp [results, go_sem]) rfl ?_
    exact ⟨rfl, rfl⟩
theorem rWrites_any (k : Int) (w : World) (hk : isK k = true) : Calls Tryz.prog 9 #[.int .i64 k] w fun e w' => e = .returned (.int .i64 (oA k)) ∧ w' = w := by
  unfold oA
  rw [if_pos hk]
  by_cases h : k = 6
  · rw [if_pos h]
    have t : (k == 6) = true := by rw [h]; rfl
    clear hk h
    go_enter Tryz.func9, Tryz.ntmps9
    go_wp2_with fail
    go_ret
    exact ⟨rfl, rfl⟩
  · rw [if_neg h]
    have t : (k == 6) = false := by rw [beq_eq_false_iff_ne]; exact h
    clear hk h
    go_enter Tryz.func9, Tryz.ntmps9
    go_wp2_with fail
    go_ret
    exact ⟨rfl, rfl⟩
theorem rReads_any (k : Int) (w : World) (hk : isK k = true) : Calls Tryz.prog 10 #[.int .i64 k] w fun e w' => e = .returned (.int .i64 (oB k)) ∧ w' = w := by
  unfold oB
  rw [if_pos hk]
  by_cases h : k = 6
  · rw [if_pos h]
    have t : (k == 6) = true := by rw [h]; rfl
    clear hk h
    go_enter Tryz.func10, Tryz.ntmps10
    go_wp2_with fail
    go_ret
    exact ⟨rfl, rfl⟩
  · rw [if_neg h]
    have t : (k == 6) = false := by rw [beq_eq_false_iff_ne]; exact h
    clear hk h
    go_enter Tryz.func10, Tryz.ntmps10
    go_wp2_with fail
    go_ret
    exact ⟨rfl, rfl⟩

end Go.Proofs.YtgjcniokgdicpaaGreatDoor

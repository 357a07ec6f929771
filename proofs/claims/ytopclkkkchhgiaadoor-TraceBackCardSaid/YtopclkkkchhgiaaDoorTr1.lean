/- Traces: which events are right; the kinds' words; numbers read. -/
import Derived.Test.YtopclkkkchhgiaaDoorTrDef
import Derived.Lib.Hide
import Derived.Deep.QuietTactic
import Derived.BigQuiet
import Derived.Laws.IdiomStrings
import Derived.IntWalk
import Derived.OpenShut
import Derived.Lib.ConvBytes
namespace Go.Proofs.YtopclkkkchhgiaaDoor
open Go.RowKit

def evV (e : Ev) : Value := .agg #[.int .i64 e.t, .int .i64 e.k, .int .i64 e.p, .int .i64 e.a, .int .i64 e.b]

theorem within_any (n : Int) (w : World) : Calls Tryd.prog 41 #[.int .i64 n] w fun e w' => e = .returned (.bool (inT n)) ∧ w' = w := by
  rcases h1 : decide (0 ≤ n) with _ | _ <;> rcases h2 : decide (n ≤ 1099511627776) with _ | _
  all_goals
    have hr : inT n = (decide (0 ≤ n) && decide (n ≤ 1099511627776)) := rfl
    rw [h1, h2] at hr
    have hr' := Lib.hid hr
    clear hr
    go_enter Tryd.func41, Tryd.ntmps41
    go_wp2_with fail
    go_ret
    exact ⟨ret_bool (by rw [hr'.out]; rfl), rfl⟩
theorem in_any (n : Int) (w : World) : Calls Tryd.prog 30 #[.int .i64 n] w fun e w' => e = .returned (.bool (inT n)) ∧ w' = w := by
  rcases h1 : decide (0 ≤ n) with _ | _ <;> rcases h2 : decide (n ≤ 1099511627776) with _ | _
  all_goals
    have hr : inT n = (decide (0 ≤ n) && decide (n ≤ 1099511627776)) := rfl
    rw [h1, h2] at hr
    have hr' := Lib.hid hr
    clear hr
    go_enter Tryd.func30, Tryd.ntmps30
    go_wp2_with fail
    go_ret
    exact ⟨ret_bool (by rw [hr'.out]; rfl), rfl⟩

set_option maxHeartbeats 1000000 in
theorem right_any (e : Ev) (w : World) : Calls Tryd.prog 15 #[evV e] w fun r w' => r = .returned (.bool (evB e)) ∧ Below w.heap.size w w' := by
  obtain ⟨t, k, p, a, b⟩ := e
  unfold evV
  simp only
  have hr : evB ⟨t, k, p, a, b⟩ = (decide (1 ≤ k) && decide (k ≤ 9) && inT t && inT a && inT b && (inT p || p == -1)) := rfl
  rw [hr]
  clear hr
  go_enter Tryd.func15, Tryd.ntmps15
  go_wp2_with (go_at_call 41; refine (within_any _ _).mono ?_; rintro e w1 ⟨rfl, rfl⟩)
  all_goals
    go_ret
    exact ⟨ret_bool (by simp [*] <;> omega), (Below.refl _ w).alloc (Nat.le_refl _) _⟩

set_option maxHeartbeats 1000000 in
theorem rright_any (e : Ev) (w : World) : Calls Tryd.prog 10 #[evV e] w fun r w' => r = .returned (.bool (evB e)) ∧ Below w.heap.size w w' := by
  obtain ⟨t, k, p, a, b⟩ := e
  unfold evV
  simp only
  have hr : evB ⟨t, k, p, a, b⟩ = (decide (1 ≤ k) && decide (k ≤ 9) && inT t && inT a && inT b && (p == -1 || inT p)) := by unfold evB; simp only; rw [Bool.or_comm]
  rw [hr]
  clear hr
  go_enter Tryd.func10, Tryd.ntmps10
  go_wp2_with (go_at_call 30; refine (in_any _ _).mono ?_; rintro e w1 ⟨rfl, rfl⟩)
  all_goals
    go_ret
    exact ⟨ret_bool (by simp [*] <;> omega), (Below.refl _ w).alloc (Nat.le_refl _) _⟩

theorem words_all_len : words.length = 10 := rfl
def wordsV : List Value := wordsB.map Value.string
theorem wordsV_all : strs.all wordsB = wordsV := of1_all _ _ _
theorem pwords_any (w : World) : Calls Tryd.prog 35 #[] w fun e w' => e = .returned (.agg wordsV.toArray) ∧ Below w.heap.size w w' := by
  go_enter Tryd.func35, Tryd.ntmps35
  go_wp2_with fail
  refine bodyPost_ret (v := .agg wordsV.toArray) (by simp [results, go_sem]; rfl) rfl ?_
  exact ⟨rfl, (Below.refl _ w).alloc (Nat.le_refl _) _⟩
theorem word_at (k : Int) (h1 : 1 ≤ k) (h2 : k ≤ 9) (W : World) : (Instr.index 57 (.agg wordsV.toArray) (.int .i64 k)).run Tryd.prog W = .ok (.string ⟨(wordOf k).toArray⟩) W := by
  have : k = 1 ∨ k = 2 ∨ k = 3 ∨ k = 4 ∨ k = 5 ∨ k = 6 ∨ k = 7 ∨ k = 8 ∨ k = 9 := by omega
  have hw : wordsV.toArray = #[Value.string ⟨#[]⟩, .string ⟨#[114, 101, 108, 101, 97, 115, 101]⟩, .string ⟨#[114, 101, 102, 117, 115, 101]⟩, .string ⟨#[111, 118, 101, 114]⟩, .string ⟨#[109, 105, 115, 115]⟩, .string ⟨#[115, 116, 101, 112]⟩, .string ⟨#[105, 100, 108, 101]⟩, .string ⟨#[100, 111, 110, 101]⟩, .string ⟨#[99, 97, 108, 108]⟩, .string ⟨#[98, 97, 99, 107]⟩] := rfl
  rcases this with rfl | rfl | rfl | rfl | rfl | rfl | rfl | rfl | rfl <;> simp [Instr.index, hw, go_sem] <;> rfl
theorem rwords_any (w : World) : Calls Tryd.prog 32 #[] w fun e w' => ∃ b, e = .returned (.slice (some ⟨b, 0, none⟩) 10 10) ∧ SlOf strs w' w'.heap.size (some ⟨b, 0, none⟩) wordsB ∧ Below w.heap.size w w' := by
  go_enter Tryd.func32, Tryd.ntmps32
  go_wp2_with fail
  go_ret
  exact ⟨_, rfl, by simpa using SlOf.new w _ _ wordsB (by rw [wordsV_all]; rfl), (Below.refl _ w).alloc (Nat.le_refl _) _⟩

end Go.Proofs.YtopclkkkchhgiaaDoor

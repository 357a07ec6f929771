/- isa: the table of kinds, which instructions are right, words and kinds. -/
import Derived.Test.YtkcdmonmgnmojaaDoorAsmDef
import Derived.Test.YtkcdmonmgnmojaaDoorInBox
import Derived.Test.YtkcdmonmgnmojaaDoorHeld
import Derived.Lib.Hide
import Derived.Deep.QuietTactic
import Derived.BigQuiet
import Derived.Laws.IdiomStrings
import Derived.IntWalk
import Derived.OpenShut
import Derived.Lib.ConvBytes
namespace Go.Proofs.YtkcdmonmgnmojaaDoor
open Go.RowKit

def insV (e : Ins) : Value := .agg #[.int .i64 e.op, .int .i64 e.a, .int .i64 e.b, .int .i64 e.c, .int .u32 e.n]

theorem known_any (n : Int) (w : World) : Calls Tryd.prog 76 #[.int .i64 n] w fun e w' => e = .returned (.bool (known n)) ∧ w' = w := by
  rcases h1 : decide (0 ≤ n) with _ | _ <;> rcases h2 : decide (n < 22) with _ | _
  all_goals
    have hr : known n = (decide (0 ≤ n) && decide (n < 22)) := rfl
    rw [h1, h2] at hr
    have hr' := Lib.hid hr
    clear hr
    go_enter Tryd.func76, Tryd.ntmps76
    go_wp2_with fail
    go_ret
    exact ⟨ret_bool (by rw [hr'.out]; rfl), rfl⟩

theorem fits_any (k n : Int) (w : World) (hk : 0 ≤ k ∧ k ≤ 6) : Calls Tryd.prog 78 #[.int .i64 k, .int .i64 n] w fun e w' => e = .returned (.bool (fitB k n)) ∧ w' = w := by
  have hc : k = 0 ∨ k = 1 ∨ k = 2 ∨ k = 3 ∨ k = 4 ∨ k = 5 ∨ k = 6 := by omega
  rcases hc with rfl | rfl | rfl | rfl | rfl | rfl | rfl
  · rcases h1 : (n == 0) with _ | _
    all_goals
      have hr : fitB 0 n = (n == 0) := rfl
      rw [h1] at hr
      have hr' := Lib.hid hr
      clear hr
      go_enter Tryd.func78, Tryd.ntmps78
      go_wp2_with fail
      go_ret
      exact ⟨ret_bool (by rw [hr'.out]), rfl⟩
  · rcases h1 : decide (0 ≤ n) with _ | _ <;> rcases h2 : decide (n < 8) with _ | _
    all_goals
      have hr : fitB 1 n = (decide (0 ≤ n) && decide (n < 8)) := rfl
      rw [h1, h2] at hr
      have hr' := Lib.hid hr
      clear hr
      go_enter Tryd.func78, Tryd.ntmps78
      go_wp2_with fail
      go_ret
      exact ⟨ret_bool (by rw [hr'.out]; rfl), rfl⟩
  · rcases h1 : decide (0 ≤ n) with _ | _ <;> rcases h2 : decide (n < 8) with _ | _
    all_goals
      have hr : fitB 2 n = (decide (0 ≤ n) && decide (n < 8)) := rfl
      rw [h1, h2] at hr
      have hr' := Lib.hid hr
      clear hr
      go_enter Tryd.func78, Tryd.ntmps78
      go_wp2_with fail
      go_ret
      exact ⟨ret_bool (by rw [hr'.out]; rfl), rfl⟩
  · rcases h1 : decide (1 ≤ n) with _ | _ <;> rcases h2 : decide (n ≤ 255) with _ | _
    all_goals
      have hr : fitB 3 n = (decide (1 ≤ n) && decide (n ≤ 255)) := rfl
      rw [h1, h2] at hr
      have hr' := Lib.hid hr
      clear hr
      go_enter Tryd.func78, Tryd.ntmps78
      go_wp2_with fail
      go_ret
      exact ⟨ret_bool (by rw [hr'.out]; rfl), rfl⟩
  · rcases h1 : decide (n < 64) with _ | _
    all_goals
      have hr : fitB 4 n = (decide (n < 64)) := rfl
      rw [h1] at hr
      have hr' := Lib.hid hr
      clear hr
      go_enter Tryd.func78, Tryd.ntmps78
      go_wp2_with fail
      go_ret
      exact ⟨ret_bool (by rw [hr'.out]), rfl⟩
  · rcases h1 : decide (n < 64) with _ | _
    all_goals
      have hr : fitB 5 n = (decide (n < 64)) := rfl
      rw [h1] at hr
      have hr' := Lib.hid hr
      clear hr
      go_enter Tryd.func78, Tryd.ntmps78
      go_wp2_with fail
      go_ret
      exact ⟨ret_bool (by rw [hr'.out]), rfl⟩
  · go_enter Tryd.func78, Tryd.ntmps78
    go_wp2_with fail
    go_ret
    exact ⟨rfl, rfl⟩

/-! ### the table -/
def shU : List (List UInt8 × List UInt8) := [([], []), ([], [97]), ([98], [97]), ([98, 99], [97]), ([98, 99], [97]), ([98, 99], [97]), ([98, 99], [97]), ([98, 99], [97]), ([98, 99], [97]), ([98, 99], [97]), ([98, 99], [97]),
  ([98], [97]), ([97, 98], []), ([97, 98, 99], [97]), ([], []), ([97], []), ([], []), ([], [97]), ([], [97]), ([], [97]), ([], [97]), ([], [])]
theorem three_any (s : ByteArray) (w : World) : Calls Tryd.prog 102 #[.string s] w fun e w' => e = .returned (.agg #[.string s, .int .i64 1, .int .i64 1, .int .i64 1, .int .i64 0, .string ⟨#[98, 99]⟩, .string ⟨#[97]⟩]) ∧
    w' = w.alloc (.cells #[.string s, .int .i64 1, .int .i64 1, .int .i64 1, .int .i64 0, .string ⟨#[98, 99]⟩, .string ⟨#[97]⟩] 108) := by
  go_enter Tryd.func102, Tryd.ntmps102
  go_wp2_with fail
  refine bodyPost_ret (v := .agg #[.string s, .int .i64 1, .int .i64 1, .int .i64 1, .int .i64 0, .string ⟨#[98, 99]⟩, .string ⟨#[97]⟩]) (by simp [results, go_sem]) rfl ?_
  exact ⟨rfl, rfl⟩
theorem call_any (s : ByteArray) (w : World) : Calls Tryd.prog 103 #[.string s] w fun e w' => e = .returned (.agg #[.string s, .int .i64 1, .int .i64 2, .int .i64 0, .int .i64 5, .string ⟨#[]⟩, .string ⟨#[97]⟩]) ∧
    w' = w.alloc (.cells #[.string s, .int .i64 1, .int .i64 2, .int .i64 0, .int .i64 5, .string ⟨#[]⟩, .string ⟨#[97]⟩] 108) := by
  go_enter Tryd.func103, Tryd.ntmps103
  go_wp2_with fail
  refine bodyPost_ret (v := .agg #[.string s, .int .i64 1, .int .i64 2, .int .i64 0, .int .i64 5, .string ⟨#[]⟩, .string ⟨#[97]⟩]) (by simp [results, go_sem]) rfl ?_
  exact ⟨rfl, rfl⟩
end Go.Proofs.YtkcdmonmgnmojaaDoor

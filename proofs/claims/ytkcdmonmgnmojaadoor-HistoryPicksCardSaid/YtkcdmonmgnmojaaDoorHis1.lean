/- Histories: calls in memory; which stand before which; which are right. -/
import Derived.Test.YtkcdmonmgnmojaaDoorHisDef
import Derived.Test.YtkcdmonmgnmojaaDoorWs
import Derived.Test.YtkcdmonmgnmojaaDoorTab
namespace Go.Proofs.YtkcdmonmgnmojaaDoor
open Go.RowKit

def clV (x : Cl) (A : Option Addr) (c : Nat) : Value := .agg #[.int .i64 x.p, .int .i64 x.o, .int .i64 x.q, .slice A x.r.length c, .int .i64 x.c, .int .i64 x.b, .int .i64 x.e]

theorem hbefore_any (x y : Cl) (A A' : Option Addr) (c c' : Nat) (w : World) : Calls Tryd.prog 91 #[clV x A c, clV y A' c'] w fun r w' => r = .returned (.bool (befB x y)) ∧ Below w.heap.size w w' := by
  obtain ⟨p, o, q, r, cc, b, e⟩ := x
  obtain ⟨p2, o2, q2, r2, cc2, b2, e2⟩ := y
  unfold clV
  simp only
  have hr : befB ⟨p, o, q, r, cc, b, e⟩ ⟨p2, o2, q2, r2, cc2, b2, e2⟩ = (decide (0 ≤ e) && decide (e < b2)) := rfl
  rw [hr]
  rcases h1 : decide (0 ≤ e) with _ | _ <;> rcases h2 : decide (e < b2) with _ | _
  all_goals
    go_enter Tryd.func91, Tryd.ntmps91
    go_wp2_with fail
    go_ret
    exact ⟨rfl, ((Below.refl _ w).alloc (Nat.le_refl _) _).alloc (by simp) _⟩
theorem hwithin_any (n : Int) (w : World) : Calls Tryd.prog 97 #[.int .i64 n] w fun e w' => e = .returned (.bool (inT n)) ∧ w' = w := by
  rcases h1 : decide (0 ≤ n) with _ | _ <;> rcases h2 : decide (n ≤ 1099511627776) with _ | _
  all_goals
    have hr : inT n = (decide (0 ≤ n) && decide (n ≤ 1099511627776)) := rfl
    rw [h1, h2] at hr
    have hr' := Lib.hid hr
    clear hr
    go_enter Tryd.func97, Tryd.ntmps97
    go_wp2_with fail
    go_ret
    exact ⟨ret_bool (by rw [hr'.out]; rfl), rfl⟩

set_option maxRecDepth 100000 in
set_option maxHeartbeats 2000000 in
theorem hright_any (x : Cl) (A : Option Addr) (c : Nat) (w : World) : Calls Tryd.prog 61 #[clV x A c] w fun r w' => r = .returned (.bool (clB x)) ∧ Below w.heap.size w w' := by
  obtain ⟨p, o, q, r, cc, b, e⟩ := x
  unfold clV
  simp only
  have hr : clB ⟨p, o, q, r, cc, b, e⟩ = (inT p && inT o && inT b && decide (1 ≤ q) && decide (q ≤ 4) && decide (0 ≤ cc) && decide (cc ≤ 3) && (e == -1 || decide (b ≤ e) && inT e) && decide (r.length ≤ 8)) := rfl
  rw [hr]
  clear hr
  go_enter Tryd.func61, Tryd.ntmps61
  go_wp2_with (go_at_call 97; refine (hwithin_any _ _).mono ?_; rintro e w1 ⟨rfl, rfl⟩)
  all_goals
    go_ret
    exact ⟨ret_bool (by simp [*] <;> omega), (Below.refl _ w).alloc (Nat.le_refl _) _⟩

end Go.Proofs.YtkcdmonmgnmojaaDoor

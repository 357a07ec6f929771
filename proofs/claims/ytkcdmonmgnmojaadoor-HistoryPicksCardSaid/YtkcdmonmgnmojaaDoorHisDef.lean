/- Histories: calls, and which stand before which: of no program. -/
import Derived.Test.YtkcdmonmgnmojaaDoorDig
namespace Go.Proofs.YtkcdmonmgnmojaaDoor
open Go.RowKit

structure Cl where
  p : Int
  o : Int
  q : Int
  r : List Int
  c : Int
  b : Int
  e : Int
  deriving DecidableEq

def befB (x y : Cl) : Bool := decide (0 ≤ x.e) && decide (x.e < y.b)
def inT (n : Int) : Bool := decide (0 ≤ n) && decide (n ≤ 1099511627776)
def clB (x : Cl) : Bool := inT x.p && inT x.o && inT x.b && decide (1 ≤ x.q) && decide (x.q ≤ 4) && decide (0 ≤ x.c) && decide (x.c ≤ 3) && (x.e == -1 || decide (x.b ≤ x.e) && inT x.e) && decide (x.r.length ≤ 8)
/-- Two calls may stand in one history. -/
def pairB (x y : Cl) : Bool := !(x.p == y.p && !befB x y && !befB y x)
theorem pairB_symm (x y : Cl) : pairB x y = pairB y x := by
  unfold pairB
  rw [Bool.beq_comm (a := x.p)]
  cases (y.p == x.p) <;> cases befB x y <;> cases befB y x <;> rfl
def rightAt (l : List Cl) (i : Nat) : Prop := ∀ x, l[i]? = some x → clB x = true ∧ ∀ k y, k < i → l[k]? = some y → pairB x y = true
instance (l : List Cl) (i : Nat) : Decidable (rightAt l i) :=
  match h : l[i]? with
  | none => isTrue fun x hx => by rw [h] at hx; cases hx
  | some x => if h2 : clB x = true ∧ ((l.take i).all fun y => pairB x y) = true then isTrue fun x' hx' => by
      rw [h] at hx'; cases hx'
      refine ⟨h2.1, fun k y hk hy => List.all_eq_true.1 h2.2 y ?_⟩
      exact List.mem_of_getElem? (by rw [List.getElem?_take_of_lt hk]; exact hy)
    else isFalse fun hh => h2 (by
      obtain ⟨a1, a2⟩ := hh x h
      refine ⟨a1, List.all_eq_true.2 fun y hy => ?_⟩
      obtain ⟨k, hk⟩ := List.getElem?_of_mem hy
      have hki : k < i := by
        have := get_lt hk
        simp at this; omega
      rw [List.getElem?_take_of_lt hki] at hk
      exact a2 k y hki hk)
def rightH (l : List Cl) : Bool := decide (∀ i, i < l.length → rightAt l i)
theorem rightH_yes {l : List Cl} (h : ∀ i, i < l.length → rightAt l i) : rightH l = true := decide_eq_true h
theorem rightH_no {l : List Cl} {i : Nat} (hi : i < l.length) (h : ¬ rightAt l i) : rightH l = false := decide_eq_false fun hh => h (hh i hi)
/-- As the reference has it. -/
theorem rightH_no2 {l : List Cl} {i k : Nat} {x y : Cl} (hx : l[i]? = some x) (hy : l[k]? = some y) (hne : i ≠ k) (h : pairB x y = false) : rightH l = false := by
  rcases Nat.lt_or_ge k i with hk | hk
  · exact rightH_no (get_lt hx) fun hh => by
      have := (hh x hx).2 k y hk hy
      rw [h] at this; cases this
  · exact rightH_no (get_lt hy) fun hh => by
      have := (hh y hy).2 i x (by omega) hx
      rw [pairB_symm, h] at this; cases this

/-- P21.5. -/
theorem bef_times (a b c d : Cl) (h1 : befB a b = true) (h2 : befB c d = true) (h3 : befB a d = false) : befB c b = true := by
  unfold befB at *
  simp only [Bool.and_eq_true, decide_eq_true_eq, Bool.and_eq_false_iff, decide_eq_false_iff_not] at *
  omega
theorem bef_self (a : Cl) (h : rightH [a] = true) : befB a a = false := by
  have h1 := (of_decide_eq_true h) 0 (by simp) a rfl
  have h2 := h1.1
  unfold clB inT at h2
  unfold befB
  simp only [Bool.and_eq_true, Bool.or_eq_true, decide_eq_true_eq, beq_iff_eq, Bool.and_eq_false_iff, decide_eq_false_iff_not] at *
  omega

end Go.Proofs.YtkcdmonmgnmojaaDoor

/- Which words are numbers: of no program. -/
import Derived.Test.YtkcdmonmgnmojaaDoorDig
namespace Go.Proofs.YtkcdmonmgnmojaaDoor
open Go.RowKit

def headB (l : List UInt8) : Bool := decide (l.length ≠ 0 ∧ l.length ≤ 10 ∧ ¬(1 < l.length ∧ l.headD 0 = 48))
def numB (l : List UInt8) : Bool := headB l && (l.all digB && decide (dv l < 4294967296))
theorem numB_head {l : List UInt8} (h : ¬(l.length ≠ 0 ∧ l.length ≤ 10 ∧ ¬(1 < l.length ∧ l.headD 0 = 48))) : numB l = false := by
  have : headB l = false := decide_eq_false h
  unfold numB
  rw [this]
  rfl
theorem numB_dig {l : List UInt8} {k : Nat} {x : UInt8} (hx : l[k]? = some x) (hd : ¬(48 ≤ x.toNat ∧ x.toNat ≤ 57)) : numB l = false := by
  have : l.all digB = false := by
    rw [List.all_eq_false]
    refine ⟨x, List.mem_of_getElem? hx, ?_⟩
    simp only [digB, Bool.and_eq_true, decide_eq_true_eq]
    exact hd
  unfold numB
  rw [this]
  simp
theorem numB_all {l : List UInt8} (h : headB l = true) (ha : l.all digB = true) : numB l = decide ((dv l : Int) < 4294967296) := by
  unfold numB
  rw [h, ha, Bool.true_and, Bool.true_and]
  exact decide_eq_decide.2 (by omega)

end Go.Proofs.YtkcdmonmgnmojaaDoor

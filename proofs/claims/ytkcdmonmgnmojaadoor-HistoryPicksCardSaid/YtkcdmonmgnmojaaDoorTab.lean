/- What a walk keeps of the listed tables. -/
import Derived.Test.YtkcdmonmgnmojaaDoorDig
import Derived.Lib.Walk
import Derived.Lib.ItoaMem
import Derived.Lib.AppendIntMem
import Derived.Below
namespace Go.Proofs.YtkcdmonmgnmojaaDoor
open Go.RowKit Go.Sort Go.Lib

theorem lt_grow {w : World} {B : Nat} (k : Nat) (os : Array Obj) (hB : B ≤ w.heap.size) : Below B w (grow (w.drewN k) os) := by
  refine ⟨rfl, rfl, rfl, ?_, fun i hi => ?_⟩
  · show w.heap.size ≤ (w.heap ++ os).size
    rw [Array.size_append]; omega
  · show (w.heap ++ os)[i]? = w.heap[i]?
    rw [Array.getElem?_append_left (by omega)]


def Tab (w : World) : Prop := Lib.TabIs Tryd.prog w "internal/strconv.uint64pow10" .u64 Lib.pow10Tab
theorem Tab.below {w w' : World} (h : Tab w) (hb : Below w.heap.size w w') : Tab w' := Lib.tabBelow_of_tabIs h w' hb

end Go.Proofs.YtkcdmonmgnmojaaDoor

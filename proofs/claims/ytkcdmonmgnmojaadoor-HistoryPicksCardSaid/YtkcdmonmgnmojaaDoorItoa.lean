/- strconv.Itoa, of numbers from 0 on. -/
import Derived.Test.YtkcdmonmgnmojaaDoorTab
import Derived.Test.YtkcdmonmgnmojaaDoorShelf
namespace Go.Proofs.YtkcdmonmgnmojaaDoor
open Go.RowKit Go.Sort Go.Lib

theorem itoa_any (n : Int) (w : World) (h0 : 0 ≤ n) (h1 : n ≤ 9223372036854775807) (hT : Tab w) :
    Calls Tryd.prog 62 #[.int .i64 n] w fun e w' => e = .returned (.string (numS n.toNat)) ∧ Below w.heap.size w w' :=
  (Tryd.strconv_Itoa n (by omega) h1 w hT).mono fun e w' ⟨he, k, os, hw⟩ => by
    subst he hw
    refine ⟨?_, lt_grow k os (Nat.le_refl _)⟩
    unfold Lib.itoa numS
    rw [if_neg (by omega)]

end Go.Proofs.YtkcdmonmgnmojaaDoor

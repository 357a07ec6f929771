/- Slices of strings. -/
import Derived.Test.YtkcdmonmgnmojaaDoorWalk
namespace Go.Proofs.YtkcdmonmgnmojaaDoor
open Go.RowKit

theorem strTy : ElemTy Tryd.prog 60 9 1 16 := ElemTy.of (z := .string ByteArray.empty) Tryd.underlying60 (by kernel_rfl) rfl (by omega)

end Go.Proofs.YtkcdmonmgnmojaaDoor

/- Slices of strings. -/
import Derived.Test.YtopclkkkchhgiaaDoorWalk
namespace Go.Proofs.YtopclkkkchhgiaaDoor
open Go.RowKit

theorem strTy : ElemTy Tryd.prog 54 9 1 16 := ElemTy.of (z := .string ByteArray.empty) Tryd.underlying54 (by kernel_rfl) rfl (by omega)

end Go.Proofs.YtopclkkkchhgiaaDoor

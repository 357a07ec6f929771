/- Slices of strings. -/
import Derived.Test.YtgjcniokgdicpaaGreatDoorWalk
namespace Go.Proofs.YtgjcniokgdicpaaGreatDoor
open Go.RowKit

theorem strTy : ElemTy Tryz.prog 26 9 1 16 := ElemTy.of (z := .string ByteArray.empty) Tryz.underlying26 (by kernel_rfl) rfl (by omega)

end Go.Proofs.YtgjcniokgdicpaaGreatDoor

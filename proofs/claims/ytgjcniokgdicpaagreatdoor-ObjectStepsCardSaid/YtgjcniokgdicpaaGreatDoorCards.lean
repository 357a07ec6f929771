/-
  DERIVED. GIVEN WITH THE SEED: THE CARDS: each row of YtgjcniokgdicpaaGreatDoorRows.lean that lists a variable, with what it lists TIED to the program's text (the seventh form; the later family's looks); each row that meets fmt, with fmt's text TOLD by the authors' own Lean function (tested against real Go, not proved from fmt's source: count such statements apart). THE CARD IS WHAT COUNTS. Prove the row's statement (the work); the ties are given (YtgjcniokgdicpaaGreatDoorTie.lean); close each card by the builder's one call (the guide's Derived/Test/ToyasCard.lean, 'card_holds'). Laid BY PROGRAM, IN A SANDBOX (cutbox-door.mjs). By AI agents, Wed Nov 11 2026. No macro, syntax, notation, axiom, sorry.
-/
import Derived.Test.YtgjcniokgdicpaaGreatDoorRows
import GoSem.ClaimSeven
namespace Go.Proofs.YtgjcniokgdicpaaGreatDoor
namespace Rows

/-- THE TIED CARD OF 'coxswainlaw20.ObjectKinds'. -/
def objectKindsCard : Claim7 := { stood := { row := objectKindsRow, standIns := [], harness := (true, "f4ddae964588e84bd4c996a87c7e3133d8e8b8d4aa7fc17c804b82c410179683"), looks := false }, kinds := [], alts := [], laidByText := true, laidKinds := [.data], laidTests := true, laidLooks := .later }
def ObjectKindsCardSaid : Prop := Claim7.holds Tryz.pinned (.plain (OpenSpec.ofChange objectKindsSpec)) objectKindsCard

/-- THE TIED CARD OF 'coxswainlaw20.ObjectEnds'. -/
def objectEndsCard : Claim7 := { stood := { row := objectEndsRow, standIns := [], harness := (true, "f4ddae964588e84bd4c996a87c7e3133d8e8b8d4aa7fc17c804b82c410179683"), looks := false }, kinds := [], alts := [], laidByText := true, laidKinds := [.data], laidTests := true, laidLooks := .later }
def ObjectEndsCardSaid : Prop := Claim7.holds Tryz.pinned (.plain (OpenSpec.ofChange objectEndsSpec)) objectEndsCard

/-- THE TIED CARD OF 'coxswainlaw20.ObjectSteps'. -/
def objectStepsCard : Claim7 := { stood := { row := objectStepsRow, standIns := [], harness := (true, "f4ddae964588e84bd4c996a87c7e3133d8e8b8d4aa7fc17c804b82c410179683"), looks := false }, kinds := [], alts := [], laidByText := true, laidKinds := [.data], laidTests := true, laidLooks := .later }
def ObjectStepsCardSaid : Prop := Claim7.holds Tryz.pinned (.plain (OpenSpec.ofChange objectStepsSpec)) objectStepsCard

/-- THE TIED CARD OF 'coxswainlaw20.ObjectShapes'. -/
def objectShapesCard : Claim7 := { stood := { row := objectShapesRow, standIns := [], harness := (true, "f4ddae964588e84bd4c996a87c7e3133d8e8b8d4aa7fc17c804b82c410179683"), looks := false }, kinds := [], alts := [], laidByText := true, laidKinds := [.data], laidTests := true, laidLooks := .later }
def ObjectShapesCardSaid : Prop := Claim7.holds Tryz.pinned (.plain (OpenSpec.ofChange objectShapesSpec)) objectShapesCard

/-- THE SECOND FORM's CARD OF 'coxswainlaw20.ObjectKinds'. -/
def objectKindsUptoCard : Claim7 := { stood := { row := objectKindsUptoRow, standIns := [], harness := (true, "f4ddae964588e84bd4c996a87c7e3133d8e8b8d4aa7fc17c804b82c410179683"), looks := false }, kinds := [], alts := [], laidByText := true, laidKinds := [.data], laidTests := true, laidLooks := .later }
def ObjectKindsUptoCardSaid : Prop := Claim7.holds Tryz.pinned (.plain (OpenSpec.upto objectKindsSpec)) objectKindsUptoCard

/-- THE SECOND FORM's CARD OF 'coxswainlaw20.ObjectEnds'. -/
def objectEndsUptoCard : Claim7 := { stood := { row := objectEndsUptoRow, standIns := [], harness := (true, "f4ddae964588e84bd4c996a87c7e3133d8e8b8d4aa7fc17c804b82c410179683"), looks := false }, kinds := [], alts := [], laidByText := true, laidKinds := [.data], laidTests := true, laidLooks := .later }
def ObjectEndsUptoCardSaid : Prop := Claim7.holds Tryz.pinned (.plain (OpenSpec.upto objectEndsSpec)) objectEndsUptoCard

/-- THE SECOND FORM's CARD OF 'coxswainlaw20.ObjectSteps'. -/
def objectStepsUptoCard : Claim7 := { stood := { row := objectStepsUptoRow, standIns := [], harness := (true, "f4ddae964588e84bd4c996a87c7e3133d8e8b8d4aa7fc17c804b82c410179683"), looks := false }, kinds := [], alts := [], laidByText := true, laidKinds := [.data], laidTests := true, laidLooks := .later }
def ObjectStepsUptoCardSaid : Prop := Claim7.holds Tryz.pinned (.plain (OpenSpec.upto objectStepsSpec)) objectStepsUptoCard

/-- THE SECOND FORM's CARD OF 'coxswainlaw20.ObjectShapes'. -/
def objectShapesUptoCard : Claim7 := { stood := { row := objectShapesUptoRow, standIns := [], harness := (true, "f4ddae964588e84bd4c996a87c7e3133d8e8b8d4aa7fc17c804b82c410179683"), looks := false }, kinds := [], alts := [], laidByText := true, laidKinds := [.data], laidTests := true, laidLooks := .later }
def ObjectShapesUptoCardSaid : Prop := Claim7.holds Tryz.pinned (.plain (OpenSpec.upto objectShapesSpec)) objectShapesUptoCard
end Rows
end Go.Proofs.YtgjcniokgdicpaaGreatDoor

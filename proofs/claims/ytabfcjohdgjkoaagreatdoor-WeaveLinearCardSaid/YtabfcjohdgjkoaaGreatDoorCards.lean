/-
  DERIVED. GIVEN WITH THE SEED: THE CARDS: each row of YtabfcjohdgjkoaaGreatDoorRows.lean that lists a variable, with what it lists TIED to the program's text (the seventh form; the later family's looks); each row that meets fmt, with fmt's text TOLD by the authors' own Lean function (tested against real Go, not proved from fmt's source: count such statements apart). THE CARD IS WHAT COUNTS. Prove the row's statement (the work); the ties are given (YtabfcjohdgjkoaaGreatDoorTie.lean); close each card by the builder's one call (the guide's Derived/Test/ToyasCard.lean, 'card_holds'). Laid BY PROGRAM, IN A SANDBOX (cutbox-door.mjs). By AI agents, Wed Nov 11 2026. No macro, syntax, notation, axiom, sorry.
-/
import Derived.Test.YtabfcjohdgjkoaaGreatDoorRows
import GoSem.ClaimSeven
namespace Go.Proofs.YtabfcjohdgjkoaaGreatDoor
namespace Rows

/-- THE TIED CARD OF 'coxswainlaw24.WeaveLinear'. -/
def weaveLinearCard : Claim7 := { stood := { row := weaveLinearRow, standIns := [], harness := (true, "8dba5cea92f5d1f1b27a6ea1c9e3e0788d636ba8a60b099dd478c920855fee0f"), looks := false }, kinds := [], alts := [], laidByText := true, laidKinds := [.data], laidTests := true, laidLooks := .later }
def WeaveLinearCardSaid : Prop := Claim7.holds Tryz.pinned (.plain (OpenSpec.ofChange weaveLinearSpec)) weaveLinearCard

/-- THE TIED CARD OF 'coxswainlaw25.EveryCounts'. -/
def everyCountsCard : Claim7 := { stood := { row := everyCountsRow, standIns := [], harness := (true, "8dba5cea92f5d1f1b27a6ea1c9e3e0788d636ba8a60b099dd478c920855fee0f"), looks := false }, kinds := [], alts := [], laidByText := true, laidKinds := [.data], laidTests := true, laidLooks := .later }
def EveryCountsCardSaid : Prop := Claim7.holds Tryz.pinned (.plain (OpenSpec.ofChange everyCountsSpec)) everyCountsCard

/-- THE TIED CARD OF 'coxswainlaw25.EveryLinear'. -/
def everyLinearCard : Claim7 := { stood := { row := everyLinearRow, standIns := [], harness := (true, "8dba5cea92f5d1f1b27a6ea1c9e3e0788d636ba8a60b099dd478c920855fee0f"), looks := false }, kinds := [], alts := [], laidByText := true, laidKinds := [.data], laidTests := true, laidLooks := .later }
def EveryLinearCardSaid : Prop := Claim7.holds Tryz.pinned (.plain (OpenSpec.ofChange everyLinearSpec)) everyLinearCard

/-- THE TIED CARD OF 'coxswainlaw25.EverySchedules'. -/
def everySchedulesCard : Claim7 := { stood := { row := everySchedulesRow, standIns := [], harness := (true, "8dba5cea92f5d1f1b27a6ea1c9e3e0788d636ba8a60b099dd478c920855fee0f"), looks := false }, kinds := [], alts := [], laidByText := true, laidKinds := [.data], laidTests := true, laidLooks := .later }
def EverySchedulesCardSaid : Prop := Claim7.holds Tryz.pinned (.plain (OpenSpec.ofChange everySchedulesSpec)) everySchedulesCard

/-- THE SECOND FORM's CARD OF 'coxswainlaw24.WeaveLinear'. -/
def weaveLinearUptoCard : Claim7 := { stood := { row := weaveLinearUptoRow, standIns := [], harness := (true, "8dba5cea92f5d1f1b27a6ea1c9e3e0788d636ba8a60b099dd478c920855fee0f"), looks := false }, kinds := [], alts := [], laidByText := true, laidKinds := [.data], laidTests := true, laidLooks := .later }
def WeaveLinearUptoCardSaid : Prop := Claim7.holds Tryz.pinned (.plain (OpenSpec.upto weaveLinearSpec)) weaveLinearUptoCard

/-- THE SECOND FORM's CARD OF 'coxswainlaw25.EveryCounts'. -/
def everyCountsUptoCard : Claim7 := { stood := { row := everyCountsUptoRow, standIns := [], harness := (true, "8dba5cea92f5d1f1b27a6ea1c9e3e0788d636ba8a60b099dd478c920855fee0f"), looks := false }, kinds := [], alts := [], laidByText := true, laidKinds := [.data], laidTests := true, laidLooks := .later }
def EveryCountsUptoCardSaid : Prop := Claim7.holds Tryz.pinned (.plain (OpenSpec.upto everyCountsSpec)) everyCountsUptoCard

/-- THE SECOND FORM's CARD OF 'coxswainlaw25.EveryLinear'. -/
def everyLinearUptoCard : Claim7 := { stood := { row := everyLinearUptoRow, standIns := [], harness := (true, "8dba5cea92f5d1f1b27a6ea1c9e3e0788d636ba8a60b099dd478c920855fee0f"), looks := false }, kinds := [], alts := [], laidByText := true, laidKinds := [.data], laidTests := true, laidLooks := .later }
def EveryLinearUptoCardSaid : Prop := Claim7.holds Tryz.pinned (.plain (OpenSpec.upto everyLinearSpec)) everyLinearUptoCard

/-- THE SECOND FORM's CARD OF 'coxswainlaw25.EverySchedules'. -/
def everySchedulesUptoCard : Claim7 := { stood := { row := everySchedulesUptoRow, standIns := [], harness := (true, "8dba5cea92f5d1f1b27a6ea1c9e3e0788d636ba8a60b099dd478c920855fee0f"), looks := false }, kinds := [], alts := [], laidByText := true, laidKinds := [.data], laidTests := true, laidLooks := .later }
def EverySchedulesUptoCardSaid : Prop := Claim7.holds Tryz.pinned (.plain (OpenSpec.upto everySchedulesSpec)) everySchedulesUptoCard
end Rows
end Go.Proofs.YtabfcjohdgjkoaaGreatDoor

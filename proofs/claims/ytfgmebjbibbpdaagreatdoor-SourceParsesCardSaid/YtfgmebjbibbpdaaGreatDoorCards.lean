/-
  DERIVED. GIVEN WITH THE SEED: THE CARDS: each row of YtfgmebjbibbpdaaGreatDoorRows.lean that lists a variable, with what it lists TIED to the program's text (the seventh form; the later family's looks); each row that meets fmt, with fmt's text TOLD by the authors' own Lean function (tested against real Go, not proved from fmt's source: count such statements apart). THE CARD IS WHAT COUNTS. Prove the row's statement (the work); the ties are given (YtfgmebjbibbpdaaGreatDoorTie.lean); close each card by the builder's one call (the guide's Derived/Test/ToyasCard.lean, 'card_holds'). Laid BY PROGRAM, IN A SANDBOX (cutbox-door.mjs). By AI agents, Wed Nov 11 2026. No macro, syntax, notation, axiom, sorry.
-/
import Derived.Test.YtfgmebjbibbpdaaGreatDoorRows
import GoSem.ClaimSeven
namespace Go.Proofs.YtfgmebjbibbpdaaGreatDoor
namespace Rows

/-- THE TIED CARD OF 'coxswainlaw34.SourcePrints'. -/
def sourcePrintsCard : Claim7 := { stood := { row := sourcePrintsRow, standIns := [], harness := (true, "8f92fb73a544839733c52f8177f0d403d1f33bb302f678bca2eca60ebb1cf9c3"), looks := false }, kinds := [], alts := [], laidByText := true, laidKinds := [.data, .data, .data, .data, .pinned], laidTests := true, laidLooks := .later }
def SourcePrintsCardSaid : Prop := Claim7.holds Tryz.pinned (.plain (OpenSpec.ofChange sourcePrintsSpec)) sourcePrintsCard

/-- THE TIED CARD OF 'coxswainlaw34.SourceParses'. -/
def sourceParsesCard : Claim7 := { stood := { row := sourceParsesRow, standIns := [], harness := (true, "8f92fb73a544839733c52f8177f0d403d1f33bb302f678bca2eca60ebb1cf9c3"), looks := false }, kinds := [], alts := [], laidByText := true, laidKinds := [.data, .data, .data, .data, .pinned], laidTests := true, laidLooks := .later }
def SourceParsesCardSaid : Prop := Claim7.holds Tryz.pinned (.plain (OpenSpec.ofChange sourceParsesSpec)) sourceParsesCard

/-- THE TIED CARD OF 'coxswainlaw34.SourceBack'. -/
def sourceBackCard : Claim7 := { stood := { row := sourceBackRow, standIns := [], harness := (true, "8f92fb73a544839733c52f8177f0d403d1f33bb302f678bca2eca60ebb1cf9c3"), looks := false }, kinds := [], alts := [], laidByText := true, laidKinds := [.data, .data, .data, .data, .pinned], laidTests := true, laidLooks := .later }
def SourceBackCardSaid : Prop := Claim7.holds Tryz.pinned (.plain (OpenSpec.ofChange sourceBackSpec)) sourceBackCard

/-- THE SECOND FORM's CARD OF 'coxswainlaw34.SourcePrints'. -/
def sourcePrintsUptoCard : Claim7 := { stood := { row := sourcePrintsUptoRow, standIns := [], harness := (true, "8f92fb73a544839733c52f8177f0d403d1f33bb302f678bca2eca60ebb1cf9c3"), looks := false }, kinds := [], alts := [], laidByText := true, laidKinds := [.data, .data, .data, .data, .pinned], laidTests := true, laidLooks := .later }
def SourcePrintsUptoCardSaid : Prop := Claim7.holds Tryz.pinned (.plain (OpenSpec.upto sourcePrintsSpec)) sourcePrintsUptoCard

/-- THE SECOND FORM's CARD OF 'coxswainlaw34.SourceParses'. -/
def sourceParsesUptoCard : Claim7 := { stood := { row := sourceParsesUptoRow, standIns := [], harness := (true, "8f92fb73a544839733c52f8177f0d403d1f33bb302f678bca2eca60ebb1cf9c3"), looks := false }, kinds := [], alts := [], laidByText := true, laidKinds := [.data, .data, .data, .data, .pinned], laidTests := true, laidLooks := .later }
def SourceParsesUptoCardSaid : Prop := Claim7.holds Tryz.pinned (.plain (OpenSpec.upto sourceParsesSpec)) sourceParsesUptoCard

/-- THE SECOND FORM's CARD OF 'coxswainlaw34.SourceBack'. -/
def sourceBackUptoCard : Claim7 := { stood := { row := sourceBackUptoRow, standIns := [], harness := (true, "8f92fb73a544839733c52f8177f0d403d1f33bb302f678bca2eca60ebb1cf9c3"), looks := false }, kinds := [], alts := [], laidByText := true, laidKinds := [.data, .data, .data, .data, .pinned], laidTests := true, laidLooks := .later }
def SourceBackUptoCardSaid : Prop := Claim7.holds Tryz.pinned (.plain (OpenSpec.upto sourceBackSpec)) sourceBackUptoCard
end Rows
end Go.Proofs.YtfgmebjbibbpdaaGreatDoor

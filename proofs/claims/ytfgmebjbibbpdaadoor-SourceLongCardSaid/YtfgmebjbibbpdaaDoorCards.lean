/-
  DERIVED. GIVEN WITH THE SEED: THE CARDS: each row of YtfgmebjbibbpdaaDoorRows.lean that lists a variable, with what it lists TIED to the program's text (the seventh form; the later family's looks); each row that meets fmt, with fmt's text TOLD by the authors' own Lean function (tested against real Go, not proved from fmt's source: count such statements apart). THE CARD IS WHAT COUNTS. Prove the row's statement (the work); the ties are given (YtfgmebjbibbpdaaDoorTie.lean); close each card by the builder's one call (the guide's Derived/Test/ToyasCard.lean, 'card_holds'). Laid BY PROGRAM, IN A SANDBOX (cutbox-door.mjs). By AI agents, Wed Nov 11 2026. No macro, syntax, notation, axiom, sorry.
-/
import Derived.Test.YtfgmebjbibbpdaaDoorRows
import GoSem.ClaimSeven
namespace Go.Proofs.YtfgmebjbibbpdaaDoor
namespace Rows

/-- THE TIED CARD OF 'coxswainlaw34.SourceLong'. -/
def sourceLongCard : Claim7 := { stood := { row := sourceLongRow, standIns := [], harness := (true, "130fa6bb522c9a985a971809d81be6a3e7afdfb36bdce011925248315f161c3c"), looks := false }, kinds := [], alts := [], laidByText := true, laidKinds := [.data, .data, .data, .data, .pinned], laidTests := true, laidLooks := .later }
def SourceLongCardSaid : Prop := Claim7.holds Tryd.pinned (.plain (OpenSpec.ofChange sourceLongSpec)) sourceLongCard

/-- THE SECOND FORM's CARD OF 'coxswainlaw34.SourceLong'. -/
def sourceLongUptoCard : Claim7 := { stood := { row := sourceLongUptoRow, standIns := [], harness := (true, "130fa6bb522c9a985a971809d81be6a3e7afdfb36bdce011925248315f161c3c"), looks := false }, kinds := [], alts := [], laidByText := true, laidKinds := [.data, .data, .data, .data, .pinned], laidTests := true, laidLooks := .later }
def SourceLongUptoCardSaid : Prop := Claim7.holds Tryd.pinned (.plain (OpenSpec.upto sourceLongSpec)) sourceLongUptoCard
end Rows
end Go.Proofs.YtfgmebjbibbpdaaDoor

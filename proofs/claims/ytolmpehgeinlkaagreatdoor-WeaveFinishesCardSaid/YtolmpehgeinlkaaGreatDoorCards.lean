/-
  DERIVED. GIVEN WITH THE SEED: THE CARDS: each row of YtolmpehgeinlkaaGreatDoorRows.lean that lists a variable, with what it lists TIED to the program's text (the seventh form; the later family's looks); each row that meets fmt, with fmt's text TOLD by the authors' own Lean function (tested against real Go, not proved from fmt's source: count such statements apart). THE CARD IS WHAT COUNTS. Prove the row's statement (the work); the ties are given (YtolmpehgeinlkaaGreatDoorTie.lean); close each card by the builder's one call (the guide's Derived/Test/ToyasCard.lean, 'card_holds'). Laid BY PROGRAM, IN A SANDBOX (cutbox-door.mjs). By AI agents, Wed Nov 11 2026. No macro, syntax, notation, axiom, sorry.
-/
import Derived.Test.YtolmpehgeinlkaaGreatDoorRows
import GoSem.ClaimSeven
namespace Go.Proofs.YtolmpehgeinlkaaGreatDoor
namespace Rows

/-- THE TIED CARD OF 'coxswainlaw24.WeaveRuns'. -/
def weaveRunsCard : Claim7 := { stood := { row := weaveRunsRow, standIns := [], harness := (true, "603ed0d6cab2d803efb9d2879ffa6bd3a28cb73c332b3f2bc911d992cb029ae9"), looks := false }, kinds := [], alts := [], laidByText := true, laidKinds := [.data], laidTests := true, laidLooks := .later }
def WeaveRunsCardSaid : Prop := Claim7.holds Tryz.pinned (.plain (OpenSpec.ofChange weaveRunsSpec)) weaveRunsCard

/-- THE TIED CARD OF 'coxswainlaw24.WeaveAlone'. -/
def weaveAloneCard : Claim7 := { stood := { row := weaveAloneRow, standIns := [], harness := (true, "603ed0d6cab2d803efb9d2879ffa6bd3a28cb73c332b3f2bc911d992cb029ae9"), looks := false }, kinds := [], alts := [], laidByText := true, laidKinds := [.data], laidTests := true, laidLooks := .later }
def WeaveAloneCardSaid : Prop := Claim7.holds Tryz.pinned (.plain (OpenSpec.ofChange weaveAloneSpec)) weaveAloneCard

/-- THE TIED CARD OF 'coxswainlaw24.WeaveFinishes'. -/
def weaveFinishesCard : Claim7 := { stood := { row := weaveFinishesRow, standIns := [], harness := (true, "603ed0d6cab2d803efb9d2879ffa6bd3a28cb73c332b3f2bc911d992cb029ae9"), looks := false }, kinds := [], alts := [], laidByText := true, laidKinds := [.data], laidTests := true, laidLooks := .later }
def WeaveFinishesCardSaid : Prop := Claim7.holds Tryz.pinned (.plain (OpenSpec.ofChange weaveFinishesSpec)) weaveFinishesCard

/-- THE SECOND FORM's CARD OF 'coxswainlaw24.WeaveRuns'. -/
def weaveRunsUptoCard : Claim7 := { stood := { row := weaveRunsUptoRow, standIns := [], harness := (true, "603ed0d6cab2d803efb9d2879ffa6bd3a28cb73c332b3f2bc911d992cb029ae9"), looks := false }, kinds := [], alts := [], laidByText := true, laidKinds := [.data], laidTests := true, laidLooks := .later }
def WeaveRunsUptoCardSaid : Prop := Claim7.holds Tryz.pinned (.plain (OpenSpec.upto weaveRunsSpec)) weaveRunsUptoCard

/-- THE SECOND FORM's CARD OF 'coxswainlaw24.WeaveAlone'. -/
def weaveAloneUptoCard : Claim7 := { stood := { row := weaveAloneUptoRow, standIns := [], harness := (true, "603ed0d6cab2d803efb9d2879ffa6bd3a28cb73c332b3f2bc911d992cb029ae9"), looks := false }, kinds := [], alts := [], laidByText := true, laidKinds := [.data], laidTests := true, laidLooks := .later }
def WeaveAloneUptoCardSaid : Prop := Claim7.holds Tryz.pinned (.plain (OpenSpec.upto weaveAloneSpec)) weaveAloneUptoCard

/-- THE SECOND FORM's CARD OF 'coxswainlaw24.WeaveFinishes'. -/
def weaveFinishesUptoCard : Claim7 := { stood := { row := weaveFinishesUptoRow, standIns := [], harness := (true, "603ed0d6cab2d803efb9d2879ffa6bd3a28cb73c332b3f2bc911d992cb029ae9"), looks := false }, kinds := [], alts := [], laidByText := true, laidKinds := [.data], laidTests := true, laidLooks := .later }
def WeaveFinishesUptoCardSaid : Prop := Claim7.holds Tryz.pinned (.plain (OpenSpec.upto weaveFinishesSpec)) weaveFinishesUptoCard
end Rows
end Go.Proofs.YtolmpehgeinlkaaGreatDoor

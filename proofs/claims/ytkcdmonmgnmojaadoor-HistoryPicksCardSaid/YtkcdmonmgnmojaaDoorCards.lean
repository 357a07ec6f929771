/-
  DERIVED. GIVEN WITH THE SEED: THE CARDS: each row of YtkcdmonmgnmojaaDoorRows.lean that lists a variable, with what it lists TIED to the program's text (the seventh form; the later family's looks); each row that meets fmt, with fmt's text TOLD by the authors' own Lean function (tested against real Go, not proved from fmt's source: count such statements apart). THE CARD IS WHAT COUNTS. Prove the row's statement (the work); the ties are given (YtkcdmonmgnmojaaDoorTie.lean); close each card by the builder's one call (the guide's Derived/Test/ToyasCard.lean, 'card_holds'). Laid BY PROGRAM, IN A SANDBOX (cutbox-door.mjs). By AI agents, Wed Nov 11 2026. No macro, syntax, notation, axiom, sorry.
-/
import Derived.Test.YtkcdmonmgnmojaaDoorRows
import GoSem.ClaimSeven
namespace Go.Proofs.YtkcdmonmgnmojaaDoor
namespace Rows

/-- THE TIED CARD OF 'coxswainlaw09.AsmLines'. -/
def asmLinesCard : Claim7 := { stood := { row := asmLinesRow, standIns := [], harness := (true, "8c2ab9a925996ec37a96a6cbc6674529dea4835153bebdf7cf9359d85507e68f"), looks := false }, kinds := [], alts := [], laidByText := true, laidKinds := [.data, .data, .data, .data, .pinned], laidTests := true, laidLooks := .later }
def AsmLinesCardSaid : Prop := Claim7.holds Tryd.pinned (.plain (OpenSpec.ofChange asmLinesSpec)) asmLinesCard

/-- THE TIED CARD OF 'coxswainlaw09.AsmLong'. -/
def asmLongCard : Claim7 := { stood := { row := asmLongRow, standIns := [], harness := (true, "8c2ab9a925996ec37a96a6cbc6674529dea4835153bebdf7cf9359d85507e68f"), looks := false }, kinds := [], alts := [], laidByText := true, laidKinds := [.data, .data, .data, .data, .pinned], laidTests := true, laidLooks := .later }
def AsmLongCardSaid : Prop := Claim7.holds Tryd.pinned (.plain (OpenSpec.ofChange asmLongSpec)) asmLongCard

/-- THE TIED CARD OF 'coxswainlaw09.AsmTexts'. -/
def asmTextsCard : Claim7 := { stood := { row := asmTextsRow, standIns := [], harness := (true, "8c2ab9a925996ec37a96a6cbc6674529dea4835153bebdf7cf9359d85507e68f"), looks := false }, kinds := [], alts := [], laidByText := true, laidKinds := [.data, .data, .data, .data, .pinned], laidTests := true, laidLooks := .later }
def AsmTextsCardSaid : Prop := Claim7.holds Tryd.pinned (.plain (OpenSpec.ofChange asmTextsSpec)) asmTextsCard

/-- THE TIED CARD OF 'coxswainlaw09.AsmBack'. -/
def asmBackCard : Claim7 := { stood := { row := asmBackRow, standIns := [], harness := (true, "8c2ab9a925996ec37a96a6cbc6674529dea4835153bebdf7cf9359d85507e68f"), looks := false }, kinds := [], alts := [], laidByText := true, laidKinds := [.data, .data, .data, .data, .pinned], laidTests := true, laidLooks := .later }
def AsmBackCardSaid : Prop := Claim7.holds Tryd.pinned (.plain (OpenSpec.ofChange asmBackSpec)) asmBackCard

/-- THE TIED CARD OF 'coxswainlaw21.HistoryPicks'. -/
def historyPicksCard : Claim7 := { stood := { row := historyPicksRow, standIns := [], harness := (true, "8c2ab9a925996ec37a96a6cbc6674529dea4835153bebdf7cf9359d85507e68f"), looks := false }, kinds := [], alts := [], laidByText := true, laidKinds := [.data, .data, .data], laidTests := true, laidLooks := .later }
def HistoryPicksCardSaid : Prop := Claim7.holds Tryd.pinned (.plain (OpenSpec.ofChange historyPicksSpec)) historyPicksCard

/-- THE TIED CARD OF 'coxswainlaw21.HistoryLines'. -/
def historyLinesCard : Claim7 := { stood := { row := historyLinesRow, standIns := [], harness := (true, "8c2ab9a925996ec37a96a6cbc6674529dea4835153bebdf7cf9359d85507e68f"), looks := false }, kinds := [], alts := [], laidByText := true, laidKinds := [.data, .data, .data, .data, .pinned], laidTests := true, laidLooks := .later }
def HistoryLinesCardSaid : Prop := Claim7.holds Tryd.pinned (.plain (OpenSpec.ofChange historyLinesSpec)) historyLinesCard

/-- THE SECOND FORM's CARD OF 'coxswainlaw09.AsmLines'. -/
def asmLinesUptoCard : Claim7 := { stood := { row := asmLinesUptoRow, standIns := [], harness := (true, "8c2ab9a925996ec37a96a6cbc6674529dea4835153bebdf7cf9359d85507e68f"), looks := false }, kinds := [], alts := [], laidByText := true, laidKinds := [.data, .data, .data, .data, .pinned], laidTests := true, laidLooks := .later }
def AsmLinesUptoCardSaid : Prop := Claim7.holds Tryd.pinned (.plain (OpenSpec.upto asmLinesSpec)) asmLinesUptoCard

/-- THE SECOND FORM's CARD OF 'coxswainlaw09.AsmLong'. -/
def asmLongUptoCard : Claim7 := { stood := { row := asmLongUptoRow, standIns := [], harness := (true, "8c2ab9a925996ec37a96a6cbc6674529dea4835153bebdf7cf9359d85507e68f"), looks := false }, kinds := [], alts := [], laidByText := true, laidKinds := [.data, .data, .data, .data, .pinned], laidTests := true, laidLooks := .later }
def AsmLongUptoCardSaid : Prop := Claim7.holds Tryd.pinned (.plain (OpenSpec.upto asmLongSpec)) asmLongUptoCard

/-- THE SECOND FORM's CARD OF 'coxswainlaw09.AsmTexts'. -/
def asmTextsUptoCard : Claim7 := { stood := { row := asmTextsUptoRow, standIns := [], harness := (true, "8c2ab9a925996ec37a96a6cbc6674529dea4835153bebdf7cf9359d85507e68f"), looks := false }, kinds := [], alts := [], laidByText := true, laidKinds := [.data, .data, .data, .data, .pinned], laidTests := true, laidLooks := .later }
def AsmTextsUptoCardSaid : Prop := Claim7.holds Tryd.pinned (.plain (OpenSpec.upto asmTextsSpec)) asmTextsUptoCard

/-- THE SECOND FORM's CARD OF 'coxswainlaw09.AsmBack'. -/
def asmBackUptoCard : Claim7 := { stood := { row := asmBackUptoRow, standIns := [], harness := (true, "8c2ab9a925996ec37a96a6cbc6674529dea4835153bebdf7cf9359d85507e68f"), looks := false }, kinds := [], alts := [], laidByText := true, laidKinds := [.data, .data, .data, .data, .pinned], laidTests := true, laidLooks := .later }
def AsmBackUptoCardSaid : Prop := Claim7.holds Tryd.pinned (.plain (OpenSpec.upto asmBackSpec)) asmBackUptoCard

/-- THE SECOND FORM's CARD OF 'coxswainlaw21.HistoryPicks'. -/
def historyPicksUptoCard : Claim7 := { stood := { row := historyPicksUptoRow, standIns := [], harness := (true, "8c2ab9a925996ec37a96a6cbc6674529dea4835153bebdf7cf9359d85507e68f"), looks := false }, kinds := [], alts := [], laidByText := true, laidKinds := [.data, .data, .data], laidTests := true, laidLooks := .later }
def HistoryPicksUptoCardSaid : Prop := Claim7.holds Tryd.pinned (.plain (OpenSpec.upto historyPicksSpec)) historyPicksUptoCard

/-- THE SECOND FORM's CARD OF 'coxswainlaw21.HistoryLines'. -/
def historyLinesUptoCard : Claim7 := { stood := { row := historyLinesUptoRow, standIns := [], harness := (true, "8c2ab9a925996ec37a96a6cbc6674529dea4835153bebdf7cf9359d85507e68f"), looks := false }, kinds := [], alts := [], laidByText := true, laidKinds := [.data, .data, .data, .data, .pinned], laidTests := true, laidLooks := .later }
def HistoryLinesUptoCardSaid : Prop := Claim7.holds Tryd.pinned (.plain (OpenSpec.upto historyLinesSpec)) historyLinesUptoCard
end Rows
end Go.Proofs.YtkcdmonmgnmojaaDoor

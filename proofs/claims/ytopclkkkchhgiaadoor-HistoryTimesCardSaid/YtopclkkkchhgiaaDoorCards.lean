/-
  DERIVED. GIVEN WITH THE SEED: THE CARDS: each row of YtopclkkkchhgiaaDoorRows.lean that lists a variable, with what it lists TIED to the program's text (the seventh form; the later family's looks); each row that meets fmt, with fmt's text TOLD by the authors' own Lean function (tested against real Go, not proved from fmt's source: count such statements apart). THE CARD IS WHAT COUNTS. Prove the row's statement (the work); the ties are given (YtopclkkkchhgiaaDoorTie.lean); close each card by the builder's one call (the guide's Derived/Test/ToyasCard.lean, 'card_holds'). Laid BY PROGRAM, IN A SANDBOX (cutbox-door.mjs). By AI agents, Wed Nov 11 2026. No macro, syntax, notation, axiom, sorry.
-/
import Derived.Test.YtopclkkkchhgiaaDoorRows
import GoSem.ClaimSeven
namespace Go.Proofs.YtopclkkkchhgiaaDoor
namespace Rows

/-- THE TIED CARD OF 'coxswainlaw43.TraceLines'. -/
def traceLinesCard : Claim7 := { stood := { row := traceLinesRow, standIns := [], harness := (true, "cbf7410a204004e2e2da45f08c3b9a2be8dcc85be704dde81bcd63842b057e6d"), looks := false }, kinds := [], alts := [], laidByText := true, laidKinds := [.data, .data, .data, .data, .pinned], laidTests := true, laidLooks := .later }
def TraceLinesCardSaid : Prop := Claim7.holds Tryd.pinned (.plain (OpenSpec.ofChange traceLinesSpec)) traceLinesCard

/-- THE TIED CARD OF 'coxswainlaw43.TracePicks'. -/
def tracePicksCard : Claim7 := { stood := { row := tracePicksRow, standIns := [], harness := (true, "cbf7410a204004e2e2da45f08c3b9a2be8dcc85be704dde81bcd63842b057e6d"), looks := false }, kinds := [], alts := [], laidByText := true, laidKinds := [.data, .data, .data, .data, .pinned], laidTests := true, laidLooks := .later }
def TracePicksCardSaid : Prop := Claim7.holds Tryd.pinned (.plain (OpenSpec.ofChange tracePicksSpec)) tracePicksCard

/-- THE TIED CARD OF 'coxswainlaw43.TraceTexts'. -/
def traceTextsCard : Claim7 := { stood := { row := traceTextsRow, standIns := [], harness := (true, "cbf7410a204004e2e2da45f08c3b9a2be8dcc85be704dde81bcd63842b057e6d"), looks := false }, kinds := [], alts := [], laidByText := true, laidKinds := [.data, .data, .data, .data, .pinned], laidTests := true, laidLooks := .later }
def TraceTextsCardSaid : Prop := Claim7.holds Tryd.pinned (.plain (OpenSpec.ofChange traceTextsSpec)) traceTextsCard

/-- THE TIED CARD OF 'coxswainlaw43.TraceBack'. -/
def traceBackCard : Claim7 := { stood := { row := traceBackRow, standIns := [], harness := (true, "cbf7410a204004e2e2da45f08c3b9a2be8dcc85be704dde81bcd63842b057e6d"), looks := false }, kinds := [], alts := [], laidByText := true, laidKinds := [.data, .data, .data, .data, .pinned], laidTests := true, laidLooks := .later }
def TraceBackCardSaid : Prop := Claim7.holds Tryd.pinned (.plain (OpenSpec.ofChange traceBackSpec)) traceBackCard

/-- THE TIED CARD OF 'coxswainlaw21.HistoryRight'. -/
def historyRightCard : Claim7 := { stood := { row := historyRightRow, standIns := [], harness := (true, "cbf7410a204004e2e2da45f08c3b9a2be8dcc85be704dde81bcd63842b057e6d"), looks := false }, kinds := [], alts := [], laidByText := true, laidKinds := [.data, .data, .data], laidTests := true, laidLooks := .later }
def HistoryRightCardSaid : Prop := Claim7.holds Tryd.pinned (.plain (OpenSpec.ofChange historyRightSpec)) historyRightCard

/-- THE TIED CARD OF 'coxswainlaw21.HistoryTimes'. -/
def historyTimesCard : Claim7 := { stood := { row := historyTimesRow, standIns := [], harness := (true, "cbf7410a204004e2e2da45f08c3b9a2be8dcc85be704dde81bcd63842b057e6d"), looks := false }, kinds := [], alts := [], laidByText := true, laidKinds := [.data, .data, .data], laidTests := true, laidLooks := .later }
def HistoryTimesCardSaid : Prop := Claim7.holds Tryd.pinned (.plain (OpenSpec.ofChange historyTimesSpec)) historyTimesCard

/-- THE SECOND FORM's CARD OF 'coxswainlaw43.TraceLines'. -/
def traceLinesUptoCard : Claim7 := { stood := { row := traceLinesUptoRow, standIns := [], harness := (true, "cbf7410a204004e2e2da45f08c3b9a2be8dcc85be704dde81bcd63842b057e6d"), looks := false }, kinds := [], alts := [], laidByText := true, laidKinds := [.data, .data, .data, .data, .pinned], laidTests := true, laidLooks := .later }
def TraceLinesUptoCardSaid : Prop := Claim7.holds Tryd.pinned (.plain (OpenSpec.upto traceLinesSpec)) traceLinesUptoCard

/-- THE SECOND FORM's CARD OF 'coxswainlaw43.TracePicks'. -/
def tracePicksUptoCard : Claim7 := { stood := { row := tracePicksUptoRow, standIns := [], harness := (true, "cbf7410a204004e2e2da45f08c3b9a2be8dcc85be704dde81bcd63842b057e6d"), looks := false }, kinds := [], alts := [], laidByText := true, laidKinds := [.data, .data, .data, .data, .pinned], laidTests := true, laidLooks := .later }
def TracePicksUptoCardSaid : Prop := Claim7.holds Tryd.pinned (.plain (OpenSpec.upto tracePicksSpec)) tracePicksUptoCard

/-- THE SECOND FORM's CARD OF 'coxswainlaw43.TraceTexts'. -/
def traceTextsUptoCard : Claim7 := { stood := { row := traceTextsUptoRow, standIns := [], harness := (true, "cbf7410a204004e2e2da45f08c3b9a2be8dcc85be704dde81bcd63842b057e6d"), looks := false }, kinds := [], alts := [], laidByText := true, laidKinds := [.data, .data, .data, .data, .pinned], laidTests := true, laidLooks := .later }
def TraceTextsUptoCardSaid : Prop := Claim7.holds Tryd.pinned (.plain (OpenSpec.upto traceTextsSpec)) traceTextsUptoCard

/-- THE SECOND FORM's CARD OF 'coxswainlaw43.TraceBack'. -/
def traceBackUptoCard : Claim7 := { stood := { row := traceBackUptoRow, standIns := [], harness := (true, "cbf7410a204004e2e2da45f08c3b9a2be8dcc85be704dde81bcd63842b057e6d"), looks := false }, kinds := [], alts := [], laidByText := true, laidKinds := [.data, .data, .data, .data, .pinned], laidTests := true, laidLooks := .later }
def TraceBackUptoCardSaid : Prop := Claim7.holds Tryd.pinned (.plain (OpenSpec.upto traceBackSpec)) traceBackUptoCard

/-- THE SECOND FORM's CARD OF 'coxswainlaw21.HistoryRight'. -/
def historyRightUptoCard : Claim7 := { stood := { row := historyRightUptoRow, standIns := [], harness := (true, "cbf7410a204004e2e2da45f08c3b9a2be8dcc85be704dde81bcd63842b057e6d"), looks := false }, kinds := [], alts := [], laidByText := true, laidKinds := [.data, .data, .data], laidTests := true, laidLooks := .later }
def HistoryRightUptoCardSaid : Prop := Claim7.holds Tryd.pinned (.plain (OpenSpec.upto historyRightSpec)) historyRightUptoCard

/-- THE SECOND FORM's CARD OF 'coxswainlaw21.HistoryTimes'. -/
def historyTimesUptoCard : Claim7 := { stood := { row := historyTimesUptoRow, standIns := [], harness := (true, "cbf7410a204004e2e2da45f08c3b9a2be8dcc85be704dde81bcd63842b057e6d"), looks := false }, kinds := [], alts := [], laidByText := true, laidKinds := [.data, .data, .data], laidTests := true, laidLooks := .later }
def HistoryTimesUptoCardSaid : Prop := Claim7.holds Tryd.pinned (.plain (OpenSpec.upto historyTimesSpec)) historyTimesUptoCard
end Rows
end Go.Proofs.YtopclkkkchhgiaaDoor

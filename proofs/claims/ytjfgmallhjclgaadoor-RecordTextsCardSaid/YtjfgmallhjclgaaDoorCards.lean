/-
  DERIVED. GIVEN WITH THE SEED: THE CARDS: each row of YtjfgmallhjclgaaDoorRows.lean that lists a variable, with what it lists TIED to the program's text (the seventh form; the later family's looks); each row that meets fmt, with fmt's text TOLD by the authors' own Lean function (tested against real Go, not proved from fmt's source: count such statements apart). THE CARD IS WHAT COUNTS. Prove the row's statement (the work); the ties are given (YtjfgmallhjclgaaDoorTie.lean); close each card by the builder's one call (the guide's Derived/Test/ToyasCard.lean, 'card_holds'). Laid BY PROGRAM, IN A SANDBOX (cutbox-door.mjs). By AI agents, Wed Nov 11 2026. No macro, syntax, notation, axiom, sorry.
-/
import Derived.Test.YtjfgmallhjclgaaDoorRows
import GoSem.ClaimSeven
namespace Go.Proofs.YtjfgmallhjclgaaDoor
namespace Rows

/-- THE TIED CARD OF 'coxswainlaw04.RecordStamps'. -/
def recordStampsCard : Claim7 := { stood := { row := recordStampsRow, standIns := [], harness := (true, "1cf97e6236875a80f881236bda8230560ed1ef7d79382ba54d87ae7d8222bf86"), looks := false }, kinds := [], alts := [], laidByText := true, laidKinds := [.data, .data, .data], laidTests := true, laidLooks := .later }
def RecordStampsCardSaid : Prop := Claim7.holds Tryd.pinned (.plain (OpenSpec.ofChange recordStampsSpec)) recordStampsCard

/-- THE TIED CARD OF 'coxswainlaw04.RecordUnstamps'. -/
def recordUnstampsCard : Claim7 := { stood := { row := recordUnstampsRow, standIns := [], harness := (true, "1cf97e6236875a80f881236bda8230560ed1ef7d79382ba54d87ae7d8222bf86"), looks := false }, kinds := [], alts := [], laidByText := true, laidKinds := [.data, .data, .data], laidTests := true, laidLooks := .later }
def RecordUnstampsCardSaid : Prop := Claim7.holds Tryd.pinned (.plain (OpenSpec.ofChange recordUnstampsSpec)) recordUnstampsCard

/-- THE TIED CARD OF 'coxswainlaw04.RecordFinds'. -/
def recordFindsCard : Claim7 := { stood := { row := recordFindsRow, standIns := [], harness := (true, "1cf97e6236875a80f881236bda8230560ed1ef7d79382ba54d87ae7d8222bf86"), looks := false }, kinds := [], alts := [], laidByText := true, laidKinds := [.data, .data, .data], laidTests := true, laidLooks := .later }
def RecordFindsCardSaid : Prop := Claim7.holds Tryd.pinned (.plain (OpenSpec.ofChange recordFindsSpec)) recordFindsCard

/-- THE TIED CARD OF 'coxswainlaw04.RecordTexts'. -/
def recordTextsCard : Claim7 := { stood := { row := recordTextsRow, standIns := [], harness := (true, "1cf97e6236875a80f881236bda8230560ed1ef7d79382ba54d87ae7d8222bf86"), looks := false }, kinds := [], alts := [], laidByText := true, laidKinds := [.data, .data, .data, .data, .pinned], laidTests := true, laidLooks := .later }
def RecordTextsCardSaid : Prop := Claim7.holds Tryd.pinned (.plain (OpenSpec.ofChange recordTextsSpec)) recordTextsCard

/-- THE SECOND FORM's CARD OF 'coxswainlaw04.RecordStamps'. -/
def recordStampsUptoCard : Claim7 := { stood := { row := recordStampsUptoRow, standIns := [], harness := (true, "1cf97e6236875a80f881236bda8230560ed1ef7d79382ba54d87ae7d8222bf86"), looks := false }, kinds := [], alts := [], laidByText := true, laidKinds := [.data, .data, .data], laidTests := true, laidLooks := .later }
def RecordStampsUptoCardSaid : Prop := Claim7.holds Tryd.pinned (.plain (OpenSpec.upto recordStampsSpec)) recordStampsUptoCard

/-- THE SECOND FORM's CARD OF 'coxswainlaw04.RecordUnstamps'. -/
def recordUnstampsUptoCard : Claim7 := { stood := { row := recordUnstampsUptoRow, standIns := [], harness := (true, "1cf97e6236875a80f881236bda8230560ed1ef7d79382ba54d87ae7d8222bf86"), looks := false }, kinds := [], alts := [], laidByText := true, laidKinds := [.data, .data, .data], laidTests := true, laidLooks := .later }
def RecordUnstampsUptoCardSaid : Prop := Claim7.holds Tryd.pinned (.plain (OpenSpec.upto recordUnstampsSpec)) recordUnstampsUptoCard

/-- THE SECOND FORM's CARD OF 'coxswainlaw04.RecordFinds'. -/
def recordFindsUptoCard : Claim7 := { stood := { row := recordFindsUptoRow, standIns := [], harness := (true, "1cf97e6236875a80f881236bda8230560ed1ef7d79382ba54d87ae7d8222bf86"), looks := false }, kinds := [], alts := [], laidByText := true, laidKinds := [.data, .data, .data], laidTests := true, laidLooks := .later }
def RecordFindsUptoCardSaid : Prop := Claim7.holds Tryd.pinned (.plain (OpenSpec.upto recordFindsSpec)) recordFindsUptoCard

/-- THE SECOND FORM's CARD OF 'coxswainlaw04.RecordTexts'. -/
def recordTextsUptoCard : Claim7 := { stood := { row := recordTextsUptoRow, standIns := [], harness := (true, "1cf97e6236875a80f881236bda8230560ed1ef7d79382ba54d87ae7d8222bf86"), looks := false }, kinds := [], alts := [], laidByText := true, laidKinds := [.data, .data, .data, .data, .pinned], laidTests := true, laidLooks := .later }
def RecordTextsUptoCardSaid : Prop := Claim7.holds Tryd.pinned (.plain (OpenSpec.upto recordTextsSpec)) recordTextsUptoCard
end Rows
end Go.Proofs.YtjfgmallhjclgaaDoor

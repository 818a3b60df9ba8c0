/-
  DERIVED. GIVEN WITH THE SEED: THE CARDS: each row of YtohhnblaoihgbaaDoorRows.lean that lists a variable, with what it lists TIED to the program's text (the seventh form; the later family's looks); each row that meets fmt, with fmt's text TOLD by the authors' own Lean function (tested against real Go, not proved from fmt's source: count such statements apart). THE CARD IS WHAT COUNTS. Prove the row's statement (the work); the ties are given (YtohhnblaoihgbaaDoorTie.lean); close each card by the builder's one call (the guide's Derived/Test/ToyasCard.lean, 'card_holds'). Laid BY PROGRAM, IN A SANDBOX (cutbox-door.mjs). By AI agents, Wed Nov 11 2026. No macro, syntax, notation, axiom, sorry.
-/
import Derived.Test.YtohhnblaoihgbaaDoorRows
import GoSem.ClaimSeven
namespace Go.Proofs.YtohhnblaoihgbaaDoor
namespace Rows

/-- THE TIED CARD OF 'recensionlaw6.ScanStrings'. -/
def scanStringsCard : Claim7 := { stood := { row := scanStringsRow, standIns := [], harness := (true, "6f11a44c9370c9987c2ebd34c879e9cb48bfe57c5e19657faa759a1a3abe1f51"), looks := false }, kinds := [], alts := [], laidByText := true, laidKinds := [.data, .pinned], laidTests := true, laidLooks := .later }
def ScanStringsCardSaid : Prop := Claim7.holds Tryd.pinned (.plain (OpenSpec.ofChange scanStringsSpec)) scanStringsCard

/-- THE TIED CARD OF 'recensionlaw6.ScanNotes'. -/
def scanNotesCard : Claim7 := { stood := { row := scanNotesRow, standIns := [], harness := (true, "6f11a44c9370c9987c2ebd34c879e9cb48bfe57c5e19657faa759a1a3abe1f51"), looks := false }, kinds := [], alts := [], laidByText := true, laidKinds := [.data, .pinned], laidTests := true, laidLooks := .later }
def ScanNotesCardSaid : Prop := Claim7.holds Tryd.pinned (.plain (OpenSpec.ofChange scanNotesSpec)) scanNotesCard

/-- THE TIED CARD OF 'recensionlaw6.ScanAll'. -/
def scanAllCard : Claim7 := { stood := { row := scanAllRow, standIns := [], harness := (true, "6f11a44c9370c9987c2ebd34c879e9cb48bfe57c5e19657faa759a1a3abe1f51"), looks := false }, kinds := [], alts := [], laidByText := true, laidKinds := [.data, .pinned], laidTests := true, laidLooks := .later }
def ScanAllCardSaid : Prop := Claim7.holds Tryd.pinned (.plain (OpenSpec.ofChange scanAllSpec)) scanAllCard

/-- THE TIED CARD OF 'recensionlaw6.ScanTwo'. -/
def scanTwoCard : Claim7 := { stood := { row := scanTwoRow, standIns := [], harness := (true, "6f11a44c9370c9987c2ebd34c879e9cb48bfe57c5e19657faa759a1a3abe1f51"), looks := false }, kinds := [], alts := [], laidByText := true, laidKinds := [.data, .pinned], laidTests := true, laidLooks := .later }
def ScanTwoCardSaid : Prop := Claim7.holds Tryd.pinned (.plain (OpenSpec.ofChange scanTwoSpec)) scanTwoCard

/-- THE TIED CARD OF 'recensionlaw6.ScanBytes'. -/
def scanBytesCard : Claim7 := { stood := { row := scanBytesRow, standIns := [], harness := (true, "6f11a44c9370c9987c2ebd34c879e9cb48bfe57c5e19657faa759a1a3abe1f51"), looks := false }, kinds := [], alts := [], laidByText := true, laidKinds := [.data, .pinned], laidTests := true, laidLooks := .later }
def ScanBytesCardSaid : Prop := Claim7.holds Tryd.pinned (.plain (OpenSpec.ofChange scanBytesSpec)) scanBytesCard

/-- THE TIED CARD OF 'recensionlaw6.ScanCovers'. -/
def scanCoversCard : Claim7 := { stood := { row := scanCoversRow, standIns := [], harness := (true, "6f11a44c9370c9987c2ebd34c879e9cb48bfe57c5e19657faa759a1a3abe1f51"), looks := false }, kinds := [], alts := [], laidByText := true, laidKinds := [.data, .pinned], laidTests := true, laidLooks := .later }
def ScanCoversCardSaid : Prop := Claim7.holds Tryd.pinned (.plain (OpenSpec.ofChange scanCoversSpec)) scanCoversCard

/-- THE TIED CARD OF 'recensionlaw6.ScanLong'. -/
def scanLongCard : Claim7 := { stood := { row := scanLongRow, standIns := [], harness := (true, "6f11a44c9370c9987c2ebd34c879e9cb48bfe57c5e19657faa759a1a3abe1f51"), looks := false }, kinds := [], alts := [], laidByText := true, laidKinds := [.data, .pinned], laidTests := true, laidLooks := .later }
def ScanLongCardSaid : Prop := Claim7.holds Tryd.pinned (.plain (OpenSpec.ofChange scanLongSpec)) scanLongCard

/-- THE TIED CARD OF 'recensionlaw6.ScanSemis'. -/
def scanSemisCard : Claim7 := { stood := { row := scanSemisRow, standIns := [], harness := (true, "6f11a44c9370c9987c2ebd34c879e9cb48bfe57c5e19657faa759a1a3abe1f51"), looks := false }, kinds := [], alts := [], laidByText := true, laidKinds := [.data, .pinned], laidTests := true, laidLooks := .later }
def ScanSemisCardSaid : Prop := Claim7.holds Tryd.pinned (.plain (OpenSpec.ofChange scanSemisSpec)) scanSemisCard

/-- THE TIED CARD OF 'recensionlaw6.ScanNumbers'. -/
def scanNumbersCard : Claim7 := { stood := { row := scanNumbersRow, standIns := [], harness := (true, "6f11a44c9370c9987c2ebd34c879e9cb48bfe57c5e19657faa759a1a3abe1f51"), looks := false }, kinds := [], alts := [], laidByText := true, laidKinds := [.data, .pinned], laidTests := true, laidLooks := .later }
def ScanNumbersCardSaid : Prop := Claim7.holds Tryd.pinned (.plain (OpenSpec.ofChange scanNumbersSpec)) scanNumbersCard

/-- THE TIED CARD OF 'recensionlaw6.ScanNames'. -/
def scanNamesCard : Claim7 := { stood := { row := scanNamesRow, standIns := [], harness := (true, "6f11a44c9370c9987c2ebd34c879e9cb48bfe57c5e19657faa759a1a3abe1f51"), looks := false }, kinds := [], alts := [], laidByText := true, laidKinds := [.data, .pinned], laidTests := true, laidLooks := .later }
def ScanNamesCardSaid : Prop := Claim7.holds Tryd.pinned (.plain (OpenSpec.ofChange scanNamesSpec)) scanNamesCard

/-- THE SECOND FORM's CARD OF 'recensionlaw6.ScanStrings'. -/
def scanStringsUptoCard : Claim7 := { stood := { row := scanStringsUptoRow, standIns := [], harness := (true, "6f11a44c9370c9987c2ebd34c879e9cb48bfe57c5e19657faa759a1a3abe1f51"), looks := false }, kinds := [], alts := [], laidByText := true, laidKinds := [.data, .pinned], laidTests := true, laidLooks := .later }
def ScanStringsUptoCardSaid : Prop := Claim7.holds Tryd.pinned (.plain (OpenSpec.upto scanStringsSpec)) scanStringsUptoCard

/-- THE SECOND FORM's CARD OF 'recensionlaw6.ScanNotes'. -/
def scanNotesUptoCard : Claim7 := { stood := { row := scanNotesUptoRow, standIns := [], harness := (true, "6f11a44c9370c9987c2ebd34c879e9cb48bfe57c5e19657faa759a1a3abe1f51"), looks := false }, kinds := [], alts := [], laidByText := true, laidKinds := [.data, .pinned], laidTests := true, laidLooks := .later }
def ScanNotesUptoCardSaid : Prop := Claim7.holds Tryd.pinned (.plain (OpenSpec.upto scanNotesSpec)) scanNotesUptoCard

/-- THE SECOND FORM's CARD OF 'recensionlaw6.ScanAll'. -/
def scanAllUptoCard : Claim7 := { stood := { row := scanAllUptoRow, standIns := [], harness := (true, "6f11a44c9370c9987c2ebd34c879e9cb48bfe57c5e19657faa759a1a3abe1f51"), looks := false }, kinds := [], alts := [], laidByText := true, laidKinds := [.data, .pinned], laidTests := true, laidLooks := .later }
def ScanAllUptoCardSaid : Prop := Claim7.holds Tryd.pinned (.plain (OpenSpec.upto scanAllSpec)) scanAllUptoCard

/-- THE SECOND FORM's CARD OF 'recensionlaw6.ScanTwo'. -/
def scanTwoUptoCard : Claim7 := { stood := { row := scanTwoUptoRow, standIns := [], harness := (true, "6f11a44c9370c9987c2ebd34c879e9cb48bfe57c5e19657faa759a1a3abe1f51"), looks := false }, kinds := [], alts := [], laidByText := true, laidKinds := [.data, .pinned], laidTests := true, laidLooks := .later }
def ScanTwoUptoCardSaid : Prop := Claim7.holds Tryd.pinned (.plain (OpenSpec.upto scanTwoSpec)) scanTwoUptoCard

/-- THE SECOND FORM's CARD OF 'recensionlaw6.ScanBytes'. -/
def scanBytesUptoCard : Claim7 := { stood := { row := scanBytesUptoRow, standIns := [], harness := (true, "6f11a44c9370c9987c2ebd34c879e9cb48bfe57c5e19657faa759a1a3abe1f51"), looks := false }, kinds := [], alts := [], laidByText := true, laidKinds := [.data, .pinned], laidTests := true, laidLooks := .later }
def ScanBytesUptoCardSaid : Prop := Claim7.holds Tryd.pinned (.plain (OpenSpec.upto scanBytesSpec)) scanBytesUptoCard

/-- THE SECOND FORM's CARD OF 'recensionlaw6.ScanCovers'. -/
def scanCoversUptoCard : Claim7 := { stood := { row := scanCoversUptoRow, standIns := [], harness := (true, "6f11a44c9370c9987c2ebd34c879e9cb48bfe57c5e19657faa759a1a3abe1f51"), looks := false }, kinds := [], alts := [], laidByText := true, laidKinds := [.data, .pinned], laidTests := true, laidLooks := .later }
def ScanCoversUptoCardSaid : Prop := Claim7.holds Tryd.pinned (.plain (OpenSpec.upto scanCoversSpec)) scanCoversUptoCard

/-- THE SECOND FORM's CARD OF 'recensionlaw6.ScanLong'. -/
def scanLongUptoCard : Claim7 := { stood := { row := scanLongUptoRow, standIns := [], harness := (true, "6f11a44c9370c9987c2ebd34c879e9cb48bfe57c5e19657faa759a1a3abe1f51"), looks := false }, kinds := [], alts := [], laidByText := true, laidKinds := [.data, .pinned], laidTests := true, laidLooks := .later }
def ScanLongUptoCardSaid : Prop := Claim7.holds Tryd.pinned (.plain (OpenSpec.upto scanLongSpec)) scanLongUptoCard

/-- THE SECOND FORM's CARD OF 'recensionlaw6.ScanSemis'. -/
def scanSemisUptoCard : Claim7 := { stood := { row := scanSemisUptoRow, standIns := [], harness := (true, "6f11a44c9370c9987c2ebd34c879e9cb48bfe57c5e19657faa759a1a3abe1f51"), looks := false }, kinds := [], alts := [], laidByText := true, laidKinds := [.data, .pinned], laidTests := true, laidLooks := .later }
def ScanSemisUptoCardSaid : Prop := Claim7.holds Tryd.pinned (.plain (OpenSpec.upto scanSemisSpec)) scanSemisUptoCard

/-- THE SECOND FORM's CARD OF 'recensionlaw6.ScanNumbers'. -/
def scanNumbersUptoCard : Claim7 := { stood := { row := scanNumbersUptoRow, standIns := [], harness := (true, "6f11a44c9370c9987c2ebd34c879e9cb48bfe57c5e19657faa759a1a3abe1f51"), looks := false }, kinds := [], alts := [], laidByText := true, laidKinds := [.data, .pinned], laidTests := true, laidLooks := .later }
def ScanNumbersUptoCardSaid : Prop := Claim7.holds Tryd.pinned (.plain (OpenSpec.upto scanNumbersSpec)) scanNumbersUptoCard

/-- THE SECOND FORM's CARD OF 'recensionlaw6.ScanNames'. -/
def scanNamesUptoCard : Claim7 := { stood := { row := scanNamesUptoRow, standIns := [], harness := (true, "6f11a44c9370c9987c2ebd34c879e9cb48bfe57c5e19657faa759a1a3abe1f51"), looks := false }, kinds := [], alts := [], laidByText := true, laidKinds := [.data, .pinned], laidTests := true, laidLooks := .later }
def ScanNamesUptoCardSaid : Prop := Claim7.holds Tryd.pinned (.plain (OpenSpec.upto scanNamesSpec)) scanNamesUptoCard
end Rows
end Go.Proofs.YtohhnblaoihgbaaDoor

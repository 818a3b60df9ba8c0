/-
  DERIVED. GIVEN WITH THE SEED: THE CARDS: each row of YthioodhmfclinaaDoorRows.lean that lists a variable, with what it lists TIED to the program's text (the seventh form; the later family's looks); each row that meets fmt, with fmt's text TOLD by the authors' own Lean function (tested against real Go, not proved from fmt's source: count such statements apart). THE CARD IS WHAT COUNTS. Prove the row's statement (the work); the ties are given (YthioodhmfclinaaDoorTie.lean); close each card by the builder's one call (the guide's Derived/Test/ToyasCard.lean, 'card_holds'). Laid BY PROGRAM, IN A SANDBOX (cutbox-door.mjs). By AI agents, Wed Nov 11 2026. No macro, syntax, notation, axiom, sorry.
-/
import Derived.Test.YthioodhmfclinaaDoorRows
import GoSem.ClaimSeven
namespace Go.Proofs.YthioodhmfclinaaDoor
namespace Rows

/-- THE TIED CARD OF 'recensionlaw7.LinesAll'. -/
def linesAllCard : Claim7 := { stood := { row := linesAllRow, standIns := [], harness := (true, "0994279fa9c4ba4d819d3ca58c3fe7479825c8a0835071da00cc6e3ecebdb6d5"), looks := false }, kinds := [], alts := [], laidByText := true, laidKinds := [.data, .pinned], laidTests := true, laidLooks := .later }
def LinesAllCardSaid : Prop := Claim7.holds Tryd.pinned (.plain (OpenSpec.ofChange linesAllSpec)) linesAllCard

/-- THE TIED CARD OF 'recensionlaw7.LinesJoin'. -/
def linesJoinCard : Claim7 := { stood := { row := linesJoinRow, standIns := [], harness := (true, "0994279fa9c4ba4d819d3ca58c3fe7479825c8a0835071da00cc6e3ecebdb6d5"), looks := false }, kinds := [], alts := [], laidByText := true, laidKinds := [.data, .pinned], laidTests := true, laidLooks := .later }
def LinesJoinCardSaid : Prop := Claim7.holds Tryd.pinned (.plain (OpenSpec.ofChange linesJoinSpec)) linesJoinCard

/-- THE TIED CARD OF 'recensionlaw7.LinesTwo'. -/
def linesTwoCard : Claim7 := { stood := { row := linesTwoRow, standIns := [], harness := (true, "0994279fa9c4ba4d819d3ca58c3fe7479825c8a0835071da00cc6e3ecebdb6d5"), looks := false }, kinds := [], alts := [], laidByText := true, laidKinds := [.data, .pinned], laidTests := true, laidLooks := .later }
def LinesTwoCardSaid : Prop := Claim7.holds Tryd.pinned (.plain (OpenSpec.ofChange linesTwoSpec)) linesTwoCard

/-- THE TIED CARD OF 'recensionlaw7.LinesAt'. -/
def linesAtCard : Claim7 := { stood := { row := linesAtRow, standIns := [], harness := (true, "0994279fa9c4ba4d819d3ca58c3fe7479825c8a0835071da00cc6e3ecebdb6d5"), looks := false }, kinds := [], alts := [], laidByText := true, laidKinds := [.data, .pinned], laidTests := true, laidLooks := .later }
def LinesAtCardSaid : Prop := Claim7.holds Tryd.pinned (.plain (OpenSpec.ofChange linesAtSpec)) linesAtCard

/-- THE SECOND FORM's CARD OF 'recensionlaw7.LinesAll'. -/
def linesAllUptoCard : Claim7 := { stood := { row := linesAllUptoRow, standIns := [], harness := (true, "0994279fa9c4ba4d819d3ca58c3fe7479825c8a0835071da00cc6e3ecebdb6d5"), looks := false }, kinds := [], alts := [], laidByText := true, laidKinds := [.data, .pinned], laidTests := true, laidLooks := .later }
def LinesAllUptoCardSaid : Prop := Claim7.holds Tryd.pinned (.plain (OpenSpec.upto linesAllSpec)) linesAllUptoCard

/-- THE SECOND FORM's CARD OF 'recensionlaw7.LinesJoin'. -/
def linesJoinUptoCard : Claim7 := { stood := { row := linesJoinUptoRow, standIns := [], harness := (true, "0994279fa9c4ba4d819d3ca58c3fe7479825c8a0835071da00cc6e3ecebdb6d5"), looks := false }, kinds := [], alts := [], laidByText := true, laidKinds := [.data, .pinned], laidTests := true, laidLooks := .later }
def LinesJoinUptoCardSaid : Prop := Claim7.holds Tryd.pinned (.plain (OpenSpec.upto linesJoinSpec)) linesJoinUptoCard

/-- THE SECOND FORM's CARD OF 'recensionlaw7.LinesTwo'. -/
def linesTwoUptoCard : Claim7 := { stood := { row := linesTwoUptoRow, standIns := [], harness := (true, "0994279fa9c4ba4d819d3ca58c3fe7479825c8a0835071da00cc6e3ecebdb6d5"), looks := false }, kinds := [], alts := [], laidByText := true, laidKinds := [.data, .pinned], laidTests := true, laidLooks := .later }
def LinesTwoUptoCardSaid : Prop := Claim7.holds Tryd.pinned (.plain (OpenSpec.upto linesTwoSpec)) linesTwoUptoCard

/-- THE SECOND FORM's CARD OF 'recensionlaw7.LinesAt'. -/
def linesAtUptoCard : Claim7 := { stood := { row := linesAtUptoRow, standIns := [], harness := (true, "0994279fa9c4ba4d819d3ca58c3fe7479825c8a0835071da00cc6e3ecebdb6d5"), looks := false }, kinds := [], alts := [], laidByText := true, laidKinds := [.data, .pinned], laidTests := true, laidLooks := .later }
def LinesAtUptoCardSaid : Prop := Claim7.holds Tryd.pinned (.plain (OpenSpec.upto linesAtSpec)) linesAtUptoCard
end Rows
end Go.Proofs.YthioodhmfclinaaDoor

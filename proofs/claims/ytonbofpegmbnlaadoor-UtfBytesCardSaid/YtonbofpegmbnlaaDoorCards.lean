/-
  DERIVED. GIVEN WITH THE SEED: THE CARDS: each row of YtonbofpegmbnlaaDoorRows.lean that lists a variable, with what it lists TIED to the program's text (the seventh form; the later family's looks); each row that meets fmt, with fmt's text TOLD by the authors' own Lean function (tested against real Go, not proved from fmt's source: count such statements apart). THE CARD IS WHAT COUNTS. Prove the row's statement (the work); the ties are given (YtonbofpegmbnlaaDoorTie.lean); close each card by the builder's one call (the guide's Derived/Test/ToyasCard.lean, 'card_holds'). Laid BY PROGRAM, IN A SANDBOX (cutbox-door.mjs). By AI agents, Wed Nov 11 2026. No macro, syntax, notation, axiom, sorry.
-/
import Derived.Test.YtonbofpegmbnlaaDoorRows
import GoSem.ClaimSeven
namespace Go.Proofs.YtonbofpegmbnlaaDoor
namespace Rows

/-- THE TIED CARD OF 'recensionlaw3.UtfAll'. -/
def utfAllCard : Claim7 := { stood := { row := utfAllRow, standIns := [], harness := (true, "d557c0689296fdf24516cc12559a156fcf5c942fa2a3b07cd99eac332545ad45"), looks := false }, kinds := [], alts := [], laidByText := true, laidKinds := [.data, .pinned], laidTests := true, laidLooks := .later }
def UtfAllCardSaid : Prop := Claim7.holds Tryd.pinned (.plain (OpenSpec.ofChange utfAllSpec)) utfAllCard

/-- THE TIED CARD OF 'recensionlaw3.UtfBytes'. -/
def utfBytesCard : Claim7 := { stood := { row := utfBytesRow, standIns := [], harness := (true, "d557c0689296fdf24516cc12559a156fcf5c942fa2a3b07cd99eac332545ad45"), looks := false }, kinds := [], alts := [], laidByText := true, laidKinds := [.data, .pinned], laidTests := true, laidLooks := .later }
def UtfBytesCardSaid : Prop := Claim7.holds Tryd.pinned (.plain (OpenSpec.ofChange utfBytesSpec)) utfBytesCard

/-- THE TIED CARD OF 'recensionlaw3.UtfLong'. -/
def utfLongCard : Claim7 := { stood := { row := utfLongRow, standIns := [], harness := (true, "d557c0689296fdf24516cc12559a156fcf5c942fa2a3b07cd99eac332545ad45"), looks := false }, kinds := [], alts := [], laidByText := true, laidKinds := [.data, .pinned], laidTests := true, laidLooks := .later }
def UtfLongCardSaid : Prop := Claim7.holds Tryd.pinned (.plain (OpenSpec.ofChange utfLongSpec)) utfLongCard

/-- THE TIED CARD OF 'recensionlaw3.UtfJoin'. -/
def utfJoinCard : Claim7 := { stood := { row := utfJoinRow, standIns := [], harness := (true, "d557c0689296fdf24516cc12559a156fcf5c942fa2a3b07cd99eac332545ad45"), looks := false }, kinds := [], alts := [], laidByText := true, laidKinds := [.data, .pinned], laidTests := true, laidLooks := .later }
def UtfJoinCardSaid : Prop := Claim7.holds Tryd.pinned (.plain (OpenSpec.ofChange utfJoinSpec)) utfJoinCard

/-- THE SECOND FORM's CARD OF 'recensionlaw3.UtfAll'. -/
def utfAllUptoCard : Claim7 := { stood := { row := utfAllUptoRow, standIns := [], harness := (true, "d557c0689296fdf24516cc12559a156fcf5c942fa2a3b07cd99eac332545ad45"), looks := false }, kinds := [], alts := [], laidByText := true, laidKinds := [.data, .pinned], laidTests := true, laidLooks := .later }
def UtfAllUptoCardSaid : Prop := Claim7.holds Tryd.pinned (.plain (OpenSpec.upto utfAllSpec)) utfAllUptoCard

/-- THE SECOND FORM's CARD OF 'recensionlaw3.UtfBytes'. -/
def utfBytesUptoCard : Claim7 := { stood := { row := utfBytesUptoRow, standIns := [], harness := (true, "d557c0689296fdf24516cc12559a156fcf5c942fa2a3b07cd99eac332545ad45"), looks := false }, kinds := [], alts := [], laidByText := true, laidKinds := [.data, .pinned], laidTests := true, laidLooks := .later }
def UtfBytesUptoCardSaid : Prop := Claim7.holds Tryd.pinned (.plain (OpenSpec.upto utfBytesSpec)) utfBytesUptoCard

/-- THE SECOND FORM's CARD OF 'recensionlaw3.UtfLong'. -/
def utfLongUptoCard : Claim7 := { stood := { row := utfLongUptoRow, standIns := [], harness := (true, "d557c0689296fdf24516cc12559a156fcf5c942fa2a3b07cd99eac332545ad45"), looks := false }, kinds := [], alts := [], laidByText := true, laidKinds := [.data, .pinned], laidTests := true, laidLooks := .later }
def UtfLongUptoCardSaid : Prop := Claim7.holds Tryd.pinned (.plain (OpenSpec.upto utfLongSpec)) utfLongUptoCard

/-- THE SECOND FORM's CARD OF 'recensionlaw3.UtfJoin'. -/
def utfJoinUptoCard : Claim7 := { stood := { row := utfJoinUptoRow, standIns := [], harness := (true, "d557c0689296fdf24516cc12559a156fcf5c942fa2a3b07cd99eac332545ad45"), looks := false }, kinds := [], alts := [], laidByText := true, laidKinds := [.data, .pinned], laidTests := true, laidLooks := .later }
def UtfJoinUptoCardSaid : Prop := Claim7.holds Tryd.pinned (.plain (OpenSpec.upto utfJoinSpec)) utfJoinUptoCard
end Rows
end Go.Proofs.YtonbofpegmbnlaaDoor

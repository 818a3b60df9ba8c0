/-
  No cell of these rows narrows 'for every input' (looked for: loops, veiled, ifaces, maps, wideKeys, modest, calm, conditions, laid).
  DERIVED. THE GIVEN ROWS OF THIS SEAT. 4 by the template 'for every input the law returns true; each argument reads behind the call as it read before'; 0 by the template 'total and deterministic' (their statements: YtebfhmhfmeibcaaTotals.lean).
  GIVEN WITH THE SEED: the statements are not yours to turn. If you find one false, say at which input.
  Laid BY PROGRAM, IN A SANDBOX (cutbox-rows.mjs): the forced cells as the released guide's own fill.sh prints them over the translation 8530e6691e14bb7d… (all of the seat's roots in one cut). By AI agents, Wed Nov 11 2026. No macro, syntax, notation, axiom, sorry.
-/
import Derived.Test.YtebfhmhfmeibcaaChecked
import GoSem.Claim
import GoSem.ClaimJoined
import GoSem.ClaimMapViews
import Derived.JoinedTies
import Derived.KernelRfl
namespace Go.Proofs.Ytebfhmhfmeibcaa
/- THE CELL 'sum', in the pinned program and in every row, IS THE sha256 OF THE DUMP (.gsa) THAT YtebfhmhfmeibcaaProg.lean LOADS. Nothing in Lean hashes anything: it is a label: what it is worth is what the hold of that sum in a sandbox is worth. -/
noncomputable def Try.pinned : Pinned := { name := "ytebfhmhfmeibcaa", sum := "8530e6691e14bb7d10af5cbd85e48fbe6df9d1b3b26e5f10dc5f59203e57b2f3", checked := Try.checked }
namespace Rows
def none {H : Type} : Left H := { results := [], args := [] }

/-- 'recensionlaw4.NameAll': WHATEVER THE INPUT: true; the input reads as it did. -/
def nameAllSpec : ChangeSpec := { name := "nameAll", fn := fun _ => fun
  | [d] => { results := [.lit (.bool true)], args := [d] }
  | _ => none }
def nameAllRow : OpenClaim := { program := "ytebfhmhfmeibcaa", sum := "8530e6691e14bb7d10af5cbd85e48fbe6df9d1b3b26e5f10dc5f59203e57b2f3", func := "recension/recensionlaw4.NameAll", spec := "nameAll", apart := false }
def NameAllSaid : Prop := nameAllRow.holds Try.pinned (OpenSpec.ofChange nameAllSpec)

/-- ITS FALSE NEIGHBOUR: 'it returns false'. Refute it at one input. -/
def nameAllWrong : ChangeSpec := { name := "nameAll", fn := fun _ => fun
  | [d] => { results := [.lit (.bool false)], args := [d] }
  | _ => none }
def NameAllWrongFalsely : Prop := nameAllRow.holds Try.pinned (OpenSpec.ofChange nameAllWrong)

/-- 'recensionlaw4.NameBytes': WHATEVER THE INPUT: true; the input reads as it did. -/
def nameBytesSpec : ChangeSpec := { name := "nameBytes", fn := fun _ => fun
  | [d1, d2] => { results := [.lit (.bool true)], args := [d1, d2] }
  | _ => none }
def nameBytesRow : OpenClaim := { program := "ytebfhmhfmeibcaa", sum := "8530e6691e14bb7d10af5cbd85e48fbe6df9d1b3b26e5f10dc5f59203e57b2f3", func := "recension/recensionlaw4.NameBytes", spec := "nameBytes", apart := false }
def NameBytesSaid : Prop := nameBytesRow.holds Try.pinned (OpenSpec.ofChange nameBytesSpec)

/-- ITS FALSE NEIGHBOUR: 'it returns false'. Refute it at one input. -/
def nameBytesWrong : ChangeSpec := { name := "nameBytes", fn := fun _ => fun
  | [d1, d2] => { results := [.lit (.bool false)], args := [d1, d2] }
  | _ => none }
def NameBytesWrongFalsely : Prop := nameBytesRow.holds Try.pinned (OpenSpec.ofChange nameBytesWrong)

/-- 'recensionlaw4.NameLong': WHATEVER THE INPUT: true; the input reads as it did. -/
def nameLongSpec : ChangeSpec := { name := "nameLong", fn := fun _ => fun
  | [d] => { results := [.lit (.bool true)], args := [d] }
  | _ => none }
def nameLongRow : OpenClaim := { program := "ytebfhmhfmeibcaa", sum := "8530e6691e14bb7d10af5cbd85e48fbe6df9d1b3b26e5f10dc5f59203e57b2f3", func := "recension/recensionlaw4.NameLong", spec := "nameLong", apart := false }
def NameLongSaid : Prop := nameLongRow.holds Try.pinned (OpenSpec.ofChange nameLongSpec)

/-- ITS FALSE NEIGHBOUR: 'it returns false'. Refute it at one input. -/
def nameLongWrong : ChangeSpec := { name := "nameLong", fn := fun _ => fun
  | [d] => { results := [.lit (.bool false)], args := [d] }
  | _ => none }
def NameLongWrongFalsely : Prop := nameLongRow.holds Try.pinned (OpenSpec.ofChange nameLongWrong)

/-- 'recensionlaw4.NameKeys': WHATEVER THE INPUT: true; the input reads as it did. -/
def nameKeysSpec : ChangeSpec := { name := "nameKeys", fn := fun _ => fun
  | [d] => { results := [.lit (.bool true)], args := [d] }
  | _ => none }
def nameKeysRow : OpenClaim := { program := "ytebfhmhfmeibcaa", sum := "8530e6691e14bb7d10af5cbd85e48fbe6df9d1b3b26e5f10dc5f59203e57b2f3", func := "recension/recensionlaw4.NameKeys", spec := "nameKeys", apart := false }
def NameKeysSaid : Prop := nameKeysRow.holds Try.pinned (OpenSpec.ofChange nameKeysSpec)

/-- ITS FALSE NEIGHBOUR: 'it returns false'. Refute it at one input. -/
def nameKeysWrong : ChangeSpec := { name := "nameKeys", fn := fun _ => fun
  | [d] => { results := [.lit (.bool false)], args := [d] }
  | _ => none }
def NameKeysWrongFalsely : Prop := nameKeysRow.holds Try.pinned (OpenSpec.ofChange nameKeysWrong)

/- THE SECOND FORM. 'bulk': how many values and letters a reading holds, each counted each time it is reached (what is shared counts as often as it is met; a slice's spare places count too). A statement '..UptoSaid' is the law's where the arguments, and the package variables that the reading takes, are together of bulk at most 1048576: NARROWER than '..Said'. Prove '..Said' where nothing that the law and all that it calls make is longer than what came in: it says more and counts as full. Else prove '..UptoSaid'. A law counts once. -/
mutual
def uptoBulk {H : Type} : DataW H → Nat
  | .lit (.string bytes) => bytes.length + 1
  | .lit _ => 1
  | .nil => 1
  | .ptr d => uptoBulk d + 1
  | .slice elems spare => uptoBulkAll elems + uptoBulkAll spare + 1
  | .agg parts => uptoBulkAll parts + 1
  | .iface _ d => uptoBulk d + 1
  | .map entries => uptoBulkEntries entries + 1
  | .held _ => 1
def uptoBulkAll {H : Type} : List (DataW H) → Nat
  | [] => 0
  | d :: r => uptoBulk d + uptoBulkAll r
def uptoBulkEntries {H : Type} : List (Lit × DataW H) → Nat
  | [] => 0
  | x :: r => uptoBulkEntry x + uptoBulkEntries r
def uptoBulkEntry {H : Type} : Lit × DataW H → Nat
  | (.string bytes, d) => bytes.length + uptoBulk d + 1
  | (_, d) => uptoBulk d + 1
 end
def uptoSmall : (H : Type) → List (DataW H) → Bool := fun _ ds => decide (uptoBulkAll ds ≤ 1048576)
def OpenSpec.upto (s : _root_.Go.ChangeSpec) : _root_.Go.OpenSpec := { _root_.Go.OpenSpec.ofChange s with cond := some uptoSmall }

/-- 'recensionlaw4.NameAll', WHERE WHAT IT READS IS OF BULK AT MOST 1048576: true; the input reads as it did. -/
def nameAllUptoRow : OpenClaim := { program := "ytebfhmhfmeibcaa", sum := "8530e6691e14bb7d10af5cbd85e48fbe6df9d1b3b26e5f10dc5f59203e57b2f3", func := "recension/recensionlaw4.NameAll", spec := "nameAll", apart := false, narrowed := true }
def NameAllUptoSaid : Prop := nameAllUptoRow.holds Try.pinned (OpenSpec.upto nameAllSpec)

/-- 'recensionlaw4.NameBytes', WHERE WHAT IT READS IS OF BULK AT MOST 1048576: true; the input reads as it did. -/
def nameBytesUptoRow : OpenClaim := { program := "ytebfhmhfmeibcaa", sum := "8530e6691e14bb7d10af5cbd85e48fbe6df9d1b3b26e5f10dc5f59203e57b2f3", func := "recension/recensionlaw4.NameBytes", spec := "nameBytes", apart := false, narrowed := true }
def NameBytesUptoSaid : Prop := nameBytesUptoRow.holds Try.pinned (OpenSpec.upto nameBytesSpec)

/-- 'recensionlaw4.NameLong', WHERE WHAT IT READS IS OF BULK AT MOST 1048576: true; the input reads as it did. -/
def nameLongUptoRow : OpenClaim := { program := "ytebfhmhfmeibcaa", sum := "8530e6691e14bb7d10af5cbd85e48fbe6df9d1b3b26e5f10dc5f59203e57b2f3", func := "recension/recensionlaw4.NameLong", spec := "nameLong", apart := false, narrowed := true }
def NameLongUptoSaid : Prop := nameLongUptoRow.holds Try.pinned (OpenSpec.upto nameLongSpec)

/-- 'recensionlaw4.NameKeys', WHERE WHAT IT READS IS OF BULK AT MOST 1048576: true; the input reads as it did. -/
def nameKeysUptoRow : OpenClaim := { program := "ytebfhmhfmeibcaa", sum := "8530e6691e14bb7d10af5cbd85e48fbe6df9d1b3b26e5f10dc5f59203e57b2f3", func := "recension/recensionlaw4.NameKeys", spec := "nameKeys", apart := false, narrowed := true }
def NameKeysUptoSaid : Prop := nameKeysUptoRow.holds Try.pinned (OpenSpec.upto nameKeysSpec)

end Rows
end Go.Proofs.Ytebfhmhfmeibcaa

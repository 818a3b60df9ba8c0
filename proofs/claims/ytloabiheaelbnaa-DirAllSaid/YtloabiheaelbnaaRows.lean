/-
  No cell of these rows narrows 'for every input' (looked for: loops, veiled, ifaces, maps, wideKeys, modest, calm, conditions, laid).
  DERIVED. THE GIVEN ROWS OF THIS SEAT. 4 by the template 'for every input the law returns true; each argument reads behind the call as it read before'; 0 by the template 'total and deterministic' (their statements: YtloabiheaelbnaaTotals.lean).
  GIVEN WITH THE SEED: the statements are not yours to turn. If you find one false, say at which input.
  Laid BY PROGRAM, IN A SANDBOX (cutbox-rows.mjs): the forced cells as the released guide's own fill.sh prints them over the translation 87a1690bdbd7319e… (all of the seat's roots in one cut). By AI agents, Wed Nov 11 2026. No macro, syntax, notation, axiom, sorry.
-/
import Derived.Test.YtloabiheaelbnaaChecked
import GoSem.Claim
import GoSem.ClaimJoined
import GoSem.ClaimMapViews
import Derived.JoinedTies
import Derived.KernelRfl
namespace Go.Proofs.Ytloabiheaelbnaa
/- THE CELL 'sum', in the pinned program and in every row, IS THE sha256 OF THE DUMP (.gsa) THAT YtloabiheaelbnaaProg.lean LOADS. Nothing in Lean hashes anything: it is a label: what it is worth is what the hold of that sum in a sandbox is worth. -/
noncomputable def Try.pinned : Pinned := { name := "ytloabiheaelbnaa", sum := "87a1690bdbd7319eaf0f986b13d0575ac90dd0a31dc1f27231f374645ef49aaf", checked := Try.checked }
namespace Rows
def none {H : Type} : Left H := { results := [], args := [] }

/-- 'recensionlaw23.DirAll': WHATEVER THE INPUT: true; the input reads as it did. -/
def dirAllSpec : ChangeSpec := { name := "dirAll", fn := fun _ => fun
  | [d1, d2, d3] => { results := [.lit (.bool true)], args := [d1, d2, d3] }
  | _ => none }
def dirAllRow : OpenClaim := { program := "ytloabiheaelbnaa", sum := "87a1690bdbd7319eaf0f986b13d0575ac90dd0a31dc1f27231f374645ef49aaf", func := "recension/recensionlaw23.DirAll", spec := "dirAll", unfollowed := true, recurses := true, apart := false }
def DirAllSaid : Prop := dirAllRow.holds Try.pinned (OpenSpec.ofChange dirAllSpec)

/-- ITS FALSE NEIGHBOUR: 'it returns false'. Refute it at one input. -/
def dirAllWrong : ChangeSpec := { name := "dirAll", fn := fun _ => fun
  | [d1, d2, d3] => { results := [.lit (.bool false)], args := [d1, d2, d3] }
  | _ => none }
def DirAllWrongFalsely : Prop := dirAllRow.holds Try.pinned (OpenSpec.ofChange dirAllWrong)

/-- 'recensionlaw23.DirAny': WHATEVER THE INPUT: true; the input reads as it did. -/
def dirAnySpec : ChangeSpec := { name := "dirAny", fn := fun _ => fun
  | [d1, d2, d3, d4] => { results := [.lit (.bool true)], args := [d1, d2, d3, d4] }
  | _ => none }
def dirAnyRow : OpenClaim := { program := "ytloabiheaelbnaa", sum := "87a1690bdbd7319eaf0f986b13d0575ac90dd0a31dc1f27231f374645ef49aaf", func := "recension/recensionlaw23.DirAny", spec := "dirAny", unfollowed := true, recurses := true, apart := false }
def DirAnySaid : Prop := dirAnyRow.holds Try.pinned (OpenSpec.ofChange dirAnySpec)

/-- ITS FALSE NEIGHBOUR: 'it returns false'. Refute it at one input. -/
def dirAnyWrong : ChangeSpec := { name := "dirAny", fn := fun _ => fun
  | [d1, d2, d3, d4] => { results := [.lit (.bool false)], args := [d1, d2, d3, d4] }
  | _ => none }
def DirAnyWrongFalsely : Prop := dirAnyRow.holds Try.pinned (OpenSpec.ofChange dirAnyWrong)

/-- 'recensionlaw23.DirMany': WHATEVER THE INPUT: true; the input reads as it did. -/
def dirManySpec : ChangeSpec := { name := "dirMany", fn := fun _ => fun
  | [d1, d2] => { results := [.lit (.bool true)], args := [d1, d2] }
  | _ => none }
def dirManyRow : OpenClaim := { program := "ytloabiheaelbnaa", sum := "87a1690bdbd7319eaf0f986b13d0575ac90dd0a31dc1f27231f374645ef49aaf", func := "recension/recensionlaw23.DirMany", spec := "dirMany", unfollowed := true, recurses := true, apart := false }
def DirManySaid : Prop := dirManyRow.holds Try.pinned (OpenSpec.ofChange dirManySpec)

/-- ITS FALSE NEIGHBOUR: 'it returns false'. Refute it at one input. -/
def dirManyWrong : ChangeSpec := { name := "dirMany", fn := fun _ => fun
  | [d1, d2] => { results := [.lit (.bool false)], args := [d1, d2] }
  | _ => none }
def DirManyWrongFalsely : Prop := dirManyRow.holds Try.pinned (OpenSpec.ofChange dirManyWrong)

/-- 'recensionlaw23.DirSpan': WHATEVER THE INPUT: true; the input reads as it did. -/
def dirSpanSpec : ChangeSpec := { name := "dirSpan", fn := fun _ => fun
  | [d1, d2, d3] => { results := [.lit (.bool true)], args := [d1, d2, d3] }
  | _ => none }
def dirSpanRow : OpenClaim := { program := "ytloabiheaelbnaa", sum := "87a1690bdbd7319eaf0f986b13d0575ac90dd0a31dc1f27231f374645ef49aaf", func := "recension/recensionlaw23.DirSpan", spec := "dirSpan", unfollowed := true, recurses := true, apart := false }
def DirSpanSaid : Prop := dirSpanRow.holds Try.pinned (OpenSpec.ofChange dirSpanSpec)

/-- ITS FALSE NEIGHBOUR: 'it returns false'. Refute it at one input. -/
def dirSpanWrong : ChangeSpec := { name := "dirSpan", fn := fun _ => fun
  | [d1, d2, d3] => { results := [.lit (.bool false)], args := [d1, d2, d3] }
  | _ => none }
def DirSpanWrongFalsely : Prop := dirSpanRow.holds Try.pinned (OpenSpec.ofChange dirSpanWrong)

/- THE SECOND FORM. 'bulk': how many values and letters a reading holds, each counted each time it is reached (what is shared counts as often as it is met; a slice's spare places count too). A statement '..UptoSaid' is the law's where the arguments, and the package variables that the reading takes, are together of bulk at most 1048576: NARROWER than '..Said'. Prove '..Said' where nothing that the law and all that it calls make is longer than what came in: it says more and counts as full. Else prove '..UptoSaid'. A law counts once. -/
mutual
def uptoBulk {H : Type} : DataW H → Nat
  | .lit (.string bytes) => bytes.length + 1
  | .lit _ => 1
  | .nil => 1
  | .ptr d => uptoBulk d + 1
  | .slice elems spare => uptoBulkAll elems + uptoBulkAll spare + 1
  | .agg parts => uptoBulkAll parts + 1
  | .iface _ d => uptoBulk d + 1
  | .map entries => uptoBulkEntries entries + 1
  | .held _ => 1
def uptoBulkAll {H : Type} : List (DataW H) → Nat
  | [] => 0
  | d :: r => uptoBulk d + uptoBulkAll r
def uptoBulkEntries {H : Type} : List (Lit × DataW H) → Nat
  | [] => 0
  | x :: r => uptoBulkEntry x + uptoBulkEntries r
def uptoBulkEntry {H : Type} : Lit × DataW H → Nat
  | (.string bytes, d) => bytes.length + uptoBulk d + 1
  | (_, d) => uptoBulk d + 1
 end
def uptoSmall : (H : Type) → List (DataW H) → Bool := fun _ ds => decide (uptoBulkAll ds ≤ 1048576)
def OpenSpec.upto (s : _root_.Go.ChangeSpec) : _root_.Go.OpenSpec := { _root_.Go.OpenSpec.ofChange s with cond := some uptoSmall }

/-- 'recensionlaw23.DirAll', WHERE WHAT IT READS IS OF BULK AT MOST 1048576: true; the input reads as it did. -/
def dirAllUptoRow : OpenClaim := { program := "ytloabiheaelbnaa", sum := "87a1690bdbd7319eaf0f986b13d0575ac90dd0a31dc1f27231f374645ef49aaf", func := "recension/recensionlaw23.DirAll", spec := "dirAll", unfollowed := true, recurses := true, apart := false, narrowed := true }
def DirAllUptoSaid : Prop := dirAllUptoRow.holds Try.pinned (OpenSpec.upto dirAllSpec)

/-- 'recensionlaw23.DirAny', WHERE WHAT IT READS IS OF BULK AT MOST 1048576: true; the input reads as it did. -/
def dirAnyUptoRow : OpenClaim := { program := "ytloabiheaelbnaa", sum := "87a1690bdbd7319eaf0f986b13d0575ac90dd0a31dc1f27231f374645ef49aaf", func := "recension/recensionlaw23.DirAny", spec := "dirAny", unfollowed := true, recurses := true, apart := false, narrowed := true }
def DirAnyUptoSaid : Prop := dirAnyUptoRow.holds Try.pinned (OpenSpec.upto dirAnySpec)

/-- 'recensionlaw23.DirMany', WHERE WHAT IT READS IS OF BULK AT MOST 1048576: true; the input reads as it did. -/
def dirManyUptoRow : OpenClaim := { program := "ytloabiheaelbnaa", sum := "87a1690bdbd7319eaf0f986b13d0575ac90dd0a31dc1f27231f374645ef49aaf", func := "recension/recensionlaw23.DirMany", spec := "dirMany", unfollowed := true, recurses := true, apart := false, narrowed := true }
def DirManyUptoSaid : Prop := dirManyUptoRow.holds Try.pinned (OpenSpec.upto dirManySpec)

/-- 'recensionlaw23.DirSpan', WHERE WHAT IT READS IS OF BULK AT MOST 1048576: true; the input reads as it did. -/
def dirSpanUptoRow : OpenClaim := { program := "ytloabiheaelbnaa", sum := "87a1690bdbd7319eaf0f986b13d0575ac90dd0a31dc1f27231f374645ef49aaf", func := "recension/recensionlaw23.DirSpan", spec := "dirSpan", unfollowed := true, recurses := true, apart := false, narrowed := true }
def DirSpanUptoSaid : Prop := dirSpanUptoRow.holds Try.pinned (OpenSpec.upto dirSpanSpec)

end Rows
end Go.Proofs.Ytloabiheaelbnaa

/-
  No cell of these rows narrows 'for every input' (looked for: loops, veiled, ifaces, maps, wideKeys, modest, calm, conditions, laid).
  DERIVED. THE GIVEN ROWS OF THIS SEAT. 4 by the template 'for every input the law returns true; each argument reads behind the call as it read before'; 0 by the template 'total and deterministic' (their statements: YteikeoeidaaiaaaTotals.lean).
  GIVEN WITH THE SEED: the statements are not yours to turn. If you find one false, say at which input.
  Laid BY PROGRAM, IN A SANDBOX (cutbox-rows.mjs): the forced cells as the released guide's own fill.sh prints them over the translation 5f6851e00736287d… (all of the seat's roots in one cut). By AI agents, Wed Nov 11 2026. No macro, syntax, notation, axiom, sorry.
-/
import Derived.Test.YteikeoeidaaiaaaChecked
import GoSem.Claim
import GoSem.ClaimJoined
import GoSem.ClaimMapViews
import Derived.JoinedTies
import Derived.KernelRfl
namespace Go.Proofs.Yteikeoeidaaiaaa
/- THE CELL 'sum', in the pinned program and in every row, IS THE sha256 OF THE DUMP (.gsa) THAT YteikeoeidaaiaaaProg.lean LOADS. Nothing in Lean hashes anything: it is a label: what it is worth is what the hold of that sum in a sandbox is worth. -/
noncomputable def Try.pinned : Pinned := { name := "yteikeoeidaaiaaa", sum := "5f6851e00736287d536d8c9a61838f9c2642a7be74dc0c601948add899927c32", checked := Try.checked }
namespace Rows
def none {H : Type} : Left H := { results := [], args := [] }

/-- 'recensionlaw9.MergeQueue': WHATEVER THE INPUT: true; the input reads as it did. -/
def mergeQueueSpec : ChangeSpec := { name := "mergeQueue", fn := fun _ => fun
  | [d1, d2] => { results := [.lit (.bool true)], args := [d1, d2] }
  | _ => none }
def mergeQueueRow : OpenClaim := { program := "yteikeoeidaaiaaa", sum := "5f6851e00736287d536d8c9a61838f9c2642a7be74dc0c601948add899927c32", func := "recension/recensionlaw9.MergeQueue", spec := "mergeQueue", unfollowed := true, recurses := true, apart := false }
def MergeQueueSaid : Prop := mergeQueueRow.holds Try.pinned (OpenSpec.ofChange mergeQueueSpec)

/-- ITS FALSE NEIGHBOUR: 'it returns false'. Refute it at one input. -/
def mergeQueueWrong : ChangeSpec := { name := "mergeQueue", fn := fun _ => fun
  | [d1, d2] => { results := [.lit (.bool false)], args := [d1, d2] }
  | _ => none }
def MergeQueueWrongFalsely : Prop := mergeQueueRow.holds Try.pinned (OpenSpec.ofChange mergeQueueWrong)

/-- 'recensionlaw9.MergeAll': WHATEVER THE INPUT: true; the input reads as it did. -/
def mergeAllSpec : ChangeSpec := { name := "mergeAll", fn := fun _ => fun
  | [d] => { results := [.lit (.bool true)], args := [d] }
  | _ => none }
def mergeAllRow : OpenClaim := { program := "yteikeoeidaaiaaa", sum := "5f6851e00736287d536d8c9a61838f9c2642a7be74dc0c601948add899927c32", func := "recension/recensionlaw9.MergeAll", spec := "mergeAll", unfollowed := true, recurses := true, apart := false }
def MergeAllSaid : Prop := mergeAllRow.holds Try.pinned (OpenSpec.ofChange mergeAllSpec)

/-- ITS FALSE NEIGHBOUR: 'it returns false'. Refute it at one input. -/
def mergeAllWrong : ChangeSpec := { name := "mergeAll", fn := fun _ => fun
  | [d] => { results := [.lit (.bool false)], args := [d] }
  | _ => none }
def MergeAllWrongFalsely : Prop := mergeAllRow.holds Try.pinned (OpenSpec.ofChange mergeAllWrong)

/-- 'recensionlaw9.MergeHands': WHATEVER THE INPUT: true; the input reads as it did. -/
def mergeHandsSpec : ChangeSpec := { name := "mergeHands", fn := fun _ => fun
  | [d1, d2, d3] => { results := [.lit (.bool true)], args := [d1, d2, d3] }
  | _ => none }
def mergeHandsRow : OpenClaim := { program := "yteikeoeidaaiaaa", sum := "5f6851e00736287d536d8c9a61838f9c2642a7be74dc0c601948add899927c32", func := "recension/recensionlaw9.MergeHands", spec := "mergeHands", unfollowed := true, recurses := true, apart := false }
def MergeHandsSaid : Prop := mergeHandsRow.holds Try.pinned (OpenSpec.ofChange mergeHandsSpec)

/-- ITS FALSE NEIGHBOUR: 'it returns false'. Refute it at one input. -/
def mergeHandsWrong : ChangeSpec := { name := "mergeHands", fn := fun _ => fun
  | [d1, d2, d3] => { results := [.lit (.bool false)], args := [d1, d2, d3] }
  | _ => none }
def MergeHandsWrongFalsely : Prop := mergeHandsRow.holds Try.pinned (OpenSpec.ofChange mergeHandsWrong)

/-- 'recensionlaw9.MergeNone': WHATEVER THE INPUT: true; the input reads as it did. -/
def mergeNoneSpec : ChangeSpec := { name := "mergeNone", fn := fun _ => fun
  | [] => { results := [.lit (.bool true)], args := [] }
  | _ => none }
def mergeNoneRow : OpenClaim := { program := "yteikeoeidaaiaaa", sum := "5f6851e00736287d536d8c9a61838f9c2642a7be74dc0c601948add899927c32", func := "recension/recensionlaw9.MergeNone", spec := "mergeNone", unfollowed := true, recurses := true, apart := false }
def MergeNoneSaid : Prop := mergeNoneRow.holds Try.pinned (OpenSpec.ofChange mergeNoneSpec)

/-- ITS FALSE NEIGHBOUR: 'it returns false'. Refute it at one input. -/
def mergeNoneWrong : ChangeSpec := { name := "mergeNone", fn := fun _ => fun
  | [] => { results := [.lit (.bool false)], args := [] }
  | _ => none }
def MergeNoneWrongFalsely : Prop := mergeNoneRow.holds Try.pinned (OpenSpec.ofChange mergeNoneWrong)

/- THE SECOND FORM. 'bulk': how many values and letters a reading holds, each counted each time it is reached (what is shared counts as often as it is met; a slice's spare places count too). A statement '..UptoSaid' is the law's where the arguments, and the package variables that the reading takes, are together of bulk at most 1048576: NARROWER than '..Said'. Prove '..Said' where nothing that the law and all that it calls make is longer than what came in: it says more and counts as full. Else prove '..UptoSaid'. A law counts once. -/
mutual
def uptoBulk {H : Type} : DataW H → Nat
  | .lit (.string bytes) => bytes.length + 1
  | .lit _ => 1
  | .nil => 1
  | .ptr d => uptoBulk d + 1
  | .slice elems spare => uptoBulkAll elems + uptoBulkAll spare + 1
  | .agg parts => uptoBulkAll parts + 1
  | .iface _ d => uptoBulk d + 1
  | .map entries => uptoBulkEntries entries + 1
  | .held _ => 1
def uptoBulkAll {H : Type} : List (DataW H) → Nat
  | [] => 0
  | d :: r => uptoBulk d + uptoBulkAll r
def uptoBulkEntries {H : Type} : List (Lit × DataW H) → Nat
  | [] => 0
  | x :: r => uptoBulkEntry x + uptoBulkEntries r
def uptoBulkEntry {H : Type} : Lit × DataW H → Nat
  | (.string bytes, d) => bytes.length + uptoBulk d + 1
  | (_, d) => uptoBulk d + 1
 end
def uptoSmall : (H : Type) → List (DataW H) → Bool := fun _ ds => decide (uptoBulkAll ds ≤ 1048576)
def OpenSpec.upto (s : _root_.Go.ChangeSpec) : _root_.Go.OpenSpec := { _root_.Go.OpenSpec.ofChange s with cond := some uptoSmall }

/-- 'recensionlaw9.MergeQueue', WHERE WHAT IT READS IS OF BULK AT MOST 1048576: true; the input reads as it did. -/
def mergeQueueUptoRow : OpenClaim := { program := "yteikeoeidaaiaaa", sum := "5f6851e00736287d536d8c9a61838f9c2642a7be74dc0c601948add899927c32", func := "recension/recensionlaw9.MergeQueue", spec := "mergeQueue", unfollowed := true, recurses := true, apart := false, narrowed := true }
def MergeQueueUptoSaid : Prop := mergeQueueUptoRow.holds Try.pinned (OpenSpec.upto mergeQueueSpec)

/-- 'recensionlaw9.MergeAll', WHERE WHAT IT READS IS OF BULK AT MOST 1048576: true; the input reads as it did. -/
def mergeAllUptoRow : OpenClaim := { program := "yteikeoeidaaiaaa", sum := "5f6851e00736287d536d8c9a61838f9c2642a7be74dc0c601948add899927c32", func := "recension/recensionlaw9.MergeAll", spec := "mergeAll", unfollowed := true, recurses := true, apart := false, narrowed := true }
def MergeAllUptoSaid : Prop := mergeAllUptoRow.holds Try.pinned (OpenSpec.upto mergeAllSpec)

/-- 'recensionlaw9.MergeHands', WHERE WHAT IT READS IS OF BULK AT MOST 1048576: true; the input reads as it did. -/
def mergeHandsUptoRow : OpenClaim := { program := "yteikeoeidaaiaaa", sum := "5f6851e00736287d536d8c9a61838f9c2642a7be74dc0c601948add899927c32", func := "recension/recensionlaw9.MergeHands", spec := "mergeHands", unfollowed := true, recurses := true, apart := false, narrowed := true }
def MergeHandsUptoSaid : Prop := mergeHandsUptoRow.holds Try.pinned (OpenSpec.upto mergeHandsSpec)

/-- 'recensionlaw9.MergeNone', WHERE WHAT IT READS IS OF BULK AT MOST 1048576: true; the input reads as it did. -/
def mergeNoneUptoRow : OpenClaim := { program := "yteikeoeidaaiaaa", sum := "5f6851e00736287d536d8c9a61838f9c2642a7be74dc0c601948add899927c32", func := "recension/recensionlaw9.MergeNone", spec := "mergeNone", unfollowed := true, recurses := true, apart := false, narrowed := true }
def MergeNoneUptoSaid : Prop := mergeNoneUptoRow.holds Try.pinned (OpenSpec.upto mergeNoneSpec)

end Rows
end Go.Proofs.Yteikeoeidaaiaaa

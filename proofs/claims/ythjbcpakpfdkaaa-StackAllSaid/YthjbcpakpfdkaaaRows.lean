/-
  No cell of these rows narrows 'for every input' (looked for: loops, veiled, ifaces, maps, wideKeys, modest, calm, conditions, laid).
  DERIVED. THE GIVEN ROWS OF THIS SEAT. 6 by the template 'for every input the law returns true; each argument reads behind the call as it read before'; 0 by the template 'total and deterministic' (their statements: YthjbcpakpfdkaaaTotals.lean).
  GIVEN WITH THE SEED: the statements are not yours to turn. If you find one false, say at which input.
  Laid BY PROGRAM, IN A SANDBOX (cutbox-rows.mjs): the forced cells as the released guide's own fill.sh prints them over the translation 21d17a4c432b19e5… (all of the seat's roots in one cut). By AI agents, Wed Nov 11 2026. No macro, syntax, notation, axiom, sorry.
-/
import Derived.Test.YthjbcpakpfdkaaaChecked
import GoSem.Claim
import GoSem.ClaimJoined
import GoSem.ClaimMapViews
import Derived.JoinedTies
import Derived.KernelRfl
namespace Go.Proofs.Ythjbcpakpfdkaaa
/- THE CELL 'sum', in the pinned program and in every row, IS THE sha256 OF THE DUMP (.gsa) THAT YthjbcpakpfdkaaaProg.lean LOADS. Nothing in Lean hashes anything: it is a label: what it is worth is what the hold of that sum in a sandbox is worth. -/
noncomputable def Try.pinned : Pinned := { name := "ythjbcpakpfdkaaa", sum := "21d17a4c432b19e5deba49ff02a7c1592723567aaab806f67d1a1faa9f4598e2", checked := Try.checked }
namespace Rows
def none {H : Type} : Left H := { results := [], args := [] }

/-- 'recensionlaw25.StackAll': WHATEVER THE INPUT: true; the input reads as it did. -/
def stackAllSpec : ChangeSpec := { name := "stackAll", fn := fun _ => fun
  | [d] => { results := [.lit (.bool true)], args := [d] }
  | _ => none }
def stackAllRow : OpenClaim := { program := "ythjbcpakpfdkaaa", sum := "21d17a4c432b19e5deba49ff02a7c1592723567aaab806f67d1a1faa9f4598e2", func := "recension/recensionlaw25.StackAll", spec := "stackAll", apart := false }
def StackAllSaid : Prop := stackAllRow.holds Try.pinned (OpenSpec.ofChange stackAllSpec)

/-- ITS FALSE NEIGHBOUR: 'it returns false'. Refute it at one input. -/
def stackAllWrong : ChangeSpec := { name := "stackAll", fn := fun _ => fun
  | [d] => { results := [.lit (.bool false)], args := [d] }
  | _ => none }
def StackAllWrongFalsely : Prop := stackAllRow.holds Try.pinned (OpenSpec.ofChange stackAllWrong)

/-- 'recensionlaw25.StackAny': WHATEVER THE INPUT: true; the input reads as it did. -/
def stackAnySpec : ChangeSpec := { name := "stackAny", fn := fun _ => fun
  | [d1, d2, d3, d4] => { results := [.lit (.bool true)], args := [d1, d2, d3, d4] }
  | _ => none }
def stackAnyRow : OpenClaim := { program := "ythjbcpakpfdkaaa", sum := "21d17a4c432b19e5deba49ff02a7c1592723567aaab806f67d1a1faa9f4598e2", func := "recension/recensionlaw25.StackAny", spec := "stackAny", apart := false }
def StackAnySaid : Prop := stackAnyRow.holds Try.pinned (OpenSpec.ofChange stackAnySpec)

/-- ITS FALSE NEIGHBOUR: 'it returns false'. Refute it at one input. -/
def stackAnyWrong : ChangeSpec := { name := "stackAny", fn := fun _ => fun
  | [d1, d2, d3, d4] => { results := [.lit (.bool false)], args := [d1, d2, d3, d4] }
  | _ => none }
def StackAnyWrongFalsely : Prop := stackAnyRow.holds Try.pinned (OpenSpec.ofChange stackAnyWrong)

/-- 'recensionlaw25.StackFour': WHATEVER THE INPUT: true; the input reads as it did. -/
def stackFourSpec : ChangeSpec := { name := "stackFour", fn := fun _ => fun
  | [d] => { results := [.lit (.bool true)], args := [d] }
  | _ => none }
def stackFourRow : OpenClaim := { program := "ythjbcpakpfdkaaa", sum := "21d17a4c432b19e5deba49ff02a7c1592723567aaab806f67d1a1faa9f4598e2", func := "recension/recensionlaw25.StackFour", spec := "stackFour", apart := false }
def StackFourSaid : Prop := stackFourRow.holds Try.pinned (OpenSpec.ofChange stackFourSpec)

/-- ITS FALSE NEIGHBOUR: 'it returns false'. Refute it at one input. -/
def stackFourWrong : ChangeSpec := { name := "stackFour", fn := fun _ => fun
  | [d] => { results := [.lit (.bool false)], args := [d] }
  | _ => none }
def StackFourWrongFalsely : Prop := stackFourRow.holds Try.pinned (OpenSpec.ofChange stackFourWrong)

/-- 'recensionlaw25.StackClears': WHATEVER THE INPUT: true; the input reads as it did. -/
def stackClearsSpec : ChangeSpec := { name := "stackClears", fn := fun _ => fun
  | [d1, d2, d3] => { results := [.lit (.bool true)], args := [d1, d2, d3] }
  | _ => none }
def stackClearsRow : OpenClaim := { program := "ythjbcpakpfdkaaa", sum := "21d17a4c432b19e5deba49ff02a7c1592723567aaab806f67d1a1faa9f4598e2", func := "recension/recensionlaw25.StackClears", spec := "stackClears", apart := false }
def StackClearsSaid : Prop := stackClearsRow.holds Try.pinned (OpenSpec.ofChange stackClearsSpec)

/-- ITS FALSE NEIGHBOUR: 'it returns false'. Refute it at one input. -/
def stackClearsWrong : ChangeSpec := { name := "stackClears", fn := fun _ => fun
  | [d1, d2, d3] => { results := [.lit (.bool false)], args := [d1, d2, d3] }
  | _ => none }
def StackClearsWrongFalsely : Prop := stackClearsRow.holds Try.pinned (OpenSpec.ofChange stackClearsWrong)

/-- 'recensionlaw25.StackOwn': WHATEVER THE INPUT: true; the input reads as it did. -/
def stackOwnSpec : ChangeSpec := { name := "stackOwn", fn := fun _ => fun
  | [d1, d2] => { results := [.lit (.bool true)], args := [d1, d2] }
  | _ => none }
def stackOwnRow : OpenClaim := { program := "ythjbcpakpfdkaaa", sum := "21d17a4c432b19e5deba49ff02a7c1592723567aaab806f67d1a1faa9f4598e2", func := "recension/recensionlaw25.StackOwn", spec := "stackOwn", apart := false }
def StackOwnSaid : Prop := stackOwnRow.holds Try.pinned (OpenSpec.ofChange stackOwnSpec)

/-- ITS FALSE NEIGHBOUR: 'it returns false'. Refute it at one input. -/
def stackOwnWrong : ChangeSpec := { name := "stackOwn", fn := fun _ => fun
  | [d1, d2] => { results := [.lit (.bool false)], args := [d1, d2] }
  | _ => none }
def StackOwnWrongFalsely : Prop := stackOwnRow.holds Try.pinned (OpenSpec.ofChange stackOwnWrong)

/-- 'recensionlaw25.StackNone': WHATEVER THE INPUT: true; the input reads as it did. -/
def stackNoneSpec : ChangeSpec := { name := "stackNone", fn := fun _ => fun
  | [] => { results := [.lit (.bool true)], args := [] }
  | _ => none }
def stackNoneRow : OpenClaim := { program := "ythjbcpakpfdkaaa", sum := "21d17a4c432b19e5deba49ff02a7c1592723567aaab806f67d1a1faa9f4598e2", func := "recension/recensionlaw25.StackNone", spec := "stackNone", apart := false }
def StackNoneSaid : Prop := stackNoneRow.holds Try.pinned (OpenSpec.ofChange stackNoneSpec)

/-- ITS FALSE NEIGHBOUR: 'it returns false'. Refute it at one input. -/
def stackNoneWrong : ChangeSpec := { name := "stackNone", fn := fun _ => fun
  | [] => { results := [.lit (.bool false)], args := [] }
  | _ => none }
def StackNoneWrongFalsely : Prop := stackNoneRow.holds Try.pinned (OpenSpec.ofChange stackNoneWrong)

/- THE SECOND FORM. 'bulk': how many values and letters a reading holds, each counted each time it is reached (what is shared counts as often as it is met; a slice's spare places count too). A statement '..UptoSaid' is the law's where the arguments, and the package variables that the reading takes, are together of bulk at most 1048576: NARROWER than '..Said'. Prove '..Said' where nothing that the law and all that it calls make is longer than what came in: it says more and counts as full. Else prove '..UptoSaid'. A law counts once. -/
mutual
def uptoBulk {H : Type} : DataW H → Nat
  | .lit (.string bytes) => bytes.length + 1
  | .lit _ => 1
  | .nil => 1
  | .ptr d => uptoBulk d + 1
  | .slice elems spare => uptoBulkAll elems + uptoBulkAll spare + 1
  | .agg parts => uptoBulkAll parts + 1
  | .iface _ d => uptoBulk d + 1
  | .map entries => uptoBulkEntries entries + 1
  | .held _ => 1
def uptoBulkAll {H : Type} : List (DataW H) → Nat
  | [] => 0
  | d :: r => uptoBulk d + uptoBulkAll r
def uptoBulkEntries {H : Type} : List (Lit × DataW H) → Nat
  | [] => 0
  | x :: r => uptoBulkEntry x + uptoBulkEntries r
def uptoBulkEntry {H : Type} : Lit × DataW H → Nat
  | (.string bytes, d) => bytes.length + uptoBulk d + 1
  | (_, d) => uptoBulk d + 1
 end
def uptoSmall : (H : Type) → List (DataW H) → Bool := fun _ ds => decide (uptoBulkAll ds ≤ 1048576)
def OpenSpec.upto (s : _root_.Go.ChangeSpec) : _root_.Go.OpenSpec := { _root_.Go.OpenSpec.ofChange s with cond := some uptoSmall }

/-- 'recensionlaw25.StackAll', WHERE WHAT IT READS IS OF BULK AT MOST 1048576: true; the input reads as it did. -/
def stackAllUptoRow : OpenClaim := { program := "ythjbcpakpfdkaaa", sum := "21d17a4c432b19e5deba49ff02a7c1592723567aaab806f67d1a1faa9f4598e2", func := "recension/recensionlaw25.StackAll", spec := "stackAll", apart := false, narrowed := true }
def StackAllUptoSaid : Prop := stackAllUptoRow.holds Try.pinned (OpenSpec.upto stackAllSpec)

/-- 'recensionlaw25.StackAny', WHERE WHAT IT READS IS OF BULK AT MOST 1048576: true; the input reads as it did. -/
def stackAnyUptoRow : OpenClaim := { program := "ythjbcpakpfdkaaa", sum := "21d17a4c432b19e5deba49ff02a7c1592723567aaab806f67d1a1faa9f4598e2", func := "recension/recensionlaw25.StackAny", spec := "stackAny", apart := false, narrowed := true }
def StackAnyUptoSaid : Prop := stackAnyUptoRow.holds Try.pinned (OpenSpec.upto stackAnySpec)

/-- 'recensionlaw25.StackFour', WHERE WHAT IT READS IS OF BULK AT MOST 1048576: true; the input reads as it did. -/
def stackFourUptoRow : OpenClaim := { program := "ythjbcpakpfdkaaa", sum := "21d17a4c432b19e5deba49ff02a7c1592723567aaab806f67d1a1faa9f4598e2", func := "recension/recensionlaw25.StackFour", spec := "stackFour", apart := false, narrowed := true }
def StackFourUptoSaid : Prop := stackFourUptoRow.holds Try.pinned (OpenSpec.upto stackFourSpec)

/-- 'recensionlaw25.StackClears', WHERE WHAT IT READS IS OF BULK AT MOST 1048576: true; the input reads as it did. -/
def stackClearsUptoRow : OpenClaim := { program := "ythjbcpakpfdkaaa", sum := "21d17a4c432b19e5deba49ff02a7c1592723567aaab806f67d1a1faa9f4598e2", func := "recension/recensionlaw25.StackClears", spec := "stackClears", apart := false, narrowed := true }
def StackClearsUptoSaid : Prop := stackClearsUptoRow.holds Try.pinned (OpenSpec.upto stackClearsSpec)

/-- 'recensionlaw25.StackOwn', WHERE WHAT IT READS IS OF BULK AT MOST 1048576: true; the input reads as it did. -/
def stackOwnUptoRow : OpenClaim := { program := "ythjbcpakpfdkaaa", sum := "21d17a4c432b19e5deba49ff02a7c1592723567aaab806f67d1a1faa9f4598e2", func := "recension/recensionlaw25.StackOwn", spec := "stackOwn", apart := false, narrowed := true }
def StackOwnUptoSaid : Prop := stackOwnUptoRow.holds Try.pinned (OpenSpec.upto stackOwnSpec)

/-- 'recensionlaw25.StackNone', WHERE WHAT IT READS IS OF BULK AT MOST 1048576: true; the input reads as it did. -/
def stackNoneUptoRow : OpenClaim := { program := "ythjbcpakpfdkaaa", sum := "21d17a4c432b19e5deba49ff02a7c1592723567aaab806f67d1a1faa9f4598e2", func := "recension/recensionlaw25.StackNone", spec := "stackNone", apart := false, narrowed := true }
def StackNoneUptoSaid : Prop := stackNoneUptoRow.holds Try.pinned (OpenSpec.upto stackNoneSpec)

end Rows
end Go.Proofs.Ythjbcpakpfdkaaa

/-
  No cell of these rows narrows 'for every input' (looked for: loops, veiled, ifaces, maps, wideKeys, modest, calm, conditions, laid).
  DERIVED. THE GIVEN ROWS OF THIS SEAT. 3 by the template 'for every input the law returns true; each argument reads behind the call as it read before'; 0 by the template 'total and deterministic' (their statements: YtghcagmnhaphbaaTotals.lean).
  GIVEN WITH THE SEED: the statements are not yours to turn. If you find one false, say at which input.
  Laid BY PROGRAM, IN A SANDBOX (cutbox-rows.mjs): the forced cells as the released guide's own fill.sh prints them over the translation 5a1b6b2f42a611e2… (all of the seat's roots in one cut). By AI agents, Wed Nov 11 2026. No macro, syntax, notation, axiom, sorry.
-/
import Derived.Test.YtghcagmnhaphbaaChecked
import GoSem.Claim
import GoSem.ClaimJoined
import GoSem.ClaimMapViews
import Derived.JoinedTies
import Derived.KernelRfl
namespace Go.Proofs.Ytghcagmnhaphbaa
/- THE CELL 'sum', in the pinned program and in every row, IS THE sha256 OF THE DUMP (.gsa) THAT YtghcagmnhaphbaaProg.lean LOADS. Nothing in Lean hashes anything: it is a label: what it is worth is what the hold of that sum in a sandbox is worth. -/
noncomputable def Try.pinned : Pinned := { name := "ytghcagmnhaphbaa", sum := "5a1b6b2f42a611e2ed2405cf99bf73951ad4ec3862b7b90105f0ceacd232f91f", checked := Try.checked }
namespace Rows
def none {H : Type} : Left H := { results := [], args := [] }

/-- 'recensionlaw5.TokenAll': WHATEVER THE INPUT: true; the input reads as it did. -/
def tokenAllSpec : ChangeSpec := { name := "tokenAll", fn := fun _ => fun
  | [d1, d2, d3, d4] => { results := [.lit (.bool true)], args := [d1, d2, d3, d4] }
  | _ => none }
def tokenAllRow : OpenClaim := { program := "ytghcagmnhaphbaa", sum := "5a1b6b2f42a611e2ed2405cf99bf73951ad4ec3862b7b90105f0ceacd232f91f", func := "recension/recensionlaw5.TokenAll", spec := "tokenAll", apart := false }
def TokenAllSaid : Prop := tokenAllRow.holds Try.pinned (OpenSpec.ofChange tokenAllSpec)

/-- ITS FALSE NEIGHBOUR: 'it returns false'. Refute it at one input. -/
def tokenAllWrong : ChangeSpec := { name := "tokenAll", fn := fun _ => fun
  | [d1, d2, d3, d4] => { results := [.lit (.bool false)], args := [d1, d2, d3, d4] }
  | _ => none }
def TokenAllWrongFalsely : Prop := tokenAllRow.holds Try.pinned (OpenSpec.ofChange tokenAllWrong)

/-- 'recensionlaw5.TokenOps': WHATEVER THE INPUT: true; the input reads as it did. -/
def tokenOpsSpec : ChangeSpec := { name := "tokenOps", fn := fun _ => fun
  | [d1, d2, d3, d4] => { results := [.lit (.bool true)], args := [d1, d2, d3, d4] }
  | _ => none }
def tokenOpsRow : OpenClaim := { program := "ytghcagmnhaphbaa", sum := "5a1b6b2f42a611e2ed2405cf99bf73951ad4ec3862b7b90105f0ceacd232f91f", func := "recension/recensionlaw5.TokenOps", spec := "tokenOps", apart := false }
def TokenOpsSaid : Prop := tokenOpsRow.holds Try.pinned (OpenSpec.ofChange tokenOpsSpec)

/-- ITS FALSE NEIGHBOUR: 'it returns false'. Refute it at one input. -/
def tokenOpsWrong : ChangeSpec := { name := "tokenOps", fn := fun _ => fun
  | [d1, d2, d3, d4] => { results := [.lit (.bool false)], args := [d1, d2, d3, d4] }
  | _ => none }
def TokenOpsWrongFalsely : Prop := tokenOpsRow.holds Try.pinned (OpenSpec.ofChange tokenOpsWrong)

/-- 'recensionlaw5.TokenRanks': WHATEVER THE INPUT: true; the input reads as it did. -/
def tokenRanksSpec : ChangeSpec := { name := "tokenRanks", fn := fun _ => fun
  | [d] => { results := [.lit (.bool true)], args := [d] }
  | _ => none }
def tokenRanksRow : OpenClaim := { program := "ytghcagmnhaphbaa", sum := "5a1b6b2f42a611e2ed2405cf99bf73951ad4ec3862b7b90105f0ceacd232f91f", func := "recension/recensionlaw5.TokenRanks", spec := "tokenRanks", apart := false }
def TokenRanksSaid : Prop := tokenRanksRow.holds Try.pinned (OpenSpec.ofChange tokenRanksSpec)

/-- ITS FALSE NEIGHBOUR: 'it returns false'. Refute it at one input. -/
def tokenRanksWrong : ChangeSpec := { name := "tokenRanks", fn := fun _ => fun
  | [d] => { results := [.lit (.bool false)], args := [d] }
  | _ => none }
def TokenRanksWrongFalsely : Prop := tokenRanksRow.holds Try.pinned (OpenSpec.ofChange tokenRanksWrong)

/- THE SECOND FORM. 'bulk': how many values and letters a reading holds, each counted each time it is reached (what is shared counts as often as it is met; a slice's spare places count too). A statement '..UptoSaid' is the law's where the arguments, and the package variables that the reading takes, are together of bulk at most 1048576: NARROWER than '..Said'. Prove '..Said' where nothing that the law and all that it calls make is longer than what came in: it says more and counts as full. Else prove '..UptoSaid'. A law counts once. -/
mutual
def uptoBulk {H : Type} : DataW H → Nat
  | .lit (.string bytes) => bytes.length + 1
  | .lit _ => 1
  | .nil => 1
  | .ptr d => uptoBulk d + 1
  | .slice elems spare => uptoBulkAll elems + uptoBulkAll spare + 1
  | .agg parts => uptoBulkAll parts + 1
  | .iface _ d => uptoBulk d + 1
  | .map entries => uptoBulkEntries entries + 1
  | .held _ => 1
def uptoBulkAll {H : Type} : List (DataW H) → Nat
  | [] => 0
  | d :: r => uptoBulk d + uptoBulkAll r
def uptoBulkEntries {H : Type} : List (Lit × DataW H) → Nat
  | [] => 0
  | x :: r => uptoBulkEntry x + uptoBulkEntries r
def uptoBulkEntry {H : Type} : Lit × DataW H → Nat
  | (.string bytes, d) => bytes.length + uptoBulk d + 1
  | (_, d) => uptoBulk d + 1
 end
def uptoSmall : (H : Type) → List (DataW H) → Bool := fun _ ds => decide (uptoBulkAll ds ≤ 1048576)
def OpenSpec.upto (s : _root_.Go.ChangeSpec) : _root_.Go.OpenSpec := { _root_.Go.OpenSpec.ofChange s with cond := some uptoSmall }

/-- 'recensionlaw5.TokenAll', WHERE WHAT IT READS IS OF BULK AT MOST 1048576: true; the input reads as it did. -/
def tokenAllUptoRow : OpenClaim := { program := "ytghcagmnhaphbaa", sum := "5a1b6b2f42a611e2ed2405cf99bf73951ad4ec3862b7b90105f0ceacd232f91f", func := "recension/recensionlaw5.TokenAll", spec := "tokenAll", apart := false, narrowed := true }
def TokenAllUptoSaid : Prop := tokenAllUptoRow.holds Try.pinned (OpenSpec.upto tokenAllSpec)

/-- 'recensionlaw5.TokenOps', WHERE WHAT IT READS IS OF BULK AT MOST 1048576: true; the input reads as it did. -/
def tokenOpsUptoRow : OpenClaim := { program := "ytghcagmnhaphbaa", sum := "5a1b6b2f42a611e2ed2405cf99bf73951ad4ec3862b7b90105f0ceacd232f91f", func := "recension/recensionlaw5.TokenOps", spec := "tokenOps", apart := false, narrowed := true }
def TokenOpsUptoSaid : Prop := tokenOpsUptoRow.holds Try.pinned (OpenSpec.upto tokenOpsSpec)

/-- 'recensionlaw5.TokenRanks', WHERE WHAT IT READS IS OF BULK AT MOST 1048576: true; the input reads as it did. -/
def tokenRanksUptoRow : OpenClaim := { program := "ytghcagmnhaphbaa", sum := "5a1b6b2f42a611e2ed2405cf99bf73951ad4ec3862b7b90105f0ceacd232f91f", func := "recension/recensionlaw5.TokenRanks", spec := "tokenRanks", apart := false, narrowed := true }
def TokenRanksUptoSaid : Prop := tokenRanksUptoRow.holds Try.pinned (OpenSpec.upto tokenRanksSpec)

end Rows
end Go.Proofs.Ytghcagmnhaphbaa

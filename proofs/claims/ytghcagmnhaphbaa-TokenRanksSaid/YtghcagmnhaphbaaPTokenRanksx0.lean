-- Written by myprint.py (the prover's own turn of the printer); not trusted: Lean checks it.
import Derived.Test.YtghcagmnhaphbaaProg
import Derived.Below
import Derived.Deep.Draws
import Derived.Deep.AppendLies
import Derived.Maps.AppendAt
import Derived.OwnWalk
import Derived.Laws.BytesArg
import Derived.Laws.MakeOwn
import Derived.Laws.OwnMore
import Derived.Deep.OwnRows
import Derived.Tactics
import Derived.Lib.ConvBytes
import Derived.Laws.Slices
import Derived.WalkKit
import Derived.KernelRfl
import Derived.RowKit3
import Derived.Deep.LoopGhost
import Derived.Deep.QuietTactic
import Derived.BigQuiet
import Derived.WideLaws
import Derived.Deep.DeepCutAuto
import Derived.Deep.CutBlock
import Derived.Deep.RegionHeld3
import Derived.Laws.Rows
import Derived.Lib.AppendStr
import Derived.ArgAppend
import Derived.Laws.IdiomCopy
import Derived.OrdersHeld
import Derived.Laws.BitsLemmas
import Derived.RowKit
import Derived.Test.YtghcagmnhaphbaaWWords
import Derived.Test.YtghcagmnhaphbaaWLast
import Derived.Test.YtghcagmnhaphbaaWTab
import Derived.Test.YtghcagmnhaphbaaWFour
import Derived.Test.YtghcagmnhaphbaaWQPut
import Derived.Test.YtghcagmnhaphbaaWApart
import Derived.Test.YtghcagmnhaphbaaWArr
import Derived.Test.YtghcagmnhaphbaaWZeros
import Derived.Test.YtghcagmnhaphbaaWFoot
import Derived.Test.YtghcagmnhaphbaaWKept
import Derived.Test.YtghcagmnhaphbaaWShare
import Derived.Test.YtghcagmnhaphbaaWN
import Derived.Test.YtghcagmnhaphbaaWFootNe
import Derived.Test.YtghcagmnhaphbaaWAt
import Derived.Test.YtghcagmnhaphbaaWEqStruct
import Derived.Test.YtghcagmnhaphbaaWRepsOne
import Derived.Test.YtghcagmnhaphbaaWInv
import Derived.Test.YtghcagmnhaphbaaWInvWords
import Derived.Test.YtghcagmnhaphbaaWGuard
import Derived.Test.YtghcagmnhaphbaaWNEv
import Derived.Test.YtghcagmnhaphbaaWMore
import Derived.Test.YtghcagmnhaphbaaWMy
namespace Go.Proofs.Ytghcagmnhaphbaa.PTokenRanks
open Go.RowKit Go.Proofs.YtghcagmnhaphbaaW.PrintWords Go.Proofs.YtghcagmnhaphbaaW.PrintLast Go.Proofs.YtghcagmnhaphbaaW.PrintMore
attribute [local go_sem] max2_int min2_int max_two min_two max_three min_three max_four min_four   -- for this text's walks alone
set_option linter.unusedVariables false
set_option linter.unusedSimpArgs false



def errW : Option Int → Value
 | none => .nilIface
 | some c => .iface 0 (.int .i64 c)
theorem errW_none : errW none = .nilIface := rfl
theorem errW_some (c : Int) : errW (some c) = .iface 0 (.int .i64 c) := rfl

theorem info9 : (Try.prog.info? 9).map (fun i => (i.zero, i.size, i.bytes)) = some (some (.string ⟨#[]⟩), 1, 16) := by kernel_rfl
-- the values' own types

end Go.Proofs.Ytghcagmnhaphbaa.PTokenRanks

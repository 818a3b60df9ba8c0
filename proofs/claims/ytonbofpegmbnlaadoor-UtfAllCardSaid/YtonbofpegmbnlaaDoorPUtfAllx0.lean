-- Written by myprint.py (the prover's own turn of the printer); not trusted: Lean checks it.
import Derived.Test.YtonbofpegmbnlaaDoorProg
import Derived.Lib.Bytealg
import Derived.Lib.Strings
import Derived.Lib.Walk
import Derived.Laws.Externs
import Derived.Below
import Derived.Deep.Draws
import Derived.Deep.AppendLies
import Derived.Maps.AppendAt
import Derived.OwnWalk
import Derived.Laws.BytesArg
import Derived.Laws.MakeOwn
import Derived.Laws.OwnMore
import Derived.Deep.OwnRows
import Derived.Tactics
import Derived.Lib.ConvBytes
import Derived.Laws.Slices
import Derived.WalkKit
import Derived.KernelRfl
import Derived.RowKit3
import Derived.Deep.LoopGhost
import Derived.Deep.QuietTactic
import Derived.BigQuiet
import Derived.WideLaws
import Derived.Deep.DeepCutAuto
import Derived.Deep.CutBlock
import Derived.Deep.RegionHeld3
import Derived.Laws.Rows
import Derived.Lib.AppendStr
import Derived.ArgAppend
import Derived.Laws.IdiomCopy
import Derived.OrdersHeld
import Derived.Laws.BitsLemmas
import Derived.RowKit
import Derived.Test.YtonbofpegmbnlaaDoorWWords
import Derived.Test.YtonbofpegmbnlaaDoorWLast
import Derived.Test.YtonbofpegmbnlaaDoorWTab
import Derived.Test.YtonbofpegmbnlaaDoorWFour
import Derived.Test.YtonbofpegmbnlaaDoorWQPut
import Derived.Test.YtonbofpegmbnlaaDoorWApart
import Derived.Test.YtonbofpegmbnlaaDoorWArr
import Derived.Test.YtonbofpegmbnlaaDoorWZeros
import Derived.Test.YtonbofpegmbnlaaDoorWFoot
import Derived.Test.YtonbofpegmbnlaaDoorWKept
import Derived.Test.YtonbofpegmbnlaaDoorWShare
import Derived.Test.YtonbofpegmbnlaaDoorWN
import Derived.Test.YtonbofpegmbnlaaDoorWFootNe
import Derived.Test.YtonbofpegmbnlaaDoorWAt
import Derived.Test.YtonbofpegmbnlaaDoorWEqStruct
import Derived.Test.YtonbofpegmbnlaaDoorWRepsOne
import Derived.Test.YtonbofpegmbnlaaDoorWInv
import Derived.Test.YtonbofpegmbnlaaDoorWInvWords
import Derived.Test.YtonbofpegmbnlaaDoorWGuard
import Derived.Test.YtonbofpegmbnlaaDoorWNEv
import Derived.Test.YtonbofpegmbnlaaDoorWMore
import Derived.Test.YtonbofpegmbnlaaDoorWMy
import Derived.Test.YtonbofpegmbnlaaDoorWRead
import Derived.Test.YtonbofpegmbnlaaDoorWShelf
import Derived.Test.YtonbofpegmbnlaaDoorWTabs
namespace Go.Proofs.YtonbofpegmbnlaaDoor.PUtfAll
open Go.RowKit Go.Proofs.YtonbofpegmbnlaaDoorW.PrintWords Go.Proofs.YtonbofpegmbnlaaDoorW.PrintLast Go.Proofs.YtonbofpegmbnlaaDoorW.PrintMore
attribute [local go_sem] max2_int min2_int max_two min_two max_three min_three max_four min_four   -- for this text's walks alone
set_option linter.unusedVariables false
set_option linter.unusedSimpArgs false



def errW : Option Int → Value
 | none => .nilIface
 | some c => .iface 0 (.int .i64 c)
theorem errW_none : errW none = .nilIface := rfl
theorem errW_some (c : Int) : errW (some c) = .iface 0 (.int .i64 c) := rfl

-- the values' own types

end Go.Proofs.YtonbofpegmbnlaaDoor.PUtfAll

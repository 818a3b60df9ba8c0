/- Where there is no queue nothing is kept and nothing comes of it; of no lists there come no edits. Condition: none beside the statement's own. -/
import Derived.Test.YteikeoeidaaiaaaPMergex0
import Derived.Test.YteikeoeidaaiaaaPMergex1
import Derived.Test.YteikeoeidaaiaaaPMergex2
import Derived.Test.YteikeoeidaaiaaaPMergex3
namespace Go.Proofs.Yteikeoeidaaiaaa.Pure
open Go.RowKit Go.Proofs.Yteikeoeidaaiaaa.PMerge Go.Proofs.YteikeoeidaaiaaaW.PrintWords Go.Proofs.YteikeoeidaaiaaaW.PrintLast Go.Proofs.YteikeoeidaaiaaaW.PrintMore
theorem MergeNone : recensionlaw9_MergeNone.Pure := ⟨0, rfl⟩

end Go.Proofs.Yteikeoeidaaiaaa.Pure

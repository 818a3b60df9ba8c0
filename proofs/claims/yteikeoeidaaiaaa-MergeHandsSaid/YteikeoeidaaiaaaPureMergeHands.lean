/- However edits that may be are dealt out among hands, all together they are what they were. Condition: none beside the statement's own. -/
import Derived.Test.YteikeoeidaaiaaaPMergex0
import Derived.Test.YteikeoeidaaiaaaPMergex1
import Derived.Test.YteikeoeidaaiaaaPMergex2
import Derived.Test.YteikeoeidaaiaaaPMergex3
import Derived.Test.YteikeoeidaaiaaaPMergex4
import Derived.Test.YteikeoeidaaiaaaPMergex5
namespace Go.Proofs.Yteikeoeidaaiaaa.Pure
open Go.RowKit Go.Proofs.Yteikeoeidaaiaaa.PMerge Go.Proofs.YteikeoeidaaiaaaW.PrintWords Go.Proofs.YteikeoeidaaiaaaW.PrintLast Go.Proofs.YteikeoeidaaiaaaW.PrintMore
theorem MergeHands : recensionlaw9_MergeHands.Pure := fun _ _ _ _ _ _ => ⟨0, rfl⟩

end Go.Proofs.Yteikeoeidaaiaaa.Pure

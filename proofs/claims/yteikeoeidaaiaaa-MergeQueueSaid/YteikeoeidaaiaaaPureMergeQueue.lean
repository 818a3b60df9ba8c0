/- Edits come and go, always the first one of those that are there, for up to forty edits. Condition: none beside the statement's own. -/
import Derived.Test.YteikeoeidaaiaaaPMergex0
import Derived.Test.YteikeoeidaaiaaaPMergex1
import Derived.Test.YteikeoeidaaiaaaPMergex2
import Derived.Test.YteikeoeidaaiaaaPMergex3
import Derived.Test.YteikeoeidaaiaaaPMergex4
import Derived.Test.YteikeoeidaaiaaaPMergex5
import Derived.Test.YteikeoeidaaiaaaPMergex6
namespace Go.Proofs.Yteikeoeidaaiaaa.Pure
open Go.RowKit Go.Proofs.Yteikeoeidaaiaaa.PMerge Go.Proofs.YteikeoeidaaiaaaW.PrintWords Go.Proofs.YteikeoeidaaiaaaW.PrintLast Go.Proofs.YteikeoeidaaiaaaW.PrintMore
theorem MergeQueue : recensionlaw9_MergeQueue.Pure := fun _ _ _ _ => ⟨0, rfl⟩

end Go.Proofs.Yteikeoeidaaiaaa.Pure

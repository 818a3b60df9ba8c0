/- Words of my own beside the printed ones: a string appended to a row of bytes, told as a row that may be anybody's, in the text's order and as one step of a region that draws. -/
import Derived.Test.YtghcagmnhaphbaaWMore
namespace Go.Proofs.YtghcagmnhaphbaaW.PrintWords
open Go.RowKit
namespace Kd
section
variable {P : Program} {ops : Array Oper} {rest : List Oper} {o : Oper} {a : Act} {Q : Exit → Act → World → Prop} {Kc : Act → World → Prop}
end
end Kd
end Go.Proofs.YtghcagmnhaphbaaW.PrintWords

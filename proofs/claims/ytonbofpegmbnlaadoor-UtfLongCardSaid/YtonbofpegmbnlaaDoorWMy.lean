/- Words of my own beside the printed ones: a string appended to a row of bytes, told as a row that may be anybody's, in the text's order and as one step of a region that draws. -/
import Derived.Test.YtonbofpegmbnlaaDoorWMore
namespace Go.Proofs.YtonbofpegmbnlaaDoorW.PrintWords
open Go.RowKit
namespace Kd
section
variable {P : Program} {ops : Array Oper} {rest : List Oper} {o : Oper} {a : Act} {Q : Exit → Act → World → Prop} {Kc : Act → World → Prop}
end
end Kd
theorem wrap64_wl (x y : Int) : Go.RowKit.wrap64 (Go.RowKit.wrap64 x + y) = Go.RowKit.wrap64 (x + y) := by unfold Go.RowKit.wrap64; omega
theorem wrap64_wr (x y : Int) : Go.RowKit.wrap64 (x + Go.RowKit.wrap64 y) = Go.RowKit.wrap64 (x + y) := by unfold Go.RowKit.wrap64; omega
end Go.Proofs.YtonbofpegmbnlaaDoorW.PrintWords

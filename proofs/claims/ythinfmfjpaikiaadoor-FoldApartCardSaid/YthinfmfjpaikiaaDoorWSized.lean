import Derived.SizedLaws
import Derived.ChangeSlices
namespace Go.Proofs.YthinfmfjpaikiaaDoorW.PrintWords
open Go.ChangeShapes Go.WideShapes
end Go.Proofs.YthinfmfjpaikiaaDoorW.PrintWords

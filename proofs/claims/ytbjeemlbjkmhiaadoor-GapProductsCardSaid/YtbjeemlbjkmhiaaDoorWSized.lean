import Derived.SizedLaws
import Derived.ChangeSlices
namespace Go.Proofs.YtbjeemlbjkmhiaaDoorW.PrintWords
open Go.ChangeShapes Go.WideShapes
end Go.Proofs.YtbjeemlbjkmhiaaDoorW.PrintWords

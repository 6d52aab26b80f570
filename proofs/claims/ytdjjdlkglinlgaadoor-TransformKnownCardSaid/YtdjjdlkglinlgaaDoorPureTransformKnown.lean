/- The examples and limits of the transform. -/
import Derived.Test.YtdjjdlkglinlgaaDoorSpecW
import Derived.Test.YtdjjdlkglinlgaaDoorQ11
namespace Go.Proofs.YtdjjdlkglinlgaaDoor.Pure
open Go.RowKit Go.Proofs.YtdjjdlkglinlgaaDoor.Q
set_option maxRecDepth 100000 in
theorem TransformKnown : attestorlaw04_TransformKnown.Pure := ⟨80, by decide +kernel⟩
end Go.Proofs.YtdjjdlkglinlgaaDoor.Pure

/- The examples and limits of the chapter: evaluated. -/
import Derived.Test.YthinfmfjpaikiaaDoorEv
import Derived.Test.YthinfmfjpaikiaaDoorQ15
namespace Go.Proofs.YthinfmfjpaikiaaDoor.Pure
open Go.RowKit Go.Proofs.YthinfmfjpaikiaaDoor.Q Go.Proofs.YthinfmfjpaikiaaDoorW.PrintWords Go.Proofs.YthinfmfjpaikiaaDoorW.PrintLast Go.Proofs.YthinfmfjpaikiaaDoorW.PrintMore
set_option maxRecDepth 100000 in
theorem known_100 : attestorlaw09_FoldKnown.f 100 = some true := by kernel_rfl
theorem FoldKnown : attestorlaw09_FoldKnown.Pure := ⟨100, known_100⟩
end Go.Proofs.YthinfmfjpaikiaaDoor.Pure

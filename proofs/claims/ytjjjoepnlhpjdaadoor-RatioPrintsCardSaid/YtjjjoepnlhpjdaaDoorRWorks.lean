/- The chapter's examples: evaluated. -/
import Derived.Test.YtjjjoepnlhpjdaaDoorEv
import Derived.Test.YtjjjoepnlhpjdaaDoorQ4
namespace Go.Proofs.YtjjjoepnlhpjdaaDoor.Pure
open Go.RowKit Go.Proofs.YtjjjoepnlhpjdaaDoor.Q Go.Proofs.YtjjjoepnlhpjdaaDoorW.PrintWords Go.Proofs.YtjjjoepnlhpjdaaDoorW.PrintLast Go.Proofs.YtjjjoepnlhpjdaaDoorW.PrintMore
set_option maxRecDepth 100000 in
theorem works_60 : attestorlaw02_works.f 60 = some true := by kernel_rfl
theorem s_works : Ev (fun k => attestorlaw02_works.f k) true := Ev.of_mono (fun k => attestorlaw02_works.mono k) works_60
end Go.Proofs.YtjjjoepnlhpjdaaDoor.Pure

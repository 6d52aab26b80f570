/- The chapter's examples and the cut of a list: what every law of the polynomials leans on. -/
import Derived.Test.YtdjjdlkglinlgaaDoorEv
import Derived.KernelRfl
import Derived.Test.YtdjjdlkglinlgaaDoorQ2
import Derived.Test.YtdjjdlkglinlgaaDoorQ4
namespace Go.Proofs.YtdjjdlkglinlgaaDoor.Pure
open Go.RowKit Go.Proofs.YtdjjdlkglinlgaaDoor.Q Go.Proofs.YtdjjdlkglinlgaaDoor.Num Go.Proofs.YtdjjdlkglinlgaaDoor.Pol Go.Proofs.YtdjjdlkglinlgaaDoorW.PrintWords Go.Proofs.YtdjjdlkglinlgaaDoorW.PrintLast Go.Proofs.YtdjjdlkglinlgaaDoorW.PrintMore
theorem works60 : attestorlaw04_works.f 60 = some true := by decide +kernel
theorem s_works : Ev (fun k => attestorlaw04_works.f k) true := Ev.of_mono attestorlaw04_works.mono works60
end Go.Proofs.YtdjjdlkglinlgaaDoor.Pure

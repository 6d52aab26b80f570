/- What the reference's functions of the polynomials answer. -/
import Derived.Test.YtdjjdlkglinlgaaDoorSpecL
import Derived.Test.YtdjjdlkglinlgaaDoorSpecFR
import Derived.Test.YtdjjdlkglinlgaaDoorQ1
import Derived.Test.YtdjjdlkglinlgaaDoorQ5
import Derived.Test.YtdjjdlkglinlgaaDoorQ8
namespace Go.Proofs.YtdjjdlkglinlgaaDoor.Pure
open Go.RowKit Go.Proofs.YtdjjdlkglinlgaaDoor.Q Go.Proofs.YtdjjdlkglinlgaaDoor.Num Go.Proofs.YtdjjdlkglinlgaaDoor.Pol Go.Proofs.YtdjjdlkglinlgaaDoorW.PrintWords Go.Proofs.YtdjjdlkglinlgaaDoorW.PrintLast Go.Proofs.YtdjjdlkglinlgaaDoorW.PrintMore

section any
variable {f : Int} {p : Nat} (h : FO f p)
include h
end any
section good
variable {f : Int} {p : Nat} (h : FP f p)
include h
end good
end Go.Proofs.YtdjjdlkglinlgaaDoor.Pure

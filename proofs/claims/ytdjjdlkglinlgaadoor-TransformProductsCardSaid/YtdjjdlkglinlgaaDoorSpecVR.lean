/- What the reference's Values, Coefficients and Widen answer. -/
import Derived.Test.YtdjjdlkglinlgaaDoorSpecV
import Derived.Test.YtdjjdlkglinlgaaDoorSpecR
import Derived.Test.YtdjjdlkglinlgaaDoorQ1
import Derived.Test.YtdjjdlkglinlgaaDoorQ5
import Derived.Test.YtdjjdlkglinlgaaDoorQ7
namespace Go.Proofs.YtdjjdlkglinlgaaDoor.Pure
open Go.RowKit Go.Proofs.YtdjjdlkglinlgaaDoor.Q Go.Proofs.YtdjjdlkglinlgaaDoor.Num Go.Proofs.YtdjjdlkglinlgaaDoor.Pol Go.Proofs.YtdjjdlkglinlgaaDoorW.PrintWords Go.Proofs.YtdjjdlkglinlgaaDoorW.PrintLast Go.Proofs.YtdjjdlkglinlgaaDoorW.PrintMore

/-! ### The exponent of a power of two -/
section bad
variable {f : Int} (h : f < 0 ∨ 4 ≤ f)
include h
end bad
section good
variable {f : Int} {p : Nat} (h : FP f p)
include h
/-! ### Coefficients -/
/-! ### Widen -/
end good
end Go.Proofs.YtdjjdlkglinlgaaDoor.Pure

-- Written by prx.py (this session's driver of the kit's print) out of the translation. Not trusted: Lean checks it.
import Derived.Test.YtdjjdlkglinlgaaDoorQ0
import Derived.Test.YtdjjdlkglinlgaaDoorQ1
import Derived.Test.YtdjjdlkglinlgaaDoorQ2
import Derived.Test.YtdjjdlkglinlgaaDoorQ3
import Derived.Test.YtdjjdlkglinlgaaDoorQ4
import Derived.Test.YtdjjdlkglinlgaaDoorQ5
namespace Go.Proofs.YtdjjdlkglinlgaaDoor.Q
open Go.RowKit Go.Proofs.YtdjjdlkglinlgaaDoorW.PrintWords Go.Proofs.YtdjjdlkglinlgaaDoorW.PrintLast Go.Proofs.YtdjjdlkglinlgaaDoorW.PrintMore
attribute [local go_sem] max2_int min2_int max_two min_two max_three min_three max_four min_four   -- for this text's walks alone
set_option linter.unusedVariables false
set_option linter.unusedSimpArgs false

/-! ### attestorref04_Bits: function 46 -/
/-! ### attestorref01_Inv: function 47 -/
/-! ### attestorref01_Div: function 51 -/
/-! ### attestorref04_Coefficients: function 17 -/
/-! ### attestorref04_Widen: function 19 -/
/-! ### attestorlaw04_TransformBack: function 4 -/
end Go.Proofs.YtdjjdlkglinlgaaDoor.Q

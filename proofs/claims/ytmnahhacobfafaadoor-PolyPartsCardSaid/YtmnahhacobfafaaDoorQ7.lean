-- Written by prx.py (this session's driver of the kit's print) out of the translation. Not trusted: Lean checks it.
import Derived.Test.YtmnahhacobfafaaDoorQ0
import Derived.Test.YtmnahhacobfafaaDoorQ1
import Derived.Test.YtmnahhacobfafaaDoorQ2
import Derived.Test.YtmnahhacobfafaaDoorQ3
import Derived.Test.YtmnahhacobfafaaDoorQ4
import Derived.Test.YtmnahhacobfafaaDoorQ5
import Derived.Test.YtmnahhacobfafaaDoorQ6
namespace Go.Proofs.YtmnahhacobfafaaDoor.Q
open Go.RowKit Go.Proofs.YtmnahhacobfafaaDoorW.PrintWords Go.Proofs.YtmnahhacobfafaaDoorW.PrintLast Go.Proofs.YtmnahhacobfafaaDoorW.PrintMore
attribute [local go_sem] max2_int min2_int max_two min_two max_three min_three max_four min_four   -- for this text's walks alone
set_option linter.unusedVariables false
set_option linter.unusedSimpArgs false

/-! ### attestorref03_Vanish: function 15 -/
/-! ### attestorref03_Through: function 13 -/
/-! ### attestorlaw03_PolyThroughs: function 3 -/
end Go.Proofs.YtmnahhacobfafaaDoor.Q

-- Written by prx.py (this session's driver of the kit's print) out of the translation. Not trusted: Lean checks it.
import Derived.Test.YtjjjoepnlhpjdaaDoorQ0
import Derived.Test.YtjjjoepnlhpjdaaDoorQ1
import Derived.Test.YtjjjoepnlhpjdaaDoorQ2
import Derived.Test.YtjjjoepnlhpjdaaDoorQ4
import Derived.Test.YtjjjoepnlhpjdaaDoorQ19
import Derived.Test.YtjjjoepnlhpjdaaDoorQ21
import Derived.Test.YtjjjoepnlhpjdaaDoorQ22
namespace Go.Proofs.YtjjjoepnlhpjdaaDoor.Q
open Go.RowKit Go.Proofs.YtjjjoepnlhpjdaaDoorW.PrintWords Go.Proofs.YtjjjoepnlhpjdaaDoorW.PrintLast Go.Proofs.YtjjjoepnlhpjdaaDoorW.PrintMore
attribute [local go_sem] max2_int min2_int max_two min_two max_three min_three max_four min_four   -- for this text's walks alone
set_option linter.unusedVariables false
set_option linter.unusedSimpArgs false

/-! ### attestorref02_Nat: function 17 -/
/-! ### attestorref02_natural: function 61 -/
/-! ### attestorref02_Parse: function 12 -/
/-! ### attestorref02_Read: function 14 -/
/-! ### attestorlaw02_RatioTexts: function 3 -/
end Go.Proofs.YtjjjoepnlhpjdaaDoor.Q

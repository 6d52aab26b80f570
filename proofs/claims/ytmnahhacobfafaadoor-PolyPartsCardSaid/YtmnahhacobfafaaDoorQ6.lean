-- Written by prx.py (this session's driver of the kit's print) out of the translation. Not trusted: Lean checks it.
import Derived.Test.YtmnahhacobfafaaDoorQ0
import Derived.Test.YtmnahhacobfafaaDoorQ5
namespace Go.Proofs.YtmnahhacobfafaaDoor.Q
open Go.RowKit Go.Proofs.YtmnahhacobfafaaDoorW.PrintWords Go.Proofs.YtmnahhacobfafaaDoorW.PrintLast Go.Proofs.YtmnahhacobfafaaDoorW.PrintMore
attribute [local go_sem] max2_int min2_int max_two min_two max_three min_three max_four min_four   -- for this text's walks alone
set_option linter.unusedVariables false
set_option linter.unusedSimpArgs false

/-! ### attestorref01_Add: function 60 -/
/-! ### attestorref01_Mul: function 62 -/
/-! ### attestorref03_Mul: function 37 -/
/-! ### attestorref01_Sub: function 52 -/
/-! ### attestorref01_Neg: function 54 -/
/-! ### attestorref03_coefficient: function 61 -/
/-! ### attestorref03_Add: function 29 -/
/-! ### attestorref03_Scale: function 33 -/
/-! ### attestorref03_Eval: function 34 -/
/-! ### attestorref01_Pow: function 63 -/
/-! ### attestorref01_Inv: function 66 -/
/-! ### attestorref01_Div: function 53 -/
end Go.Proofs.YtmnahhacobfafaaDoor.Q

-- Written by prx.py (this session's driver of the kit's print) out of the translation. Not trusted: Lean checks it.
import Derived.Test.YtedapdagagkajaaDoorQ0
import Derived.Test.YtedapdagagkajaaDoorQ7
import Derived.Test.YtedapdagagkajaaDoorQ13
namespace Go.Proofs.YtedapdagagkajaaDoor.Q
open Go.RowKit Go.Proofs.YtedapdagagkajaaDoorW.PrintWords Go.Proofs.YtedapdagagkajaaDoorW.PrintLast Go.Proofs.YtedapdagagkajaaDoorW.PrintMore
attribute [local go_sem] max2_int min2_int max_two min_two max_three min_three max_four min_four   -- for this text's walks alone
set_option linter.unusedVariables false
set_option linter.unusedSimpArgs false

/-! ### attestorref01_Sub: function 95 -/
/-! ### attestorref03_Mul: function 109 -/
/-! ### attestorref01_Neg: function 110 -/
/-! ### attestorref03_Vanish: function 96 -/
/-! ### attestorref03_coefficient: function 111 -/
/-! ### attestorref03_Add: function 97 -/
/-! ### attestorref03_Scale: function 98 -/
/-! ### attestorref03_Through: function 66 -/
end Go.Proofs.YtedapdagagkajaaDoor.Q

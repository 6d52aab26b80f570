-- Written by prx.py (this session's driver of the kit's print) out of the translation. Not trusted: Lean checks it.
import Derived.Test.YtdjjdlkglinlgaaDoorQ0
namespace Go.Proofs.YtdjjdlkglinlgaaDoor.Q
open Go.RowKit Go.Proofs.YtdjjdlkglinlgaaDoorW.PrintWords Go.Proofs.YtdjjdlkglinlgaaDoorW.PrintLast Go.Proofs.YtdjjdlkglinlgaaDoorW.PrintMore
attribute [local go_sem] max2_int min2_int max_two min_two max_three min_three max_four min_four   -- for this text's walks alone
set_option linter.unusedVariables false
set_option linter.unusedSimpArgs false

/-! ### attestorref01_Twos: function 34 -/
/-! ### attestorref04_Greatest: function 10 -/
/-! ### attestorref01_Valid: function 39 -/
/-! ### attestorref01_P: function 66 -/
/-! ### attestorref01_Reduce: function 40 -/
/-! ### attestorref03_Normal: function 41 -/
/-! ### attestorref01_Add: function 48 -/
/-! ### attestorref01_Mul: function 49 -/
/-! ### attestorref01_Same: function 14 -/
end Go.Proofs.YtdjjdlkglinlgaaDoor.Q

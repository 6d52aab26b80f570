-- Written by prx.py (this session's driver of the kit's print) out of the translation. Not trusted: Lean checks it.
import Derived.Test.YthinfmfjpaikiaaDoorQ0
import Derived.Test.YthinfmfjpaikiaaDoorQ2
import Derived.Test.YthinfmfjpaikiaaDoorQ3
import Derived.Test.YthinfmfjpaikiaaDoorQ7
import Derived.Test.YthinfmfjpaikiaaDoorQ11
import Derived.Test.YthinfmfjpaikiaaDoorQ14
namespace Go.Proofs.YthinfmfjpaikiaaDoor.Q
open Go.RowKit Go.Proofs.YthinfmfjpaikiaaDoorW.PrintWords Go.Proofs.YthinfmfjpaikiaaDoorW.PrintLast Go.Proofs.YthinfmfjpaikiaaDoorW.PrintMore
attribute [local go_sem] max2_int min2_int max_two min_two max_three min_three max_four min_four   -- for this text's walks alone
set_option linter.unusedVariables false
set_option linter.unusedSimpArgs false

/-! ### poly_trim: function 62 -/
/-! ### poly_Split: function 37 -/
/-! ### poly_Normal: function 64 -/
/-! ### poly_Add_yes: function 39 -/
/-! ### poly_Add_no: function 39 -/
/-! ### poly_Add: function 39 -/
/-! ### poly_Scale: function 40 -/
/-! ### poly_Degree: function 42 -/
/-! ### code_IsWord: function 43 -/
/-! ### attestorlaw09_FoldPolys: function 9 -/
end Go.Proofs.YthinfmfjpaikiaaDoor.Q

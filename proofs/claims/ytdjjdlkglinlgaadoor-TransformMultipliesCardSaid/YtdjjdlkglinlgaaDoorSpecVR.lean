/- What the reference's Values, Coefficients and Widen answer. -/
import Derived.Test.YtdjjdlkglinlgaaDoorSpecV
import Derived.Test.YtdjjdlkglinlgaaDoorSpecR
import Derived.Test.YtdjjdlkglinlgaaDoorQ1
import Derived.Test.YtdjjdlkglinlgaaDoorQ5
import Derived.Test.YtdjjdlkglinlgaaDoorQ7
namespace Go.Proofs.YtdjjdlkglinlgaaDoor.Pure
open Go.RowKit Go.Proofs.YtdjjdlkglinlgaaDoor.Q Go.Proofs.YtdjjdlkglinlgaaDoor.Num Go.Proofs.YtdjjdlkglinlgaaDoor.Pol Go.Proofs.YtdjjdlkglinlgaaDoorW.PrintWords Go.Proofs.YtdjjdlkglinlgaaDoorW.PrintLast Go.Proofs.YtdjjdlkglinlgaaDoorW.PrintMore

theorem r_Twos (f : Int) : attestorref01_Twos.f f = some (tOf f) := by
  unfold attestorref01_Twos.f tOf
  by_cases h0 : f = 0
  · rw [if_pos h0, if_pos h0]
  · by_cases h1 : f = 1
    · rw [if_neg h0, if_neg h0, if_pos h1, if_pos h1]
    · by_cases h2 : f = 2
      · rw [if_neg h0, if_neg h0, if_neg h1, if_neg h1, if_pos h2, if_pos h2]
      · by_cases h3 : f = 3
        · rw [if_neg h0, if_neg h0, if_neg h1, if_neg h1, if_neg h2, if_neg h2, if_pos h3, if_pos h3]
        · rw [if_neg h0, if_neg h0, if_neg h1, if_neg h1, if_neg h2, if_neg h2, if_neg h3, if_neg h3]
theorem r_gr (f : Int) : attestorref04_Greatest.f f = some (gr f) := by rw [attestorref04_Greatest.f, r_Twos, Option.bind_some]; rfl
theorem rshl_tab : ((List.range 31).all fun k => shl .i64 1 (IntKind.u64.wrap ((k : Nat) : Int)) == ((2 ^ k : Nat) : Int)) = true := by decide +kernel
/-! ### The exponent of a power of two -/
theorem rs_shl {k : Nat} (hk : k ≤ 30) : shl .i64 1 (IntKind.u64.wrap (k : Int)) = ((2 ^ k : Nat) : Int) := beq_iff_eq.1 (List.all_eq_true.1 rshl_tab k (List.mem_range.2 (by omega)))
section bad
variable {f : Int} (h : f < 0 ∨ 4 ≤ f)
include h
end bad
section good
variable {f : Int} {p : Nat} (h : FP f p)
include h
/-! ### Coefficients -/
/-! ### Widen -/
end good
end Go.Proofs.YtdjjdlkglinlgaaDoor.Pure

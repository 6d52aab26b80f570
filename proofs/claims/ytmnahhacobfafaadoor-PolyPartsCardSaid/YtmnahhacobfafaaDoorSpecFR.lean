/- What the reference's functions of the fields answer. -/
import Derived.Test.YtmnahhacobfafaaDoorSpecF
import Derived.Test.YtmnahhacobfafaaDoorQ5
import Derived.Test.YtmnahhacobfafaaDoorQ6
namespace Go.Proofs.YtmnahhacobfafaaDoor.Pure
open Go.RowKit Go.Proofs.YtmnahhacobfafaaDoor.Q Go.Proofs.YtmnahhacobfafaaDoor.Num Go.Proofs.YtmnahhacobfafaaDoor.Pol Go.Proofs.YtmnahhacobfafaaDoorW.PrintWords Go.Proofs.YtmnahhacobfafaaDoorW.PrintLast Go.Proofs.YtmnahhacobfafaaDoorW.PrintMore

theorem FP.eqr {f : Int} {p : Nat} (h : FP f p) : attestorref01_P.f f = some (p : Int) := by
  have h0 := h.lo
  have h1 := h.hi
  have h2 := h.eq
  have : f = 0 ∨ f = 1 ∨ f = 2 ∨ f = 3 := by omega
  rcases this with rfl | rfl | rfl | rfl <;> (rw [← h2]; rfl)
section good
variable {f : Int} {p : Nat} (h : FP f p)
include h
theorem r_Valid : attestorref01_Valid.f f = some true := by
  unfold attestorref01_Valid.f
  rw [if_pos h.lo, decide_eq_true (by have := h.hi; omega)]
theorem r_Reduce {x : Int} (hx : 0 ≤ x) : attestorref01_Reduce.f f x = some (x % p) := by
  have := h.pos
  simp only [attestorref01_Reduce.f, r_Valid h, h.eqr, Option.bind_some, if_true]
  rw [if_neg (by omega), tmod_nn hx]
end good
section bad
variable {f : Int} (h : f < 0 ∨ 4 ≤ f)
include h
theorem br_Valid : attestorref01_Valid.f f = some false := by
  unfold attestorref01_Valid.f
  rcases h with h | h
  · rw [if_neg (by omega)]
  · rw [if_pos (by omega), decide_eq_false (by omega)]
end bad
theorem br_Reduce {f : Int} (h : f < 0 ∨ 4 ≤ f) (x : Int) : attestorref01_Reduce.f f x = some 0 := by simp [attestorref01_Reduce.f, br_Valid h]
section any
variable {f : Int} {p : Nat} (h : FO f p)
include h
theorem ro_Reduce {x : Int} (hx : 0 ≤ x) : attestorref01_Reduce.f f x = some (x % p) := by
  rcases h.ok with g | ⟨g, rfl⟩
  · exact r_Reduce g hx
  · rw [br_Reduce g, mod_one]
end any
end Go.Proofs.YtmnahhacobfafaaDoor.Pure

/- What the reference's functions of the fields answer. -/
import Derived.Test.YtdjjdlkglinlgaaDoorSpecF
import Derived.Test.YtdjjdlkglinlgaaDoorQ1
import Derived.Test.YtdjjdlkglinlgaaDoorQ5
import Derived.Test.YtdjjdlkglinlgaaDoorQ7
namespace Go.Proofs.YtdjjdlkglinlgaaDoor.Pure
open Go.RowKit Go.Proofs.YtdjjdlkglinlgaaDoor.Q Go.Proofs.YtdjjdlkglinlgaaDoor.Num Go.Proofs.YtdjjdlkglinlgaaDoor.Pol Go.Proofs.YtdjjdlkglinlgaaDoorW.PrintWords Go.Proofs.YtdjjdlkglinlgaaDoorW.PrintLast Go.Proofs.YtdjjdlkglinlgaaDoorW.PrintMore

theorem FP.eqr {f : Int} {p : Nat} (h : FP f p) : attestorref01_P.f f = some (p : Int) := by
  have h0 := h.lo
  have h1 := h.hi
  have h2 := h.eq
  have : f = 0 ∨ f = 1 ∨ f = 2 ∨ f = 3 := by omega
  rcases this with rfl | rfl | rfl | rfl <;> (rw [← h2]; rfl)
section good
variable {f : Int} {p : Nat} (h : FP f p)
include h
theorem r_Valid : attestorref01_Valid.f f = some true := by
  unfold attestorref01_Valid.f
  rw [if_pos h.lo, decide_eq_true (by have := h.hi; omega)]
theorem r_Reduce {x : Int} (hx : 0 ≤ x) : attestorref01_Reduce.f f x = some (x % p) := by
  have := h.pos
  simp only [attestorref01_Reduce.f, r_Valid h, h.eqr, Option.bind_some, if_true]
  rw [if_neg (by omega), tmod_nn hx]
theorem r_Add {a b : Int} (ha : 0 ≤ a) (hb : 0 ≤ b) : attestorref01_Add.f f a b = some ((a + b) % p) := by
  have hp := h.pos
  have ma := h.mod a
  have mb := h.mod b
  have hl := h.lei
  simp only [attestorref01_Add.f, r_Valid h, h.eqr, Option.bind_some, if_true]
  rw [if_neg (by omega), tmod_nn ha, tmod_nn hb, wu64 (by omega) (by omega), tmod_nn (by omega)]
  exact congrArg some (Cg.mod_eq ((Cg.mod p a).add (Cg.mod p b)))
theorem r_Mul {a b : Int} (ha : 0 ≤ a) (hb : 0 ≤ b) : attestorref01_Mul.f f a b = some ((a * b) % p) := by
  have hp := h.pos
  have ma := h.mod a
  have mb := h.mod b
  have hl := h.lei
  have h1 : 0 ≤ (a % p) * (b % p) := Int.mul_nonneg ma.1 mb.1
  have h2 : (a % p) * (b % p) ≤ 998244353 * 998244353 := Int.mul_le_mul (by omega) (by omega) mb.1 (by omega)
  simp only [attestorref01_Mul.f, r_Valid h, h.eqr, Option.bind_some, if_true]
  rw [if_neg (by omega), tmod_nn ha, tmod_nn hb, wu64 h1 (by omega), tmod_nn h1]
  exact congrArg some (Cg.mod_eq ((Cg.mod p a).mul (Cg.mod p b)))
end good
section bad
variable {f : Int} (h : f < 0 ∨ 4 ≤ f)
include h
theorem br_Valid : attestorref01_Valid.f f = some false := by
  unfold attestorref01_Valid.f
  rcases h with h | h
  · rw [if_neg (by omega)]
  · rw [if_pos (by omega), decide_eq_false (by omega)]
end bad
theorem br_Reduce {f : Int} (h : f < 0 ∨ 4 ≤ f) (x : Int) : attestorref01_Reduce.f f x = some 0 := by simp [attestorref01_Reduce.f, br_Valid h]
section any
variable {f : Int} {p : Nat} (h : FO f p)
include h
theorem ro_Reduce {x : Int} (hx : 0 ≤ x) : attestorref01_Reduce.f f x = some (x % p) := by
  rcases h.ok with g | ⟨g, rfl⟩
  · exact r_Reduce g hx
  · rw [br_Reduce g, mod_one]
end any
end Go.Proofs.YtdjjdlkglinlgaaDoor.Pure

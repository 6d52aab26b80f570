/- Coefficients out of values, and values out of coefficients. No program in sight. -/
import Derived.Test.YtdjjdlkglinlgaaDoorNtt
import Derived.Test.YtdjjdlkglinlgaaDoorSpecL
namespace Go.Proofs.YtdjjdlkglinlgaaDoor.Pure
open Go.RowKit Go.Proofs.YtdjjdlkglinlgaaDoor.Num Go.Proofs.YtdjjdlkglinlgaaDoor.Pol

def cofs (p u c t : Int) (v : List Int) (n : Nat) : List Int := (List.range n).map fun j => (ev v (u ^ j) * (c * t ^ j)) % p
theorem cofs_length (p u c t : Int) (v : List Int) (n : Nat) : (cofs p u c t v n).length = n := by simp [cofs]
theorem co_cofs {p u c t : Int} {v : List Int} {n j : Nat} (h : j < n) : co (cofs p u c t v n) j = (ev v (u ^ j) * (c * t ^ j)) % p := by
  rw [co_lt (by rw [cofs_length]; exact h)]; simp [cofs]
theorem vals_congr {p w : Int} {a b : List Int} (h : EqP p a b) (n : Nat) : vals p w a n = vals p w b n :=
  ext_co (by rw [vals_length, vals_length]) fun j hj => by
    rw [vals_length] at hj
    rw [co_vals hj, co_vals hj]
    exact (h.ev _).mod_eq
theorem pow_cancel {p s t : Int} (h : Cg p (s * t) 1) (x : Int) (j : Nat) : Cg p (x * s ^ j * t ^ j) x := by
  have := (Cg.refl p x).mul (pow_pair h j)
  rw [Int.mul_one, ← Int.mul_assoc] at this
  exact this
theorem cofs_vals {p w u c s t : Int} {k : Nat} (hw : Rt p w k) (hu : Cg p (w * u) 1) (hc : Cg p (c * ((2 ^ k : Nat) : Int)) 1) (ht : Cg p (s * t) 1) {a : List Int} (ha : a.length ≤ 2 ^ k) {j : Nat} (hj : j < 2 ^ k) :
    co (cofs p u c t (vals p w (shf s a) (2 ^ k)) (2 ^ k)) j = co a j % p := by
  rw [co_cofs hj]
  refine Cg.mod_eq ?_
  have h1 := dft_inv hw hu (a := shf s a) (by rw [shf_length]; exact ha) hj
  rw [co_shf] at h1
  refine (h1.mul (Cg.refl p (c * t ^ j))).trans ?_
  generalize ((2 ^ k : Nat) : Int) = N at hc
  have h2 := (pow_cancel ht (co a j) j).mul hc
  rw [Int.mul_one] at h2
  refine (Cg.of_eq ?_).trans h2
  generalize co a j = x
  generalize s ^ j = y
  generalize t ^ j = z
  grind
/-- Products of values are the values of the product. -/
theorem vals_mul {p w : Int} (a b : List Int) {n j : Nat} (hj : j < n) : (co (vals p w a n) j * co (vals p w b n) j) % p = co (vals p w (pmul a b) n) j := by
  rw [co_vals hj, co_vals hj, co_vals hj]
  refine Cg.mod_eq (((Cg.mod p _).mul (Cg.mod p _)).trans (Cg.of_eq ?_))
  rw [ev_pmul]
end Go.Proofs.YtdjjdlkglinlgaaDoor.Pure

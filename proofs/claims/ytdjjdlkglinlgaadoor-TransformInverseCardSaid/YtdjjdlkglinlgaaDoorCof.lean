/- Coefficients out of values, and values out of coefficients. No program in sight. -/
import Derived.Test.YtdjjdlkglinlgaaDoorNtt
import Derived.Test.YtdjjdlkglinlgaaDoorSpecL
namespace Go.Proofs.YtdjjdlkglinlgaaDoor.Pure
open Go.RowKit Go.Proofs.YtdjjdlkglinlgaaDoor.Num Go.Proofs.YtdjjdlkglinlgaaDoor.Pol

def cofs (p u c t : Int) (v : List Int) (n : Nat) : List Int := (List.range n).map fun j => (ev v (u ^ j) * (c * t ^ j)) % p
theorem cofs_length (p u c t : Int) (v : List Int) (n : Nat) : (cofs p u c t v n).length = n := by simp [cofs]
theorem co_cofs {p u c t : Int} {v : List Int} {n j : Nat} (h : j < n) : co (cofs p u c t v n) j = (ev v (u ^ j) * (c * t ^ j)) % p := by
  rw [co_lt (by rw [cofs_length]; exact h)]; simp [cofs]
theorem vals_congr {p w : Int} {a b : List Int} (h : EqP p a b) (n : Nat) : vals p w a n = vals p w b n :=
  ext_co (by rw [vals_length, vals_length]) fun j hj => by
    rw [vals_length] at hj
    rw [co_vals hj, co_vals hj]
    exact (h.ev _).mod_eq
theorem pow_cancel {p s t : Int} (h : Cg p (s * t) 1) (x : Int) (j : Nat) : Cg p (x * s ^ j * t ^ j) x := by
  have := (Cg.refl p x).mul (pow_pair h j)
  rw [Int.mul_one, ← Int.mul_assoc] at this
  exact this
theorem cofs_vals {p w u c s t : Int} {k : Nat} (hw : Rt p w k) (hu : Cg p (w * u) 1) (hc : Cg p (c * ((2 ^ k : Nat) : Int)) 1) (ht : Cg p (s * t) 1) {a : List Int} (ha : a.length ≤ 2 ^ k) {j : Nat} (hj : j < 2 ^ k) :
    co (cofs p u c t (vals p w (shf s a) (2 ^ k)) (2 ^ k)) j = co a j % p := by
  rw [co_cofs hj]
  refine Cg.mod_eq ?_
  have h1 := dft_inv hw hu (a := shf s a) (by rw [shf_length]; exact ha) hj
  rw [co_shf] at h1
  refine (h1.mul (Cg.refl p (c * t ^ j))).trans ?_
  generalize ((2 ^ k : Nat) : Int) = N at hc
  have h2 := (pow_cancel ht (co a j) j).mul hc
  rw [Int.mul_one] at h2
  refine (Cg.of_eq ?_).trans h2
  generalize co a j = x
  generalize s ^ j = y
  generalize t ^ j = z
  grind
theorem vals_cofs {p w u c s t : Int} {k : Nat} (hw : Rt p w k) (hu : Cg p (w * u) 1) (hc : Cg p (c * ((2 ^ k : Nat) : Int)) 1) (ht : Cg p (s * t) 1) {v : List Int} (hv : v.length ≤ 2 ^ k) {i : Nat} (hi : i < 2 ^ k) :
    co (vals p w (shf s (cofs p u c t v (2 ^ k))) (2 ^ k)) i = co v i % p := by
  rw [co_vals hi]
  refine Cg.mod_eq ?_
  have h1 : EqP p (shf s (cofs p u c t v (2 ^ k))) (psc c (vals p u v (2 ^ k))) := fun j => by
    rw [co_shf, co_psc]
    by_cases hj : j < 2 ^ k
    · rw [co_cofs hj, co_vals hj]
      refine ((Cg.mod p _).mul (Cg.refl p _)).trans ?_
      refine Cg.trans ?_ ((Cg.refl p c).mul (Cg.mod p _).symm)
      have h2 := pow_cancel (Cg.trans (Cg.of_eq (Int.mul_comm t s)) ht) (ev v (u ^ j) * c) j
      refine (Cg.of_eq ?_).trans (h2.trans (Cg.of_eq (Int.mul_comm _ _)))
      rw [Int.mul_assoc, Int.mul_assoc, Int.mul_assoc, Int.mul_assoc]
    · rw [co_over (by rw [cofs_length]; omega), co_over (by rw [vals_length]; omega)]
      exact Cg.of_eq (by simp)
  refine (h1.ev _).trans ?_
  rw [ev_psc]
  have h3 := dft_inv (hw.inv hu) ((Cg.of_eq (Int.mul_comm u w)).trans hu) hv hi
  refine ((Cg.refl p c).mul h3).trans ?_
  rw [← Int.mul_assoc]
  have h4 := hc.mul (Cg.refl p (co v i))
  rwa [Int.one_mul] at h4
end Go.Proofs.YtdjjdlkglinlgaaDoor.Pure

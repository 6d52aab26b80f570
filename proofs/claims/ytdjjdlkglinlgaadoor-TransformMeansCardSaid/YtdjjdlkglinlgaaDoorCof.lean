/- Coefficients out of values, and values out of coefficients. No program in sight. -/
import Derived.Test.YtdjjdlkglinlgaaDoorNtt
import Derived.Test.YtdjjdlkglinlgaaDoorSpecL
namespace Go.Proofs.YtdjjdlkglinlgaaDoor.Pure
open Go.RowKit Go.Proofs.YtdjjdlkglinlgaaDoor.Num Go.Proofs.YtdjjdlkglinlgaaDoor.Pol

def cofs (p u c t : Int) (v : List Int) (n : Nat) : List Int := (List.range n).map fun j => (ev v (u ^ j) * (c * t ^ j)) % p
theorem cofs_length (p u c t : Int) (v : List Int) (n : Nat) : (cofs p u c t v n).length = n := by simp [cofs]
theorem co_cofs {p u c t : Int} {v : List Int} {n j : Nat} (h : j < n) : co (cofs p u c t v n) j = (ev v (u ^ j) * (c * t ^ j)) % p := by
  rw [co_lt (by rw [cofs_length]; exact h)]; simp [cofs]
theorem vals_congr {p w : Int} {a b : List Int} (h : EqP p a b) (n : Nat) : vals p w a n = vals p w b n :=
  ext_co (by rw [vals_length, vals_length]) fun j hj => by
    rw [vals_length] at hj
    rw [co_vals hj, co_vals hj]
    exact (h.ev _).mod_eq
end Go.Proofs.YtdjjdlkglinlgaaDoor.Pure

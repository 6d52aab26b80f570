/- Lists as polynomials: rows of products, normal forms, different numbers, interpolation. -/
import Derived.Test.YtmnahhacobfafaaDoorSpecP
namespace Go.Proofs.YtmnahhacobfafaaDoor.Pure
open Go.RowKit Go.Proofs.YtmnahhacobfafaaDoor.Q Go.Proofs.YtmnahhacobfafaaDoor.Num Go.Proofs.YtmnahhacobfafaaDoor.Pol Go.Proofs.YtmnahhacobfafaaDoorW.PrintWords Go.Proofs.YtmnahhacobfafaaDoorW.PrintLast Go.Proofs.YtmnahhacobfafaaDoorW.PrintMore

/-- All numbers below p. -/
def Rg (p : Int) (l : List Int) : Prop := ∀ i, 0 ≤ co l i ∧ co l i < p
theorem Rg.set {p : Int} {l : List Int} (h : Rg p l) {i : Nat} {x : Int} (hx : 0 ≤ x ∧ x < p) : Rg p (l.set i x) := fun j => by
  by_cases hi : i < l.length
  · rw [co_set hi]
    split
    · exact hx
    · exact h j
  · rw [List.set_eq_of_length_le (by omega)]; exact h j
theorem Rg.eq {p : Int} {a b : List Int} (ha : Rg p a) (hb : Rg p b) (hl : a.length = b.length) (h : ∀ i, i < a.length → Cg p (co a i) (co b i)) : a = b :=
  ext_co hl fun i hi => (h i hi).uniq (ha i).1 (ha i).2 (hb i).1 (hb i).2
theorem Rg.U {f : Int} {p : Nat} (h : FO f p) {l : List Int} (hr : Rg p l) : UL l := fun c hc => by
  obtain ⟨i, hi, rfl⟩ := List.getElem_of_mem hc
  have := hr i
  rw [co_lt hi] at this
  have := h.lei
  unfold Pure.U; omega
/-! ### Same -/
/-- The polynomial that both find. -/
def Interp (p : Nat) (xs ys R : List Int) : Prop := Deg p R xs.length ∧ ∀ i, i < xs.length → Cg p (ev R (co xs i)) (co ys i)

section good
variable {f : Int} {p : Nat} (h : FP f p)
include h
/-! ### The program's -/
end good
end Go.Proofs.YtmnahhacobfafaaDoor.Pure

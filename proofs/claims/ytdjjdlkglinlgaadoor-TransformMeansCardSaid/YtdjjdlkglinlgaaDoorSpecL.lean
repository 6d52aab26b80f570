/- Lists as polynomials: rows of products, normal forms, different numbers, interpolation. -/
import Derived.Test.YtdjjdlkglinlgaaDoorSpecP
namespace Go.Proofs.YtdjjdlkglinlgaaDoor.Pure
open Go.RowKit Go.Proofs.YtdjjdlkglinlgaaDoor.Q Go.Proofs.YtdjjdlkglinlgaaDoor.Num Go.Proofs.YtdjjdlkglinlgaaDoor.Pol Go.Proofs.YtdjjdlkglinlgaaDoorW.PrintWords Go.Proofs.YtdjjdlkglinlgaaDoorW.PrintLast Go.Proofs.YtdjjdlkglinlgaaDoorW.PrintMore

/-- All numbers below p. -/
def Rg (p : Int) (l : List Int) : Prop := ∀ i, 0 ≤ co l i ∧ co l i < p
theorem Rg.set {p : Int} {l : List Int} (h : Rg p l) {i : Nat} {x : Int} (hx : 0 ≤ x ∧ x < p) : Rg p (l.set i x) := fun j => by
  by_cases hi : i < l.length
  · rw [co_set hi]
    split
    · exact hx
    · exact h j
  · rw [List.set_eq_of_length_le (by omega)]; exact h j
theorem Rg.eq {p : Int} {a b : List Int} (ha : Rg p a) (hb : Rg p b) (hl : a.length = b.length) (h : ∀ i, i < a.length → Cg p (co a i) (co b i)) : a = b :=
  ext_co hl fun i hi => (h i hi).uniq (ha i).1 (ha i).2 (hb i).1 (hb i).2
theorem Rg.U {f : Int} {p : Nat} (h : FO f p) {l : List Int} (hr : Rg p l) : UL l := fun c hc => by
  obtain ⟨i, hi, rfl⟩ := List.getElem_of_mem hc
  have := hr i
  rw [co_lt hi] at this
  have := h.lei
  unfold Pure.U; omega
theorem nrm_rg {p : Int} (hp : 0 < p) (l : List Int) : Rg p (nrm p l) := (nrm_nf hp l).rng
theorem nrm_UL {f : Int} {p : Nat} (h : FO f p) (l : List Int) : UL (nrm p l) := (nrm_rg h.pos l).U h
/-! ### Same -/
/-- The polynomial that both find. -/
def Interp (p : Nat) (xs ys R : List Int) : Prop := Deg p R xs.length ∧ ∀ i, i < xs.length → Cg p (ev R (co xs i)) (co ys i)

section good
variable {f : Int} {p : Nat} (h : FP f p)
include h
theorem one_not_zero : ¬ Cg p (1 : Int) 0 := fun c => by
  have := c.mod_eq
  rw [Int.emod_eq_of_lt (by omega) h.one] at this
  simp at this
/-! ### The program's -/
end good
/-- l at s X. -/
def shf (s : Int) : List Int → List Int
  | [] => []
  | c :: t => c :: psc s (shf s t)
theorem shf_length (s : Int) : ∀ l : List Int, (shf s l).length = l.length
  | [] => rfl
  | c :: t => by simp [shf, psc, shf_length s t]
theorem co_shf (s : Int) : ∀ (l : List Int) (i : Nat), co (shf s l) i = co l i * s ^ i
  | [], i => by simp [shf]
  | c :: t, 0 => by simp [shf]
  | c :: t, i + 1 => by
    rw [shf, co_cons_succ, co_cons_succ, co_psc, co_shf s t i, Int.pow_succ]
    generalize s ^ i = u
    grind
theorem ev_shf (s x : Int) : ∀ l : List Int, ev (shf s l) x = ev l (s * x)
  | [] => rfl
  | c :: t => by
    rw [shf, ev, ev, ev_psc, ev_shf s x t]
    grind
end Go.Proofs.YtdjjdlkglinlgaaDoor.Pure

/- Lists as polynomials: rows of products, normal forms, different numbers, interpolation. -/
import Derived.Test.YtdjjdlkglinlgaaDoorSpecP
namespace Go.Proofs.YtdjjdlkglinlgaaDoor.Pure
open Go.RowKit Go.Proofs.YtdjjdlkglinlgaaDoor.Q Go.Proofs.YtdjjdlkglinlgaaDoor.Num Go.Proofs.YtdjjdlkglinlgaaDoor.Pol Go.Proofs.YtdjjdlkglinlgaaDoorW.PrintWords Go.Proofs.YtdjjdlkglinlgaaDoorW.PrintLast Go.Proofs.YtdjjdlkglinlgaaDoorW.PrintMore

/-- X^n times l. -/
def sh (n : Nat) (l : List Int) : List Int := List.replicate n 0 ++ l
theorem co_sh (n : Nat) (l : List Int) (t : Nat) : co (sh n l) t = if t < n then 0 else co l (t - n) := by
  rw [sh, co_append, List.length_replicate]
  split
  · exact co_replicate _ _
  · rfl
theorem drop_co (l : List Int) (i : Nat) (h : i < l.length) : l.drop i = co l i :: l.drop (i + 1) := by rw [List.drop_eq_getElem_cons h, co_lt h]
/-- One term of a row of a product. -/
theorem co_sh_term (m : Nat) (c : Int) (b : List Int) (j : Nat) (hj : j < b.length) (t : Nat) : co (sh m (psc c (b.drop j))) t = (if t = m then c * co b j else 0) + co (sh (m + 1) (psc c (b.drop (j + 1)))) t := by
  rw [co_sh, co_sh, drop_co b j hj]
  by_cases e : t = m
  · subst e
    rw [if_neg (by omega), if_pos rfl, if_pos (by omega), Nat.sub_self, co_psc, co_cons_zero]; omega
  · rw [if_neg e]
    by_cases e2 : t < m
    · rw [if_pos e2, if_pos (by omega)]; omega
    · rw [if_neg e2, if_neg (by omega), co_psc, co_psc, show t - m = (t - (m + 1)) + 1 by omega, co_cons_succ]; omega
/-- One row of a product. -/
theorem co_sh_row (a b : List Int) (i : Nat) (hi : i < a.length) (t : Nat) : co (sh i (pmul (a.drop i) b)) t = co (sh i (psc (co a i) b)) t + co (sh (i + 1) (pmul (a.drop (i + 1)) b)) t := by
  rw [co_sh, co_sh, co_sh, drop_co a i hi]
  by_cases e : t < i
  · rw [if_pos e, if_pos e, if_pos (by omega)]; omega
  · rw [if_neg e, if_neg e]
    by_cases e2 : t = i
    · subst e2; rw [if_pos (by omega), Nat.sub_self, co_pmul_zero', co_psc]; omega
    · rw [if_neg (by omega), show t - i = (t - (i + 1)) + 1 by omega, co_pmul_succ, co_psc]

/-- All numbers below p. -/
def Rg (p : Int) (l : List Int) : Prop := ∀ i, 0 ≤ co l i ∧ co l i < p
theorem Rg.set {p : Int} {l : List Int} (h : Rg p l) {i : Nat} {x : Int} (hx : 0 ≤ x ∧ x < p) : Rg p (l.set i x) := fun j => by
  by_cases hi : i < l.length
  · rw [co_set hi]
    split
    · exact hx
    · exact h j
  · rw [List.set_eq_of_length_le (by omega)]; exact h j
theorem Rg.zeros {p : Int} (hp : 0 < p) (n : Nat) : Rg p (List.replicate n 0) := fun j => by rw [co_replicate]; omega
theorem Rg.eq {p : Int} {a b : List Int} (ha : Rg p a) (hb : Rg p b) (hl : a.length = b.length) (h : ∀ i, i < a.length → Cg p (co a i) (co b i)) : a = b :=
  ext_co hl fun i hi => (h i hi).uniq (ha i).1 (ha i).2 (hb i).1 (hb i).2
theorem Rg.U {f : Int} {p : Nat} (h : FO f p) {l : List Int} (hr : Rg p l) : UL l := fun c hc => by
  obtain ⟨i, hi, rfl⟩ := List.getElem_of_mem hc
  have := hr i
  rw [co_lt hi] at this
  have := h.lei
  unfold Pure.U; omega
theorem nrm_rg {p : Int} (hp : 0 < p) (l : List Int) : Rg p (nrm p l) := (nrm_nf hp l).rng
theorem nrm_UL {f : Int} {p : Nat} (h : FO f p) (l : List Int) : UL (nrm p l) := (nrm_rg h.pos l).U h
/-- The normal form of a product, out of its factors' normal forms. -/
theorem nrm_pmul_nrm (p : Int) (a b : List Int) : nrm p (pmul (nrm p a) (nrm p b)) = nrm p (pmul a b) := nrm_congr ((nrm_eqp p a).pmul (nrm_eqp p b))

theorem pmul_nil_right (p : Int) (a : List Int) {b : List Int} (hb : EqP p b []) : EqP p (pmul a b) [] := fun i => by
  have hz : ∀ (a : List Int) (i : Nat), co (pmul a []) i = 0 := by
    intro a
    induction a with
    | nil => intro i; simp [pmul]
    | cons c a ih => intro i; cases i with
      | zero => rw [co_pmul_zero']; simp
      | succ i => rw [co_pmul_succ, ih]; simp
  have := (hb.pmul_right a) i
  rwa [hz] at this

theorem padd_length : ∀ a b : List Int, (padd a b).length = max a.length b.length
  | [], b => by simp [padd]
  | x :: a, [] => by simp [padd]
  | x :: a, y :: b => by simp [padd, padd_length a b]
/-! ### Same -/
/-- The polynomial that both find. -/
def Interp (p : Nat) (xs ys R : List Int) : Prop := Deg p R xs.length ∧ ∀ i, i < xs.length → Cg p (ev R (co xs i)) (co ys i)

section good
variable {f : Int} {p : Nat} (h : FP f p)
include h
theorem one_not_zero : ¬ Cg p (1 : Int) 0 := fun c => by
  have := c.mod_eq
  rw [Int.emod_eq_of_lt (by omega) h.one] at this
  simp at this
/-! ### The program's -/
end good
/-- l at s X. -/
def shf (s : Int) : List Int → List Int
  | [] => []
  | c :: t => c :: psc s (shf s t)
theorem shf_length (s : Int) : ∀ l : List Int, (shf s l).length = l.length
  | [] => rfl
  | c :: t => by simp [shf, psc, shf_length s t]
theorem co_shf (s : Int) : ∀ (l : List Int) (i : Nat), co (shf s l) i = co l i * s ^ i
  | [], i => by simp [shf]
  | c :: t, 0 => by simp [shf]
  | c :: t, i + 1 => by
    rw [shf, co_cons_succ, co_cons_succ, co_psc, co_shf s t i, Int.pow_succ]
    generalize s ^ i = u
    grind
theorem ev_shf (s x : Int) : ∀ l : List Int, ev (shf s l) x = ev l (s * x)
  | [] => rfl
  | c :: t => by
    rw [shf, ev, ev, ev_psc, ev_shf s x t]
    grind
end Go.Proofs.YtdjjdlkglinlgaaDoor.Pure

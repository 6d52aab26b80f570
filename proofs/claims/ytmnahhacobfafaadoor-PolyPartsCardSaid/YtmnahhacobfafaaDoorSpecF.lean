/- What the program's functions of the fields answer. -/
import Derived.Test.YtmnahhacobfafaaDoorEv
import Derived.Test.YtmnahhacobfafaaDoorQ2
namespace Go.Proofs.YtmnahhacobfafaaDoor.Pure
open Go.RowKit Go.Proofs.YtmnahhacobfafaaDoor.Q Go.Proofs.YtmnahhacobfafaaDoor.Num Go.Proofs.YtmnahhacobfafaaDoor.Pol Go.Proofs.YtmnahhacobfafaaDoorW.PrintWords Go.Proofs.YtmnahhacobfafaaDoorW.PrintLast Go.Proofs.YtmnahhacobfafaaDoorW.PrintMore

/-- f is one of the four fields, p its prime. -/
structure FP (f : Int) (p : Nat) : Prop where
  lo : 0 ≤ f
  hi : f < 4
  eq : pOf f = p
  pr : Pr p
  le : p ≤ 998244353
theorem fp_of {f : Int} (h0 : 0 ≤ f) (h1 : f < 4) : ∃ p, FP f p := by
  have : f = 0 ∨ f = 1 ∨ f = 2 ∨ f = 3 := by omega
  rcases this with rfl | rfl | rfl | rfl
  · exact ⟨97, by omega, by omega, rfl, pr97, by omega⟩
  · exact ⟨257, by omega, by omega, rfl, pr257, by omega⟩
  · exact ⟨12289, by omega, by omega, rfl, pr12289, by omega⟩
  · exact ⟨998244353, by omega, by omega, rfl, pr998244353, by omega⟩
theorem fp_or (f : Int) : (∃ p, FP f p) ∨ (f < 0 ∨ 4 ≤ f) := by
  rcases Int.lt_or_le f 0 with h | h
  · exact Or.inr (Or.inl h)
  · rcases Int.lt_or_le f 4 with h' | h'
    · exact Or.inl (fp_of h h')
    · exact Or.inr (Or.inr h')
theorem FP.pos {f : Int} {p : Nat} (h : FP f p) : (0 : Int) < p := h.pr.pos
theorem FP.one {f : Int} {p : Nat} (h : FP f p) : (1 : Int) < p := by have := h.pr.two; omega
theorem FP.lei {f : Int} {p : Nat} (h : FP f p) : (p : Int) ≤ 998244353 := by have := h.le; omega
theorem FP.mod {f : Int} {p : Nat} (h : FP f p) (a : Int) : 0 ≤ a % p ∧ a % p < p := ⟨mod_nonneg h.pos a, mod_lt h.pos a⟩
theorem FP.U {f : Int} {p : Nat} (h : FP f p) (a : Int) : U (a % p) := by have := h.mod a; have := h.lei; unfold Pure.U; omega
section good
variable {f : Int} {p : Nat} (h : FP f p)
include h
theorem s_Valid : field_Valid.f f = some true := by
  unfold field_Valid.f
  rw [if_pos h.lo, decide_eq_true h.hi]
theorem s_P : field_P.f f = some (p : Int) := by simp [field_P.f, h.eq]
theorem s_Reduce {x : Int} (hx : 0 ≤ x) : field_Reduce.f f x = some (x % p) := by
  have := h.pos
  simp only [field_Reduce.f, s_Valid h, s_P h, Option.bind_some, if_true]
  rw [if_neg (by omega), tmod_nn hx]
end good

/-! ### The inverse by Euclid's algorithm -/
section good2
variable {f : Int} {p : Nat} (h : FP f p)
include h
end good2

/-! ### No field -/
section bad
variable {f : Int} (h : f < 0 ∨ 4 ≤ f)
include h
theorem b_Valid : field_Valid.f f = some false := by
  unfold field_Valid.f
  rcases h with h | h
  · rw [if_neg (by omega)]
  · rw [if_pos (by omega), decide_eq_false (by omega)]
theorem b_Reduce (x : Int) : field_Reduce.f f x = some 0 := by simp [field_Reduce.f, b_Valid h]
end bad
/-- The field of f as rings go: modulo p if f is a field, modulo 1 if it is none. -/
structure FO (f : Int) (p : Nat) : Prop where
  pos : (0 : Int) < p
  lei : (p : Int) ≤ 998244353
  ok : FP f p ∨ ((f < 0 ∨ 4 ≤ f) ∧ p = 1)
theorem FP.o {f : Int} {p : Nat} (h : FP f p) : FO f p := ⟨h.pos, h.lei, Or.inl h⟩
theorem bad_o {f : Int} (h : f < 0 ∨ 4 ≤ f) : FO f 1 := ⟨by omega, by omega, Or.inr ⟨h, rfl⟩⟩
theorem FO.mod {f : Int} {p : Nat} (h : FO f p) (a : Int) : 0 ≤ a % p ∧ a % p < p := ⟨mod_nonneg h.pos a, mod_lt h.pos a⟩
theorem FO.U {f : Int} {p : Nat} (h : FO f p) (a : Int) : U (a % p) := by have := h.mod a; have := h.lei; unfold Pure.U; omega
theorem mod_one (a : Int) : a % ((1 : Nat) : Int) = 0 := Int.emod_one a
theorem nrm_one_nil (l : List Int) : nrm ((1 : Nat) : Int) l = [] := nrm_eq_nil.2 fun _ => mod_eq_zero.1 (mod_one _)
section any
variable {f : Int} {p : Nat} (h : FO f p)
include h
theorem o_Reduce {x : Int} (hx : 0 ≤ x) : field_Reduce.f f x = some (x % p) := by
  rcases h.ok with g | ⟨g, rfl⟩
  · exact s_Reduce g hx
  · rw [b_Reduce g, mod_one]
end any
end Go.Proofs.YtmnahhacobfafaaDoor.Pure

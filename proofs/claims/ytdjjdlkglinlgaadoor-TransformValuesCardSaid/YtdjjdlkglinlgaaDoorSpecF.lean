/- What the program's functions of the fields answer. -/
import Derived.Test.YtdjjdlkglinlgaaDoorEv
import Derived.Test.YtdjjdlkglinlgaaDoorQ3
namespace Go.Proofs.YtdjjdlkglinlgaaDoor.Pure
open Go.RowKit Go.Proofs.YtdjjdlkglinlgaaDoor.Q Go.Proofs.YtdjjdlkglinlgaaDoor.Num Go.Proofs.YtdjjdlkglinlgaaDoor.Pol Go.Proofs.YtdjjdlkglinlgaaDoorW.PrintWords Go.Proofs.YtdjjdlkglinlgaaDoorW.PrintLast Go.Proofs.YtdjjdlkglinlgaaDoorW.PrintMore

/-- f is one of the four fields, p its prime. -/
structure FP (f : Int) (p : Nat) : Prop where
  lo : 0 ≤ f
  hi : f < 4
  eq : pOf f = p
  pr : Pr p
  le : p ≤ 998244353
theorem fp_of {f : Int} (h0 : 0 ≤ f) (h1 : f < 4) : ∃ p, FP f p := by
  have : f = 0 ∨ f = 1 ∨ f = 2 ∨ f = 3 := by omega
  rcases this with rfl | rfl | rfl | rfl
  · exact ⟨97, by omega, by omega, rfl, pr97, by omega⟩
  · exact ⟨257, by omega, by omega, rfl, pr257, by omega⟩
  · exact ⟨12289, by omega, by omega, rfl, pr12289, by omega⟩
  · exact ⟨998244353, by omega, by omega, rfl, pr998244353, by omega⟩
theorem fp_or (f : Int) : (∃ p, FP f p) ∨ (f < 0 ∨ 4 ≤ f) := by
  rcases Int.lt_or_le f 0 with h | h
  · exact Or.inr (Or.inl h)
  · rcases Int.lt_or_le f 4 with h' | h'
    · exact Or.inl (fp_of h h')
    · exact Or.inr (Or.inr h')
theorem FP.pos {f : Int} {p : Nat} (h : FP f p) : (0 : Int) < p := h.pr.pos
theorem FP.one {f : Int} {p : Nat} (h : FP f p) : (1 : Int) < p := by have := h.pr.two; omega
theorem FP.lei {f : Int} {p : Nat} (h : FP f p) : (p : Int) ≤ 998244353 := by have := h.le; omega
theorem FP.mod {f : Int} {p : Nat} (h : FP f p) (a : Int) : 0 ≤ a % p ∧ a % p < p := ⟨mod_nonneg h.pos a, mod_lt h.pos a⟩
theorem FP.U {f : Int} {p : Nat} (h : FP f p) (a : Int) : U (a % p) := by have := h.mod a; have := h.lei; unfold Pure.U; omega
theorem pOf_bad {f : Int} (h : f < 0 ∨ 4 ≤ f) : pOf f = 0 := by
  unfold pOf
  rw [if_neg (by omega), if_neg (by omega), if_neg (by omega), if_neg (by omega)]

section good
variable {f : Int} {p : Nat} (h : FP f p)
include h
theorem s_Valid : field_Valid.f f = some true := by
  unfold field_Valid.f
  rw [if_pos h.lo, decide_eq_true h.hi]
theorem s_P : field_P.f f = some (p : Int) := by simp [field_P.f, h.eq]
theorem s_Reduce {x : Int} (hx : 0 ≤ x) : field_Reduce.f f x = some (x % p) := by
  have := h.pos
  simp only [field_Reduce.f, s_Valid h, s_P h, Option.bind_some, if_true]
  rw [if_neg (by omega), tmod_nn hx]
theorem s_Add {a b : Int} (ha : 0 ≤ a) (hb : 0 ≤ b) : field_Add.f f a b = some ((a + b) % p) := by
  have hp := h.pos
  have ma := h.mod a
  have mb := h.mod b
  have hl := h.lei
  simp only [field_Add.f, s_P h, Option.bind_some]
  rw [if_neg (by omega), tmod_nn ha, tmod_nn hb, wu64 (by omega) (by omega)]
  have e : (a + b) % p = (a % p + b % p) % p := by rw [← Int.add_emod]
  by_cases hc : a % p + b % p ≥ p
  · rw [if_pos hc, wu64 (by omega) (by omega), e]
    have : (a % p + b % p) % p = (a % p + b % p - p) % p := by rw [← Int.sub_emod_right]
    rw [this]
    exact congrArg some (Int.emod_eq_of_lt (by omega) (by omega)).symm
  · rw [if_neg hc, e]
    exact congrArg some (Int.emod_eq_of_lt (by omega) (by omega)).symm
theorem s_Neg {a : Int} (ha : 0 ≤ a) : field_Neg.f f a = some ((-a) % p) := by
  have hp := h.pos
  have ma := h.mod a
  have hl := h.lei
  simp only [field_Neg.f, s_P h, Option.bind_some]
  rw [if_neg (by omega), tmod_nn ha]
  have e : (-a) % p = (-(a % p)) % p := Cg.mod_eq (Cg.neg (Cg.mod p a).symm)
  by_cases h0 : a % p = 0
  · rw [if_pos h0, e, h0]; simp
  · rw [if_neg h0, wu64 (by omega) (by omega), e]
    have : (-(a % p)) % p = (p - a % p) % p := by
      have : (p : Int) - a % p = -(a % p) + p * 1 := by omega
      rw [this, Int.add_mul_emod_self_left]
    rw [this]
    exact congrArg some (Int.emod_eq_of_lt (by omega) (by omega)).symm
theorem s_Sub {a b : Int} (ha : 0 ≤ a) (hb : 0 ≤ b) : field_Sub.f f a b = some ((a - b) % p) := by
  simp only [field_Sub.f, s_Neg h hb, Option.bind_some]
  rw [s_Add h ha (h.mod _).1]
  simp only [Option.bind_some]
  congr 1
  exact Cg.mod_eq ((Cg.refl _ a).add (Cg.mod _ _))
theorem s_Mul {a b : Int} (ha : 0 ≤ a) (hb : 0 ≤ b) : field_Mul.f f a b = some ((a * b) % p) := by
  have hp := h.pos
  have ma := h.mod a
  have mb := h.mod b
  have hl := h.lei
  have h1 : 0 ≤ (a % p) * (b % p) := Int.mul_nonneg ma.1 mb.1
  have h2 : (a % p) * (b % p) ≤ 998244353 * 998244353 := Int.mul_le_mul (by omega) (by omega) mb.1 (by omega)
  simp only [field_Mul.f, s_P h, Option.bind_some]
  rw [if_neg (by omega), tmod_nn ha, tmod_nn hb, wu64 h1 (by omega), tmod_nn h1]
  congr 1
  exact Cg.mod_eq ((Cg.mod p a).mul (Cg.mod p b))
end good

/-! ### The inverse by Euclid's algorithm -/
section good2
variable {f : Int} {p : Nat} (h : FP f p)
include h
end good2

/-! ### No field -/
section bad
variable {f : Int} (h : f < 0 ∨ 4 ≤ f)
include h
theorem b_Valid : field_Valid.f f = some false := by
  unfold field_Valid.f
  rcases h with h | h
  · rw [if_neg (by omega)]
  · rw [if_pos (by omega), decide_eq_false (by omega)]
theorem b_P : field_P.f f = some 0 := by simp [field_P.f, pOf_bad h]
theorem b_Reduce (x : Int) : field_Reduce.f f x = some 0 := by simp [field_Reduce.f, b_Valid h]
theorem b_Mul (a b : Int) : field_Mul.f f a b = some 0 := by simp [field_Mul.f, b_P h]
end bad
/-- The field of f as rings go: modulo p if f is a field, modulo 1 if it is none. -/
structure FO (f : Int) (p : Nat) : Prop where
  pos : (0 : Int) < p
  lei : (p : Int) ≤ 998244353
  ok : FP f p ∨ ((f < 0 ∨ 4 ≤ f) ∧ p = 1)
theorem FP.o {f : Int} {p : Nat} (h : FP f p) : FO f p := ⟨h.pos, h.lei, Or.inl h⟩
theorem FO.mod {f : Int} {p : Nat} (h : FO f p) (a : Int) : 0 ≤ a % p ∧ a % p < p := ⟨mod_nonneg h.pos a, mod_lt h.pos a⟩
theorem FO.U {f : Int} {p : Nat} (h : FO f p) (a : Int) : U (a % p) := by have := h.mod a; have := h.lei; unfold Pure.U; omega
theorem mod_one (a : Int) : a % ((1 : Nat) : Int) = 0 := Int.emod_one a
theorem nrm_one_nil (l : List Int) : nrm ((1 : Nat) : Int) l = [] := nrm_eq_nil.2 fun _ => mod_eq_zero.1 (mod_one _)
section any
variable {f : Int} {p : Nat} (h : FO f p)
include h
theorem o_Mul {a b : Int} (ha : 0 ≤ a) (hb : 0 ≤ b) : field_Mul.f f a b = some ((a * b) % p) := by
  rcases h.ok with g | ⟨g, rfl⟩
  · exact s_Mul g ha hb
  · rw [b_Mul g, mod_one]
end any
end Go.Proofs.YtdjjdlkglinlgaaDoor.Pure

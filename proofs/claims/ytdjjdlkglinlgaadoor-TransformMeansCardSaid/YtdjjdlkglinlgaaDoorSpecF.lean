/- What the program's functions of the fields answer. -/
import Derived.Test.YtdjjdlkglinlgaaDoorEv
import Derived.Test.YtdjjdlkglinlgaaDoorQ3
namespace Go.Proofs.YtdjjdlkglinlgaaDoor.Pure
open Go.RowKit Go.Proofs.YtdjjdlkglinlgaaDoor.Q Go.Proofs.YtdjjdlkglinlgaaDoor.Num Go.Proofs.YtdjjdlkglinlgaaDoor.Pol Go.Proofs.YtdjjdlkglinlgaaDoorW.PrintWords Go.Proofs.YtdjjdlkglinlgaaDoorW.PrintLast Go.Proofs.YtdjjdlkglinlgaaDoorW.PrintMore

/-- f is one of the four fields, p its prime. -/
structure FP (f : Int) (p : Nat) : Prop where
  lo : 0 ≤ f
  hi : f < 4
  eq : pOf f = p
  pr : Pr p
  le : p ≤ 998244353
theorem FP.pos {f : Int} {p : Nat} (h : FP f p) : (0 : Int) < p := h.pr.pos
theorem FP.one {f : Int} {p : Nat} (h : FP f p) : (1 : Int) < p := by have := h.pr.two; omega
theorem FP.lei {f : Int} {p : Nat} (h : FP f p) : (p : Int) ≤ 998244353 := by have := h.le; omega
theorem FP.mod {f : Int} {p : Nat} (h : FP f p) (a : Int) : 0 ≤ a % p ∧ a % p < p := ⟨mod_nonneg h.pos a, mod_lt h.pos a⟩
theorem FP.U {f : Int} {p : Nat} (h : FP f p) (a : Int) : U (a % p) := by have := h.mod a; have := h.lei; unfold Pure.U; omega
theorem pOf_bad {f : Int} (h : f < 0 ∨ 4 ≤ f) : pOf f = 0 := by
  unfold pOf
  rw [if_neg (by omega), if_neg (by omega), if_neg (by omega), if_neg (by omega)]

section good
variable {f : Int} {p : Nat} (h : FP f p)
include h
theorem s_Valid : field_Valid.f f = some true := by
  unfold field_Valid.f
  rw [if_pos h.lo, decide_eq_true h.hi]
theorem s_P : field_P.f f = some (p : Int) := by simp [field_P.f, h.eq]
theorem s_Reduce {x : Int} (hx : 0 ≤ x) : field_Reduce.f f x = some (x % p) := by
  have := h.pos
  simp only [field_Reduce.f, s_Valid h, s_P h, Option.bind_some, if_true]
  rw [if_neg (by omega), tmod_nn hx]
theorem s_Add {a b : Int} (ha : 0 ≤ a) (hb : 0 ≤ b) : field_Add.f f a b = some ((a + b) % p) := by
  have hp := h.pos
  have ma := h.mod a
  have mb := h.mod b
  have hl := h.lei
  simp only [field_Add.f, s_P h, Option.bind_some]
  rw [if_neg (by omega), tmod_nn ha, tmod_nn hb, wu64 (by omega) (by omega)]
  have e : (a + b) % p = (a % p + b % p) % p := by rw [← Int.add_emod]
  by_cases hc : a % p + b % p ≥ p
  · rw [if_pos hc, wu64 (by omega) (by omega), e]
    have : (a % p + b % p) % p = (a % p + b % p - p) % p := by rw [← Int.sub_emod_right]
    rw [this]
    exact congrArg some (Int.emod_eq_of_lt (by omega) (by omega)).symm
  · rw [if_neg hc, e]
    exact congrArg some (Int.emod_eq_of_lt (by omega) (by omega)).symm
theorem s_Neg {a : Int} (ha : 0 ≤ a) : field_Neg.f f a = some ((-a) % p) := by
  have hp := h.pos
  have ma := h.mod a
  have hl := h.lei
  simp only [field_Neg.f, s_P h, Option.bind_some]
  rw [if_neg (by omega), tmod_nn ha]
  have e : (-a) % p = (-(a % p)) % p := Cg.mod_eq (Cg.neg (Cg.mod p a).symm)
  by_cases h0 : a % p = 0
  · rw [if_pos h0, e, h0]; simp
  · rw [if_neg h0, wu64 (by omega) (by omega), e]
    have : (-(a % p)) % p = (p - a % p) % p := by
      have : (p : Int) - a % p = -(a % p) + p * 1 := by omega
      rw [this, Int.add_mul_emod_self_left]
    rw [this]
    exact congrArg some (Int.emod_eq_of_lt (by omega) (by omega)).symm
theorem s_Sub {a b : Int} (ha : 0 ≤ a) (hb : 0 ≤ b) : field_Sub.f f a b = some ((a - b) % p) := by
  simp only [field_Sub.f, s_Neg h hb, Option.bind_some]
  rw [s_Add h ha (h.mod _).1]
  simp only [Option.bind_some]
  congr 1
  exact Cg.mod_eq ((Cg.refl _ a).add (Cg.mod _ _))
theorem s_Mul {a b : Int} (ha : 0 ≤ a) (hb : 0 ≤ b) : field_Mul.f f a b = some ((a * b) % p) := by
  have hp := h.pos
  have ma := h.mod a
  have mb := h.mod b
  have hl := h.lei
  have h1 : 0 ≤ (a % p) * (b % p) := Int.mul_nonneg ma.1 mb.1
  have h2 : (a % p) * (b % p) ≤ 998244353 * 998244353 := Int.mul_le_mul (by omega) (by omega) mb.1 (by omega)
  simp only [field_Mul.f, s_P h, Option.bind_some]
  rw [if_neg (by omega), tmod_nn ha, tmod_nn hb, wu64 h1 (by omega), tmod_nn h1]
  congr 1
  exact Cg.mod_eq ((Cg.mod p a).mul (Cg.mod p b))
end good

/-- The inverse, 0 of 0. -/
def inv (p : Nat) (a : Int) : Int := a ^ (p - 2) % p
theorem inv_spec {p : Nat} (h : Pr p) {a : Int} (ha : ¬ Cg p a 0) : Cg p (a * inv p a) 1 := ((Cg.refl _ a).mul (Cg.mod _ _)).trans (inv_pow h ha)
theorem inv_zero {p : Nat} (h3 : 3 ≤ p) {a : Int} (ha : Cg p a 0) : inv p a = 0 := by
  unfold inv
  have := (ha.pow (p - 2)).mod_eq
  rw [this, Int.zero_pow (by omega)]
  simp
theorem inv_nn {p : Nat} (h : Pr p) (a : Int) : 0 ≤ inv p a := mod_nonneg h.pos _
theorem FP.three {f : Int} {p : Nat} (h : FP f p) : 3 ≤ p := by
  have h0 := h.eq
  have h1 := h.lo
  have h2 := h.hi
  have : f = 0 ∨ f = 1 ∨ f = 2 ∨ f = 3 := by omega
  rcases this with rfl | rfl | rfl | rfl <;> (simp [pOf] at h0; omega)

/-! ### The inverse by Euclid's algorithm -/
theorem inv_step (k : Nat) (P r0 r1 x8 x9 q m x9' : Int) (hq : q = r0 / r1) (hm : m = r0 % r1) (h1 : 0 < r1) (h0 : 0 ≤ r0) (hr : r0 ≤ 998244353) (hx : x9' = x8 - q * x9) (b1 : -998244353 ≤ q * x9) (b2 : q * x9 ≤ 998244353) (b3 : -998244353 ≤ x9') (b4 : x9' ≤ 998244353) :
    field_Inv.l0 (k + 1) P r0 r1 x8 x9 = field_Inv.l0 k P r1 m x9 x9' := by
  have e := Int.emod_add_mul_ediv r0 r1
  rw [← hq, ← hm] at e
  have hm0 : 0 ≤ m := by rw [hm]; exact Int.emod_nonneg _ (by omega)
  have hm1 : m < r1 := by rw [hm]; exact Int.emod_lt_of_pos _ h1
  have hq0 : 0 ≤ q := by rw [hq]; exact Int.ediv_nonneg h0 (by omega)
  have hqr : r1 * q ≤ r0 := by omega
  have hq1 : q ≤ r1 * q := by
    have := Int.mul_le_mul_of_nonneg_right (show (1 : Int) ≤ r1 by omega) hq0
    omega
  have hc : q * r1 = r1 * q := Int.mul_comm _ _
  rw [field_Inv.l0, if_neg (by omega), Int.tdiv_eq_ediv_of_nonneg h0, ← hq, w64 (n := q) (by omega) (by omega), w64 (n := q * r1) (by omega) (by omega), w64 (n := q * x9) (by omega) (by omega), ← hx, w64 (n := x9') (by omega) (by omega), w64 (n := r0 - q * r1) (by omega) (by omega)]
  rw [show r0 - q * r1 = m by omega]
theorem inv_l0 {p : Nat} (hp : Pr p) (hle : p ≤ 998244353) {a b : Int} (hb : 0 < b ∧ b < p) (hab : Cg p a b) : ∀ (n : Nat) (r0 r1 u v s : Int), r1.toNat ≤ n → 0 ≤ r1 → r1 < r0 → r0 ≤ p → 0 ≤ u → u ≤ v → (s = 1 ∨ s = -1) → r0 * v + r1 * u = p →
    Cg p (a * (-s * u)) r0 → Cg p (a * (s * v)) r1 → (∀ d : Int, d ∣ r0 → d ∣ r1 → d ∣ b) → Ev (fun k => field_Inv.l0 k p r0 r1 (-s * u) (s * v)) (inv p a) := by
  have hpi : (p : Int) ≤ 998244353 := by omega
  have na : ¬ Cg p a 0 := fun h => by
    have := (hab.symm.trans h).mod_eq
    rw [Int.emod_eq_of_lt (by omega) hb.2] at this
    simp at this; omega
  intro n
  induction n with
  | zero =>
    intro r0 r1 u v s hn h1 h01 h0p hu huv hs he c0 c1 hd
    obtain rfl : r1 = 0 := by omega
    have hpos : 0 < r0 := by omega
    have hr0 : r0 = 1 := by
      have hdb : r0 ∣ b := hd r0 (Int.dvd_refl _) (Int.dvd_zero _)
      have hle0 : r0 ≤ b := Int.le_of_dvd hb.1 hdb
      have hdp : r0.natAbs ∣ p := by
        have : r0 ∣ (p : Int) := ⟨v, by omega⟩
        exact Int.natAbs_dvd_natAbs.2 this
      rcases hp.div _ hdp with e | e <;> omega
    subst hr0
    have hvp : v = p := by omega
    have hu2 : u ≠ p := by
      rintro rfl
      have h2 : Cg p (a * (-s * (p : Int))) 0 := ⟨a * -s, by grind⟩
      have := (c0.symm.trans h2).mod_eq
      rw [Int.emod_eq_of_lt (by omega) (by have := hp.two; omega)] at this
      simp at this
    have fin : ∀ r : Int, Cg p r (-s * u) → 0 ≤ r → r < p → r = inv p a := fun r hr g0 g1 => by
      have h2 := ((Cg.refl _ a).mul hr).trans c0
      have h3 := inv_uniq h2 (inv_spec hp na)
      exact h3.uniq g0 g1 (mod_nonneg hp.pos _) (mod_lt hp.pos _)
    refine Ev.succ (F := fun _ => some (inv p a)) (fun k => ?_) (Ev.all fun _ => rfl)
    rw [field_Inv.l0, if_pos rfl]
    rcases hs with rfl | rfl
    · by_cases h0 : u = 0
      · rw [if_neg (by omega), wu64 (by omega) (by omega)]
        exact congrArg some (fin _ (Cg.refl _ _) (by omega) (by omega))
      · rw [if_pos (by omega), w64 (n := (p : Int)) (by omega) (by omega), w64 (by omega) (by omega), wu64 (by omega) (by omega)]
        exact congrArg some (fin _ ⟨1, by omega⟩ (by omega) (by omega))
    · rw [if_neg (by omega), wu64 (by omega) (by omega)]
      exact congrArg some (fin _ (Cg.refl _ _) (by omega) (by omega))
  | succ n ih =>
    intro r0 r1 u v s hn h1 h01 h0p hu huv hs he c0 c1 hd
    by_cases hz : r1 = 0
    · subst hz
      exact (ih r0 0 u v s (by simp) h1 h01 h0p hu huv hs he c0 c1 hd)
    · obtain ⟨q, hq⟩ : ∃ q, q = r0 / r1 := ⟨_, rfl⟩
      obtain ⟨m, hm⟩ : ∃ m, m = r0 % r1 := ⟨_, rfl⟩
      have e := Int.emod_add_mul_ediv r0 r1
      rw [← hq, ← hm] at e
      have hm0 : 0 ≤ m := by rw [hm]; exact Int.emod_nonneg _ (by omega)
      have hm1 : m < r1 := by rw [hm]; exact Int.emod_lt_of_pos _ (by omega)
      have hq1 : 1 ≤ q := by
        rcases Int.lt_or_le q 1 with h | h
        · have : r1 * q ≤ 0 := Int.mul_nonpos_of_nonneg_of_nonpos (by omega) (by omega)
          omega
        · exact h
      have hv0 : 0 ≤ v := by omega
      have hqv : 0 ≤ q * v := Int.mul_nonneg (by omega) hv0
      have hv1 : v ≤ q * v := by
        have := Int.mul_le_mul_of_nonneg_right hq1 hv0
        omega
      have hkey : r1 * (u + q * v) + m * v = p := by
        have : r1 * (u + q * v) + m * v = (m + r1 * q) * v + r1 * u := by grind
        rw [this, e]; exact he
      have hmv : 0 ≤ m * v := Int.mul_nonneg hm0 hv0
      have hle1 : u + q * v ≤ r1 * (u + q * v) := by
        have := Int.mul_le_mul_of_nonneg_right (show (1 : Int) ≤ r1 by omega) (show 0 ≤ u + q * v by omega)
        omega
      have hb1 : u + q * v ≤ p := by omega
      have key := ih r1 m v (u + q * v) (-s) (by omega) hm0 hm1 (by omega) hv0 (by omega) (by omega) hkey
        (by have : a * (- -s * v) = a * (s * v) := by grind
            rw [this]; exact c1)
        (by have e1 : a * (-s * (u + q * v)) = a * (-s * u) - q * (a * (s * v)) := by grind
            rw [e1]
            have h2 := c0.sub ((Cg.refl _ q).mul c1)
            have e2 : r0 - q * r1 = m := by have : q * r1 = r1 * q := Int.mul_comm _ _; omega
            rwa [e2] at h2)
        (fun d d1 d2 => hd d (by rw [← e]; exact Int.dvd_add d2 (Int.dvd_mul_of_dvd_left d1)) d1)
      refine Ev.succ (fun k => ?_) key
      have e3 : - -s * v = s * v := by grind
      rw [e3]
      have e4 : -s * u - q * (s * v) = -s * (u + q * v) := by grind
      have hqs : q * (s * v) = s * (q * v) := by grind
      exact inv_step k p r0 r1 (-s * u) (s * v) q m (-s * (u + q * v)) hq hm (by omega) (by omega) (by omega) e4.symm (by rw [hqs]; rcases hs with rfl | rfl <;> omega) (by rw [hqs]; rcases hs with rfl | rfl <;> omega)
        (by rcases hs with rfl | rfl <;> omega) (by rcases hs with rfl | rfl <;> omega)
section good2
variable {f : Int} {p : Nat} (h : FP f p)
include h
theorem s_Inv {a : Int} (ha : 0 ≤ a) : Ev (fun k => field_Inv.f k f a) (inv p a) := by
  have hp := h.pos
  have ma := h.mod a
  have hl := h.lei
  by_cases h0 : a % p = 0
  · refine Ev.succ (F := fun _ => some (inv p a)) (fun k => ?_) (Ev.all fun _ => rfl)
    simp only [field_Inv.f, s_P h, Option.bind_some]
    rw [if_neg (by omega), tmod_nn ha, h0]
    simp only [field_Inv.j0]
    rw [if_pos (by rfl), inv_zero h.three (mod_eq_zero.1 h0)]
  · have key := inv_l0 h.pr h.le (a := a) (b := a % p) ⟨by omega, ma.2⟩ (Cg.mod _ _).symm (a % p).toNat p (a % p) 0 1 1 (Nat.le_refl _) ma.1 ma.2 (by omega) (by omega) (by omega) (Or.inl rfl) (by omega)
      ⟨-1, by omega⟩ (by simpa using (Cg.mod p a).symm) (fun d _ d2 => d2)
    refine Ev.succ (fun k => ?_) key
    simp only [field_Inv.f, s_P h, Option.bind_some]
    rw [if_neg (by omega), tmod_nn ha]
    simp only [field_Inv.j0]
    rw [if_neg (by simpa using h0), if_neg (by omega), tmod_nn ha, w64 (by omega) (by omega), w64 (by omega) (by omega)]
    rfl
end good2

/-! ### No field -/
section bad
variable {f : Int} (h : f < 0 ∨ 4 ≤ f)
include h
theorem b_P : field_P.f f = some 0 := by simp [field_P.f, pOf_bad h]
theorem b_Add (a b : Int) : field_Add.f f a b = some 0 := by simp [field_Add.f, b_P h]
theorem b_Mul (a b : Int) : field_Mul.f f a b = some 0 := by simp [field_Mul.f, b_P h]
end bad
/-- The field of f as rings go: modulo p if f is a field, modulo 1 if it is none. -/
structure FO (f : Int) (p : Nat) : Prop where
  pos : (0 : Int) < p
  lei : (p : Int) ≤ 998244353
  ok : FP f p ∨ ((f < 0 ∨ 4 ≤ f) ∧ p = 1)
theorem FP.o {f : Int} {p : Nat} (h : FP f p) : FO f p := ⟨h.pos, h.lei, Or.inl h⟩
theorem FO.mod {f : Int} {p : Nat} (h : FO f p) (a : Int) : 0 ≤ a % p ∧ a % p < p := ⟨mod_nonneg h.pos a, mod_lt h.pos a⟩
theorem FO.U {f : Int} {p : Nat} (h : FO f p) (a : Int) : U (a % p) := by have := h.mod a; have := h.lei; unfold Pure.U; omega
theorem mod_one (a : Int) : a % ((1 : Nat) : Int) = 0 := Int.emod_one a
section any
variable {f : Int} {p : Nat} (h : FO f p)
include h
theorem o_Add {a b : Int} (ha : 0 ≤ a) (hb : 0 ≤ b) : field_Add.f f a b = some ((a + b) % p) := by
  rcases h.ok with g | ⟨g, rfl⟩
  · exact s_Add g ha hb
  · rw [b_Add g, mod_one]
theorem o_Mul {a b : Int} (ha : 0 ≤ a) (hb : 0 ≤ b) : field_Mul.f f a b = some ((a * b) % p) := by
  rcases h.ok with g | ⟨g, rfl⟩
  · exact s_Mul g ha hb
  · rw [b_Mul g, mod_one]
end any
end Go.Proofs.YtdjjdlkglinlgaaDoor.Pure

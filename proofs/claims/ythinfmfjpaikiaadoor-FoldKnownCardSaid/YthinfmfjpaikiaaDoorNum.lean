/- Whole numbers modulo a prime, in plain words: congruence, Euclid's lemma, the four primes, Fermat's little theorem. No program in sight. -/
namespace Go.Proofs.YthinfmfjpaikiaaDoor.Num

def Cg (p a b : Int) : Prop := ∃ k, a = b + p * k

theorem Cg.refl (p a : Int) : Cg p a a := ⟨0, by simp⟩
theorem Cg.symm {p a b : Int} (h : Cg p a b) : Cg p b a := let ⟨k, e⟩ := h; ⟨-k, by rw [e]; grind⟩
theorem Cg.trans {p a b c : Int} (h : Cg p a b) (g : Cg p b c) : Cg p a c := let ⟨k, e⟩ := h; let ⟨l, f⟩ := g; ⟨k + l, by rw [e, f]; grind⟩
theorem Cg.add {p a b c d : Int} (h : Cg p a b) (g : Cg p c d) : Cg p (a + c) (b + d) := let ⟨k, e⟩ := h; let ⟨l, f⟩ := g; ⟨k + l, by rw [e, f]; grind⟩
theorem Cg.sub {p a b c d : Int} (h : Cg p a b) (g : Cg p c d) : Cg p (a - c) (b - d) := let ⟨k, e⟩ := h; let ⟨l, f⟩ := g; ⟨k - l, by rw [e, f]; grind⟩
theorem Cg.zero_of_dvd {p a : Int} (h : p ∣ a) : Cg p a 0 := let ⟨k, e⟩ := h; ⟨k, by rw [e]; grind⟩
theorem Cg.dvd {p a : Int} (h : Cg p a 0) : p ∣ a := let ⟨k, e⟩ := h; ⟨k, by rw [e]; grind⟩
theorem Cg.sub_zero {p a b : Int} (h : Cg p a b) : Cg p (a - b) 0 := let ⟨k, e⟩ := h; ⟨k, by rw [e]; grind⟩
theorem mod_nonneg {p : Int} (hp : 0 < p) (a : Int) : 0 ≤ a % p := Int.emod_nonneg _ (by omega)
theorem mod_lt {p : Int} (hp : 0 < p) (a : Int) : a % p < p := Int.emod_lt_of_pos _ hp
theorem mod_eq_zero {p a : Int} : a % p = 0 ↔ Cg p a 0 := ⟨fun h => Cg.zero_of_dvd (Int.dvd_of_emod_eq_zero h), fun h => Int.emod_eq_zero_of_dvd h.dvd⟩

structure Pr (p : Nat) : Prop where
  two : 2 ≤ p
  div : ∀ d, d ∣ p → d = 1 ∨ d = p

theorem Pr.nat {p : Nat} (h : Pr p) {a b : Nat} (hd : p ∣ a * b) : p ∣ a ∨ p ∣ b := by
  rcases h.div (Nat.gcd p a) (Nat.gcd_dvd_left p a) with e | e
  · exact Or.inr (Nat.Coprime.dvd_of_dvd_mul_left e hd)
  · exact Or.inl (e ▸ Nat.gcd_dvd_right p a)
theorem Pr.int {p : Nat} (h : Pr p) {a b : Int} (hd : Cg p (a * b) 0) : Cg p a 0 ∨ Cg p b 0 := by
  have h1 : p ∣ a.natAbs * b.natAbs := by
    rw [← Int.natAbs_mul]
    exact Int.ofNat_dvd_left.1 hd.dvd
  rcases h.nat h1 with e | e
  · exact Or.inl (Cg.zero_of_dvd (Int.ofNat_dvd_left.2 e))
  · exact Or.inr (Cg.zero_of_dvd (Int.ofNat_dvd_left.2 e))
end Go.Proofs.YthinfmfjpaikiaaDoor.Num

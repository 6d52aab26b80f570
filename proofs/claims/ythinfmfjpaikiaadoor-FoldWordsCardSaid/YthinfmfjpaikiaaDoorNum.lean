/- Whole numbers modulo a prime, in plain words: congruence, Euclid's lemma, the four primes, Fermat's little theorem. No program in sight. -/
namespace Go.Proofs.YthinfmfjpaikiaaDoor.Num

def Cg (p a b : Int) : Prop := ∃ k, a = b + p * k

theorem Cg.refl (p a : Int) : Cg p a a := ⟨0, by simp⟩
theorem Cg.of_eq {p a b : Int} (h : a = b) : Cg p a b := ⟨0, by simp [h]⟩
theorem Cg.symm {p a b : Int} (h : Cg p a b) : Cg p b a := let ⟨k, e⟩ := h; ⟨-k, by rw [e]; grind⟩
theorem Cg.trans {p a b c : Int} (h : Cg p a b) (g : Cg p b c) : Cg p a c := let ⟨k, e⟩ := h; let ⟨l, f⟩ := g; ⟨k + l, by rw [e, f]; grind⟩
theorem Cg.add {p a b c d : Int} (h : Cg p a b) (g : Cg p c d) : Cg p (a + c) (b + d) := let ⟨k, e⟩ := h; let ⟨l, f⟩ := g; ⟨k + l, by rw [e, f]; grind⟩
theorem Cg.sub {p a b c d : Int} (h : Cg p a b) (g : Cg p c d) : Cg p (a - c) (b - d) := let ⟨k, e⟩ := h; let ⟨l, f⟩ := g; ⟨k - l, by rw [e, f]; grind⟩
theorem Cg.mul {p a b c d : Int} (h : Cg p a b) (g : Cg p c d) : Cg p (a * c) (b * d) := let ⟨k, e⟩ := h; let ⟨l, f⟩ := g; ⟨k * d + b * l + p * k * l, by rw [e, f]; grind⟩
theorem Cg.neg {p a b : Int} (h : Cg p a b) : Cg p (-a) (-b) := let ⟨k, e⟩ := h; ⟨-k, by rw [e]; grind⟩
theorem Cg.pow {p a b : Int} (h : Cg p a b) : ∀ n : Nat, Cg p (a ^ n) (b ^ n)
  | 0 => by simpa using Cg.refl p 1
  | n + 1 => by rw [Int.pow_succ, Int.pow_succ]; exact (Cg.pow h n).mul h
theorem Cg.mod (p a : Int) : Cg p (a % p) a := ⟨-(a / p), by have := Int.emod_add_mul_ediv a p; grind⟩
theorem Cg.zero_of_dvd {p a : Int} (h : p ∣ a) : Cg p a 0 := let ⟨k, e⟩ := h; ⟨k, by rw [e]; grind⟩
theorem Cg.dvd {p a : Int} (h : Cg p a 0) : p ∣ a := let ⟨k, e⟩ := h; ⟨k, by rw [e]; grind⟩
theorem Cg.sub_zero {p a b : Int} (h : Cg p a b) : Cg p (a - b) 0 := let ⟨k, e⟩ := h; ⟨k, by rw [e]; grind⟩
theorem Cg.of_sub {p a b : Int} (h : Cg p (a - b) 0) : Cg p a b := let ⟨k, e⟩ := h; ⟨k, by grind⟩
theorem Cg.mod_eq {p a b : Int} (h : Cg p a b) : a % p = b % p := by
  obtain ⟨k, e⟩ := h
  rw [e, Int.add_mul_emod_self_left]
theorem Cg.of_mod {p a b : Int} (h : a % p = b % p) : Cg p a b := ((Cg.mod p a).symm.trans (Cg.of_eq h)).trans (Cg.mod p b)
theorem Cg.uniq {p a b : Int} (h : Cg p a b) (ha : 0 ≤ a) (ha' : a < p) (hb : 0 ≤ b) (hb' : b < p) : a = b := by
  have := h.mod_eq
  rwa [Int.emod_eq_of_lt ha ha', Int.emod_eq_of_lt hb hb'] at this
theorem mod_nonneg {p : Int} (hp : 0 < p) (a : Int) : 0 ≤ a % p := Int.emod_nonneg _ (by omega)
theorem mod_lt {p : Int} (hp : 0 < p) (a : Int) : a % p < p := Int.emod_lt_of_pos _ hp
theorem mod_eq_zero {p a : Int} : a % p = 0 ↔ Cg p a 0 := ⟨fun h => Cg.zero_of_dvd (Int.dvd_of_emod_eq_zero h), fun h => Int.emod_eq_zero_of_dvd h.dvd⟩

structure Pr (p : Nat) : Prop where
  two : 2 ≤ p
  div : ∀ d, d ∣ p → d = 1 ∨ d = p

theorem Pr.nat {p : Nat} (h : Pr p) {a b : Nat} (hd : p ∣ a * b) : p ∣ a ∨ p ∣ b := by
  rcases h.div (Nat.gcd p a) (Nat.gcd_dvd_left p a) with e | e
  · exact Or.inr (Nat.Coprime.dvd_of_dvd_mul_left e hd)
  · exact Or.inl (e ▸ Nat.gcd_dvd_right p a)
theorem Pr.int {p : Nat} (h : Pr p) {a b : Int} (hd : Cg p (a * b) 0) : Cg p a 0 ∨ Cg p b 0 := by
  have h1 : p ∣ a.natAbs * b.natAbs := by
    rw [← Int.natAbs_mul]
    exact Int.ofNat_dvd_left.1 hd.dvd
  rcases h.nat h1 with e | e
  · exact Or.inl (Cg.zero_of_dvd (Int.ofNat_dvd_left.2 e))
  · exact Or.inr (Cg.zero_of_dvd (Int.ofNat_dvd_left.2 e))
theorem Pr.pos {p : Nat} (h : Pr p) : (0 : Int) < p := by have := h.two; omega

def noDiv (n : Nat) : Nat → Nat → Bool
  | 0, lo => n % lo != 0 || Nat.ble n lo || Nat.ble lo 1
  | f + 1, lo => noDiv n f lo && noDiv n f (lo + 2 ^ f)
theorem noDiv_spec {n : Nat} : ∀ (f lo : Nat), noDiv n f lo = true → ∀ d, lo ≤ d → d < lo + 2 ^ f → d ∣ n → d = 1 ∨ n ≤ d ∨ d = 0
  | 0, lo, h, d, h1, h2, hd => by
    obtain rfl : d = lo := by simp at h2; omega
    simp only [noDiv, Bool.or_eq_true, bne_iff_ne, ne_eq, Nat.ble_eq] at h
    rcases h with (h | h) | h
    · exact absurd (Nat.mod_eq_zero_of_dvd hd) h
    · exact Or.inr (Or.inl h)
    · omega
  | f + 1, lo, h, d, h1, h2, hd => by
    simp only [noDiv, Bool.and_eq_true] at h
    rw [Nat.pow_succ] at h2
    by_cases hlt : d < lo + 2 ^ f
    · exact noDiv_spec f lo h.1 d h1 hlt hd
    · exact noDiv_spec f _ h.2 d (by omega) (by omega) hd
theorem Pr.of_noDiv {n f : Nat} (h2 : 2 ≤ n) (hf : n < (2 ^ f) * (2 ^ f)) (h : noDiv n f 2 = true) : Pr n := by
  refine ⟨h2, fun d hd => ?_⟩
  obtain ⟨e, he⟩ := hd
  have hd0 : d ≠ 0 := by rintro rfl; simp at he; omega
  have he0 : e ≠ 0 := by rintro rfl; simp at he; omega
  rcases Nat.lt_or_ge d (2 ^ f) with hl | hl
  · by_cases h1 : d = 1
    · exact Or.inl h1
    · rcases noDiv_spec f 2 h d (by omega) (by omega) ⟨e, he⟩ with h3 | h3 | h3
      · exact Or.inl h3
      · have : d ≤ n := Nat.le_of_dvd (by omega) ⟨e, he⟩
        exact Or.inr (by omega)
      · exact absurd h3 hd0
  · rcases Nat.lt_or_ge e (2 ^ f) with hl' | hl'
    · by_cases h1 : e = 1
      · subst h1; exact Or.inr (by omega)
      · rcases noDiv_spec f 2 h e (by omega) (by omega) ⟨d, by rw [Nat.mul_comm]; exact he⟩ with h3 | h3 | h3
        · exact absurd h3 h1
        · have : e ≤ n := Nat.le_of_dvd (by omega) ⟨d, by rw [Nat.mul_comm]; exact he⟩
          have hen : e = n := by omega
          have hp : 0 < n := by omega
          rw [hen] at he
          have h4 : d * n = 1 * n := by omega
          exact Or.inl (Nat.eq_of_mul_eq_mul_right hp h4)
        · exact absurd h3 he0
    · have := Nat.mul_le_mul hl hl'
      omega
theorem pr97 : Pr 97 := Pr.of_noDiv (f := 4) (by decide) (by decide) (by decide +kernel)
theorem pr257 : Pr 257 := Pr.of_noDiv (f := 5) (by decide) (by decide) (by decide +kernel)
theorem pr12289 : Pr 12289 := Pr.of_noDiv (f := 7) (by decide) (by decide) (by decide +kernel)
theorem pr998244353 : Pr 998244353 := Pr.of_noDiv (f := 15) (by decide) (by decide) (by decide +kernel)

def ch : Nat → Nat → Nat
  | _, 0 => 1
  | 0, _ + 1 => 0
  | n + 1, k + 1 => ch n k + ch n (k + 1)
theorem ch_zero (n : Nat) : ch n 0 = 1 := by cases n <;> rfl
theorem ch_over : ∀ (n k : Nat), n < k → ch n k = 0
  | 0, k + 1, _ => rfl
  | n + 1, k + 1, h => by simp only [ch]; rw [ch_over n k (by omega), ch_over n (k + 1) (by omega)]
theorem ch_self : ∀ n : Nat, ch n n = 1
  | 0 => rfl
  | n + 1 => by simp only [ch]; rw [ch_self n, ch_over n (n + 1) (by omega)]
theorem ch_mul : ∀ (n k : Nat), (k + 1) * ch (n + 1) (k + 1) = (n + 1) * ch n k
  | 0, 0 => rfl
  | 0, k + 1 => by simp [ch]
  | n + 1, 0 => by
    have h := ch_mul n 0
    simp only [ch, ch_zero] at h ⊢
    omega
  | n + 1, k + 1 => by
    have h1 := ch_mul n k
    have h2 := ch_mul n (k + 1)
    simp only [ch] at h1 h2 ⊢
    grind
theorem pr_ch {p : Nat} (h : Pr p) (k : Nat) (h0 : 0 < k) (hk : k < p) : p ∣ ch p k := by
  obtain ⟨n, rfl⟩ : ∃ n, p = n + 1 := ⟨p - 1, by omega⟩
  obtain ⟨j, rfl⟩ : ∃ j, k = j + 1 := ⟨k - 1, by omega⟩
  have h1 := ch_mul n j
  rcases h.nat (a := j + 1) (b := ch (n + 1) (j + 1)) ⟨_, h1⟩ with e | e
  · have := Nat.le_of_dvd (by omega) e; omega
  · exact e
def bin (n : Nat) (x : Int) : Nat → Int
  | 0 => 0
  | m + 1 => bin n x m + (ch n m : Int) * x ^ m
theorem bin_succ (n : Nat) (x : Int) : ∀ m, bin (n + 1) x (m + 1) = bin n x (m + 1) + x * bin n x m
  | 0 => by simp [bin, ch_zero]
  | m + 1 => by
    have h := bin_succ n x m
    simp only [bin] at h ⊢
    simp only [ch] at h ⊢
    rw [h]
    have : (x : Int) ^ (m + 1) = x ^ m * x := Int.pow_succ x m
    rw [this]
    simp only [Int.natCast_add]
    grind
theorem bin_pow (x : Int) : ∀ n, (1 + x) ^ n = bin n x (n + 1)
  | 0 => by simp [bin, ch]
  | n + 1 => by
    rw [Int.pow_succ, bin_pow x n, bin_succ n x (n + 1)]
    have : bin n x (n + 1 + 1) = bin n x (n + 1) := by
      simp only [bin]; rw [ch_over n (n + 1) (by omega)]; simp
    rw [this]
    grind
theorem bin_cg {p : Nat} (h : Pr p) (x : Int) : ∀ m, m + 1 ≤ p → Cg p (bin p x (m + 1)) 1
  | 0, _ => by simp [bin, ch_zero]; exact Cg.refl _ _
  | m + 1, hm => by
    have ih := bin_cg h x m (by omega)
    rw [show bin p x (m + 1 + 1) = bin p x (m + 1) + (ch p (m + 1) : Int) * x ^ (m + 1) from rfl]
    obtain ⟨c, hc⟩ := pr_ch h (m + 1) (by omega) (by omega)
    obtain ⟨k, hk⟩ := ih
    refine ⟨k + c * x ^ (m + 1), ?_⟩
    rw [hk, hc, Int.natCast_mul]
    grind
theorem pow_one_add {p : Nat} (h : Pr p) (x : Int) : Cg p ((1 + x) ^ p) (1 + x ^ p) := by
  rw [bin_pow]
  obtain ⟨m, hm⟩ : ∃ m, p = m + 1 := ⟨p - 1, by have := h.two; omega⟩
  have h1 := bin_cg h x m (by omega)
  rw [show bin p x (p + 1) = bin p x p + (ch p p : Int) * x ^ p from rfl, ch_self]
  rw [← hm] at h1
  simpa using h1.add (Cg.refl _ (x ^ p))
theorem flt_nat {p : Nat} (h : Pr p) : ∀ a : Nat, Cg p ((a : Int) ^ p) a
  | 0 => by
    have := h.two
    rw [show ((0 : Nat) : Int) = 0 from rfl, Int.zero_pow (by omega)]
    exact Cg.refl _ _
  | a + 1 => by
    have e : ((a + 1 : Nat) : Int) = 1 + (a : Int) := by omega
    rw [e]
    exact (pow_one_add h a).trans ((Cg.refl _ 1).add (flt_nat h a))
theorem flt {p : Nat} (h : Pr p) (a : Int) : Cg p (a ^ p) a := by
  have hp := h.pos
  have h1 : Cg p (a % p) a := Cg.mod _ _
  have h2 := flt_nat h (a % p).toNat
  rw [Int.toNat_of_nonneg (mod_nonneg hp a)] at h2
  exact ((h1.pow p).symm.trans h2).trans h1
theorem inv_pow {p : Nat} (h : Pr p) {a : Int} (ha : ¬ Cg p a 0) : Cg p (a * a ^ (p - 2)) 1 := by
  have h2 := h.two
  have h1 := flt h a
  have e : a ^ p = a * (a * a ^ (p - 2)) := by
    obtain ⟨m, rfl⟩ : ∃ m, p = m + 2 := ⟨p - 2, by omega⟩
    rw [Int.pow_succ, Int.pow_succ]
    simp only [Nat.add_sub_cancel]
    grind
  rw [e] at h1
  have h3 : Cg p (a * (a * a ^ (p - 2) - 1)) 0 := by
    obtain ⟨k, hk⟩ := h1
    exact ⟨k, by grind⟩
  rcases h.int h3 with e | e
  · exact absurd e ha
  · exact Cg.of_sub e
theorem inv_uniq {p : Nat} {a b c : Int} (hb : Cg p (a * b) 1) (hc : Cg p (a * c) 1) : Cg p b c := by
  have h1 : Cg p (b * (a * c)) (b * 1) := (Cg.refl _ b).mul hc
  have h2 : Cg p (c * (a * b)) (c * 1) := (Cg.refl _ c).mul hb
  have e : b * (a * c) = c * (a * b) := by grind
  rw [Int.mul_one] at h1 h2
  exact h1.symm.trans ((Cg.of_eq e).trans h2)
end Go.Proofs.YthinfmfjpaikiaaDoor.Num

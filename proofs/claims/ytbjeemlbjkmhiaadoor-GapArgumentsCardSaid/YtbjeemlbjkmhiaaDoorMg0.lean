/- Whole numbers modulo a prime, in plain words: congruence, Euclid's lemma, the four primes, Fermat's little theorem. No program in sight. -/
import Derived.Test.YtbjeemlbjkmhiaaDoorQ0
import Derived.Test.YtbjeemlbjkmhiaaDoorQ1
import Derived.Test.YtbjeemlbjkmhiaaDoorQ14
import Derived.Test.YtbjeemlbjkmhiaaDoorQ4
import Derived.Test.YtbjeemlbjkmhiaaDoorQ9
import Derived.Test.YtbjeemlbjkmhiaaDoorQ16
import Derived.Test.YtbjeemlbjkmhiaaDoorQ5
import Derived.Test.YtbjeemlbjkmhiaaDoorQ3
import Derived.Laws.BitsAllLaws
import Derived.Test.YtbjeemlbjkmhiaaDoorQ2
import Derived.Laws.Strings
import Derived.Lib.SplitLaws
import Derived.Lib.CountLaws
import Derived.Test.YtbjeemlbjkmhiaaDoorQ6
import Derived.Test.YtbjeemlbjkmhiaaDoorQ7
import Derived.Test.YtbjeemlbjkmhiaaDoorQ8
import Derived.Test.YtbjeemlbjkmhiaaDoorQ11
import Derived.Test.YtbjeemlbjkmhiaaDoorQ12
import Derived.Test.YtbjeemlbjkmhiaaDoorQ10
import Derived.Test.YtbjeemlbjkmhiaaDoorQ17
namespace Go.Proofs.YtbjeemlbjkmhiaaDoor.Num

def Cg (p a b : Int) : Prop := ∃ k, a = b + p * k

theorem Cg.refl (p a : Int) : Cg p a a := ⟨0, by simp⟩
theorem Cg.of_eq {p a b : Int} (h : a = b) : Cg p a b := ⟨0, by simp [h]⟩
theorem Cg.symm {p a b : Int} (h : Cg p a b) : Cg p b a := let ⟨k, e⟩ := h; ⟨-k, by rw [e]; grind⟩
theorem Cg.trans {p a b c : Int} (h : Cg p a b) (g : Cg p b c) : Cg p a c := let ⟨k, e⟩ := h; let ⟨l, f⟩ := g; ⟨k + l, by rw [e, f]; grind⟩
theorem Cg.add {p a b c d : Int} (h : Cg p a b) (g : Cg p c d) : Cg p (a + c) (b + d) := let ⟨k, e⟩ := h; let ⟨l, f⟩ := g; ⟨k + l, by rw [e, f]; grind⟩
theorem Cg.sub {p a b c d : Int} (h : Cg p a b) (g : Cg p c d) : Cg p (a - c) (b - d) := let ⟨k, e⟩ := h; let ⟨l, f⟩ := g; ⟨k - l, by rw [e, f]; grind⟩
theorem Cg.mul {p a b c d : Int} (h : Cg p a b) (g : Cg p c d) : Cg p (a * c) (b * d) := let ⟨k, e⟩ := h; let ⟨l, f⟩ := g; ⟨k * d + b * l + p * k * l, by rw [e, f]; grind⟩
theorem Cg.pow {p a b : Int} (h : Cg p a b) : ∀ n : Nat, Cg p (a ^ n) (b ^ n)
  | 0 => by simpa using Cg.refl p 1
  | n + 1 => by rw [Int.pow_succ, Int.pow_succ]; exact (Cg.pow h n).mul h
theorem Cg.mod (p a : Int) : Cg p (a % p) a := ⟨-(a / p), by have := Int.emod_add_mul_ediv a p; grind⟩
theorem Cg.zero_of_dvd {p a : Int} (h : p ∣ a) : Cg p a 0 := let ⟨k, e⟩ := h; ⟨k, by rw [e]; grind⟩
theorem Cg.dvd {p a : Int} (h : Cg p a 0) : p ∣ a := let ⟨k, e⟩ := h; ⟨k, by rw [e]; grind⟩
theorem Cg.sub_zero {p a b : Int} (h : Cg p a b) : Cg p (a - b) 0 := let ⟨k, e⟩ := h; ⟨k, by rw [e]; grind⟩
theorem Cg.of_sub {p a b : Int} (h : Cg p (a - b) 0) : Cg p a b := let ⟨k, e⟩ := h; ⟨k, by grind⟩
theorem Cg.mod_eq {p a b : Int} (h : Cg p a b) : a % p = b % p := by
  obtain ⟨k, e⟩ := h
  rw [e, Int.add_mul_emod_self_left]
theorem Cg.of_mod {p a b : Int} (h : a % p = b % p) : Cg p a b := ((Cg.mod p a).symm.trans (Cg.of_eq h)).trans (Cg.mod p b)
theorem Cg.uniq {p a b : Int} (h : Cg p a b) (ha : 0 ≤ a) (ha' : a < p) (hb : 0 ≤ b) (hb' : b < p) : a = b := by
  have := h.mod_eq
  rwa [Int.emod_eq_of_lt ha ha', Int.emod_eq_of_lt hb hb'] at this
theorem mod_nonneg {p : Int} (hp : 0 < p) (a : Int) : 0 ≤ a % p := Int.emod_nonneg _ (by omega)
theorem mod_lt {p : Int} (hp : 0 < p) (a : Int) : a % p < p := Int.emod_lt_of_pos _ hp
theorem mod_eq_zero {p a : Int} : a % p = 0 ↔ Cg p a 0 := ⟨fun h => Cg.zero_of_dvd (Int.dvd_of_emod_eq_zero h), fun h => Int.emod_eq_zero_of_dvd h.dvd⟩

structure Pr (p : Nat) : Prop where
  two : 2 ≤ p
  div : ∀ d, d ∣ p → d = 1 ∨ d = p

theorem Pr.nat {p : Nat} (h : Pr p) {a b : Nat} (hd : p ∣ a * b) : p ∣ a ∨ p ∣ b := by
  rcases h.div (Nat.gcd p a) (Nat.gcd_dvd_left p a) with e | e
  · exact Or.inr (Nat.Coprime.dvd_of_dvd_mul_left e hd)
  · exact Or.inl (e ▸ Nat.gcd_dvd_right p a)
theorem Pr.int {p : Nat} (h : Pr p) {a b : Int} (hd : Cg p (a * b) 0) : Cg p a 0 ∨ Cg p b 0 := by
  have h1 : p ∣ a.natAbs * b.natAbs := by
    rw [← Int.natAbs_mul]
    exact Int.ofNat_dvd_left.1 hd.dvd
  rcases h.nat h1 with e | e
  · exact Or.inl (Cg.zero_of_dvd (Int.ofNat_dvd_left.2 e))
  · exact Or.inr (Cg.zero_of_dvd (Int.ofNat_dvd_left.2 e))
theorem Pr.pos {p : Nat} (h : Pr p) : (0 : Int) < p := by have := h.two; omega

def noDiv (n : Nat) : Nat → Nat → Bool
  | 0, lo => n % lo != 0 || Nat.ble n lo || Nat.ble lo 1
  | f + 1, lo => noDiv n f lo && noDiv n f (lo + 2 ^ f)
theorem noDiv_spec {n : Nat} : ∀ (f lo : Nat), noDiv n f lo = true → ∀ d, lo ≤ d → d < lo + 2 ^ f → d ∣ n → d = 1 ∨ n ≤ d ∨ d = 0
  | 0, lo, h, d, h1, h2, hd => by
    obtain rfl : d = lo := by simp at h2; omega
    simp only [noDiv, Bool.or_eq_true, bne_iff_ne, ne_eq, Nat.ble_eq] at h
    rcases h with (h | h) | h
    · exact absurd (Nat.mod_eq_zero_of_dvd hd) h
    · exact Or.inr (Or.inl h)
    · omega
  | f + 1, lo, h, d, h1, h2, hd => by
    simp only [noDiv, Bool.and_eq_true] at h
    rw [Nat.pow_succ] at h2
    by_cases hlt : d < lo + 2 ^ f
    · exact noDiv_spec f lo h.1 d h1 hlt hd
    · exact noDiv_spec f _ h.2 d (by omega) (by omega) hd
theorem Pr.of_noDiv {n f : Nat} (h2 : 2 ≤ n) (hf : n < (2 ^ f) * (2 ^ f)) (h : noDiv n f 2 = true) : Pr n := by
  refine ⟨h2, fun d hd => ?_⟩
  obtain ⟨e, he⟩ := hd
  have hd0 : d ≠ 0 := by rintro rfl; simp at he; omega
  have he0 : e ≠ 0 := by rintro rfl; simp at he; omega
  rcases Nat.lt_or_ge d (2 ^ f) with hl | hl
  · by_cases h1 : d = 1
    · exact Or.inl h1
    · rcases noDiv_spec f 2 h d (by omega) (by omega) ⟨e, he⟩ with h3 | h3 | h3
      · exact Or.inl h3
      · have : d ≤ n := Nat.le_of_dvd (by omega) ⟨e, he⟩
        exact Or.inr (by omega)
      · exact absurd h3 hd0
  · rcases Nat.lt_or_ge e (2 ^ f) with hl' | hl'
    · by_cases h1 : e = 1
      · subst h1; exact Or.inr (by omega)
      · rcases noDiv_spec f 2 h e (by omega) (by omega) ⟨d, by rw [Nat.mul_comm]; exact he⟩ with h3 | h3 | h3
        · exact absurd h3 h1
        · have : e ≤ n := Nat.le_of_dvd (by omega) ⟨d, by rw [Nat.mul_comm]; exact he⟩
          have hen : e = n := by omega
          have hp : 0 < n := by omega
          rw [hen] at he
          have h4 : d * n = 1 * n := by omega
          exact Or.inl (Nat.eq_of_mul_eq_mul_right hp h4)
        · exact absurd h3 he0
    · have := Nat.mul_le_mul hl hl'
      omega
theorem pr97 : Pr 97 := Pr.of_noDiv (f := 4) (by decide) (by decide) (by decide +kernel)
theorem pr257 : Pr 257 := Pr.of_noDiv (f := 5) (by decide) (by decide) (by decide +kernel)
theorem pr12289 : Pr 12289 := Pr.of_noDiv (f := 7) (by decide) (by decide) (by decide +kernel)
theorem pr998244353 : Pr 998244353 := Pr.of_noDiv (f := 15) (by decide) (by decide) (by decide +kernel)

def ch : Nat → Nat → Nat
  | _, 0 => 1
  | 0, _ + 1 => 0
  | n + 1, k + 1 => ch n k + ch n (k + 1)
theorem ch_zero (n : Nat) : ch n 0 = 1 := by cases n <;> rfl
theorem ch_over : ∀ (n k : Nat), n < k → ch n k = 0
  | 0, k + 1, _ => rfl
  | n + 1, k + 1, h => by simp only [ch]; rw [ch_over n k (by omega), ch_over n (k + 1) (by omega)]
theorem ch_self : ∀ n : Nat, ch n n = 1
  | 0 => rfl
  | n + 1 => by simp only [ch]; rw [ch_self n, ch_over n (n + 1) (by omega)]
theorem ch_mul : ∀ (n k : Nat), (k + 1) * ch (n + 1) (k + 1) = (n + 1) * ch n k
  | 0, 0 => rfl
  | 0, k + 1 => by simp [ch]
  | n + 1, 0 => by
    have h := ch_mul n 0
    simp only [ch, ch_zero] at h ⊢
    omega
  | n + 1, k + 1 => by
    have h1 := ch_mul n k
    have h2 := ch_mul n (k + 1)
    simp only [ch] at h1 h2 ⊢
    grind
theorem pr_ch {p : Nat} (h : Pr p) (k : Nat) (h0 : 0 < k) (hk : k < p) : p ∣ ch p k := by
  obtain ⟨n, rfl⟩ : ∃ n, p = n + 1 := ⟨p - 1, by omega⟩
  obtain ⟨j, rfl⟩ : ∃ j, k = j + 1 := ⟨k - 1, by omega⟩
  have h1 := ch_mul n j
  rcases h.nat (a := j + 1) (b := ch (n + 1) (j + 1)) ⟨_, h1⟩ with e | e
  · have := Nat.le_of_dvd (by omega) e; omega
  · exact e
def bin (n : Nat) (x : Int) : Nat → Int
  | 0 => 0
  | m + 1 => bin n x m + (ch n m : Int) * x ^ m
theorem bin_succ (n : Nat) (x : Int) : ∀ m, bin (n + 1) x (m + 1) = bin n x (m + 1) + x * bin n x m
  | 0 => by simp [bin, ch_zero]
  | m + 1 => by
    have h := bin_succ n x m
    simp only [bin] at h ⊢
    simp only [ch] at h ⊢
    rw [h]
    have : (x : Int) ^ (m + 1) = x ^ m * x := Int.pow_succ x m
    rw [this]
    simp only [Int.natCast_add]
    grind
theorem bin_pow (x : Int) : ∀ n, (1 + x) ^ n = bin n x (n + 1)
  | 0 => by simp [bin, ch]
  | n + 1 => by
    rw [Int.pow_succ, bin_pow x n, bin_succ n x (n + 1)]
    have : bin n x (n + 1 + 1) = bin n x (n + 1) := by
      simp only [bin]; rw [ch_over n (n + 1) (by omega)]; simp
    rw [this]
    grind
theorem bin_cg {p : Nat} (h : Pr p) (x : Int) : ∀ m, m + 1 ≤ p → Cg p (bin p x (m + 1)) 1
  | 0, _ => by simp [bin, ch_zero]; exact Cg.refl _ _
  | m + 1, hm => by
    have ih := bin_cg h x m (by omega)
    rw [show bin p x (m + 1 + 1) = bin p x (m + 1) + (ch p (m + 1) : Int) * x ^ (m + 1) from rfl]
    obtain ⟨c, hc⟩ := pr_ch h (m + 1) (by omega) (by omega)
    obtain ⟨k, hk⟩ := ih
    refine ⟨k + c * x ^ (m + 1), ?_⟩
    rw [hk, hc, Int.natCast_mul]
    grind
theorem pow_one_add {p : Nat} (h : Pr p) (x : Int) : Cg p ((1 + x) ^ p) (1 + x ^ p) := by
  rw [bin_pow]
  obtain ⟨m, hm⟩ : ∃ m, p = m + 1 := ⟨p - 1, by have := h.two; omega⟩
  have h1 := bin_cg h x m (by omega)
  rw [show bin p x (p + 1) = bin p x p + (ch p p : Int) * x ^ p from rfl, ch_self]
  rw [← hm] at h1
  simpa using h1.add (Cg.refl _ (x ^ p))
theorem flt_nat {p : Nat} (h : Pr p) : ∀ a : Nat, Cg p ((a : Int) ^ p) a
  | 0 => by
    have := h.two
    rw [show ((0 : Nat) : Int) = 0 from rfl, Int.zero_pow (by omega)]
    exact Cg.refl _ _
  | a + 1 => by
    have e : ((a + 1 : Nat) : Int) = 1 + (a : Int) := by omega
    rw [e]
    exact (pow_one_add h a).trans ((Cg.refl _ 1).add (flt_nat h a))
theorem flt {p : Nat} (h : Pr p) (a : Int) : Cg p (a ^ p) a := by
  have hp := h.pos
  have h1 : Cg p (a % p) a := Cg.mod _ _
  have h2 := flt_nat h (a % p).toNat
  rw [Int.toNat_of_nonneg (mod_nonneg hp a)] at h2
  exact ((h1.pow p).symm.trans h2).trans h1
theorem inv_pow {p : Nat} (h : Pr p) {a : Int} (ha : ¬ Cg p a 0) : Cg p (a * a ^ (p - 2)) 1 := by
  have h2 := h.two
  have h1 := flt h a
  have e : a ^ p = a * (a * a ^ (p - 2)) := by
    obtain ⟨m, rfl⟩ : ∃ m, p = m + 2 := ⟨p - 2, by omega⟩
    rw [Int.pow_succ, Int.pow_succ]
    simp only [Nat.add_sub_cancel]
    grind
  rw [e] at h1
  have h3 : Cg p (a * (a * a ^ (p - 2) - 1)) 0 := by
    obtain ⟨k, hk⟩ := h1
    exact ⟨k, by grind⟩
  rcases h.int h3 with e | e
  · exact absurd e ha
  · exact Cg.of_sub e
theorem inv_uniq {p : Nat} {a b c : Int} (hb : Cg p (a * b) 1) (hc : Cg p (a * c) 1) : Cg p b c := by
  have h1 : Cg p (b * (a * c)) (b * 1) := (Cg.refl _ b).mul hc
  have h2 : Cg p (c * (a * b)) (c * 1) := (Cg.refl _ c).mul hb
  have e : b * (a * c) = c * (a * b) := by grind
  rw [Int.mul_one] at h1 h2
  exact h1.symm.trans ((Cg.of_eq e).trans h2)
end Go.Proofs.YtbjeemlbjkmhiaaDoor.Num
namespace Go.Proofs.YtbjeemlbjkmhiaaDoor.Pol
open Num

def co (l : List Int) (i : Nat) : Int := l.getD i 0
def ev : List Int → Int → Int
  | [], _ => 0
  | c :: t, x => c + x * ev t x
def padd : List Int → List Int → List Int
  | [], b => b
  | x :: a, [] => x :: a
  | x :: a, y :: b => (x + y) :: padd a b
def psc (c : Int) (l : List Int) : List Int := l.map (c * ·)
def pmul : List Int → List Int → List Int
  | [], _ => []
  | c :: t, b => padd (psc c b) (0 :: pmul t b)
@[simp] theorem co_nil (i : Nat) : co [] i = 0 := by simp [co]
@[simp] theorem co_cons_zero (c : Int) (t : List Int) : co (c :: t) 0 = c := by simp [co]
@[simp] theorem co_cons_succ (c : Int) (t : List Int) (i : Nat) : co (c :: t) (i + 1) = co t i := by simp [co]
theorem co_over {l : List Int} {i : Nat} (h : l.length ≤ i) : co l i = 0 := by simp [co, List.getD, List.getElem?_eq_none h]
theorem co_lt {l : List Int} {i : Nat} (h : i < l.length) : co l i = l[i] := by simp [co, List.getD, h]
theorem co_mem {l : List Int} {i : Nat} (h : i < l.length) : co l i ∈ l := by rw [co_lt h]; exact List.getElem_mem h
theorem co_padd : ∀ (a b : List Int) (i : Nat), co (padd a b) i = co a i + co b i
  | [], b, i => by simp [padd]
  | x :: a, [], i => by simp [padd]
  | x :: a, y :: b, 0 => by simp [padd]
  | x :: a, y :: b, i + 1 => by simp only [padd, co_cons_succ]; exact co_padd a b i
theorem co_psc (c : Int) : ∀ (l : List Int) (i : Nat), co (psc c l) i = c * co l i
  | [], i => by simp [psc]
  | x :: l, 0 => by simp [psc]
  | x :: l, i + 1 => by have := co_psc c l i; simp only [psc, List.map_cons, co_cons_succ] at this ⊢; exact this
theorem co_pmul_zero' (c : Int) (t b : List Int) : co (pmul (c :: t) b) 0 = c * co b 0 := by simp [pmul, co_padd, co_psc]
theorem co_pmul_succ (c : Int) (t b : List Int) (i : Nat) : co (pmul (c :: t) b) (i + 1) = c * co b (i + 1) + co (pmul t b) i := by simp [pmul, co_padd, co_psc]
theorem ev_padd (x : Int) : ∀ a b : List Int, ev (padd a b) x = ev a x + ev b x
  | [], b => by simp [padd, ev]
  | c :: a, [] => by simp [padd, ev]
  | c :: a, d :: b => by simp only [padd, ev, ev_padd x a b]; grind
theorem ev_psc (x c : Int) : ∀ l : List Int, ev (psc c l) x = c * ev l x
  | [] => by simp [psc, ev]
  | d :: l => by
    have := ev_psc x c l
    simp only [psc, List.map_cons, ev] at this ⊢
    rw [this]; grind
theorem ev_pmul (x : Int) : ∀ a b : List Int, ev (pmul a b) x = ev a x * ev b x
  | [], b => by simp [pmul, ev]
  | c :: a, b => by
    rw [pmul, ev_padd, ev_psc, ev, ev, ev_pmul x a b]; grind
def EqP (p : Int) (a b : List Int) : Prop := ∀ i, Cg p (co a i) (co b i)
theorem EqP.refl (p : Int) (a : List Int) : EqP p a a := fun _ => Cg.refl _ _
theorem EqP.symm {p : Int} {a b : List Int} (h : EqP p a b) : EqP p b a := fun i => (h i).symm
theorem EqP.trans {p : Int} {a b c : List Int} (h : EqP p a b) (g : EqP p b c) : EqP p a c := fun i => (h i).trans (g i)
theorem EqP.padd {p : Int} {a b c d : List Int} (h : EqP p a b) (g : EqP p c d) : EqP p (padd a c) (padd b d) := fun i => by rw [co_padd, co_padd]; exact (h i).add (g i)
theorem EqP.psc {p : Int} {a b : List Int} {c d : Int} (g : Cg p c d) (h : EqP p a b) : EqP p (psc c a) (psc d b) := fun i => by rw [co_psc, co_psc]; exact g.mul (h i)
theorem EqP.tail {p c d : Int} {a b : List Int} (h : EqP p (c :: a) (d :: b)) : EqP p a b := fun i => by simpa using h (i + 1)
theorem EqP.tail_nil {p c : Int} {a : List Int} (h : EqP p (c :: a) []) : EqP p a [] := fun i => by simpa using h (i + 1)
theorem ev_zero {p : Int} (x : Int) : ∀ {a : List Int}, EqP p a [] → Cg p (ev a x) 0
  | [], _ => Cg.refl _ _
  | c :: a, h => by
    have h0 : Cg p c 0 := by simpa using h 0
    have := h0.add ((Cg.refl p x).mul (ev_zero x h.tail_nil))
    simpa [ev] using this
theorem EqP.ev {p : Int} (x : Int) : ∀ {a b : List Int}, EqP p a b → Cg p (ev a x) (ev b x)
  | [], b, h => (ev_zero x h.symm).symm
  | c :: a, [], h => ev_zero x h
  | c :: a, d :: b, h => by
    have h0 : Cg p c d := by simpa using h 0
    exact h0.add ((Cg.refl p x).mul (EqP.ev x h.tail))
theorem pmul_zero_left {p : Int} {b : List Int} : ∀ {a : List Int}, EqP p a [] → EqP p (pmul a b) []
  | [], _ => EqP.refl _ _
  | c :: a, h => by
    have h0 : Cg p c 0 := by simpa using h 0
    intro i
    cases i with
    | zero => rw [co_pmul_zero']; simpa using h0.mul (Cg.refl p (co b 0))
    | succ i =>
      rw [co_pmul_succ]
      have := (h0.mul (Cg.refl p (co b (i + 1)))).add (pmul_zero_left (b := b) h.tail_nil i)
      simpa using this
theorem EqP.pmul_left {p : Int} {b : List Int} : ∀ {a c : List Int}, EqP p a c → EqP p (pmul a b) (pmul c b)
  | [], c, h => (pmul_zero_left h.symm).symm
  | x :: a, [], h => pmul_zero_left h
  | x :: a, y :: c, h => by
    have h0 : Cg p x y := by simpa using h 0
    intro i
    cases i with
    | zero => rw [co_pmul_zero', co_pmul_zero']; exact h0.mul (Cg.refl _ _)
    | succ i => rw [co_pmul_succ, co_pmul_succ]; exact (h0.mul (Cg.refl _ _)).add (EqP.pmul_left h.tail i)
theorem EqP.pmul_right {p : Int} {b d : List Int} (h : EqP p b d) : ∀ a : List Int, EqP p (pmul a b) (pmul a d)
  | [] => EqP.refl _ _
  | x :: a => by
    intro i
    cases i with
    | zero => rw [co_pmul_zero', co_pmul_zero']; exact (Cg.refl _ _).mul (h 0)
    | succ i => rw [co_pmul_succ, co_pmul_succ]; exact ((Cg.refl _ _).mul (h _)).add (EqP.pmul_right h a i)
theorem EqP.pmul {p : Int} {a b c d : List Int} (h : EqP p a c) (g : EqP p b d) : EqP p (pmul a b) (pmul c d) := (h.pmul_left).trans (g.pmul_right c)
def Deg (p : Int) (l : List Int) (n : Nat) : Prop := ∀ i, n ≤ i → Cg p (co l i) 0
theorem Deg.len (p : Int) (l : List Int) : Deg p l l.length := fun i h => by rw [co_over h]; exact Cg.refl _ _
theorem Deg.mono {p : Int} {l : List Int} {n m : Nat} (h : Deg p l n) (hn : n ≤ m) : Deg p l m := fun i hi => h i (Nat.le_trans hn hi)
theorem Deg.congr {p : Int} {a b : List Int} {n : Nat} (h : Deg p a n) (e : EqP p a b) : Deg p b n := fun i hi => (e i).symm.trans (h i hi)
theorem Deg.padd {p : Int} {a b : List Int} {n : Nat} (h : Deg p a n) (g : Deg p b n) : Deg p (padd a b) n := fun i hi => by
  rw [co_padd]; simpa using (h i hi).add (g i hi)
theorem Deg.psc {p c : Int} {a : List Int} {n : Nat} (h : Deg p a n) : Deg p (psc c a) n := fun i hi => by
  rw [co_psc]; simpa using (Cg.refl p c).mul (h i hi)
theorem Deg.tail {p c : Int} {a : List Int} {n : Nat} (h : Deg p (c :: a) (n + 1)) : Deg p a n := fun i hi => by simpa using h (i + 1) (by omega)
theorem Deg.nil {p : Int} {a : List Int} (h : Deg p a 0) : EqP p a [] := fun i => by simpa using h i (Nat.zero_le _)
theorem Deg.pmul {p : Int} {b : List Int} {n : Nat} (hb : Deg p b (n + 1)) : ∀ {a : List Int} {m : Nat}, Deg p a m → Deg p (pmul a b) (m + n)
  | [], m, _ => fun i _ => by simp [Pol.pmul]; exact Cg.refl _ _
  | c :: t, 0, ha => fun i _ => by simpa using pmul_zero_left (b := b) ha.nil i
  | c :: t, m + 1, ha => fun i hi => by
    obtain ⟨j, rfl⟩ : ∃ j, i = j + 1 := ⟨i - 1, by omega⟩
    rw [co_pmul_succ]
    have h1 := (Cg.refl p c).mul (hb (j + 1) (by omega))
    have := h1.add (Deg.pmul hb ha.tail j (by omega))
    simpa using this

theorem co_drop (a : List Int) (k i : Nat) : co (a.drop k) i = co a (k + i) := by simp [co, List.getD]
def trm : List Int → List Int
  | [] => []
  | c :: t => if trm t = [] ∧ c = 0 then [] else c :: trm t
def Lz (l : List Int) : Prop := ∀ n, l.length = n + 1 → co l n ≠ 0
theorem Lz.eq {a b : List Int} (ha : Lz a) (hb : Lz b) (h : ∀ i, co a i = co b i) : a = b := by
  have hl : a.length = b.length := by
    rcases Nat.lt_trichotomy a.length b.length with e | e | e
    · obtain ⟨n, hn⟩ : ∃ n, b.length = n + 1 := ⟨b.length - 1, by omega⟩
      exact absurd ((h n).symm.trans (co_over (by omega))) (hb n hn)
    · exact e
    · obtain ⟨n, hn⟩ : ∃ n, a.length = n + 1 := ⟨a.length - 1, by omega⟩
      exact absurd ((h n).trans (co_over (by omega))) (ha n hn)
  refine List.ext_getElem hl fun i h1 h2 => ?_
  have := h i
  rwa [co_lt h1, co_lt h2] at this
theorem trm_co : ∀ (l : List Int) (i : Nat), co (trm l) i = co l i
  | [], i => rfl
  | c :: t, i => by
    have ih := trm_co t
    unfold trm
    split
    · rename_i h
      cases i with
      | zero => simp [h.2]
      | succ i => have := ih i; rw [h.1] at this; simpa using this
    · cases i with
      | zero => simp
      | succ i => simpa using ih i
theorem trm_lz : ∀ l : List Int, Lz (trm l)
  | [] => fun n h => by simp [trm] at h
  | c :: t => by
    have ih := trm_lz t
    unfold trm
    split
    · intro n h; simp at h
    · rename_i hc
      intro n h
      cases n with
      | zero =>
        have : trm t = [] := by simpa using h
        intro h0
        exact hc ⟨this, by simpa using h0⟩
      | succ n => rw [co_cons_succ]; exact ih n (by simpa using h)
def nrm (p : Int) (l : List Int) : List Int := trm (l.map (· % p))
theorem co_map_mod (p : Int) : ∀ (l : List Int) (i : Nat), co (l.map (· % p)) i = co l i % p
  | [], i => by simp
  | c :: t, 0 => by simp
  | c :: t, i + 1 => by simpa using co_map_mod p t i
theorem nrm_co (p : Int) (l : List Int) (i : Nat) : co (nrm p l) i = co l i % p := by rw [nrm, trm_co, co_map_mod]
structure Nf (p : Int) (l : List Int) : Prop where
  rng : ∀ i, 0 ≤ co l i ∧ co l i < p
  lz : Lz l
theorem nrm_nf {p : Int} (hp : 0 < p) (l : List Int) : Nf p (nrm p l) := ⟨fun i => by rw [nrm_co]; exact ⟨mod_nonneg hp _, mod_lt hp _⟩, trm_lz _⟩
theorem Nf.eq {p : Int} {a b : List Int} (ha : Nf p a) (hb : Nf p b) (h : EqP p a b) : a = b :=
  ha.lz.eq hb.lz fun i => (h i).uniq (ha.rng i).1 (ha.rng i).2 (hb.rng i).1 (hb.rng i).2
theorem nrm_deg {p : Int} (hp : 0 < p) {l : List Int} {n : Nat} (h : Deg p l n) : (nrm p l).length ≤ n := by
  rcases Nat.lt_or_ge n (nrm p l).length with e | e
  · obtain ⟨m, hm⟩ : ∃ m, (nrm p l).length = m + 1 := ⟨(nrm p l).length - 1, by omega⟩
    refine absurd ?_ ((nrm_nf hp l).lz m hm)
    rw [nrm_co]
    exact mod_eq_zero.2 (h m (by omega))
  · exact e
def Mon (v : List Int) (n : Nat) : Prop := co v n = 1 ∧ ∀ i, n < i → co v i = 0
theorem Mon.one : Mon [1] 0 := ⟨by simp, fun i hi => co_over (by simp; omega)⟩
theorem Mon.deg {p : Int} {v : List Int} {n : Nat} (h : Mon v n) : Deg p v (n + 1) := fun i hi => by rw [h.2 i (by omega)]; exact Cg.refl _ _
theorem Mon.length {p : Int} (hp : 1 < p) {v : List Int} {n : Nat} (h : Mon v n) : (nrm p v).length = n + 1 := by
  have h1 := nrm_deg (by omega) (h.deg (p := p))
  rcases Nat.lt_or_ge n (nrm p v).length with e | e
  · omega
  · have := nrm_co p v n
    rw [co_over e, h.1, Int.emod_eq_of_lt (by omega) hp] at this
    omega
end Go.Proofs.YtbjeemlbjkmhiaaDoor.Pol
namespace Go.Proofs.YtbjeemlbjkmhiaaDoor.Pure
open Go.RowKit Go.Proofs.YtbjeemlbjkmhiaaDoor.Q Go.Proofs.YtbjeemlbjkmhiaaDoor.Num Go.Proofs.YtbjeemlbjkmhiaaDoor.Pol Go.Proofs.YtbjeemlbjkmhiaaDoorW.PrintWords Go.Proofs.YtbjeemlbjkmhiaaDoorW.PrintLast Go.Proofs.YtbjeemlbjkmhiaaDoorW.PrintMore

def Ev {α : Type} (F : Nat → Option α) (v : α) : Prop := ∃ K, ∀ k, K ≤ k → F k = some v
theorem Ev.all {α : Type} {F : Nat → Option α} {v : α} (h : ∀ k, F k = some v) : Ev F v := ⟨0, fun k _ => h k⟩
theorem Ev.mk {α : Type} {F : Nat → Option α} {v : α} (K : Nat) (h : ∀ k, K ≤ k → F k = some v) : Ev F v := ⟨K, h⟩
theorem Ev.mks {α : Type} {F : Nat → Option α} {v : α} (K : Nat) (h : ∀ k, K ≤ k → F (k + 1) = some v) : Ev F v := ⟨K + 1, fun k hk => by
  obtain ⟨k, rfl⟩ : ∃ k', k = k' + 1 := ⟨k - 1, by omega⟩
  exact h k (by omega)⟩
theorem Ev.get {α : Type} {F : Nat → Option α} {v : α} (h : Ev F v) : ∃ K, ∀ k, K ≤ k → F k = some v := h
theorem Ev.ex {α : Type} {F : Nat → Option α} {v : α} (h : Ev F v) : ∃ k, F k = some v := let ⟨K, hK⟩ := h; ⟨K, hK K (Nat.le_refl _)⟩
theorem Ev.succ {α : Type} {F G : Nat → Option α} {v : α} (h : ∀ k, G (k + 1) = F k) (hF : Ev F v) : Ev G v := by
  obtain ⟨K, hK⟩ := hF
  refine ⟨K + 1, fun k hk => ?_⟩
  obtain ⟨j, rfl⟩ : ∃ j, k = j + 1 := ⟨k - 1, by omega⟩
  rw [h]
  exact hK j (by omega)
theorem Ev.congr {α : Type} {F G : Nat → Option α} {v : α} (h : ∀ k, G k = F k) (hF : Ev F v) : Ev G v := by
  obtain ⟨K, hK⟩ := hF
  exact ⟨K, fun k hk => (h k).trans (hK k hk)⟩
theorem Ev.bind {α β : Type} {F : Nat → Option α} {G : Nat → α → Option β} {a : α} {b : β} (hF : Ev F a) (hG : Ev (fun k => G k a) b) : Ev (fun k => (F k).bind (G k)) b := by
  obtain ⟨K, hK⟩ := hF
  obtain ⟨L, hL⟩ := hG
  refine ⟨max K L, fun k hk => ?_⟩
  show (F k).bind (G k) = some b
  rw [hK k (by omega)]
  exact hL k (by omega)
theorem Ev.of_mono {α : Type} {F : Nat → Option α} {v : α} (hm : ∀ k, LeO (F k) (F (k + 1))) {K : Nat} (h : F K = some v) : Ev F v := by
  refine ⟨K, fun k hk => ?_⟩
  obtain ⟨d, rfl⟩ : ∃ d, k = K + d := ⟨k - K, by omega⟩
  clear hk
  induction d with
  | zero => exact h
  | succ d ih => exact hm _ _ ih
theorem Ev.uniq {α : Type} {F : Nat → Option α} {v w : α} (h : Ev F v) (g : Ev F w) : v = w := by
  obtain ⟨K, hK⟩ := h
  obtain ⟨L, hL⟩ := g
  exact Option.some.inj ((hK (max K L) (by omega)).symm.trans (hL (max K L) (by omega)))

def U (x : Int) : Prop := 0 ≤ x ∧ x < 18446744073709551616
def UL (l : List Int) : Prop := ∀ c ∈ l, U c
theorem U.zero : U 0 := by unfold U; omega
theorem U.of_wf {x : Int} (h : (Lit.int .u64 x).wf = true) : U x := by
  simp [Lit.wf, IntKind.min, IntKind.max, IntKind.bits, IntKind.signed] at h
  unfold U; omega
theorem U.co {l : List Int} (h : UL l) (i : Nat) : U (co l i) := by
  by_cases hi : i < l.length
  · exact h _ (co_mem hi)
  · rw [co_over (by omega)]; exact U.zero
theorem UL.nil : UL [] := fun _ h => by simp at h
theorem UL.cons {c : Int} {l : List Int} (h : U c) (g : UL l) : UL (c :: l) := fun x hx => (List.mem_cons.1 hx).elim (fun e => e ▸ h) (g x)
theorem UL.append {a b : List Int} (h : UL a) (g : UL b) : UL (a ++ b) := fun x hx => (List.mem_append.1 hx).elim (h x) (g x)
theorem UL.take {a : List Int} (h : UL a) (n : Nat) : UL (a.take n) := fun _ hx => h _ (List.mem_of_mem_take hx)
theorem UL.replicate (n : Nat) : UL (List.replicate n 0) := fun x hx => by rw [(List.mem_replicate.1 hx).2]; exact U.zero
theorem UL.set {a : List Int} (h : UL a) {x : Int} (hx : U x) (i : Nat) : UL (a.set i x) := fun y hy => by
  rcases List.mem_or_eq_of_mem_set hy with hy | rfl
  · exact h _ hy
  · exact hx
theorem UL.of_wf {l : List Int} (h : ∀ x ∈ l, (Lit.int .u64 x).wf = true) : UL l := fun x hx => U.of_wf (h x hx)

theorem w64 {n : Int} (h1 : -9223372036854775808 ≤ n) (h2 : n ≤ 9223372036854775807) : wrap64 n = n := by unfold wrap64; omega
theorem w64_succ {i : Nat} (h : i < 9223372036854775807) : wrap64 ((i : Int) + 1) = ((i + 1 : Nat) : Int) := by rw [w64 (by omega) (by omega)]; omega
theorem wu64 {n : Int} (h1 : 0 ≤ n) (h2 : n < 18446744073709551616) : IntKind.u64.wrap n = n := by rw [IntKind.wrap_u64]; omega
theorem rd_nat (l : List Int) (i : Nat) : rd l (i : Int) = co l i := by simp [rd, co]
theorem tmod_nn {a : Int} (h : 0 ≤ a) (p : Int) : Int.tmod a p = a % p := Int.tmod_eq_emod_of_nonneg h
theorem co_set {l : List Int} {i : Nat} (h : i < l.length) (x : Int) (j : Nat) : co (l.set i x) j = if j = i then x else co l j := by
  unfold co
  rw [List.getD_eq_getElem?_getD, List.getD_eq_getElem?_getD, List.getElem?_set]
  by_cases e : i = j
  · subst e; simp [h]
  · simp [e, Ne.symm e]
theorem co_set_same {l : List Int} {i : Nat} (h : i < l.length) (x : Int) : co (l.set i x) i = x := by rw [co_set h]; simp
theorem co_set_ne {l : List Int} {i j : Nat} (h : i < l.length) (x : Int) (e : j ≠ i) : co (l.set i x) j = co l j := by rw [co_set h]; simp [e]
theorem co_replicate (n i : Nat) : co (List.replicate n 0) i = 0 := by
  by_cases h : i < n
  · rw [co_lt (by simpa using h)]; simp
  · exact co_over (by simpa using h)
theorem co_append (a b : List Int) (i : Nat) : co (a ++ b) i = if i < a.length then co a i else co b (i - a.length) := by
  unfold co
  rw [List.getD_eq_getElem?_getD, List.getElem?_append]
  split <;> simp
theorem co_take (a : List Int) (n i : Nat) : co (a.take n) i = if i < n then co a i else 0 := by
  unfold co
  rw [List.getD_eq_getElem?_getD, List.getElem?_take]
  split <;> simp
theorem ext_co {a b : List Int} (hl : a.length = b.length) (h : ∀ i, i < a.length → co a i = co b i) : a = b := by
  refine List.ext_getElem hl fun i h1 h2 => ?_
  have := h i h1
  rwa [co_lt h1, co_lt h2] at this
end Go.Proofs.YtbjeemlbjkmhiaaDoor.Pure
namespace Go.Proofs.YtbjeemlbjkmhiaaDoor.Pure
open Go.RowKit Go.Proofs.YtbjeemlbjkmhiaaDoor.Q Go.Proofs.YtbjeemlbjkmhiaaDoor.Num Go.Proofs.YtbjeemlbjkmhiaaDoor.Pol Go.Proofs.YtbjeemlbjkmhiaaDoorW.PrintWords Go.Proofs.YtbjeemlbjkmhiaaDoorW.PrintLast Go.Proofs.YtbjeemlbjkmhiaaDoorW.PrintMore

structure FP (f : Int) (p : Nat) : Prop where
  lo : 0 ≤ f
  hi : f < 4
  eq : pOf f = p
  pr : Pr p
  le : p ≤ 998244353
theorem fp_of {f : Int} (h0 : 0 ≤ f) (h1 : f < 4) : ∃ p, FP f p := by
  have : f = 0 ∨ f = 1 ∨ f = 2 ∨ f = 3 := by omega
  rcases this with rfl | rfl | rfl | rfl
  · exact ⟨97, by omega, by omega, rfl, pr97, by omega⟩
  · exact ⟨257, by omega, by omega, rfl, pr257, by omega⟩
  · exact ⟨12289, by omega, by omega, rfl, pr12289, by omega⟩
  · exact ⟨998244353, by omega, by omega, rfl, pr998244353, by omega⟩
theorem FP.pos {f : Int} {p : Nat} (h : FP f p) : (0 : Int) < p := h.pr.pos
theorem FP.one {f : Int} {p : Nat} (h : FP f p) : (1 : Int) < p := by have := h.pr.two; omega
theorem FP.lei {f : Int} {p : Nat} (h : FP f p) : (p : Int) ≤ 998244353 := by have := h.le; omega
theorem FP.mod {f : Int} {p : Nat} (h : FP f p) (a : Int) : 0 ≤ a % p ∧ a % p < p := ⟨mod_nonneg h.pos a, mod_lt h.pos a⟩
theorem FP.U {f : Int} {p : Nat} (h : FP f p) (a : Int) : U (a % p) := by have := h.mod a; have := h.lei; unfold Pure.U; omega
theorem pOf_bad {f : Int} (h : f < 0 ∨ 4 ≤ f) : pOf f = 0 := by
  unfold pOf
  rw [if_neg (by omega), if_neg (by omega), if_neg (by omega), if_neg (by omega)]

section good
variable {f : Int} {p : Nat} (h : FP f p)
include h
theorem s_Valid : field_Valid.f f = some true := by
  unfold field_Valid.f
  rw [if_pos h.lo, decide_eq_true h.hi]
theorem s_P : field_P.f f = some (p : Int) := by simp [field_P.f, h.eq]
theorem s_Add {a b : Int} (ha : 0 ≤ a) (hb : 0 ≤ b) : field_Add.f f a b = some ((a + b) % p) := by
  have hp := h.pos
  have ma := h.mod a
  have mb := h.mod b
  have hl := h.lei
  simp only [field_Add.f, s_P h, Option.bind_some]
  rw [if_neg (by omega), tmod_nn ha, tmod_nn hb, wu64 (by omega) (by omega)]
  have e : (a + b) % p = (a % p + b % p) % p := by rw [← Int.add_emod]
  by_cases hc : a % p + b % p ≥ p
  · rw [if_pos hc, wu64 (by omega) (by omega), e]
    have : (a % p + b % p) % p = (a % p + b % p - p) % p := by rw [← Int.sub_emod_right]
    rw [this]
    exact congrArg some (Int.emod_eq_of_lt (by omega) (by omega)).symm
  · rw [if_neg hc, e]
    exact congrArg some (Int.emod_eq_of_lt (by omega) (by omega)).symm
theorem s_Mul {a b : Int} (ha : 0 ≤ a) (hb : 0 ≤ b) : field_Mul.f f a b = some ((a * b) % p) := by
  have hp := h.pos
  have ma := h.mod a
  have mb := h.mod b
  have hl := h.lei
  have h1 : 0 ≤ (a % p) * (b % p) := Int.mul_nonneg ma.1 mb.1
  have h2 : (a % p) * (b % p) ≤ 998244353 * 998244353 := Int.mul_le_mul (by omega) (by omega) mb.1 (by omega)
  simp only [field_Mul.f, s_P h, Option.bind_some]
  rw [if_neg (by omega), tmod_nn ha, tmod_nn hb, wu64 h1 (by omega), tmod_nn h1]
  congr 1
  exact Cg.mod_eq ((Cg.mod p a).mul (Cg.mod p b))
end good

def inv (p : Nat) (a : Int) : Int := a ^ (p - 2) % p
theorem inv_spec {p : Nat} (h : Pr p) {a : Int} (ha : ¬ Cg p a 0) : Cg p (a * inv p a) 1 := ((Cg.refl _ a).mul (Cg.mod _ _)).trans (inv_pow h ha)
theorem inv_zero {p : Nat} (h3 : 3 ≤ p) {a : Int} (ha : Cg p a 0) : inv p a = 0 := by
  unfold inv
  have := (ha.pow (p - 2)).mod_eq
  rw [this, Int.zero_pow (by omega)]
  simp
theorem inv_nn {p : Nat} (h : Pr p) (a : Int) : 0 ≤ inv p a := mod_nonneg h.pos _
theorem FP.three {f : Int} {p : Nat} (h : FP f p) : 3 ≤ p := by
  have h0 := h.eq
  have h1 := h.lo
  have h2 := h.hi
  have : f = 0 ∨ f = 1 ∨ f = 2 ∨ f = 3 := by omega
  rcases this with rfl | rfl | rfl | rfl <;> (simp [pOf] at h0; omega)

theorem inv_step (k : Nat) (P r0 r1 x8 x9 q m x9' : Int) (hq : q = r0 / r1) (hm : m = r0 % r1) (h1 : 0 < r1) (h0 : 0 ≤ r0) (hr : r0 ≤ 998244353) (hx : x9' = x8 - q * x9) (b1 : -998244353 ≤ q * x9) (b2 : q * x9 ≤ 998244353) (b3 : -998244353 ≤ x9') (b4 : x9' ≤ 998244353) :
    field_Inv.l0 (k + 1) P r0 r1 x8 x9 = field_Inv.l0 k P r1 m x9 x9' := by
  have e := Int.emod_add_mul_ediv r0 r1
  rw [← hq, ← hm] at e
  have hm0 : 0 ≤ m := by rw [hm]; exact Int.emod_nonneg _ (by omega)
  have hm1 : m < r1 := by rw [hm]; exact Int.emod_lt_of_pos _ h1
  have hq0 : 0 ≤ q := by rw [hq]; exact Int.ediv_nonneg h0 (by omega)
  have hqr : r1 * q ≤ r0 := by omega
  have hq1 : q ≤ r1 * q := by
    have := Int.mul_le_mul_of_nonneg_right (show (1 : Int) ≤ r1 by omega) hq0
    omega
  have hc : q * r1 = r1 * q := Int.mul_comm _ _
  rw [field_Inv.l0, if_neg (by omega), Int.tdiv_eq_ediv_of_nonneg h0, ← hq, w64 (n := q) (by omega) (by omega), w64 (n := q * r1) (by omega) (by omega), w64 (n := q * x9) (by omega) (by omega), ← hx, w64 (n := x9') (by omega) (by omega), w64 (n := r0 - q * r1) (by omega) (by omega)]
  rw [show r0 - q * r1 = m by omega]
theorem inv_l0 {p : Nat} (hp : Pr p) (hle : p ≤ 998244353) {a b : Int} (hb : 0 < b ∧ b < p) (hab : Cg p a b) : ∀ (n : Nat) (r0 r1 u v s : Int), r1.toNat ≤ n → 0 ≤ r1 → r1 < r0 → r0 ≤ p → 0 ≤ u → u ≤ v → (s = 1 ∨ s = -1) → r0 * v + r1 * u = p →
    Cg p (a * (-s * u)) r0 → Cg p (a * (s * v)) r1 → (∀ d : Int, d ∣ r0 → d ∣ r1 → d ∣ b) → Ev (fun k => field_Inv.l0 k p r0 r1 (-s * u) (s * v)) (inv p a) := by
  have hpi : (p : Int) ≤ 998244353 := by omega
  have na : ¬ Cg p a 0 := fun h => by
    have := (hab.symm.trans h).mod_eq
    rw [Int.emod_eq_of_lt (by omega) hb.2] at this
    simp at this; omega
  intro n
  induction n with
  | zero =>
    intro r0 r1 u v s hn h1 h01 h0p hu huv hs he c0 c1 hd
    obtain rfl : r1 = 0 := by omega
    have hpos : 0 < r0 := by omega
    have hr0 : r0 = 1 := by
      have hdb : r0 ∣ b := hd r0 (Int.dvd_refl _) (Int.dvd_zero _)
      have hle0 : r0 ≤ b := Int.le_of_dvd hb.1 hdb
      have hdp : r0.natAbs ∣ p := by
        have : r0 ∣ (p : Int) := ⟨v, by omega⟩
        exact Int.natAbs_dvd_natAbs.2 this
      rcases hp.div _ hdp with e | e <;> omega
    subst hr0
    have hvp : v = p := by omega
    have hu2 : u ≠ p := by
      rintro rfl
      have h2 : Cg p (a * (-s * (p : Int))) 0 := ⟨a * -s, by grind⟩
      have := (c0.symm.trans h2).mod_eq
      rw [Int.emod_eq_of_lt (by omega) (by have := hp.two; omega)] at this
      simp at this
    have fin : ∀ r : Int, Cg p r (-s * u) → 0 ≤ r → r < p → r = inv p a := fun r hr g0 g1 => by
      have h2 := ((Cg.refl _ a).mul hr).trans c0
      have h3 := inv_uniq h2 (inv_spec hp na)
      exact h3.uniq g0 g1 (mod_nonneg hp.pos _) (mod_lt hp.pos _)
    refine Ev.succ (F := fun _ => some (inv p a)) (fun k => ?_) (Ev.all fun _ => rfl)
    rw [field_Inv.l0, if_pos rfl]
    rcases hs with rfl | rfl
    · by_cases h0 : u = 0
      · rw [if_neg (by omega), wu64 (by omega) (by omega)]
        exact congrArg some (fin _ (Cg.refl _ _) (by omega) (by omega))
      · rw [if_pos (by omega), w64 (n := (p : Int)) (by omega) (by omega), w64 (by omega) (by omega), wu64 (by omega) (by omega)]
        exact congrArg some (fin _ ⟨1, by omega⟩ (by omega) (by omega))
    · rw [if_neg (by omega), wu64 (by omega) (by omega)]
      exact congrArg some (fin _ (Cg.refl _ _) (by omega) (by omega))
  | succ n ih =>
    intro r0 r1 u v s hn h1 h01 h0p hu huv hs he c0 c1 hd
    by_cases hz : r1 = 0
    · subst hz
      exact (ih r0 0 u v s (by simp) h1 h01 h0p hu huv hs he c0 c1 hd)
    · obtain ⟨q, hq⟩ : ∃ q, q = r0 / r1 := ⟨_, rfl⟩
      obtain ⟨m, hm⟩ : ∃ m, m = r0 % r1 := ⟨_, rfl⟩
      have e := Int.emod_add_mul_ediv r0 r1
      rw [← hq, ← hm] at e
      have hm0 : 0 ≤ m := by rw [hm]; exact Int.emod_nonneg _ (by omega)
      have hm1 : m < r1 := by rw [hm]; exact Int.emod_lt_of_pos _ (by omega)
      have hq1 : 1 ≤ q := by
        rcases Int.lt_or_le q 1 with h | h
        · have : r1 * q ≤ 0 := Int.mul_nonpos_of_nonneg_of_nonpos (by omega) (by omega)
          omega
        · exact h
      have hv0 : 0 ≤ v := by omega
      have hqv : 0 ≤ q * v := Int.mul_nonneg (by omega) hv0
      have hv1 : v ≤ q * v := by
        have := Int.mul_le_mul_of_nonneg_right hq1 hv0
        omega
      have hkey : r1 * (u + q * v) + m * v = p := by
        have : r1 * (u + q * v) + m * v = (m + r1 * q) * v + r1 * u := by grind
        rw [this, e]; exact he
      have hmv : 0 ≤ m * v := Int.mul_nonneg hm0 hv0
      have hle1 : u + q * v ≤ r1 * (u + q * v) := by
        have := Int.mul_le_mul_of_nonneg_right (show (1 : Int) ≤ r1 by omega) (show 0 ≤ u + q * v by omega)
        omega
      have hb1 : u + q * v ≤ p := by omega
      have key := ih r1 m v (u + q * v) (-s) (by omega) hm0 hm1 (by omega) hv0 (by omega) (by omega) hkey
        (by have : a * (- -s * v) = a * (s * v) := by grind
            rw [this]; exact c1)
        (by have e1 : a * (-s * (u + q * v)) = a * (-s * u) - q * (a * (s * v)) := by grind
            rw [e1]
            have h2 := c0.sub ((Cg.refl _ q).mul c1)
            have e2 : r0 - q * r1 = m := by have : q * r1 = r1 * q := Int.mul_comm _ _; omega
            rwa [e2] at h2)
        (fun d d1 d2 => hd d (by rw [← e]; exact Int.dvd_add d2 (Int.dvd_mul_of_dvd_left d1)) d1)
      refine Ev.succ (fun k => ?_) key
      have e3 : - -s * v = s * v := by grind
      rw [e3]
      have e4 : -s * u - q * (s * v) = -s * (u + q * v) := by grind
      have hqs : q * (s * v) = s * (q * v) := by grind
      exact inv_step k p r0 r1 (-s * u) (s * v) q m (-s * (u + q * v)) hq hm (by omega) (by omega) (by omega) e4.symm (by rw [hqs]; rcases hs with rfl | rfl <;> omega) (by rw [hqs]; rcases hs with rfl | rfl <;> omega)
        (by rcases hs with rfl | rfl <;> omega) (by rcases hs with rfl | rfl <;> omega)
section good2
variable {f : Int} {p : Nat} (h : FP f p)
include h
theorem s_Inv {a : Int} (ha : 0 ≤ a) : Ev (fun k => field_Inv.f k f a) (inv p a) := by
  have hp := h.pos
  have ma := h.mod a
  have hl := h.lei
  by_cases h0 : a % p = 0
  · refine Ev.succ (F := fun _ => some (inv p a)) (fun k => ?_) (Ev.all fun _ => rfl)
    simp only [field_Inv.f, s_P h, Option.bind_some]
    rw [if_neg (by omega), tmod_nn ha, h0]
    simp only [field_Inv.j0]
    rw [if_pos (by rfl), inv_zero h.three (mod_eq_zero.1 h0)]
  · have key := inv_l0 h.pr h.le (a := a) (b := a % p) ⟨by omega, ma.2⟩ (Cg.mod _ _).symm (a % p).toNat p (a % p) 0 1 1 (Nat.le_refl _) ma.1 ma.2 (by omega) (by omega) (by omega) (Or.inl rfl) (by omega)
      ⟨-1, by omega⟩ (by simpa using (Cg.mod p a).symm) (fun d _ d2 => d2)
    refine Ev.succ (fun k => ?_) key
    simp only [field_Inv.f, s_P h, Option.bind_some]
    rw [if_neg (by omega), tmod_nn ha]
    simp only [field_Inv.j0]
    rw [if_neg (by simpa using h0), if_neg (by omega), tmod_nn ha, w64 (by omega) (by omega), w64 (by omega) (by omega)]
    rfl
end good2

section bad
variable {f : Int} (h : f < 0 ∨ 4 ≤ f)
include h
theorem b_P : field_P.f f = some 0 := by simp [field_P.f, pOf_bad h]
theorem b_Add (a b : Int) : field_Add.f f a b = some 0 := by simp [field_Add.f, b_P h]
theorem b_Mul (a b : Int) : field_Mul.f f a b = some 0 := by simp [field_Mul.f, b_P h]
end bad
structure FO (f : Int) (p : Nat) : Prop where
  pos : (0 : Int) < p
  lei : (p : Int) ≤ 998244353
  ok : FP f p ∨ ((f < 0 ∨ 4 ≤ f) ∧ p = 1)
theorem FP.o {f : Int} {p : Nat} (h : FP f p) : FO f p := ⟨h.pos, h.lei, Or.inl h⟩
theorem FO.mod {f : Int} {p : Nat} (h : FO f p) (a : Int) : 0 ≤ a % p ∧ a % p < p := ⟨mod_nonneg h.pos a, mod_lt h.pos a⟩
theorem FO.U {f : Int} {p : Nat} (h : FO f p) (a : Int) : U (a % p) := by have := h.mod a; have := h.lei; unfold Pure.U; omega
theorem mod_one (a : Int) : a % ((1 : Nat) : Int) = 0 := Int.emod_one a
section any
variable {f : Int} {p : Nat} (h : FO f p)
include h
theorem o_Add {a b : Int} (ha : 0 ≤ a) (hb : 0 ≤ b) : field_Add.f f a b = some ((a + b) % p) := by
  rcases h.ok with g | ⟨g, rfl⟩
  · exact s_Add g ha hb
  · rw [b_Add g, mod_one]
theorem o_Mul {a b : Int} (ha : 0 ≤ a) (hb : 0 ≤ b) : field_Mul.f f a b = some ((a * b) % p) := by
  rcases h.ok with g | ⟨g, rfl⟩
  · exact s_Mul g ha hb
  · rw [b_Mul g, mod_one]
end any
end Go.Proofs.YtbjeemlbjkmhiaaDoor.Pure
namespace Go.Proofs.YtbjeemlbjkmhiaaDoor.Pure
open Go.RowKit Go.Proofs.YtbjeemlbjkmhiaaDoor.Q Go.Proofs.YtbjeemlbjkmhiaaDoor.Num Go.Proofs.YtbjeemlbjkmhiaaDoor.Pol Go.Proofs.YtbjeemlbjkmhiaaDoorW.PrintWords Go.Proofs.YtbjeemlbjkmhiaaDoorW.PrintLast Go.Proofs.YtbjeemlbjkmhiaaDoorW.PrintMore

theorem ev_take_succ (x : Int) : ∀ (l : List Int) (d : Nat), ev (l.take (d + 1)) x = ev (l.take d) x + co l d * x ^ d
  | [], d => by simp [ev]
  | c :: t, 0 => by simp [ev]
  | c :: t, d + 1 => by
    have := ev_take_succ x t d
    simp only [List.take_succ_cons, ev, co_cons_succ] at this ⊢
    rw [this, Int.pow_succ]; grind
section any
variable {f : Int} {p : Nat} (h : FO f p)
include h
theorem eval_l0 {l : List Int} (hl : l.length ≤ 1000000) (hu : UL l) {x : Int} (hx : 0 ≤ x) : ∀ (d : Nat) (acc : Int), d ≤ l.length → 0 ≤ acc → acc < p → Ev (fun k => poly_Eval.l0 k f l x acc (l.length : Int) ((l.length - d : Nat) : Int)) ((acc * x ^ d + ev (l.take d) x) % p) := by
  intro d
  induction d with
  | zero =>
    intro acc _ h0 h1
    refine Ev.succ (F := fun _ => some ((acc * x ^ 0 + ev (l.take 0) x) % p)) (fun k => ?_) (Ev.all fun _ => rfl)
    rw [poly_Eval.l0, if_neg (by omega)]
    have : acc * x ^ 0 + ev (l.take 0) x = acc := by simp [ev]
    rw [this, Int.emod_eq_of_lt h0 h1]
  | succ d ih =>
    intro acc hd h0 h1
    have e1 : wrap64 (wrap64 ((l.length : Int) - 1) - ((l.length - (d + 1) : Nat) : Int)) = (d : Int) := by
      rw [w64 (n := (l.length : Int) - 1) (by omega) (by omega), w64 (by omega) (by omega)]; omega
    have e2 : ((l.length - (d + 1) : Nat) : Int) + 1 = ((l.length - d : Nat) : Int) := by omega
    have key := ih ((acc * x % p + co l d) % p) (by omega) (mod_nonneg h.pos _) (mod_lt h.pos _)
    have e3 : ((acc * x % p + co l d) % p * x ^ d + ev (l.take d) x) % p = (acc * x ^ (d + 1) + ev (l.take (d + 1)) x) % p := by
      refine Cg.mod_eq ?_
      have c1 : Cg p ((acc * x % p + co l d) % p) (acc * x + co l d) := (Cg.mod _ _).trans ((Cg.mod _ _).add (Cg.refl _ _))
      refine ((c1.mul (Cg.refl _ (x ^ d))).add (Cg.refl _ _)).trans (Cg.of_eq ?_)
      rw [ev_take_succ x l d, Int.pow_succ]; grind
    rw [e3] at key
    refine Ev.succ (fun k => ?_) key
    rw [poly_Eval.l0, if_pos (by omega), o_Mul h h0 hx, Option.bind_some, e1, if_pos (by omega), if_pos (by omega), rd_nat, o_Add h (mod_nonneg h.pos _) (U.co hu d).1, Option.bind_some, e2, w64 (by omega) (by omega)]
theorem s_Eval {l : List Int} (hl : l.length ≤ 1000000) (hu : UL l) {x : Int} (hx : 0 ≤ x) : Ev (fun k => poly_Eval.f k f l x) (ev l x % p) := by
  have key := eval_l0 h hl hu hx l.length 0 (Nat.le_refl _) (Int.le_refl _) h.pos
  rw [List.take_length, Int.zero_mul, Int.zero_add, Nat.sub_self] at key
  exact key

end any
section good
variable {f : Int} {p : Nat} (h : FP f p)
include h
end good
end Go.Proofs.YtbjeemlbjkmhiaaDoor.Pure
namespace Go.Proofs.YtbjeemlbjkmhiaaDoor.Pure
open Go.RowKit Go.Proofs.YtbjeemlbjkmhiaaDoor.Q Go.Proofs.YtbjeemlbjkmhiaaDoor.Num Go.Proofs.YtbjeemlbjkmhiaaDoor.Pol Go.Proofs.YtbjeemlbjkmhiaaDoorW.PrintWords Go.Proofs.YtbjeemlbjkmhiaaDoorW.PrintLast Go.Proofs.YtbjeemlbjkmhiaaDoorW.PrintMore

def Rg (p : Int) (l : List Int) : Prop := ∀ i, 0 ≤ co l i ∧ co l i < p
theorem Rg.set {p : Int} {l : List Int} (h : Rg p l) {i : Nat} {x : Int} (hx : 0 ≤ x ∧ x < p) : Rg p (l.set i x) := fun j => by
  by_cases hi : i < l.length
  · rw [co_set hi]
    split
    · exact hx
    · exact h j
  · rw [List.set_eq_of_length_le (by omega)]; exact h j
theorem Rg.eq {p : Int} {a b : List Int} (ha : Rg p a) (hb : Rg p b) (hl : a.length = b.length) (h : ∀ i, i < a.length → Cg p (co a i) (co b i)) : a = b :=
  ext_co hl fun i hi => (h i hi).uniq (ha i).1 (ha i).2 (hb i).1 (hb i).2
theorem Rg.U {f : Int} {p : Nat} (h : FO f p) {l : List Int} (hr : Rg p l) : UL l := fun c hc => by
  obtain ⟨i, hi, rfl⟩ := List.getElem_of_mem hc
  have := hr i
  rw [co_lt hi] at this
  have := h.lei
  unfold Pure.U; omega
def Interp (p : Nat) (xs ys R : List Int) : Prop := Deg p R xs.length ∧ ∀ i, i < xs.length → Cg p (ev R (co xs i)) (co ys i)

section good
variable {f : Int} {p : Nat} (h : FP f p)
include h
end good
end Go.Proofs.YtbjeemlbjkmhiaaDoor.Pure
namespace Go.Proofs.YtbjeemlbjkmhiaaDoor.Pure
open Go.RowKit Go.Proofs.YtbjeemlbjkmhiaaDoor.Q Go.Proofs.YtbjeemlbjkmhiaaDoor.Num Go.Proofs.YtbjeemlbjkmhiaaDoor.Pol Go.Proofs.YtbjeemlbjkmhiaaDoorW.PrintWords Go.Proofs.YtbjeemlbjkmhiaaDoorW.PrintLast Go.Proofs.YtbjeemlbjkmhiaaDoorW.PrintMore

theorem FP.eqr {f : Int} {p : Nat} (h : FP f p) : attestorref01_P.f f = some (p : Int) := by
  have h0 := h.lo
  have h1 := h.hi
  have h2 := h.eq
  have : f = 0 ∨ f = 1 ∨ f = 2 ∨ f = 3 := by omega
  rcases this with rfl | rfl | rfl | rfl <;> (rw [← h2]; rfl)
section good
variable {f : Int} {p : Nat} (h : FP f p)
include h
theorem r_Valid : attestorref01_Valid.f f = some true := by
  unfold attestorref01_Valid.f
  rw [if_pos h.lo, decide_eq_true (by have := h.hi; omega)]
theorem r_Add {a b : Int} (ha : 0 ≤ a) (hb : 0 ≤ b) : attestorref01_Add.f f a b = some ((a + b) % p) := by
  have hp := h.pos
  have ma := h.mod a
  have mb := h.mod b
  have hl := h.lei
  simp only [attestorref01_Add.f, r_Valid h, h.eqr, Option.bind_some, if_true]
  rw [if_neg (by omega), tmod_nn ha, tmod_nn hb, wu64 (by omega) (by omega), tmod_nn (by omega)]
  exact congrArg some (Cg.mod_eq ((Cg.mod p a).add (Cg.mod p b)))
theorem r_Mul {a b : Int} (ha : 0 ≤ a) (hb : 0 ≤ b) : attestorref01_Mul.f f a b = some ((a * b) % p) := by
  have hp := h.pos
  have ma := h.mod a
  have mb := h.mod b
  have hl := h.lei
  have h1 : 0 ≤ (a % p) * (b % p) := Int.mul_nonneg ma.1 mb.1
  have h2 : (a % p) * (b % p) ≤ 998244353 * 998244353 := Int.mul_le_mul (by omega) (by omega) mb.1 (by omega)
  simp only [attestorref01_Mul.f, r_Valid h, h.eqr, Option.bind_some, if_true]
  rw [if_neg (by omega), tmod_nn ha, tmod_nn hb, wu64 h1 (by omega), tmod_nn h1]
  exact congrArg some (Cg.mod_eq ((Cg.mod p a).mul (Cg.mod p b)))
theorem r_Pow {a : Int} (ha : 0 ≤ a) : ∀ (n e : Nat), e ≤ n → (e : Int) < 18446744073709551616 → Ev (fun k => attestorref01_Pow.f k f a e) (a ^ e % p) := by
  have zero : Ev (fun k => attestorref01_Pow.f k f a ((0 : Nat) : Int)) (a ^ 0 % p) := by
    refine Ev.succ (F := fun _ => some (a ^ 0 % p)) (fun k => ?_) (Ev.all fun _ => rfl)
    rw [attestorref01_Pow.f, r_Valid h, Option.bind_some, if_pos rfl, if_pos (show ((0 : Nat) : Int) = 0 from rfl), Int.pow_zero, Int.emod_eq_of_lt (by omega) h.one]
  intro n
  induction n with
  | zero =>
    intro e he _
    obtain rfl : e = 0 := by omega
    exact zero
  | succ n ihn =>
    intro e1 hn hlt
    rcases e1 with _ | e
    · exact zero
    obtain ⟨m, hm⟩ : ∃ m, m = (e + 1) / 2 := ⟨_, rfl⟩
    have ih := ihn m (by omega) (by omega)
    have e1 : Int.tdiv ((e + 1 : Nat) : Int) 2 = (m : Int) := by rw [Int.tdiv_eq_ediv_of_nonneg (by omega)]; omega
    have mm := mod_nonneg h.pos (a ^ m)
    have key : Ev (fun k => (attestorref01_Pow.f k f a m).bind fun t260 => ((attestorref01_Mul.f f t260 t260).bind fun t261 => (if (Int.tmod ((e + 1 : Nat) : Int) 2) = 1 then ((attestorref01_Mul.f f t261 a).bind fun t262 => (some t262)) else (some t261)))) (a ^ (e + 1) % p) := by
      refine ih.bind (Ev.all fun k => ?_)
      rw [r_Mul h mm mm]
      simp only [Option.bind_some]
      have e2 : Cg p ((a ^ m % p) * (a ^ m % p)) (a ^ (m + m)) := by rw [Int.pow_add]; exact (Cg.mod _ _).mul (Cg.mod _ _)
      rw [tmod_nn (by omega)]
      by_cases ho : ((e + 1 : Nat) : Int) % 2 = 1
      · rw [if_pos ho, r_Mul h (mod_nonneg h.pos _) ha]
        simp only [Option.bind_some]
        refine congrArg some (Cg.mod_eq ?_)
        have e3 : e + 1 = m + m + 1 := by omega
        rw [e3, Int.pow_succ]
        exact ((Cg.mod _ _).trans e2).mul (Cg.refl _ _)
      · rw [if_neg ho]
        refine congrArg some (Cg.mod_eq ?_)
        have e3 : e + 1 = m + m := by omega
        rw [e3]
        exact e2
    refine Ev.succ (fun k => ?_) key
    rw [attestorref01_Pow.f, r_Valid h]
    simp only [Option.bind_some, if_true]
    rw [if_neg (by omega), e1, wu64 (by omega) (by omega)]
theorem r_Inv {a : Int} (ha : 0 ≤ a) : Ev (fun k => attestorref01_Inv.f k f a) (inv p a) := by
  have h2 := h.pr.two
  have hl := h.lei
  have key : Ev (fun k => (attestorref01_Pow.f k f a ((p - 2 : Nat) : Int)).bind fun t265 => (some t265)) (inv p a) := (r_Pow h ha (p - 2) (p - 2) (Nat.le_refl _) (by omega)).bind (Ev.all fun _ => rfl)
  refine Ev.congr (fun k => ?_) key
  simp only [attestorref01_Inv.f, r_Valid h, h.eqr, Option.bind_some, if_true]
  rw [wu64 (by omega) (by omega), show (p : Int) - 2 = ((p - 2 : Nat) : Int) by omega]
theorem r_Div {a b : Int} (ha : 0 ≤ a) (hb : 0 ≤ b) : Ev (fun k => attestorref01_Div.f k f a b) ((a * inv p b) % p) := by
  unfold attestorref01_Div.f
  refine (r_Inv h hb).bind (Ev.all fun k => ?_)
  rw [r_Mul h ha (inv_nn h.pr _)]
  rfl
end good
section bad
variable {f : Int} (h : f < 0 ∨ 4 ≤ f)
include h
theorem br_Valid : attestorref01_Valid.f f = some false := by
  unfold attestorref01_Valid.f
  rcases h with h | h
  · rw [if_neg (by omega)]
  · rw [if_pos (by omega), decide_eq_false (by omega)]
theorem br_Add (a b : Int) : attestorref01_Add.f f a b = some 0 := by simp [attestorref01_Add.f, br_Valid h]
theorem br_Mul (a b : Int) : attestorref01_Mul.f f a b = some 0 := by simp [attestorref01_Mul.f, br_Valid h]
end bad
section any
variable {f : Int} {p : Nat} (h : FO f p)
include h
theorem ro_Add {a b : Int} (ha : 0 ≤ a) (hb : 0 ≤ b) : attestorref01_Add.f f a b = some ((a + b) % p) := by
  rcases h.ok with g | ⟨g, rfl⟩
  · exact r_Add g ha hb
  · rw [br_Add g, mod_one]
theorem ro_Mul {a b : Int} (ha : 0 ≤ a) (hb : 0 ≤ b) : attestorref01_Mul.f f a b = some ((a * b) % p) := by
  rcases h.ok with g | ⟨g, rfl⟩
  · exact r_Mul g ha hb
  · rw [br_Mul g, mod_one]
end any
end Go.Proofs.YtbjeemlbjkmhiaaDoor.Pure
namespace Go.Proofs.YtbjeemlbjkmhiaaDoor.Pure
open Go.RowKit Go.Proofs.YtbjeemlbjkmhiaaDoor.Q Go.Proofs.YtbjeemlbjkmhiaaDoor.Num Go.Proofs.YtbjeemlbjkmhiaaDoor.Pol Go.Proofs.YtbjeemlbjkmhiaaDoorW.PrintWords Go.Proofs.YtbjeemlbjkmhiaaDoorW.PrintLast Go.Proofs.YtbjeemlbjkmhiaaDoorW.PrintMore

section any
variable {f : Int} {p : Nat} (h : FO f p)
include h
theorem reval_l {l : List Int} (hl : l.length ≤ 1000000) (hu : UL l) {x : Int} (hx : 0 ≤ x) : ∀ (d i : Nat) (w : Int), i + d = l.length → 0 ≤ w → Cg p w (x ^ i) → Ev (fun k => attestorref03_Eval.l0 k f l x (ev (l.take i) x % p) w i) (ev l x % p) := by
  intro d
  induction d with
  | zero =>
    intro i w hi _ _
    refine Ev.succ (F := fun _ => some (ev l x % p)) (fun k => ?_) (Ev.all fun _ => rfl)
    rw [attestorref03_Eval.l0, if_neg (by omega), List.take_of_length_le (by omega)]
  | succ d ih =>
    intro i w hi hw hc
    refine Ev.succ (fun k => ?_) (ih (i + 1) (w * x % p) (by omega) (mod_nonneg h.pos _) (by rw [Int.pow_succ]; exact (Cg.mod _ _).trans (hc.mul (Cg.refl _ _))))
    have e1 : (ev (l.take i) x % p + co l i * w % p) % p = ev (l.take (i + 1)) x % p := by
      refine Cg.mod_eq ?_
      rw [ev_take_succ]
      exact (Cg.mod _ _).add ((Cg.mod _ _).trans ((Cg.refl _ _).mul hc))
    rw [attestorref03_Eval.l0, if_pos (by omega), if_pos (by omega), rd_nat, ro_Mul h (U.co hu i).1 hw, Option.bind_some, ro_Add h (mod_nonneg h.pos _) (mod_nonneg h.pos _), Option.bind_some, ro_Mul h hw hx, Option.bind_some, e1, w64_succ (by omega)]
theorem r_Eval {l : List Int} (hl : l.length ≤ 1000000) (hu : UL l) {x : Int} (hx : 0 ≤ x) : Ev (fun k => attestorref03_Eval.f k f l x) (ev l x % p) := by
  have key := reval_l h hl hu hx l.length 0 1 (by omega) (by omega) (Cg.of_eq (Int.pow_zero x).symm)
  rw [List.take_zero, show ev [] x % (p : Int) = 0 by simp [ev]] at key
  exact key
end any
section good
variable {f : Int} {p : Nat} (h : FP f p)
include h
end good
end Go.Proofs.YtbjeemlbjkmhiaaDoor.Pure
namespace Go.Proofs.YtbjeemlbjkmhiaaDoor.Pure
open Go.RowKit Go.Proofs.YtbjeemlbjkmhiaaDoor.Q Go.Proofs.YtbjeemlbjkmhiaaDoor.Num Go.Proofs.YtbjeemlbjkmhiaaDoor.Pol

def vl : List Int → Int
  | [] => 0
  | x :: t => x + 4294967296 * vl t
def Lb (l : List Int) : Prop := ∀ i, 0 ≤ co l i ∧ co l i < 4294967296
def Bp (n : Nat) : Int := 4294967296 ^ n
theorem Bp_zero : Bp 0 = 1 := rfl
theorem Bp_succ (n : Nat) : Bp (n + 1) = 4294967296 * Bp n := by unfold Bp; rw [Int.pow_succ, Int.mul_comm]
theorem Bp_pos (n : Nat) : 0 < Bp n := by unfold Bp; exact Int.pow_pos (by omega)
theorem Bp_add (m n : Nat) : Bp (m + n) = Bp m * Bp n := by unfold Bp; exact Int.pow_add ..
theorem Lb.of_mem {l : List Int} (h : ∀ x ∈ l, 0 ≤ x ∧ x < 4294967296) : Lb l := fun i => by
  by_cases hi : i < l.length
  · exact h _ (co_mem hi)
  · rw [co_over (by omega)]; omega
theorem Lb.of_wf {l : List Int} (h : ∀ x ∈ l, (Lit.int .u32 x).wf = true) : Lb l := Lb.of_mem fun x hx => by
  have := h x hx
  simp [Lit.wf, IntKind.min, IntKind.max, IntKind.bits, IntKind.signed] at this
  omega
theorem Lb.nil : Lb [] := fun i => by simp [co]
theorem Lb.cons {x : Int} {l : List Int} (hx : 0 ≤ x ∧ x < 4294967296) (h : Lb l) : Lb (x :: l)
  | 0 => hx
  | i + 1 => h i
theorem Lb.tail {x : Int} {l : List Int} (h : Lb (x :: l)) : Lb l := fun i => h (i + 1)
theorem Lb.set {l : List Int} (h : Lb l) {x : Int} (hx : 0 ≤ x ∧ x < 4294967296) (i : Nat) : Lb (l.set i x) := fun j => by
  by_cases hi : i < l.length
  · rw [co_set hi]
    split
    · exact hx
    · exact h j
  · rw [List.set_eq_of_length_le (by omega)]; exact h j
theorem Lb.take {l : List Int} (h : Lb l) (n : Nat) : Lb (l.take n) := fun i => by
  rw [co_take]
  split
  · exact h i
  · omega
theorem co_drop (l : List Int) (n i : Nat) : co (l.drop n) i = co l (n + i) := by
  unfold co
  rw [List.getD_eq_getElem?_getD, List.getD_eq_getElem?_getD, List.getElem?_drop]
theorem Lb.drop {l : List Int} (h : Lb l) (n : Nat) : Lb (l.drop n) := fun i => by
  rw [co_drop]
  exact h _
theorem Lb.replicate (n : Nat) : Lb (List.replicate n 0) := fun i => by rw [co_replicate]; omega
theorem Lb.append {a b : List Int} (ha : Lb a) (hb : Lb b) : Lb (a ++ b) := fun i => by
  rw [co_append]
  split
  · exact ha i
  · exact hb _
theorem vl_nil : vl [] = 0 := rfl
theorem vl_cons (x : Int) (l : List Int) : vl (x :: l) = x + 4294967296 * vl l := rfl
theorem vl_range : ∀ {l : List Int}, Lb l → 0 ≤ vl l ∧ vl l < Bp l.length
  | [], _ => by simp [vl, Bp_zero]
  | x :: l, h => by
    have h1 := vl_range h.tail
    have h2 := h 0
    rw [show co (x :: l) 0 = x from rfl] at h2
    rw [vl_cons, List.length_cons, Bp_succ]
    omega
def Nf (l : List Int) : Prop := Lb l ∧ (l = [] ∨ co l (l.length - 1) ≠ 0)
theorem Nf.nil : Nf [] := ⟨Lb.nil, Or.inl rfl⟩
theorem Nf.tail {x : Int} {l : List Int} (h : Nf (x :: l)) : Nf l := ⟨h.1.tail, by
  cases l with
  | nil => exact Or.inl rfl
  | cons y l => exact Or.inr (h.2.resolve_left (by simp))⟩
theorem Nf.low : ∀ {l : List Int}, Nf l → l ≠ [] → Bp (l.length - 1) ≤ vl l
  | [], _, h => absurd rfl h
  | [x], h, _ => by
    have h1 := h.2.resolve_left (by simp)
    have h2 := h.1 0
    rw [show co [x] 0 = x from rfl] at h2
    rw [show co [x] ([x].length - 1) = x from rfl] at h1
    show Bp 0 ≤ _
    rw [Bp_zero, vl_cons, vl_nil]
    omega
  | x :: y :: l, h, _ => by
    have h1 := Nf.low h.tail (by simp)
    have h2 := h.1 0
    rw [show co (x :: y :: l) 0 = x from rfl] at h2
    rw [vl_cons]
    rw [show (y :: l).length - 1 = l.length from rfl] at h1
    rw [show (x :: y :: l).length - 1 = l.length + 1 from rfl, Bp_succ]
    omega
theorem Nf.pos {l : List Int} (h : Nf l) (hl : l ≠ []) : 0 < vl l := by
  have := h.low hl
  have := Bp_pos (l.length - 1)
  omega
def dgF : Nat → Int → List Int
  | 0, _ => []
  | k + 1, n => if n ≤ 0 then [] else n % 4294967296 :: dgF k (n / 4294967296)
def dg (n : Int) : List Int := dgF n.toNat n
theorem Nf.eq_dgF : ∀ {l : List Int} {k : Nat}, Nf l → vl l ≤ k → l = dgF k (vl l)
  | [], k, _, _ => by cases k <;> simp [dgF, vl]
  | x :: l, k, h, hk => by
    have hp := h.pos (by simp)
    have h2 := h.1 0
    rw [show co (x :: l) 0 = x from rfl] at h2
    have h3 := (vl_range h.1.tail).1
    rw [vl_cons] at hp hk ⊢
    cases k with
    | zero => omega
    | succ k =>
      rw [dgF, if_neg (by omega), show (x + 4294967296 * vl l) % 4294967296 = x by omega, show (x + 4294967296 * vl l) / 4294967296 = vl l by omega]
      rw [← Nf.eq_dgF (k := k) h.tail (by omega)]
theorem Nf.eq_dg {l : List Int} (h : Nf l) : l = dg (vl l) := h.eq_dgF (by have := (vl_range h.1).1; omega)
theorem Nf.uniq {a b : List Int} (ha : Nf a) (hb : Nf b) (e : vl a = vl b) : a = b := by rw [ha.eq_dg, hb.eq_dg, e]
theorem dgF_ok : ∀ (k : Nat) (n : Int), n ≤ k → Lb (dgF k n) ∧ (dgF k n = [] ∨ co (dgF k n) ((dgF k n).length - 1) ≠ 0) ∧ (0 ≤ n → vl (dgF k n) = n)
  | 0, n, h => ⟨Lb.nil, Or.inl rfl, fun h0 => by rw [dgF, vl]; omega⟩
  | k + 1, n, h => by
    rw [dgF]
    by_cases c : n ≤ 0
    · rw [if_pos c]
      exact ⟨Lb.nil, Or.inl rfl, fun h0 => by rw [vl]; omega⟩
    · rw [if_neg c]
      obtain ⟨h1, h2, h3⟩ := dgF_ok k (n / 4294967296) (by omega)
      have h3' := h3 (by omega)
      refine ⟨Lb.cons (by omega) h1, Or.inr ?_, fun _ => by rw [vl_cons, h3']; omega⟩
      rcases h2 with h2 | h2
      · rw [h2] at h3' ⊢
        rw [vl] at h3'
        show n % 4294967296 ≠ 0
        omega
      · cases hd : dgF k (n / 4294967296) with
        | nil =>
          rw [hd, vl] at h3'
          show n % 4294967296 ≠ 0
          omega
        | cons y t =>
          rw [hd] at h2
          exact h2
theorem dg_nf (n : Int) : Nf (dg n) := by
  obtain ⟨h1, h2, _⟩ := dgF_ok n.toNat n (by omega)
  exact ⟨h1, h2⟩
theorem vl_dg {n : Int} (h : 0 ≤ n) : vl (dg n) = n := (dgF_ok n.toNat n (by omega)).2.2 h
theorem Bp_le {m n : Nat} (h : m ≤ n) : Bp m ≤ Bp n := by
  obtain ⟨d, rfl⟩ : ∃ d, n = m + d := ⟨n - m, by omega⟩
  rw [Bp_add]
  have h1 := Bp_pos m
  have h2 := Bp_pos d
  have := Int.mul_le_mul_of_nonneg_left (show 1 ≤ Bp d by omega) (Int.le_of_lt h1)
  omega
theorem Nf.len_le {l : List Int} (h : Nf l) {n : Nat} : l.length ≤ n ↔ vl l < Bp n := by
  constructor
  · intro hl
    have h1 := vl_range h.1
    have h2 := Bp_le hl
    omega
  · intro hv
    by_cases hl : l = []
    · simp [hl]
    · have h1 := h.low hl
      by_cases c : l.length ≤ n
      · exact c
      · have := Bp_le (show n ≤ l.length - 1 by omega)
        omega
theorem dg_len {v : Int} (h : 0 ≤ v) {n : Nat} : (dg v).length ≤ n ↔ v < Bp n := by
  rw [(dg_nf v).len_le, vl_dg h]
end Go.Proofs.YtbjeemlbjkmhiaaDoor.Pure
namespace Go.Proofs.YtbjeemlbjkmhiaaDoor.Pure
open Go.RowKit Go.Proofs.YtbjeemlbjkmhiaaDoor.Q Go.Proofs.YtbjeemlbjkmhiaaDoor.Num Go.Proofs.YtbjeemlbjkmhiaaDoor.Pol Go.Proofs.YtbjeemlbjkmhiaaDoorW.PrintWords Go.Proofs.YtbjeemlbjkmhiaaDoorW.PrintLast Go.Proofs.YtbjeemlbjkmhiaaDoorW.PrintMore

def Vn (l : List Int) : Prop := l.length ≤ 64 ∧ Nf l
theorem Vn.dg {v : Int} (h0 : 0 ≤ v) (h : v < Bp 64) : Vn (dg v) := ⟨(dg_len h0).2 h, dg_nf v⟩
end Go.Proofs.YtbjeemlbjkmhiaaDoor.Pure
namespace Go.Proofs.YtbjeemlbjkmhiaaDoor.Pure
open Go.RowKit Go.Proofs.YtbjeemlbjkmhiaaDoor.Q Go.Proofs.YtbjeemlbjkmhiaaDoor.Num Go.Proofs.YtbjeemlbjkmhiaaDoor.Pol Go.Proofs.YtbjeemlbjkmhiaaDoorW.PrintWords Go.Proofs.YtbjeemlbjkmhiaaDoorW.PrintLast Go.Proofs.YtbjeemlbjkmhiaaDoorW.PrintMore

end Go.Proofs.YtbjeemlbjkmhiaaDoor.Pure
namespace Go.Proofs.YtbjeemlbjkmhiaaDoor.Pure
open Go.RowKit Go.Proofs.YtbjeemlbjkmhiaaDoor.Q Go.Proofs.YtbjeemlbjkmhiaaDoor.Num Go.Proofs.YtbjeemlbjkmhiaaDoor.Pol Go.Proofs.YtbjeemlbjkmhiaaDoorW.PrintWords Go.Proofs.YtbjeemlbjkmhiaaDoorW.PrintLast Go.Proofs.YtbjeemlbjkmhiaaDoorW.PrintMore

end Go.Proofs.YtbjeemlbjkmhiaaDoor.Pure
namespace Go.Proofs.YtbjeemlbjkmhiaaDoor.Pure
open Go.RowKit Go.Proofs.YtbjeemlbjkmhiaaDoor.Q Go.Proofs.YtbjeemlbjkmhiaaDoor.Num Go.Proofs.YtbjeemlbjkmhiaaDoor.Pol Go.Proofs.YtbjeemlbjkmhiaaDoorW.PrintWords Go.Proofs.YtbjeemlbjkmhiaaDoorW.PrintLast Go.Proofs.YtbjeemlbjkmhiaaDoorW.PrintMore

structure KD (U V q v1 v2 u2 top Q U3 V3 : Int) : Prop where
  hU : U = U3 + u2 * Q + top * (4294967296 * Q)
  hV : V = V3 + v2 * Q + v1 * (4294967296 * Q)
  hU3 : 0 ≤ U3 ∧ U3 < Q
  hV3 : 0 ≤ V3 ∧ V3 < Q
  hv1 : 2147483648 ≤ v1 ∧ v1 < 4294967296
  hv2 : 0 ≤ v2 ∧ v2 < 4294967296
  hu2 : 0 ≤ u2 ∧ u2 < 4294967296
  htop : 0 ≤ top ∧ top ≤ v1 * 4294967296 + 4294967295
  q0 : 0 ≤ q
  hq : q * V ≤ U
  hq2 : U < (q + 1) * V
section
variable {U V q v1 v2 u2 top Q U3 V3 : Int}
theorem KD.Qpos (h : KD U V q v1 v2 u2 top Q U3 V3) : 0 < Q := by have := h.hU3; omega
theorem KD.Vlow (h : KD U V q v1 v2 u2 top Q U3 V3) : 4294967296 * Q ≤ V := by
  have h1 := h.Qpos
  have h2 := Int.mul_le_mul_of_nonneg_right (show 1 ≤ v1 by have := h.hv1; omega) (show 0 ≤ 4294967296 * Q by omega)
  have h3 := Int.mul_nonneg h.hv2.1 (Int.le_of_lt h1)
  have h4 := h.hV3
  rw [h.hV]
  omega
theorem KD.Vpos (h : KD U V q v1 v2 u2 top Q U3 V3) : 0 < V := by
  have := h.Vlow
  have := h.Qpos
  omega
theorem KD.exit (h : KD U V q v1 v2 u2 top Q U3 V3) {g rest : Int} (g0 : 0 ≤ g) (g1 : g < 4294967296) (e : g * v1 + rest = top) (t : g * v2 ≤ rest * 4294967296 + u2) : g ≤ q + 1 := by
  refine Int.not_lt.1 fun hc => ?_
  have hQ := h.Qpos
  have e2 := Int.mul_le_mul_of_nonneg_right t (Int.le_of_lt hQ)
  have e4 : g * V3 ≤ 4294967295 * Q := Int.mul_le_mul (by omega) (Int.le_of_lt h.hV3.2) h.hV3.1 (by omega)
  have e6 := Int.mul_le_mul_of_nonneg_right (show q + 1 ≤ g - 1 by omega) (Int.le_of_lt h.Vpos)
  have e7 := h.hq2
  have e8 := h.Vlow
  have e9 := h.hU3.1
  have e1 : g * V = g * V3 + g * v2 * Q + g * v1 * (4294967296 * Q) := by rw [h.hV]; grind
  have e3 : g * v1 * (4294967296 * Q) = top * (4294967296 * Q) - rest * (4294967296 * Q) := by rw [← e]; grind
  have e5 : (rest * 4294967296 + u2) * Q = rest * (4294967296 * Q) + u2 * Q := by grind
  have e10 : (g - 1) * V = g * V - V := by grind
  have e11 := h.hU
  omega
theorem KD.first (h : KD U V q v1 v2 u2 top Q U3 V3) : q ≤ top / v1 := by
  have hQ := h.Qpos
  have hv := h.hv1
  refine Int.le_ediv_of_mul_le (by omega) (Int.not_lt.1 fun hc => ?_)
  have e1 := Int.mul_le_mul_of_nonneg_right (show top + 1 ≤ q * v1 by omega) (show 0 ≤ 4294967296 * Q by omega)
  have e2 : q * V = q * V3 + q * v2 * Q + q * v1 * (4294967296 * Q) := by rw [h.hV]; grind
  have e3 := Int.mul_nonneg h.q0 h.hV3.1
  have e4 := Int.mul_nonneg (Int.mul_nonneg h.q0 h.hv2.1) (Int.le_of_lt hQ)
  have e5 := Int.mul_le_mul_of_nonneg_right (show u2 ≤ 4294967295 by have := h.hu2; omega) (Int.le_of_lt hQ)
  have e6 : (top + 1) * (4294967296 * Q) = top * (4294967296 * Q) + 4294967296 * Q := by grind
  have e7 := h.hq
  have e8 := h.hU
  have e9 := h.hU3.2
  omega
theorem KD.bound (h : KD U V q v1 v2 u2 top Q U3 V3) : top / v1 ≤ 4294967297 := by
  have hv := h.hv1
  have ht := h.htop
  refine Int.le_of_lt_add_one (Int.ediv_lt_of_lt_mul (by omega) ?_)
  omega
theorem KD.below (h : KD U V q v1 v2 u2 top Q U3 V3) {g rest : Int} (e : g * v1 + rest = top) (hr : 4294967296 ≤ rest) : g < 4294967296 := by
  refine Int.not_le.1 fun hc => ?_
  have h1 := Int.mul_le_mul_of_nonneg_right hc (show 0 ≤ v1 by have := h.hv1; omega)
  have ht := h.htop
  rw [Int.mul_comm 4294967296 v1] at h1
  omega
end
end Go.Proofs.YtbjeemlbjkmhiaaDoor.Pure
namespace Go.Proofs.YtbjeemlbjkmhiaaDoor.Pure
open Go.RowKit Go.Proofs.YtbjeemlbjkmhiaaDoor.Q Go.Proofs.YtbjeemlbjkmhiaaDoor.Num Go.Proofs.YtbjeemlbjkmhiaaDoor.Pol Go.Proofs.YtbjeemlbjkmhiaaDoorW.PrintWords Go.Proofs.YtbjeemlbjkmhiaaDoorW.PrintLast Go.Proofs.YtbjeemlbjkmhiaaDoorW.PrintMore

end Go.Proofs.YtbjeemlbjkmhiaaDoor.Pure
namespace Go.Proofs.YtbjeemlbjkmhiaaDoor.Pure
open Go.RowKit Go.Proofs.YtbjeemlbjkmhiaaDoor.Q Go.Proofs.YtbjeemlbjkmhiaaDoor.Num Go.Proofs.YtbjeemlbjkmhiaaDoor.Pol Go.Proofs.YtbjeemlbjkmhiaaDoorW.PrintWords Go.Proofs.YtbjeemlbjkmhiaaDoorW.PrintLast Go.Proofs.YtbjeemlbjkmhiaaDoorW.PrintMore

end Go.Proofs.YtbjeemlbjkmhiaaDoor.Pure
namespace Go.Proofs.YtbjeemlbjkmhiaaDoor.Pure
open Go.RowKit Go.Proofs.YtbjeemlbjkmhiaaDoor.Q Go.Proofs.YtbjeemlbjkmhiaaDoor.Num Go.Proofs.YtbjeemlbjkmhiaaDoor.Pol Go.Proofs.YtbjeemlbjkmhiaaDoorW.PrintWords Go.Proofs.YtbjeemlbjkmhiaaDoorW.PrintLast Go.Proofs.YtbjeemlbjkmhiaaDoorW.PrintMore

end Go.Proofs.YtbjeemlbjkmhiaaDoor.Pure
namespace Go.Proofs.YtbjeemlbjkmhiaaDoor.Pure
open Go.RowKit Go.Proofs.YtbjeemlbjkmhiaaDoor.Q Go.Proofs.YtbjeemlbjkmhiaaDoor.Num Go.Proofs.YtbjeemlbjkmhiaaDoor.Pol Go.Proofs.YtbjeemlbjkmhiaaDoorW.PrintWords Go.Proofs.YtbjeemlbjkmhiaaDoorW.PrintLast Go.Proofs.YtbjeemlbjkmhiaaDoorW.PrintMore

structure Fr (p q : Int) : Prop where
  p0 : 0 ≤ p
  q0 : 0 < q
  co : Int.gcd p q = 1
theorem Fr.gcd_mul {p q g : Int} (h : Fr p q) (hg : 0 < g) : ((Int.gcd (p * g) (q * g) : Nat) : Int) = g := by
  rw [Int.gcd_mul_right, h.co, Nat.one_mul]
  omega
theorem Fr.uniq {p q a b g z : Int} (h : Fr p q) (k : Fr a b) (hg : 0 < g) (hz : 0 < z) (e1 : p * g = a * z) (e2 : q * g = b * z) : p = a ∧ q = b := by
  have e : g = z := by rw [← h.gcd_mul hg, e1, e2, k.gcd_mul hz]
  rw [e] at e1 e2
  exact ⟨Int.eq_of_mul_eq_mul_right (by omega) e1, Int.eq_of_mul_eq_mul_right (by omega) e2⟩
section
variable {a b c d : Int} {n m : Nat} (F : Fr a b) (G : Fr c d) (ha : a < Bp n) (hb : b < Bp n) (hc : c < Bp m) (hd : d < Bp m)
include F G ha hb hc hd
end
end Go.Proofs.YtbjeemlbjkmhiaaDoor.Pure
namespace Go.Proofs.YtbjeemlbjkmhiaaDoor.Pure
open Go.RowKit Go.Proofs.YtbjeemlbjkmhiaaDoor.Q Go.Proofs.YtbjeemlbjkmhiaaDoor.Num Go.Proofs.YtbjeemlbjkmhiaaDoor.Pol Go.Proofs.YtbjeemlbjkmhiaaDoorW.PrintWords Go.Proofs.YtbjeemlbjkmhiaaDoorW.PrintLast Go.Proofs.YtbjeemlbjkmhiaaDoorW.PrintMore

def Dt (l : List Int) : Prop := ∀ x ∈ l, 48 ≤ x ∧ x ≤ 57
def rv : List Int → Int
  | [] => 0
  | x :: t => (x - 48) + 10 * rv t
def Cn (l : List Int) : Prop := l = [] ∨ l.getLast? ≠ some 48
theorem Cn.pos : ∀ {l : List Int}, Dt l → Cn l → l ≠ [] → 0 < rv l
  | [], _, _, h => absurd rfl h
  | [x], hd, hc, _ => by
    have h1 := hd x List.mem_cons_self
    have h2 := hc.resolve_left (by simp)
    have h3 : x ≠ 48 := fun e => h2 (by rw [e]; rfl)
    rw [rv, rv]
    omega
  | x :: y :: t, hd, hc, _ => by
    have h1 := hd x List.mem_cons_self
    have h2 := Cn.pos (l := y :: t) (fun z hz => hd z (List.mem_cons_of_mem _ hz)) (Or.inr (by have := hc.resolve_left (by simp); rwa [List.getLast?_cons_cons] at this)) (by simp)
    rw [rv]
    omega
end Go.Proofs.YtbjeemlbjkmhiaaDoor.Pure
namespace Go.Proofs.YtbjeemlbjkmhiaaDoor.Pure
open Go.RowKit Go.Proofs.YtbjeemlbjkmhiaaDoor.Q Go.Proofs.YtbjeemlbjkmhiaaDoor.Num Go.Proofs.YtbjeemlbjkmhiaaDoor.Pol Go.Proofs.YtbjeemlbjkmhiaaDoorW.PrintWords Go.Proofs.YtbjeemlbjkmhiaaDoorW.PrintLast Go.Proofs.YtbjeemlbjkmhiaaDoorW.PrintMore

def fin (l : List Int) : ByteArray := if (l.length : Int) = 0 then ⟨#[48]⟩ else strOfNums l.reverse
end Go.Proofs.YtbjeemlbjkmhiaaDoor.Pure
namespace Go.Proofs.YtbjeemlbjkmhiaaDoor.Pure
open Go.RowKit Go.Proofs.YtbjeemlbjkmhiaaDoor.Q Go.Proofs.YtbjeemlbjkmhiaaDoor.Num Go.Proofs.YtbjeemlbjkmhiaaDoor.Pol Go.Proofs.YtbjeemlbjkmhiaaDoorW.PrintWords Go.Proofs.YtbjeemlbjkmhiaaDoorW.PrintLast Go.Proofs.YtbjeemlbjkmhiaaDoorW.PrintMore

end Go.Proofs.YtbjeemlbjkmhiaaDoor.Pure
namespace Go.Proofs.YtbjeemlbjkmhiaaDoor.Pure
open Go.RowKit Go.Proofs.YtbjeemlbjkmhiaaDoor.Q Go.Proofs.YtbjeemlbjkmhiaaDoor.Num Go.Proofs.YtbjeemlbjkmhiaaDoor.Pol Go.Proofs.YtbjeemlbjkmhiaaDoorW.PrintWords Go.Proofs.YtbjeemlbjkmhiaaDoorW.PrintLast Go.Proofs.YtbjeemlbjkmhiaaDoorW.PrintMore

end Go.Proofs.YtbjeemlbjkmhiaaDoor.Pure
namespace Go.Proofs.YtbjeemlbjkmhiaaDoor.Pure
open Go.RowKit Go.Proofs.YtbjeemlbjkmhiaaDoor.Q Go.Proofs.YtbjeemlbjkmhiaaDoor.Num Go.Proofs.YtbjeemlbjkmhiaaDoor.Pol Go.Proofs.YtbjeemlbjkmhiaaDoorW.PrintWords Go.Proofs.YtbjeemlbjkmhiaaDoorW.PrintLast Go.Proofs.YtbjeemlbjkmhiaaDoorW.PrintMore

end Go.Proofs.YtbjeemlbjkmhiaaDoor.Pure
namespace Go.Proofs.YtbjeemlbjkmhiaaDoor.Pure
open Go.RowKit Go.Proofs.YtbjeemlbjkmhiaaDoor.Q Go.Proofs.YtbjeemlbjkmhiaaDoor.Num Go.Proofs.YtbjeemlbjkmhiaaDoor.Pol Go.Proofs.YtbjeemlbjkmhiaaDoorW.PrintWords Go.Proofs.YtbjeemlbjkmhiaaDoorW.PrintLast Go.Proofs.YtbjeemlbjkmhiaaDoorW.PrintMore

section
variable {n : Nat} (hn : n < 1000000)
include hn
end
section
variable {n : Nat} (hn : n < 1000000) {B : Nat} (hB : Bp n = (B : Int)) (hB2 : B = 2 ^ (32 * n))
include hn hB
include hB2
end
end Go.Proofs.YtbjeemlbjkmhiaaDoor.Pure
namespace Go.Proofs.YtbjeemlbjkmhiaaDoor.Pure
open Go.RowKit Go.Proofs.YtbjeemlbjkmhiaaDoor.Q Go.Proofs.YtbjeemlbjkmhiaaDoor.Num Go.Proofs.YtbjeemlbjkmhiaaDoor.Pol Go.Proofs.YtbjeemlbjkmhiaaDoorW.PrintWords Go.Proofs.YtbjeemlbjkmhiaaDoorW.PrintLast Go.Proofs.YtbjeemlbjkmhiaaDoorW.PrintMore

end Go.Proofs.YtbjeemlbjkmhiaaDoor.Pure
namespace Go.Proofs.YtbjeemlbjkmhiaaDoor.Pure
open Go.RowKit Go.Proofs.YtbjeemlbjkmhiaaDoor.Q Go.Proofs.YtbjeemlbjkmhiaaDoor.Num Go.Proofs.YtbjeemlbjkmhiaaDoor.Pol Go.Proofs.YtbjeemlbjkmhiaaDoorW.PrintWords Go.Proofs.YtbjeemlbjkmhiaaDoorW.PrintLast Go.Proofs.YtbjeemlbjkmhiaaDoorW.PrintMore

def By (l : List Int) : Prop := ∀ x ∈ l, 0 ≤ x ∧ x < 256
theorem Dt.by {l : List Int} (h : Dt l) : By l := fun x hx => by have := h x hx; omega
theorem By.take {l : List Int} (h : By l) (n : Nat) : By (l.take n) := fun _ hx => h _ (List.mem_of_mem_take hx)
theorem By.drop {l : List Int} (h : By l) (n : Nat) : By (l.drop n) := fun _ hx => h _ (List.mem_of_mem_drop hx)
section
variable {l : List Int} (hb : By l) (hn : l.length < 4611686018427387904)
include hb hn
end
section
variable {l : List Int} (hd : Dt l)
include hd
end
section
variable {l : List Int} (hb : By l) (hn : l.length ≤ 800)
include hb hn
end
end Go.Proofs.YtbjeemlbjkmhiaaDoor.Pure
namespace Go.Proofs.YtbjeemlbjkmhiaaDoor.Pure
open Go.RowKit Go.Proofs.YtbjeemlbjkmhiaaDoor.Q Go.Proofs.YtbjeemlbjkmhiaaDoor.Num Go.Proofs.YtbjeemlbjkmhiaaDoor.Pol Go.Proofs.YtbjeemlbjkmhiaaDoorW.PrintWords Go.Proofs.YtbjeemlbjkmhiaaDoorW.PrintLast Go.Proofs.YtbjeemlbjkmhiaaDoorW.PrintMore

end Go.Proofs.YtbjeemlbjkmhiaaDoor.Pure
namespace Go.Proofs.YtbjeemlbjkmhiaaDoor.Pure
open Go.RowKit Go.Proofs.YtbjeemlbjkmhiaaDoor.Q Go.Proofs.YtbjeemlbjkmhiaaDoor.Num Go.Proofs.YtbjeemlbjkmhiaaDoor.Pol Go.Proofs.YtbjeemlbjkmhiaaDoorW.PrintWords Go.Proofs.YtbjeemlbjkmhiaaDoorW.PrintLast Go.Proofs.YtbjeemlbjkmhiaaDoorW.PrintMore

section
variable {α : Type} {J : Nat → Bool → Option α} {G : Nat → Option α} {d v : α} {a b : List Int} (ha : Lb a) (hb : Lb b) (la : a.length < 1000000) (lb : b.length < 1000000)
include ha hb la lb
end
section
variable {a b : List Int} (ha : Lb a) (hb : Lb b) (la : a.length < 1000000) (lb : b.length < 1000000)
include ha hb la lb
end
section
variable {a : List Int} (ha : Lb a) (la : a.length < 1000000)
include ha la
end
end Go.Proofs.YtbjeemlbjkmhiaaDoor.Pure
namespace Go.Proofs.YtbjeemlbjkmhiaaDoor.Pure
open Go.RowKit Go.Proofs.YtbjeemlbjkmhiaaDoor.Q Go.Proofs.YtbjeemlbjkmhiaaDoor.Num Go.Proofs.YtbjeemlbjkmhiaaDoor.Pol Go.Proofs.YtbjeemlbjkmhiaaDoorW.PrintWords Go.Proofs.YtbjeemlbjkmhiaaDoorW.PrintLast Go.Proofs.YtbjeemlbjkmhiaaDoorW.PrintMore

section
variable {a b : List Int} (ha : Lb a) (hb : Lb b) (la : a.length < 1000000) (lb : b.length < 1000000)
include ha hb la lb
end
section
variable {a b c d : List Int} (ha : Lb a) (hb : Lb b) (la : a.length < 1000000) (lb : b.length < 1000000) (hc : Lb c) (hd : Lb d) (lc : c.length < 1000000) (ld : d.length < 1000000)
include ha hb la lb hc hd lc ld
end
section
variable {a b : List Int} (ha : Lb a) (hb : Lb b) (la : a.length < 1000000) (lb : b.length < 1000000)
include ha hb la lb
end
end Go.Proofs.YtbjeemlbjkmhiaaDoor.Pure
namespace Go.Proofs.YtbjeemlbjkmhiaaDoor.Pure
open Go.RowKit Go.Proofs.YtbjeemlbjkmhiaaDoor.Q Go.Proofs.YtbjeemlbjkmhiaaDoor.Num Go.Proofs.YtbjeemlbjkmhiaaDoor.Pol Go.Proofs.YtbjeemlbjkmhiaaDoorW.PrintWords Go.Proofs.YtbjeemlbjkmhiaaDoorW.PrintLast Go.Proofs.YtbjeemlbjkmhiaaDoorW.PrintMore

section
variable {a b c d : Int} {n m : Nat} (F : Fr a b) (G : Fr c d) (ha : a < Bp n) (hb : b < Bp n) (hc : c < Bp m) (hd : d < Bp m)
include F G ha hb hc hd
end
theorem Fr.pow {a b : Int} (F : Fr a b) (n : Nat) : Fr (a ^ n) (b ^ n) := by
  obtain ⟨x, rfl⟩ := Int.eq_ofNat_of_zero_le F.p0
  obtain ⟨y, rfl⟩ := Int.eq_ofNat_of_zero_le (Int.le_of_lt F.q0)
  refine ⟨Int.pow_nonneg F.p0, Int.pow_pos F.q0, ?_⟩
  have h := F.co
  rw [Int.gcd_natCast_natCast] at h
  rw [← Int.natCast_pow, ← Int.natCast_pow, Int.gcd_natCast_natCast]
  exact Nat.Coprime.pow n n h
theorem gv_pos {f : Int} (h : 0 ≤ f ∧ f < 4) : field_Valid.f f = some true ∧ attestorref01_Valid.f f = some true ∧ ∃ p : Nat, 97 ≤ p ∧ p ≤ 998244353 ∧ field_P.f f = some (p : Int) ∧ attestorref01_P.f f = some (p : Int) := by
  rw [field_Valid.f, attestorref01_Valid.f, if_pos h.1, if_pos h.1]
  refine ⟨by rw [decide_eq_true h.2], by rw [decide_eq_true (by omega)], ?_⟩
  rcases (show f = 0 ∨ f = 1 ∨ f = 2 ∨ f = 3 by omega) with rfl | rfl | rfl | rfl
  · exact ⟨97, by omega, by omega, rfl, rfl⟩
  · exact ⟨257, by omega, by omega, rfl, rfl⟩
  · exact ⟨12289, by omega, by omega, rfl, rfl⟩
  · exact ⟨998244353, by omega, by omega, rfl, rfl⟩
theorem gv_neg {f : Int} (h : ¬ (0 ≤ f ∧ f < 4)) : field_Valid.f f = some false ∧ attestorref01_Valid.f f = some false := by
  rw [field_Valid.f, attestorref01_Valid.f]
  by_cases c : f ≥ 0
  · rw [if_pos c, if_pos c]
    exact ⟨by rw [decide_eq_false (by omega)], by rw [decide_eq_false (by omega)]⟩
  · rw [if_neg c, if_neg c]
    exact ⟨rfl, rfl⟩
theorem gworks60 : attestorlaw11_works.f 200 = some true := by kernel_rfl
theorem g_works : Ev (fun k => attestorlaw11_works.f k) true := Ev.of_mono attestorlaw11_works.mono gworks60
end Go.Proofs.YtbjeemlbjkmhiaaDoor.Pure
namespace Go.Proofs.YtbjeemlbjkmhiaaDoor.Pol
open Num

def cnt : Nat → (Nat → Bool) → Nat
  | 0, _ => 0
  | n + 1, P => cnt n P + if P n = true then 1 else 0
theorem cnt_le (P : Nat → Bool) : ∀ n, cnt n P ≤ n
  | 0 => Nat.le_refl _
  | n + 1 => by have := cnt_le P n; simp only [cnt]; split <;> omega
theorem cnt_mono {P Q : Nat → Bool} : ∀ {n : Nat}, (∀ x, x < n → P x = true → Q x = true) → cnt n P ≤ cnt n Q
  | 0, _ => Nat.le_refl _
  | n + 1, h => by
    have ih := cnt_mono (P := P) (Q := Q) (n := n) fun x hx => h x (by omega)
    have hn := h n (by omega)
    simp only [cnt]
    split
    · rename_i hp; rw [if_pos (hn hp)]; omega
    · omega
theorem cnt_congr {P Q : Nat → Bool} {n : Nat} (h : ∀ x, x < n → P x = Q x) : cnt n P = cnt n Q :=
  Nat.le_antisymm (cnt_mono fun x hx hp => by rw [← h x hx]; exact hp) (cnt_mono fun x hx hp => by rw [h x hx]; exact hp)
def cnt2 : Nat → Nat → (Nat → Nat → Bool) → Nat
  | 0, _, _ => 0
  | n + 1, m, P => cnt2 n m P + cnt m (P n)
def zro (p : Nat) (x : Int) : Bool := x % (p : Int) == 0
theorem zro_iff {p : Nat} {x : Int} : zro p x = true ↔ Cg p x 0 := by rw [zro, beq_iff_eq]; exact mod_eq_zero
def W (p s : Nat) : Nat → (Int → Int → Int) → Prop
  | 0, F => ∃ a, Deg p a 1 ∧ ∀ c d, Cg p (F c d) (ev a d)
  | n + 1, F => ∃ a G, Deg p a ((n + 1) * s + 1) ∧ W p s n G ∧ ∀ c d, Cg p (F c d) (ev a d + c * G c d)
theorem W.congr {p s : Nat} : ∀ {n : Nat} {F G : Int → Int → Int}, W p s n F → (∀ c d, Cg p (G c d) (F c d)) → W p s n G
  | 0, _, _, ⟨a, ha, h⟩, g => ⟨a, ha, fun c d => (g c d).trans (h c d)⟩
  | _ + 1, _, _, ⟨a, K, ha, hK, h⟩, g => ⟨a, K, ha, hK, fun c d => (g c d).trans (h c d)⟩
theorem W.zero (p s : Nat) : ∀ n, W p s n (fun _ _ => 0)
  | 0 => ⟨[], Deg.mono (Deg.len _ _) (Nat.zero_le _), fun _ _ => Cg.refl _ _⟩
  | n + 1 => ⟨[], fun _ _ => 0, Deg.mono (Deg.len _ _) (Nat.zero_le _), W.zero p s n, fun c d => by simp [ev]; exact Cg.refl _ _⟩
theorem W.one (p s : Nat) : W p s 0 (fun _ _ => 1) := ⟨[1], Deg.len _ _, fun c d => by simp [ev]; exact Cg.refl _ _⟩
theorem W.add {p s : Nat} : ∀ {n : Nat} {F G : Int → Int → Int}, W p s n F → W p s n G → W p s n (fun c d => F c d + G c d)
  | 0, _, _, ⟨a, ha, h⟩, ⟨b, hb, g⟩ => ⟨padd a b, ha.padd hb, fun c d => by rw [ev_padd]; exact (h c d).add (g c d)⟩
  | n + 1, _, _, ⟨a, K, ha, hK, h⟩, ⟨b, L, hb, hL, g⟩ => ⟨padd a b, fun c d => K c d + L c d, ha.padd hb, hK.add hL, fun c d => by
      rw [ev_padd]
      exact ((h c d).add (g c d)).trans (Cg.of_eq (by grind))⟩
theorem W.mulc {p s : Nat} (e : Int) : ∀ {n : Nat} {F : Int → Int → Int}, W p s n F → W p s n (fun c d => e * F c d)
  | 0, _, ⟨a, ha, h⟩ => ⟨Pol.psc e a, ha.psc, fun c d => by rw [ev_psc]; exact (Cg.refl _ _).mul (h c d)⟩
  | n + 1, _, ⟨a, K, ha, hK, h⟩ => ⟨Pol.psc e a, fun c d => e * K c d, ha.psc, hK.mulc e, fun c d => by
      rw [ev_psc]
      exact ((Cg.refl p e).mul (h c d)).trans (Cg.of_eq (by grind))⟩
theorem W.sub {p s n : Nat} {F G : Int → Int → Int} (h : W p s n F) (g : W p s n G) : W p s n (fun c d => F c d - G c d) :=
  (h.add (g.mulc (-1))).congr fun c d => Cg.of_eq (by omega)
theorem deg_pmul {p : Nat} {a b : List Int} {m n : Nat} (ha : Deg p a (m + 1)) (hb : Deg p b (n + 1)) : Deg p (pmul a b) (m + n + 1) := by
  have := Deg.pmul hb ha
  exact this.mono (by omega)
theorem W.mulv {p s : Nat} {v : List Int} (hv : Deg p v (s + 1)) : ∀ {n : Nat} {F : Int → Int → Int}, W p s n F → W p s (n + 1) (fun c d => ev v d * F c d)
  | 0, _, ⟨a, ha, h⟩ => ⟨pmul v a, fun _ _ => 0, (deg_pmul hv ha).mono (by simp), W.zero _ _ _, fun c d => by
      rw [ev_pmul]
      exact ((Cg.refl _ _).mul (h c d)).trans (Cg.of_eq (by grind))⟩
  | n + 1, _, ⟨a, K, ha, hK, h⟩ => ⟨pmul v a, fun c d => ev v d * K c d, (deg_pmul hv ha).mono (by grind), hK.mulv hv, fun c d => by
      rw [ev_pmul]
      exact ((Cg.refl p (ev v d)).mul (h c d)).trans (Cg.of_eq (by grind))⟩
theorem W.mulC {p s n : Nat} {F : Int → Int → Int} (h : W p s n F) : W p s (n + 1) (fun c d => c * F c d) :=
  ⟨[], F, Deg.mono (Deg.len _ _) (Nat.zero_le _), h, fun c d => by simp [ev]; exact Cg.refl _ _⟩
theorem W.mul {p s n : Nat} {v : List Int} (hv : Deg p v (s + 1)) {F : Int → Int → Int} (h : W p s n F) : W p s (n + 1) (fun c d => (c + ev v d) * F c d) :=
  (h.mulC.add (h.mulv hv)).congr fun c d => Cg.of_eq (by grind)
end Go.Proofs.YtbjeemlbjkmhiaaDoor.Pol
namespace Go.Proofs.YtbjeemlbjkmhiaaDoor.Pol
open Num

def PR : List (List Int) → Int → Int → Int
  | [], _, _ => 1
  | v :: A, c, d => (c + ev v d) * PR A c d
end Go.Proofs.YtbjeemlbjkmhiaaDoor.Pol
namespace Go.Proofs.YtbjeemlbjkmhiaaDoor.Pure
open Go.RowKit Go.Proofs.YtbjeemlbjkmhiaaDoor.Q Go.Proofs.YtbjeemlbjkmhiaaDoor.Num Go.Proofs.YtbjeemlbjkmhiaaDoor.Pol Go.Proofs.YtbjeemlbjkmhiaaDoorW.PrintWords Go.Proofs.YtbjeemlbjkmhiaaDoorW.PrintLast Go.Proofs.YtbjeemlbjkmhiaaDoorW.PrintMore

theorem cnt_succ (P : Nat → Bool) (n : Nat) : cnt (n + 1) P = cnt n P + if P n = true then 1 else 0 := rfl
theorem cnt_inc (P : Nat → Bool) {n : Nat} (hn : n < 1000000) {c : Prop} [Decidable c] (hc : c ↔ P n = true) : (if c then wrap64 (((cnt n P : Nat) : Int) + 1) else ((cnt n P : Nat) : Int)) = ((cnt (n + 1) P : Nat) : Int) := by
  have h1 := cnt_le P n
  rw [cnt_succ]
  by_cases h : c
  · rw [if_pos h, if_pos (hc.1 h), w64_succ (by omega)]
  · rw [if_neg h, if_neg (fun g => h (hc.2 g)), Nat.add_zero]
section good
variable {f : Int} {p : Nat} (h : FP f p)
include h
theorem groots_l0 {l : List Int} (hl : l.length ≤ 1000000) (hu : UL l) (hp : p ≤ 1000000) : ∀ d i, i + d = p →
    Ev (fun k => gap_Roots.l0 k f l (List.range' i d) ((cnt i fun x => zro p (ev l x) : Nat) : Int)) ((cnt p fun x => zro p (ev l x) : Nat) : Int)
  | 0, i, e => by
    obtain rfl : i = p := by omega
    exact Ev.all fun k => rfl
  | d + 1, i, e => by
    have ih := groots_l0 hl hu hp d (i + 1) (by omega)
    have s := s_Eval h.o hl hu (x := (i : Int)) (Int.natCast_nonneg i)
    refine s.bind (G := fun k t => gap_Roots.l0 k f l (List.range' (i + 1) d) (if t = 0 then wrap64 (((cnt i fun x => zro p (ev l x) : Nat) : Int) + 1) else ((cnt i fun x => zro p (ev l x) : Nat) : Int))) ?_
    refine Ev.congr (fun k => ?_) ih
    rw [cnt_inc (fun x => zro p (ev l x)) (n := i) (by omega) (by rw [zro_iff]; exact mod_eq_zero)]
theorem s_GRoots {l : List Int} (hl : l.length ≤ 1000000) (hu : UL l) (hp : p ≤ 1000000) (hf : f ≤ 1) : Ev (fun k => gap_Roots.f k f l) (((cnt p fun x => zro p (ev l x) : Nat) : Int), 0) := by
  obtain ⟨K, hk⟩ := Ev.get (groots_l0 h hl hu hp p 0 (by omega))
  refine Ev.mk K fun k g => ?_
  rw [gap_Roots.f, s_Valid h, Option.bind_some, if_pos rfl, if_neg (by omega), s_P h, Option.bind_some, Int.toNat_natCast, List.range_eq_range']
  have := hk k g
  rw [show ((cnt 0 fun x => zro p (ev l x) : Nat) : Int) = 0 from rfl] at this
  rw [this, Option.bind_some]
end good

theorem cnt_add (P : Nat → Bool) (a : Nat) : ∀ b, cnt (a + b) P = cnt a P + cnt b (fun x => P (a + x))
  | 0 => by simp [cnt]
  | b + 1 => by
    have := cnt_add P a b
    rw [← Nat.add_assoc, cnt_succ, cnt_succ, this, Nat.add_assoc]
theorem cnt_pairs {m : Nat} (hm : 0 < m) (P : Nat → Nat → Bool) : ∀ n, cnt (n * m) (fun t => P (t / m) (t % m)) = cnt2 n m P
  | 0 => by simp [cnt, cnt2]
  | n + 1 => by
    rw [Nat.add_mul, Nat.one_mul, cnt_add, cnt_pairs hm P n, cnt2]
    refine congrArg _ (cnt_congr fun x hx => ?_)
    rw [show (n * m + x) / m = n from by rw [Nat.mul_comm, Nat.mul_add_div hm, Nat.div_eq_of_lt hx, Nat.add_zero], show (n * m + x) % m = x from by rw [Nat.mul_comm, Nat.mul_add_mod, Nat.mod_eq_of_lt hx]]

def prl : List Int → Int
  | [] => 1
  | x :: l => x * prl l
def Rws (L : List (List Int)) : Prop := L.length ≤ 1000000 ∧ ∀ v ∈ L, UL v ∧ v.length ≤ 1000000
theorem Rws.nth {L : List (List Int)} (h : Rws L) {i : Nat} (hi : i < L.length) : UL (rd_L3 L (i : Int)) ∧ (rd_L3 L (i : Int)).length ≤ 1000000 := by
  refine h.2 _ ?_
  rw [rd_L3, Int.toNat_natCast, List.getD_eq_getElem?_getD, List.getElem?_eq_getElem hi, Option.getD_some]
  exact List.getElem_mem hi
def vls (p : Nat) (L : List (List Int)) (c d : Int) : List Int := L.map fun v => (c + ev v d) % p
section good
variable {f : Int} {p : Nat} (h : FP f p)
include h
theorem gval_l0 {L : List (List Int)} (hL : Rws L) {c d : Int} (hc : 0 ≤ c) (hd : 0 ≤ d) : ∀ (n i : Nat) (o : List Int), i + n = L.length → o.length = L.length → (∀ j, j < i → co o j = co (vls p L c d) j) →
    Ev (fun k => gap_values.l0 k f c d o L (L.length : Int) i) (vls p L c d)
  | 0, i, o, e, ho, hj => by
    obtain rfl : o = vls p L c d := ext_co (by rw [ho, vls, List.length_map]) fun j hj' => hj j (by omega)
    refine Ev.mks 0 fun k _ => ?_
    rw [gap_values.l0, if_neg (by omega)]
  | n + 1, i, o, e, ho, hj => by
    have hi : i < L.length := by omega
    have hv := hL.nth hi
    have s := s_Eval h.o hv.2 hv.1 hd
    have hm := h.mod (ev (rd_L3 L (i : Int)) d)
    have ih := gval_l0 hL hc hd n (i + 1) (o.set i ((c + ev (rd_L3 L (i : Int)) d) % p)) (by omega) (by rw [List.length_set]; exact ho) fun j hj' => by
      by_cases ej : j = i
      · subst ej
        rw [co_set_same (by omega), vls, co_lt (by rw [List.length_map]; exact hi), List.getElem_map, rd_L3, Int.toNat_natCast, List.getD_eq_getElem?_getD, List.getElem?_eq_getElem hi, Option.getD_some]
      · rw [co_set_ne (by omega) _ ej]
        exact hj j (by omega)
    obtain ⟨K1, k1⟩ := Ev.get s
    obtain ⟨K2, k2⟩ := Ev.get ih
    have hl := hL.1
    refine Ev.mks (K1 + K2) fun k hk => ?_
    rw [gap_values.l0, if_pos (by omega), if_pos (by omega), if_pos (by omega), k1 k (by omega), Option.bind_some, s_Add h hc hm.1, Option.bind_some, if_pos (by omega), w64_succ (by omega), Int.toNat_natCast, show (c + ev (rd_L3 L (i : Int)) d % p) % p = (c + ev (rd_L3 L (i : Int)) d) % p from Cg.mod_eq ((Cg.refl _ _).add (Cg.mod _ _))]
    exact k2 k (by omega)
theorem s_values {L : List (List Int)} (hL : Rws L) {c d : Int} (hc : 0 ≤ c) (hd : 0 ≤ d) : Ev (fun k => gap_values.f k f L c d) (vls p L c d) := by
  have hl := hL.1
  refine Ev.congr (fun k => ?_) (gval_l0 h hL hc hd L.length 0 (List.replicate L.length 0) (by omega) (by rw [List.length_replicate]) (fun j hj => by omega))
  rw [gap_values.f, if_pos (by omega), if_pos (by omega), Int.toNat_natCast]
  rfl
theorem prod_l0 {l : List Int} (hl : l.length ≤ 1000000) (hu : UL l) : ∀ (n i : Nat) (a : Int), i + n = l.length → 0 ≤ a → a < p →
    Ev (fun k => gap_product.l0 k f a l (l.length : Int) i) ((a * prl (l.drop i)) % p)
  | 0, i, a, e, h0, h1 => by
    refine Ev.mks 0 fun k _ => ?_
    rw [gap_product.l0, if_neg (by omega), List.drop_eq_nil_of_le (by omega), prl, Int.mul_one, Int.emod_eq_of_lt h0 h1]
  | n + 1, i, a, e, h0, h1 => by
    have hi : i < l.length := by omega
    have hx := U.co hu i
    have hm := h.mod (a * co l i)
    have ih := prod_l0 hl hu n (i + 1) ((a * co l i) % p) (by omega) hm.1 hm.2
    obtain ⟨K, hk⟩ := Ev.get ih
    refine Ev.mks K fun k g => ?_
    rw [gap_product.l0, if_pos (by omega), if_pos (by omega), if_pos (by omega), rd_nat, s_Mul h h0 hx.1, Option.bind_some, w64_succ (by omega), hk k g, List.drop_eq_getElem_cons hi, prl, ← co_lt hi]
    refine congrArg some (Cg.mod_eq (((Cg.mod _ _).mul (Cg.refl _ _)).trans (Cg.of_eq (by grind))))
theorem s_product {l : List Int} (hl : l.length ≤ 1000000) (hu : UL l) : Ev (fun k => gap_product.f k f l) (prl l % p) := by
  have := prod_l0 h hl hu l.length 0 1 (by omega) (by omega) h.one
  rw [List.drop_zero, Int.one_mul] at this
  exact this
omit h in
theorem prl_vls (L : List (List Int)) (c d : Int) : Cg p (prl (vls p L c d)) (PR L c d) := by
  induction L with
  | nil => exact Cg.refl _ _
  | cons v L ih => exact (Cg.mod _ _).mul ih
theorem vls_ok {L : List (List Int)} (hL : Rws L) (c d : Int) : (vls p L c d).length ≤ 1000000 ∧ UL (vls p L c d) := by
  refine ⟨by rw [vls, List.length_map]; exact hL.1, fun x hx => ?_⟩
  obtain ⟨v, _, rfl⟩ := List.mem_map.1 hx
  have := h.mod (c + ev v d)
  have := h.o.lei
  unfold U; omega
theorem s_pv {L : List (List Int)} (hL : Rws L) (c d : Int) : Ev (fun k => gap_product.f k f (vls p L c d)) (PR L c d % p) := by
  have hv := vls_ok h hL c d
  have := s_product h hv.1 hv.2
  rwa [Cg.mod_eq (prl_vls (p := p) L c d)] at this
theorem gequal_l0 {A B : List (List Int)} (hA : Rws A) (hB : Rws B) (hp : p ≤ 257) : ∀ d i, i + d = p * p →
    Ev (fun k => gap_Equal.l0 k f p A B (List.range' i d) ((cnt i fun t => zro p (PR A (t / p : Nat) (t % p : Nat) - PR B (t / p : Nat) (t % p : Nat)) : Nat) : Int)) ((cnt (p * p) fun t => zro p (PR A (t / p : Nat) (t % p : Nat) - PR B (t / p : Nat) (t % p : Nat)) : Nat) : Int)
  | 0, i, e => by
    obtain rfl : i = p * p := by omega
    exact Ev.all fun k => rfl
  | d + 1, i, e => by
    have hpp : p * p ≤ 66049 := Nat.mul_le_mul hp hp
    have ih := gequal_l0 hA hB hp d (i + 1) (by omega)
    have c0 : (0 : Int) ≤ ((i / p : Nat) : Int) := Int.natCast_nonneg _
    have d0 : (0 : Int) ≤ ((i % p : Nat) : Int) := Int.natCast_nonneg _
    have a1 := s_values h hA c0 d0
    have a2 := s_pv h hA ((i / p : Nat) : Int) ((i % p : Nat) : Int)
    have b1 := s_values h hB c0 d0
    have b2 := s_pv h hB ((i / p : Nat) : Int) ((i % p : Nat) : Int)
    obtain ⟨K1, k1⟩ := Ev.get a1
    obtain ⟨K2, k2⟩ := Ev.get a2
    obtain ⟨K3, k3⟩ := Ev.get b1
    obtain ⟨K4, k4⟩ := Ev.get b2
    obtain ⟨K5, k5⟩ := Ev.get ih
    refine Ev.mk (K1 + K2 + K3 + K4 + K5) fun k hk => ?_
    rw [List.range'_succ, gap_Equal.l0, k1 k (by omega), Option.bind_some, k2 k (by omega), Option.bind_some, k3 k (by omega), Option.bind_some, k4 k (by omega), Option.bind_some,
      cnt_inc (fun t => zro p (PR A (t / p : Nat) (t % p : Nat) - PR B (t / p : Nat) (t % p : Nat))) (n := i) (by omega) (by
        rw [zro_iff]
        exact ⟨fun e => (Cg.of_mod e).sub_zero, fun e => Cg.mod_eq (Cg.of_sub e)⟩)]
    exact k5 k (by omega)
theorem s_GEqual {A B : List (List Int)} (hA : Rws A) (hB : Rws B) (hp : p ≤ 257) (hl : A.length = B.length) (ht : gap_tuples.f f A B = some 0) : Ev (fun k => gap_Equal.f k f A B) (((cnt2 p p fun c d => zro p (PR A c d - PR B c d) : Nat) : Int), 0) := by
  obtain ⟨K, hk⟩ := Ev.get (gequal_l0 h hA hB hp (p * p) 0 (by omega))
  refine Ev.mk K fun k g => ?_
  rw [gap_Equal.f, ht, Option.bind_some, if_neg (by rw [hl]; simp), if_neg (by decide), s_P h, Option.bind_some, Int.toNat_natCast, List.range_eq_range']
  have := hk k g
  rw [show ((cnt 0 fun t => zro p (PR A (t / p : Nat) (t % p : Nat) - PR B (t / p : Nat) (t % p : Nat)) : Nat) : Int) = 0 from rfl] at this
  have hpos := h.o.pos
  rw [this, Option.bind_some, cnt_pairs (m := p) (by omega) (fun c d => zro p (PR A c d - PR B c d))]
end good
theorem tup_ok {w : Nat} (hw : 0 < w) : ∀ (L : List (List Int)) (wd : Int), (∀ v ∈ L, v.length = w) → (wd = 0 ∨ wd = w) → tup L wd = some (if L = [] then wd else (w : Int))
  | [], wd, _, _ => rfl
  | v :: L, wd, hv, h => by
    have h1 : v.length = w := hv v (List.mem_cons_self)
    have h2 : (if wd = 0 then (v.length : Int) else wd) = (w : Int) := by
      rcases h with rfl | rfl
      · rw [if_pos rfl, h1]
      · rw [if_neg (by omega)]
    rw [tup, h2, if_neg (by omega), if_pos (by omega), tup_ok hw L (w : Int) (fun x hx => hv x (List.mem_cons_of_mem _ hx)) (.inr rfl)]
    simp
end Go.Proofs.YtbjeemlbjkmhiaaDoor.Pure
namespace Go.Proofs.YtbjeemlbjkmhiaaDoor.Pure
open Go.RowKit Go.Proofs.YtbjeemlbjkmhiaaDoor.Q Go.Proofs.YtbjeemlbjkmhiaaDoor.Num Go.Proofs.YtbjeemlbjkmhiaaDoor.Pol Go.Proofs.YtbjeemlbjkmhiaaDoorW.PrintWords Go.Proofs.YtbjeemlbjkmhiaaDoorW.PrintLast Go.Proofs.YtbjeemlbjkmhiaaDoorW.PrintMore

def dot : List Int → List Int → Int
  | x :: c, y :: v => x * y + dot c v
  | _, _ => 0
theorem dot_nil (v : List Int) : dot [] v = 0 := by cases v <;> rfl
theorem prl_append (a b : List Int) : prl (a ++ b) = prl a * prl b := by
  induction a with
  | nil => rw [List.nil_append, prl, Int.one_mul]
  | cons x a ih => rw [List.cons_append, prl, prl, ih, Int.mul_assoc]
theorem prl_take {l : List Int} {i : Nat} (hi : i < l.length) : prl (l.take (i + 1)) = prl (l.take i) * co l i := by
  rw [List.take_add_one, List.getElem?_eq_getElem hi, Option.toList_some, prl_append, prl, prl, Int.mul_one, co_lt hi]
theorem prl_zero {p : Nat} (hp : Pr p) : ∀ l : List Int, Cg p (prl l) 0 → ∃ x ∈ l, Cg p x 0
  | [], hc => absurd hc (by
      intro hc
      have h1 := hp.two
      have := hc.uniq (a := 1) (b := 0) (by decide) (by omega) (by decide) (by omega)
      omega)
  | x :: l, hc => by
    rcases hp.int hc with h1 | h1
    · exact ⟨x, List.mem_cons_self, h1⟩
    · obtain ⟨y, hy, h2⟩ := prl_zero hp l h1
      exact ⟨y, List.mem_cons_of_mem _ hy, h2⟩
theorem prl_of_zero {p : Nat} : ∀ {l : List Int} {x : Int}, x ∈ l → Cg p x 0 → Cg p (prl l) 0
  | y :: l, x, hx, hz => by
    rcases List.mem_cons.1 hx with rfl | hx
    · exact (hz.mul (Cg.refl _ _)).trans (Cg.of_eq (Int.zero_mul _))
    · exact ((Cg.refl _ _).mul (prl_of_zero hx hz)).trans (Cg.of_eq (Int.mul_zero _))
section good
variable {f : Int} {p : Nat} (h : FP f p)
include h
theorem inv_rg (a : Int) : 0 ≤ inv p a ∧ inv p a < p := h.mod _
section
variable {l : List Int} (hl : l.length ≤ 1000000) (hu : UL l) (hz : ∀ i, i < l.length → ¬ Cg p (co l i) 0)
include hl hu hz
theorem ginv_l1 : ∀ (d j : Nat) (o : List Int) (x : Int), j + d = l.length → o.length = l.length → 0 ≤ x → Cg p (x * prl (l.take d)) 1 → (∀ t, t < d → 0 ≤ co o t ∧ Cg p (co o t) (prl (l.take t))) → (∀ t, d ≤ t → t < l.length → co o t = inv p (co l t)) →
    Ev (fun k => field_Inverses.l1 k f l (p : Int) o x (l.length : Int) j) (l.map (inv p))
  | 0, j, o, x, e, ho, hx, hc, h1, h2 => by
    obtain rfl : o = l.map (inv p) := ext_co (by rw [ho, List.length_map]) fun t ht => by
      rw [h2 t (by omega) (by omega), co_lt (l := l.map (inv p)) (by rw [List.length_map]; omega), List.getElem_map, co_lt (l := l) (by omega)]
    refine Ev.mks 0 fun k _ => ?_
    rw [field_Inverses.l1, if_neg (by omega)]
  | d + 1, j, o, x, e, ho, hx, hc, h1, h2 => by
    have hd : d < l.length := by omega
    have hr : wrap64 (wrap64 ((l.length : Int) - 1) - (j : Int)) = (d : Int) := by rw [w64 (n := (l.length : Int) - 1) (by omega) (by omega), w64 (by omega) (by omega)]; omega
    have hp := h.o.pos
    have hc0 := U.co hu d
    have ht : ¬ Int.tmod (co l d) (p : Int) = 0 := by rw [tmod_nn hc0.1]; exact fun e => hz d hd (mod_eq_zero.1 e)
    have ho1 := h1 d (by omega)
    rw [prl_take hd] at hc
    have key : (co o d * x) % p = inv p (co l d) := by
      have g1 : Cg p (co l d * ((co o d * x) % p)) 1 := (((Cg.refl _ _).mul ((Cg.mod _ _).trans (ho1.2.mul (Cg.refl _ _)))).trans (Cg.of_eq (by grind))).trans hc
      have g2 := inv_uniq g1 (inv_spec h.pr (hz d hd))
      have r1 := h.mod (co o d * x)
      have r2 := inv_rg h (co l d)
      exact g2.uniq r1.1 r1.2 r2.1 r2.2
    obtain ⟨K, hk⟩ := Ev.get (ginv_l1 d (j + 1) (o.set d (inv p (co l d))) ((x * co l d) % p) (by omega) (by rw [List.length_set]; exact ho) (h.mod _).1
      (((Cg.mod _ _).mul (Cg.refl _ _)).trans ((Cg.of_eq (by grind)).trans hc)) (fun t ht' => by rw [co_set_ne (by omega) _ (by omega)]; exact h1 t (by omega)) (fun t ht1 ht2 => by
        by_cases e : t = d
        · subst e; exact co_set_same (by omega) _
        · rw [co_set_ne (by omega) _ e]; exact h2 t (by omega) ht2))
    refine Ev.mks K fun k g => ?_
    rw [field_Inverses.l1, hr, if_pos (by omega), if_pos (by omega), if_pos (by omega), if_neg (by omega), rd_nat, if_neg ht, if_pos (by omega), rd_nat, s_Mul h ho1.1 hx, Option.bind_some, s_Mul h hx hc0.1, Option.bind_some, w64_succ (by omega), Int.toNat_natCast, key]
    exact hk k g
omit hl hu in
theorem prl_nz (i : Nat) : ¬ Cg p (prl (l.take i)) 0 := fun hc => by
  obtain ⟨x, hx, h0⟩ := prl_zero h.pr _ hc
  obtain ⟨j, hj, rfl⟩ := List.getElem_of_mem (List.mem_of_mem_take hx)
  exact hz j hj (by rw [co_lt hj]; exact h0)
theorem ginv_l0 : ∀ (d i : Nat) (o : List Int) (a : Int), i + d = l.length → o.length = l.length → 0 ≤ a → Cg p a (prl (l.take i)) → (∀ t, t < i → 0 ≤ co o t ∧ Cg p (co o t) (prl (l.take t))) →
    Ev (fun k => field_Inverses.l0 k f l (p : Int) o a (l.length : Int) i) (l.map (inv p))
  | 0, i, o, a, e, ho, ha, hc, h1 => by
    obtain rfl : i = l.length := by omega
    have hnz := prl_nz h hz l.length
    obtain ⟨K1, k1⟩ := Ev.get (s_Inv h ha)
    obtain ⟨K2, k2⟩ := Ev.get (ginv_l1 h hl hu hz l.length 0 o (inv p a) (by omega) ho (inv_rg h a).1
      (((Cg.refl _ _).mul hc.symm).trans ((Cg.of_eq (Int.mul_comm _ _)).trans (inv_spec h.pr (fun z => hnz (hc.symm.trans z))))) h1 (fun t ht1 ht2 => by omega))
    refine Ev.mks (K1 + K2) fun k g => ?_
    rw [field_Inverses.l0, if_neg (by omega), k1 k (by omega), Option.bind_some]
    exact k2 k (by omega)
  | d + 1, i, o, a, e, ho, ha, hc, h1 => by
    have hi : i < l.length := by omega
    have hp := h.o.pos
    have hc0 := U.co hu i
    have ht : ¬ Int.tmod (co l i) (p : Int) = 0 := by rw [tmod_nn hc0.1]; exact fun e => hz i hi (mod_eq_zero.1 e)
    obtain ⟨K, hk⟩ := Ev.get (ginv_l0 d (i + 1) (o.set i a) ((a * co l i) % p) (by omega) (by rw [List.length_set]; exact ho) (h.mod _).1 (by rw [prl_take hi]; exact (Cg.mod _ _).trans (hc.mul (Cg.refl _ _))) (fun t ht' => by
      by_cases e : t = i
      · subst e; rw [co_set_same (by omega)]; exact ⟨ha, hc⟩
      · rw [co_set_ne (by omega) _ e]; exact h1 t (by omega)))
    refine Ev.mks K fun k g => ?_
    rw [field_Inverses.l0, if_pos (by omega), if_pos (by omega), if_pos (by omega), Option.bind_some, if_pos (by omega), if_neg (by omega), rd_nat, if_neg ht, s_Mul h ha hc0.1, Option.bind_some, w64_succ (by omega), Int.toNat_natCast]
    exact hk k g
theorem s_Inverses : Ev (fun k => field_Inverses.f k f l) (l.map (inv p)) := by
  have hp := h.o.pos
  refine Ev.congr (fun k => ?_) (ginv_l0 h hl hu hz l.length 0 (List.replicate l.length 0) 1 (by omega) (List.length_replicate) (by decide) (by rw [List.take_zero, prl]; exact Cg.refl _ _) (fun t ht => by omega))
  rw [field_Inverses.f, s_P h, Option.bind_some, if_neg (by omega), if_pos (by omega), if_pos (by omega), Int.toNat_natCast]
  rfl
end
theorem gsum_l0 {l : List Int} (hl : l.length ≤ 1000000) (hu : UL l) : ∀ (d i : Nat) (a : Int), i + d = l.length → 0 ≤ a → a < p →
    Ev (fun k => field_Sum.l0 k f a l (l.length : Int) i) ((a + (l.drop i).sum) % p)
  | 0, i, a, e, h0, h1 => by
    refine Ev.mks 0 fun k _ => ?_
    rw [field_Sum.l0, if_neg (by omega), List.drop_eq_nil_of_le (by omega), List.sum_nil, Int.add_zero, Int.emod_eq_of_lt h0 h1]
  | d + 1, i, a, e, h0, h1 => by
    have hi : i < l.length := by omega
    have hx := U.co hu i
    have hm := h.mod (a + co l i)
    obtain ⟨K, hk⟩ := Ev.get (gsum_l0 hl hu d (i + 1) ((a + co l i) % p) (by omega) hm.1 hm.2)
    refine Ev.mks K fun k g => ?_
    rw [field_Sum.l0, if_pos (by omega), if_pos (by omega), if_pos (by omega), rd_nat, s_Add h h0 hx.1, Option.bind_some, w64_succ (by omega), hk k g, List.drop_eq_getElem_cons hi, List.sum_cons, ← co_lt hi]
    exact congrArg some (Cg.mod_eq (((Cg.mod _ _).add (Cg.refl _ _)).trans (Cg.of_eq (by omega))))
theorem s_Sum {l : List Int} (hl : l.length ≤ 1000000) (hu : UL l) : Ev (fun k => field_Sum.f k f l) (l.sum % p) := by
  have := gsum_l0 h hl hu l.length 0 0 (by omega) (by omega) h.o.pos
  rw [List.drop_zero, Int.zero_add] at this
  exact this
theorem gdot_l0 {c v : List Int} (hl : c.length = v.length) (hv : v.length ≤ 1000000) (hc : UL c) (hu : UL v) : ∀ (d i : Nat) (a : Int), i + d = c.length → 0 ≤ a → a < p →
    Ev (fun k => field_Dot.l0 k f c v a (c.length : Int) i) ((a + dot (c.drop i) (v.drop i)) % p)
  | 0, i, a, e, h0, h1 => by
    refine Ev.mks 0 fun k _ => ?_
    rw [field_Dot.l0, if_neg (by omega), show c.drop i = [] from List.drop_eq_nil_of_le (by omega), dot_nil, Int.add_zero, Int.emod_eq_of_lt h0 h1]
  | d + 1, i, a, e, h0, h1 => by
    have hi : i < c.length := by omega
    have hx := U.co hc i
    have hy := U.co hu i
    have hm1 := h.mod (co c i * co v i)
    have hm := h.mod (a + (co c i * co v i) % p)
    obtain ⟨K, hk⟩ := Ev.get (gdot_l0 hl hv hc hu d (i + 1) ((a + (co c i * co v i) % p) % p) (by omega) hm.1 hm.2)
    refine Ev.mks K fun k g => ?_
    rw [field_Dot.l0, if_pos (by omega), if_pos (by omega), if_pos (by omega), if_pos (by omega), rd_nat, rd_nat, s_Mul h hx.1 hy.1, Option.bind_some, s_Add h h0 hm1.1, Option.bind_some, w64_succ (by omega), hk k g, List.drop_eq_getElem_cons hi, List.drop_eq_getElem_cons (l := v) (i := i) (by omega), dot, ← co_lt hi, ← co_lt (l := v) (i := i) (by omega)]
    exact congrArg some (Cg.mod_eq (((Cg.mod _ _).add (Cg.refl _ _)).trans ((((Cg.refl _ _).add (Cg.mod _ _)).add (Cg.refl _ _)).trans (Cg.of_eq (by omega)))))
theorem s_Dot {c v : List Int} (hl : c.length = v.length) (hv : v.length ≤ 1000000) (hc : UL c) (hu : UL v) : Ev (fun k => field_Dot.f k f c v) (dot c v % p) := by
  have := gdot_l0 h hl hv hc hu c.length 0 0 (by omega) (by omega) h.o.pos
  rw [List.drop_zero, List.drop_zero, Int.zero_add] at this
  refine Ev.congr (fun k => ?_) this
  rw [field_Dot.f, hl, show mn (v.length : Int) (v.length : Int) = (v.length : Int) from by unfold mn; split <;> rfl, Int.natCast_zero]
end good

def nz (p : Nat) (L : List (List Int)) (c d : Int) : Bool := (vls p L c d).all fun x => x != 0
def fd (p : Nat) (A B : List (List Int)) (C : List Int) (c d : Int) : Bool := nz p A c d && nz p B c d && decide (((vls p A c d).map (inv p)).sum % p = dot C ((vls p B c d).map (inv p)) % p)
section good
variable {f : Int} {p : Nat} (h : FP f p)
include h
theorem vls_rg (L : List (List Int)) (c d : Int) : ∀ x ∈ vls p L c d, 0 ≤ x ∧ x < p := fun x hx => by
  obtain ⟨v, _, rfl⟩ := List.mem_map.1 hx
  exact h.mod _
theorem nz_iff (L : List (List Int)) (c d : Int) : PR L c d % p = 0 ↔ nz p L c d = false := by
  rw [mod_eq_zero]
  have hp := prl_vls (p := p) L c d
  have hpos := h.o.pos
  constructor
  · intro hz
    obtain ⟨x, hx, h0⟩ := prl_zero h.pr _ (hp.trans hz)
    have hr := vls_rg h L c d x hx
    obtain rfl := h0.uniq hr.1 hr.2 (by omega) (by omega)
    rw [nz, List.all_eq_false]
    exact ⟨0, hx, by simp⟩
  · intro hz
    rw [nz, List.all_eq_false] at hz
    obtain ⟨x, hx, h0⟩ := hz
    obtain rfl : x = 0 := by simpa using h0
    exact hp.symm.trans (prl_of_zero hx (Cg.refl _ _))
theorem nz_co {L : List (List Int)} {c d : Int} (hn : nz p L c d = true) : ∀ i, i < (vls p L c d).length → ¬ Cg p (co (vls p L c d) i) 0 := fun i hi hc => by
  have hm := co_mem hi
  have hr := vls_rg h L c d _ hm
  have hpos := h.o.pos
  have h0 := hc.uniq hr.1 hr.2 (by omega) (by omega)
  have := List.all_eq_true.1 hn _ hm
  rw [h0] at this
  simp at this
theorem inv_UL (l : List Int) : UL (l.map (inv p)) := fun x hx => by
  obtain ⟨y, _, rfl⟩ := List.mem_map.1 hx
  have := inv_rg h y
  have := h.o.lei
  unfold U; omega
theorem gfound_l0 {A B : List (List Int)} {C : List Int} (hA : Rws A) (hB : Rws B) (hC : UL C) (hl : B.length = C.length) (hp : p ≤ 257) : ∀ d i, i + d = p * p →
    Ev (fun k => gap_Found.l0 k f p A B C (List.range' i d) ((cnt i fun t => fd p A B C (t / p : Nat) (t % p : Nat) : Nat) : Int)) ((cnt (p * p) fun t => fd p A B C (t / p : Nat) (t % p : Nat) : Nat) : Int)
  | 0, i, e => by
    obtain rfl : i = p * p := by omega
    exact Ev.all fun k => rfl
  | d + 1, i, e => by
    have hpp : p * p ≤ 66049 := Nat.mul_le_mul hp hp
    have ih := gfound_l0 hA hB hC hl hp d (i + 1) (by omega)
    have c0 : (0 : Int) ≤ ((i / p : Nat) : Int) := Int.natCast_nonneg _
    have d0 : (0 : Int) ≤ ((i % p : Nat) : Int) := Int.natCast_nonneg _
    have a1 := s_values h hA c0 d0
    have a2 := s_pv h hA ((i / p : Nat) : Int) ((i % p : Nat) : Int)
    have b1 := s_values h hB c0 d0
    have b2 := s_pv h hB ((i / p : Nat) : Int) ((i % p : Nat) : Int)
    have n1 := nz_iff h A ((i / p : Nat) : Int) ((i % p : Nat) : Int)
    have n2 := nz_iff h B ((i / p : Nat) : Int) ((i % p : Nat) : Int)
    have vA := vls_ok h hA ((i / p : Nat) : Int) ((i % p : Nat) : Int)
    have vB := vls_ok h hB ((i / p : Nat) : Int) ((i % p : Nat) : Int)
    have hinc := cnt_inc (fun t => fd p A B C (t / p : Nat) (t % p : Nat)) (n := i) (by omega) (c := fd p A B C (i / p : Nat) (i % p : Nat) = true) Iff.rfl
    obtain ⟨K1, k1⟩ := Ev.get a1
    obtain ⟨K2, k2⟩ := Ev.get a2
    obtain ⟨K3, k3⟩ := Ev.get b1
    obtain ⟨K4, k4⟩ := Ev.get b2
    obtain ⟨K5, k5⟩ := Ev.get ih
    have nA := nz_co h (L := A) (c := ((i / p : Nat) : Int)) (d := ((i % p : Nat) : Int))
    have nB := nz_co h (L := B) (c := ((i / p : Nat) : Int)) (d := ((i % p : Nat) : Int))
    have lB : (vls p B ((i / p : Nat) : Int) ((i % p : Nat) : Int)).length = B.length := List.length_map ..
    by_cases c1 : nz p A ((i / p : Nat) : Int) ((i % p : Nat) : Int) = true
    · by_cases c2 : nz p B ((i / p : Nat) : Int) ((i % p : Nat) : Int) = true
      · obtain ⟨L1, m1⟩ := Ev.get (s_Inverses h vA.1 vA.2 (nA c1))
        obtain ⟨L2, m2⟩ := Ev.get (s_Inverses h vB.1 vB.2 (nB c2))
        obtain ⟨L3, m3⟩ := Ev.get (s_Sum h (l := (vls p A ((i / p : Nat) : Int) ((i % p : Nat) : Int)).map (inv p)) (by rw [List.length_map]; exact vA.1) (inv_UL h _))
        obtain ⟨L4, m4⟩ := Ev.get (s_Dot h (c := C) (v := (vls p B ((i / p : Nat) : Int) ((i % p : Nat) : Int)).map (inv p)) (by rw [List.length_map, lB, hl]) (by rw [List.length_map]; exact vB.1) hC (inv_UL h _))
        refine Ev.mk (K1 + K2 + K3 + K4 + K5 + L1 + L2 + L3 + L4) fun k hk => ?_
        rw [List.range'_succ, gap_Found.l0, k1 k (by omega), Option.bind_some, k3 k (by omega), Option.bind_some, k2 k (by omega), Option.bind_some, if_neg (fun z => by rw [n1.1 z] at c1; cases c1), k4 k (by omega), Option.bind_some, if_neg (fun z => by rw [n2.1 z] at c2; cases c2),
          m1 k (by omega), Option.bind_some, m3 k (by omega), Option.bind_some, m2 k (by omega), Option.bind_some, m4 k (by omega), Option.bind_some,
          cnt_inc (fun t => fd p A B C (t / p : Nat) (t % p : Nat)) (n := i) (by omega) (by
            rw [fd, c1, c2, Bool.and_true, Bool.true_and, decide_eq_true_iff])]
        exact k5 k (by omega)
      · refine Ev.mk (K1 + K2 + K3 + K4 + K5) fun k hk => ?_
        rw [if_neg (by rw [fd, Bool.eq_false_iff.2 c2, Bool.and_false, Bool.false_and]; decide)] at hinc
        rw [List.range'_succ, gap_Found.l0, k1 k (by omega), Option.bind_some, k3 k (by omega), Option.bind_some, k2 k (by omega), Option.bind_some, if_neg (fun z => by rw [n1.1 z] at c1; cases c1), k4 k (by omega), Option.bind_some, if_pos (n2.2 (Bool.eq_false_iff.2 c2)), hinc]
        exact k5 k (by omega)
    · refine Ev.mk (K1 + K2 + K3 + K4 + K5) fun k hk => ?_
      rw [if_neg (by rw [fd, Bool.eq_false_iff.2 c1, Bool.false_and, Bool.false_and]; decide)] at hinc
      rw [List.range'_succ, gap_Found.l0, k1 k (by omega), Option.bind_some, k3 k (by omega), Option.bind_some, k2 k (by omega), Option.bind_some, if_pos (n1.2 (Bool.eq_false_iff.2 c1)), hinc]
      exact k5 k (by omega)
theorem s_GFound {A B : List (List Int)} {C : List Int} (hA : Rws A) (hB : Rws B) (hC : UL C) (hp : p ≤ 257) (hl : B.length = C.length) (ht : gap_tuples.f f A B = some 0) : Ev (fun k => gap_Found.f k f A B C) (((cnt2 p p fun c d => fd p A B C c d : Nat) : Int), 0) := by
  obtain ⟨K, hk⟩ := Ev.get (gfound_l0 h hA hB hC hl hp (p * p) 0 (by omega))
  refine Ev.mk K fun k g => ?_
  rw [gap_Found.f, ht, Option.bind_some, if_neg (by rw [hl]; simp), if_neg (by decide), s_P h, Option.bind_some, Int.toNat_natCast, List.range_eq_range']
  have := hk k g
  rw [show ((cnt 0 fun t => fd p A B C (t / p : Nat) (t % p : Nat) : Nat) : Int) = 0 from rfl] at this
  have hpos := h.o.pos
  rw [this, Option.bind_some, cnt_pairs (m := p) (by omega) (fun c d => fd p A B C c d)]
end good
end Go.Proofs.YtbjeemlbjkmhiaaDoor.Pure
namespace Go.Proofs.YtbjeemlbjkmhiaaDoor.Pure
open Go.RowKit Go.Proofs.YtbjeemlbjkmhiaaDoor.Q Go.Proofs.YtbjeemlbjkmhiaaDoor.Num Go.Proofs.YtbjeemlbjkmhiaaDoor.Pol Go.Proofs.YtbjeemlbjkmhiaaDoorW.PrintWords Go.Proofs.YtbjeemlbjkmhiaaDoorW.PrintLast Go.Proofs.YtbjeemlbjkmhiaaDoorW.PrintMore

theorem wu_succ {i : Nat} (h : i < 1000000) : IntKind.u64.wrap ((i : Int) + 1) = ((i + 1 : Nat) : Int) := by rw [wu64 (by omega) (by omega)]; omega
abbrev BothI (F G : Nat → Option (Int × Int)) : Prop := ∃ v, Ev F v ∧ Ev G v
section good
variable {f : Int} {p : Nat} (h : FP f p)
include h
theorem rroots_l0 {l : List Int} (hl : l.length ≤ 1000000) (hu : UL l) (hp : p ≤ 1000) : ∀ d i, i + d = p →
    Ev (fun k => attestorref11_Roots.l0 k f l ((cnt i fun x => zro p (ev l x) : Nat) : Int) (i : Int)) (((cnt p fun x => zro p (ev l x) : Nat) : Int), 0)
  | 0, i, e => by
    obtain rfl : i = p := by omega
    refine Ev.mks 0 fun k _ => ?_
    rw [attestorref11_Roots.l0, h.eqr, Option.bind_some, if_neg (by omega)]
  | d + 1, i, e => by
    obtain ⟨K1, k1⟩ := Ev.get (rroots_l0 hl hu hp d (i + 1) (by omega))
    obtain ⟨K2, k2⟩ := Ev.get (r_Eval h.o hl hu (x := (i : Int)) (Int.natCast_nonneg i))
    have hinc := cnt_inc (fun x => zro p (ev l x)) (n := i) (by omega) (c := zro p (ev l (i : Int)) = true) Iff.rfl
    refine Ev.mks (K1 + K2) fun k hk => ?_
    rw [attestorref11_Roots.l0, h.eqr, Option.bind_some, if_pos (by omega), k2 k (by omega), Option.bind_some, wu_succ (by omega)]
    by_cases c : zro p (ev l (i : Int)) = true
    · rw [if_pos c] at hinc
      rw [if_pos (mod_eq_zero.2 (zro_iff.1 c)), hinc]
      exact k1 k (by omega)
    · rw [if_neg c] at hinc
      rw [if_neg (fun e => c (zro_iff.2 (mod_eq_zero.1 e))), hinc]
      exact k1 k (by omega)
end good
theorem fp_small {f : Int} (h0 : 0 ≤ f) (h1 : f ≤ 1) : ∃ p, FP f p ∧ p ≤ 257 := by
  obtain ⟨p, h⟩ := fp_of (f := f) h0 (by omega)
  refine ⟨p, h, ?_⟩
  rcases (show f = 0 ∨ f = 1 by omega) with rfl | rfl
  · have e : (97 : Int) = p := h.eq.symm ▸ rfl
    omega
  · have e : (257 : Int) = p := h.eq.symm ▸ rfl
    omega
theorem both_GRoots (f : Int) {l : List Int} (hl : l.length ≤ 1000000) (hu : UL l) : BothI (fun k => gap_Roots.f k f l) (fun k => attestorref11_Roots.f k f l) := by
  by_cases cf : 0 ≤ f ∧ f < 4
  · obtain ⟨v1, v2, _⟩ := gv_pos cf
    by_cases c : f > 1
    · refine ⟨(0, 2), Ev.all fun k => ?_, Ev.all fun k => ?_⟩
      · rw [gap_Roots.f, v1, Option.bind_some, if_pos rfl, if_pos c]
      · rw [attestorref11_Roots.f, v2, Option.bind_some, if_pos rfl, if_pos c]
    · obtain ⟨p, h, hp⟩ := fp_small cf.1 (by omega)
      refine ⟨_, s_GRoots h hl hu (by omega) (by omega), Ev.congr (fun k => ?_) (rroots_l0 h hl hu (by omega) p 0 (by omega))⟩
      rw [attestorref11_Roots.f, v2, Option.bind_some, if_pos rfl, if_neg c]
      rfl
  · obtain ⟨v1, v2⟩ := gv_neg cf
    refine ⟨(0, 1), Ev.all fun k => ?_, Ev.all fun k => ?_⟩
    · rw [gap_Roots.f, v1, Option.bind_some, if_neg (by decide)]
    · rw [attestorref11_Roots.f, v2, Option.bind_some, if_neg (by decide)]

theorem rd3 {L : List (List Int)} {i : Nat} (hi : i < L.length) : rd_L3 L (i : Int) = L[i] := by
  rw [rd_L3, Int.toNat_natCast, List.getD_eq_getElem?_getD, List.getElem?_eq_getElem hi, Option.getD_some]
def wid (L : List (List Int)) : Nat := (L.getD 0 []).length
theorem wid_rd (L : List (List Int)) : (rd_L3 L 0).length = wid L := rfl
def oka (L : List (List Int)) : Prop := ∀ v ∈ L, v.length ≠ 0 ∧ v.length = wid L
theorem tup_pos {w : Nat} (hw : 0 < w) (L : List (List Int)) (hL : ∀ v ∈ L, v.length = w) : tup L (w : Int) = some (w : Int) := by
  rw [tup_ok hw L (w : Int) hL (.inr rfl)]
  split <;> rfl
theorem tup_neg {w : Nat} (hw : 0 < w) : ∀ (L : List (List Int)), ¬ (∀ v ∈ L, v.length = w) → tup L (w : Int) = none
  | [], hL => absurd (fun v hv => by simp at hv) hL
  | v :: L, hL => by
    rw [tup, if_neg (show ¬ (w : Int) = 0 by omega)]
    by_cases c0 : (v.length : Int) = 0
    · rw [if_pos c0]
    · rw [if_neg c0]
      by_cases c : v.length = w
      · rw [if_pos (by omega), tup_neg hw L fun g => hL fun x hx => by
          rcases List.mem_cons.1 hx with rfl | hx
          · exact c
          · exact g x hx]
      · rw [if_neg (by omega)]
theorem tup_append (A B : List (List Int)) : ∀ w, tup (A ++ B) w = (tup A w).bind (tup B) := by
  induction A with
  | nil => intro w; rfl
  | cons v A ih =>
    intro w
    rw [List.cons_append, tup, tup]
    by_cases c0 : (v.length : Int) = 0
    · rw [if_pos c0, if_pos c0]; rfl
    · rw [if_neg c0, if_neg c0]
      by_cases c : (v.length : Int) = (if w = 0 then (v.length : Int) else w)
      · rw [if_pos c, if_pos c]; exact ih _
      · rw [if_neg c, if_neg c]; rfl
theorem tup_all : ∀ L : List (List Int), (oka L → tup L 0 = some (wid L : Int)) ∧ (¬ oka L → tup L 0 = none)
  | [] => ⟨fun _ => rfl, fun g => absurd (fun v hv => by simp at hv) g⟩
  | v :: L => by
    have ew : wid (v :: L) = v.length := rfl
    by_cases c0 : v.length = 0
    · refine ⟨fun g => absurd c0 (g v List.mem_cons_self).1, fun _ => ?_⟩
      rw [tup, if_pos (by omega)]
    · have et : tup (v :: L) 0 = tup L (v.length : Int) := by rw [tup, if_neg (by omega), if_pos rfl, if_pos rfl]
      rw [et, ew]
      constructor
      · exact fun g => tup_pos (by omega) L fun x hx => (g x (List.mem_cons_of_mem _ hx)).2
      · refine fun g => tup_neg (by omega) L fun g' => g fun x hx => ?_
        rw [ew]
        rcases List.mem_cons.1 hx with rfl | hx
        · exact ⟨c0, rfl⟩
        · exact ⟨by rw [g' x hx]; exact c0, g' x hx⟩
def tE (f : Int) (A B : List (List Int)) (w : Nat) : Int := if f > 1 then 2 else if (A.length : Int) > 32 then 3 else if (B.length : Int) > 32 then 3 else if (w : Int) > 8 then 3 else 0
theorem rtup_l0 {f : Int} {A B L : List (List Int)} (hl : L.length ≤ 1000000) (ho : oka L) : ∀ (d i : Nat), i + d = L.length → Ev (fun k => attestorref11_tuples.l0 k f A B L i) (tE f A B (wid L))
  | 0, i, e => by
    refine Ev.mks 0 fun k _ => ?_
    rw [attestorref11_tuples.l0, if_neg (by omega), tE]
    by_cases c1 : f > 1
    · rw [if_pos c1, if_pos c1]
    · rw [if_neg c1, if_neg c1]
      by_cases c2 : (A.length : Int) > 32
      · rw [if_pos c2, if_pos c2]
      · rw [if_neg c2, if_neg c2]
        by_cases c3 : (B.length : Int) > 32
        · rw [if_pos c3, if_pos c3]
        · rw [if_neg c3, if_neg c3]
          by_cases c4 : (L.length : Int) > 0
          · rw [if_pos c4, if_pos c4, wid_rd]
            by_cases c5 : (wid L : Int) > 8
            · rw [if_pos c5, if_pos c5]
            · rw [if_neg c5, if_neg c5]
          · rw [if_neg c4, List.eq_nil_of_length_eq_zero (l := L) (by omega), if_neg (by decide)]
  | d + 1, i, e => by
    have hi : i < L.length := by omega
    have h1 := ho L[i] (List.getElem_mem hi)
    obtain ⟨K, hk⟩ := Ev.get (rtup_l0 (f := f) (A := A) (B := B) hl ho d (i + 1) (by omega))
    refine Ev.mks K fun k g => ?_
    rw [attestorref11_tuples.l0, if_pos (by omega), if_pos (by omega), rd3 hi, wid_rd, if_neg (by omega), if_pos (by omega), if_pos (by omega), w64_succ (by omega)]
    exact hk k g
theorem rtup_no {f : Int} {A B L : List (List Int)} (hl : L.length ≤ 1000000) : ∀ (d i : Nat), i + d = L.length → (∃ j, ∃ hj : j < L.length, i ≤ j ∧ ¬ (L[j].length ≠ 0 ∧ L[j].length = wid L)) → Ev (fun k => attestorref11_tuples.l0 k f A B L i) 1
  | 0, i, e, ⟨j, hj, h1, _⟩ => by omega
  | d + 1, i, e, ⟨j, hj, h1, h2⟩ => by
    have hi : i < L.length := by omega
    by_cases c0 : L[i].length = 0
    · refine Ev.mks 0 fun k _ => ?_
      rw [attestorref11_tuples.l0, if_pos (by omega), if_pos (by omega), rd3 hi, if_pos (by omega)]
    · by_cases c : L[i].length = wid L
      · obtain ⟨K, hk⟩ := Ev.get (rtup_no (f := f) (A := A) (B := B) hl d (i + 1) (by omega) ⟨j, hj, by
          by_cases ej : j = i
          · subst ej; exact absurd ⟨c0, c⟩ h2
          · omega, h2⟩)
        refine Ev.mks K fun k g => ?_
        rw [attestorref11_tuples.l0, if_pos (by omega), if_pos (by omega), rd3 hi, wid_rd, if_neg (by omega), if_pos (by omega), if_pos (by omega), w64_succ (by omega)]
        exact hk k g
      · refine Ev.mks 0 fun k _ => ?_
        rw [attestorref11_tuples.l0, if_pos (by omega), if_pos (by omega), rd3 hi, wid_rd, if_neg (by omega), if_pos (by omega), if_neg (by omega)]
theorem both_tuples (f : Int) {A B : List (List Int)} (hA : A.length ≤ 1000) (hB : B.length ≤ 1000) : ∃ e, gap_tuples.f f A B = some e ∧ Ev (fun k => attestorref11_tuples.f k f A B) e ∧ (e = 0 → 0 ≤ f ∧ f ≤ 1) := by
  have hl : (A ++ B).length ≤ 1000000 := by rw [List.length_append]; omega
  have et : tups [A, B] 0 = tup (A ++ B) 0 := by
    rw [tup_append, tups]
    refine congrArg _ (funext fun w => ?_)
    rw [tups]
    cases tup B w <;> rfl
  have er : ∀ k : Nat, attestorref01_Valid.f f = some true → attestorref11_tuples.f k f A B = attestorref11_tuples.l0 k f A B (A ++ B) 0 := fun k hv => by
    rw [attestorref11_tuples.f, hv, Option.bind_some, if_pos rfl, if_pos (by rw [List.length_nil]; omega), Option.bind_some, List.nil_append, if_pos (by omega)]
  rw [gap_tuples.f, et]
  by_cases cf : 0 ≤ f ∧ f < 4
  · obtain ⟨v1, v2, _⟩ := gv_pos cf
    by_cases c : oka (A ++ B)
    · rw [(tup_all _).1 c]
      refine ⟨tE f A B (wid (A ++ B)), ?_, Ev.congr (fun k => er k v2) (rtup_l0 hl c (A ++ B).length 0 (by omega)), fun e => ?_⟩
      · show gap_tuples.g f A B (wid (A ++ B)) = _
        rw [gap_tuples.g, v1, Option.bind_some, if_pos rfl, tE]
        repeat' split
        all_goals rfl
      · refine ⟨cf.1, Classical.byContradiction fun g => ?_⟩
        rw [tE, if_pos (by omega)] at e
        omega
    · rw [(tup_all _).2 c]
      refine ⟨1, rfl, Ev.congr (fun k => er k v2) (rtup_no hl (A ++ B).length 0 (by omega) ?_), fun e => by omega⟩
      refine Classical.byContradiction fun g => c fun v hv => ?_
      obtain ⟨j, hj, rfl⟩ := List.getElem_of_mem hv
      exact Classical.byContradiction fun g' => g ⟨j, hj, Nat.zero_le _, g'⟩
  · obtain ⟨v1, v2⟩ := gv_neg cf
    refine ⟨1, ?_, Ev.all fun k => by rw [attestorref11_tuples.f, v2, Option.bind_some, if_neg (by decide)], fun e => by omega⟩
    by_cases c : oka (A ++ B)
    · rw [(tup_all _).1 c]
      show gap_tuples.g f A B (wid (A ++ B)) = _
      rw [gap_tuples.g, v1, Option.bind_some, if_neg (by decide)]
    · rw [(tup_all _).2 c]

section good
variable {f : Int} {p : Nat} (h : FP f p)
include h
theorem r_Val {v : List Int} (hv : v.length ≤ 1000000) (hu : UL v) {c d : Int} (hc : 0 ≤ c) (hd : 0 ≤ d) : Ev (fun k => attestorref11_Value.f k f v c d) ((c + ev v d) % p) := by
  obtain ⟨K, hk⟩ := Ev.get (r_Eval h.o hv hu hd)
  refine Ev.mk K fun k g => ?_
  rw [attestorref11_Value.f, hk k g, Option.bind_some, r_Add h hc (h.mod _).1, Option.bind_some]
  exact congrArg some (Cg.mod_eq ((Cg.refl _ _).add (Cg.mod _ _)))
section
variable {A B : List (List Int)} (hA : Rws A) (hB : Rws B) (hl : A.length = B.length) (hp : p ≤ 257)
include hA hB hl hp
omit hp in
theorem req_l2 {c d n : Nat} (hn : n ≤ 100000) {res : Int × Int} (hK : Ev (fun k => attestorref11_Equal.l1 k f A B ((n + (if zro p (PR A c d - PR B c d) = true then 1 else 0) : Nat) : Int) c (IntKind.u64.wrap ((d : Int) + 1))) res) : ∀ (e i : Nat) (x y : Int), i + e = A.length → 0 ≤ x → x < p → 0 ≤ y → y < p → Cg p (x * PR (A.drop i) c d) (PR A c d) → Cg p (y * PR (B.drop i) c d) (PR B c d) →
    Ev (fun k => attestorref11_Equal.l2 k f A B (n : Int) c d x y i) res
  | 0, i, x, y, e, x0, x1, y0, y1, hx, hy => by
    obtain ⟨K, hk⟩ := Ev.get hK
    rw [List.drop_eq_nil_of_le (by omega), PR, Int.mul_one] at hx hy
    have key : x = y ↔ zro p (PR A c d - PR B c d) = true := by
      rw [zro_iff]
      constructor
      · rintro rfl; exact (hx.symm.trans hy).sub_zero
      · exact fun g => (hx.trans ((Cg.of_sub g).trans hy.symm)).uniq x0 x1 y0 y1
    refine Ev.mks K fun k g => ?_
    rw [attestorref11_Equal.l2, if_neg (by omega)]
    have hk := hk k g
    by_cases c : x = y
    · rw [if_pos (key.1 c)] at hk
      rw [if_pos c, w64_succ (by omega)]
      exact hk
    · rw [if_neg (fun g => c (key.2 g))] at hk
      rw [if_neg c]
      exact hk
  | e + 1, i, x, y, hi, x0, x1, y0, y1, hx, hy => by
    have iA : i < A.length := by omega
    have iB : i < B.length := by omega
    have rA := hA.nth iA
    have rB := hB.nth iB
    have c0 : (0 : Int) ≤ (c : Int) := Int.natCast_nonneg _
    have d0 : (0 : Int) ≤ (d : Int) := Int.natCast_nonneg _
    rw [rd3 iA] at rA
    rw [rd3 iB] at rB
    have m1 := h.mod (x * ((c + ev A[i] d) % p))
    have m2 := h.mod (y * ((c + ev B[i] d) % p))
    rw [List.drop_eq_getElem_cons iA, PR] at hx
    rw [List.drop_eq_getElem_cons iB, PR] at hy
    obtain ⟨K1, k1⟩ := Ev.get (r_Val h rA.2 rA.1 c0 d0)
    obtain ⟨K2, k2⟩ := Ev.get (r_Val h rB.2 rB.1 c0 d0)
    obtain ⟨K3, k3⟩ := Ev.get (req_l2 hn hK e (i + 1) ((x * ((c + ev A[i] d) % p)) % p) ((y * ((c + ev B[i] d) % p)) % p) (by omega) m1.1 m1.2 m2.1 m2.2
      ((((Cg.mod _ _).trans ((Cg.refl _ _).mul (Cg.mod _ _))).mul (Cg.refl _ _)).trans ((Cg.of_eq (Int.mul_assoc _ _ _)).trans hx))
      ((((Cg.mod _ _).trans ((Cg.refl _ _).mul (Cg.mod _ _))).mul (Cg.refl _ _)).trans ((Cg.of_eq (Int.mul_assoc _ _ _)).trans hy)))
    have lA := hA.1
    refine Ev.mks (K1 + K2 + K3) fun k g => ?_
    rw [attestorref11_Equal.l2, if_pos (by omega), if_pos (by omega), rd3 iA, k1 k (by omega), Option.bind_some, r_Mul h x0 (h.mod _).1, Option.bind_some, if_pos (by omega), rd3 iB, k2 k (by omega), Option.bind_some, r_Mul h y0 (h.mod _).1, Option.bind_some, w64_succ (by omega)]
    exact k3 k (by omega)
theorem req_l1 {c : Nat} (hc : c < p) {res : Int × Int} (hK : Ev (fun k => attestorref11_Equal.l0 k f A B ((cnt2 (c + 1) p (fun c d => zro p (PR A c d - PR B c d)) : Nat) : Int) (IntKind.u64.wrap ((c : Int) + 1))) res) : ∀ (e d : Nat), d + e = p →
    Ev (fun k => attestorref11_Equal.l1 k f A B ((cnt2 c p (fun c d => zro p (PR A c d - PR B c d)) + cnt d (fun d => zro p (PR A c d - PR B c d)) : Nat) : Int) c d) res
  | 0, d, e => by
    obtain rfl : d = p := by omega
    refine Ev.succ (fun k => ?_) hK
    rw [attestorref11_Equal.l1, h.eqr, Option.bind_some, if_neg (by omega), cnt2]
  | e + 1, d, hd => by
    have hpp : p * p ≤ 66049 := Nat.mul_le_mul hp hp
    have n1 : cnt2 c p (fun c d => zro p (PR A c d - PR B c d)) ≤ 66049 := by
      have g1 : ∀ n, cnt2 n p (fun c d => zro p (PR A c d - PR B c d)) ≤ n * p := fun n => by
        induction n with
        | zero => exact Nat.zero_le _
        | succ n ih => have := cnt_le (fun d : Nat => zro p (PR A (n : Int) d - PR B (n : Int) d)) p; rw [cnt2, Nat.add_mul]; omega
      exact Nat.le_trans (g1 c) (Nat.le_trans (Nat.mul_le_mul_right p (Nat.le_of_lt hc)) hpp)
    have n2 := cnt_le (fun d : Nat => zro p (PR A (c : Int) d - PR B (c : Int) d)) d
    have ih := req_l1 hc hK e (d + 1) (by omega)
    rw [cnt_succ, ← Nat.add_assoc, ← wu_succ (i := d) (by omega)] at ih
    refine Ev.succ (fun k => ?_) (req_l2 h hA hB hl (c := c) (d := d) (n := cnt2 c p (fun c d => zro p (PR A c d - PR B c d)) + cnt d (fun d => zro p (PR A c d - PR B c d))) (by omega) ih A.length 0 1 1 (by omega) (by omega) h.one (by omega) h.one (by rw [List.drop_zero, Int.one_mul]; exact Cg.refl _ _) (by rw [List.drop_zero, Int.one_mul]; exact Cg.refl _ _))
    rw [attestorref11_Equal.l1, h.eqr, Option.bind_some, if_pos (by omega)]
    rfl
theorem req_l0 : ∀ (e c : Nat), c + e = p →
    Ev (fun k => attestorref11_Equal.l0 k f A B ((cnt2 c p (fun c d => zro p (PR A c d - PR B c d)) : Nat) : Int) c) (((cnt2 p p (fun c d => zro p (PR A c d - PR B c d)) : Nat) : Int), 0)
  | 0, c, e => by
    obtain rfl : c = p := by omega
    refine Ev.mks 0 fun k _ => ?_
    rw [attestorref11_Equal.l0, h.eqr, Option.bind_some, if_neg (by omega)]
  | e + 1, c, hc => by
    have ih := req_l0 e (c + 1) (by omega)
    rw [← wu_succ (i := c) (by omega)] at ih
    refine Ev.succ (fun k => ?_) (req_l1 h hA hB hl hp (c := c) (by omega) ih p 0 (by omega))
    rw [attestorref11_Equal.l0, h.eqr, Option.bind_some, if_pos (by omega)]
    rfl
end
end good
theorem both_GEqual (f : Int) {A B : List (List Int)} (hA : Rws A) (hB : Rws B) (lA : A.length ≤ 1000) (lB : B.length ≤ 1000) : BothI (fun k => gap_Equal.f k f A B) (fun k => attestorref11_Equal.f k f A B) := by
  obtain ⟨e, t1, t2, t3⟩ := both_tuples f lA lB
  obtain ⟨K, hk⟩ := Ev.get t2
  by_cases cl : A.length = B.length
  · by_cases ce : e = 0
    · subst ce
      obtain ⟨f0, f1⟩ := t3 rfl
      obtain ⟨p, h, hp⟩ := fp_small f0 f1
      refine ⟨_, s_GEqual h hA hB hp cl t1, ?_⟩
      obtain ⟨K2, hk2⟩ := Ev.get (req_l0 h hA hB cl hp p 0 (by omega))
      refine Ev.mk (K + K2) fun k g => ?_
      rw [attestorref11_Equal.f, if_pos (by omega), hk k (by omega), Option.bind_some, if_pos rfl]
      exact hk2 k (by omega)
    · refine ⟨(0, e), Ev.all fun k => ?_, Ev.mk K fun k g => ?_⟩
      · rw [gap_Equal.f, t1, Option.bind_some, if_neg (by rw [cl]; simp), if_pos (by simpa using ce)]
      · rw [attestorref11_Equal.f, if_pos (by omega), hk k g, Option.bind_some, if_neg ce, Option.bind_some]
  · refine ⟨(0, 1), Ev.all fun k => ?_, Ev.all fun k => ?_⟩
    · rw [gap_Equal.f, t1, Option.bind_some, if_pos (by simp; omega)]
    · rw [attestorref11_Equal.f, if_neg (by omega)]

theorem nz_cons (p : Nat) (v : List Int) (L : List (List Int)) (c d : Int) : nz p (v :: L) c d = ((c + ev v d) % p != 0 && nz p L c d) := rfl
theorem vls_cons (p : Nat) (v : List Int) (L : List (List Int)) (c d : Int) : vls p (v :: L) c d = (c + ev v d) % p :: vls p L c d := rfl
section good
variable {f : Int} {p : Nat} (h : FP f p)
include h
section
variable {A B : List (List Int)} {C : List Int} (hA : Rws A) (hB : Rws B) (hC : UL C) (hl : B.length = C.length) (hp : p ≤ 257)
include hB hC hl
theorem rf_l3 {c d n : Nat} (hn : n ≤ 100000) {x : Int} (x0 : 0 ≤ x) (x1 : x < p) (hx : Cg p x ((vls p A c d).map (inv p)).sum) {res : Int × Int} (hK : Ev (fun k => attestorref11_Found.l1 k f A B C ((n + (if fd p A B C c d = true then 1 else 0) : Nat) : Int) c (IntKind.u64.wrap ((d : Int) + 1))) res) : ∀ (e i : Nat) (y : Int) (b : Bool), i + e = B.length → 0 ≤ y → y < p → Cg p (y + dot (C.drop i) ((vls p (B.drop i) c d).map (inv p))) (dot C ((vls p B c d).map (inv p))) → (b && nz p (B.drop i) c d) = (nz p A c d && nz p B c d) →
    Ev (fun k => attestorref11_Found.l3 k f A B C (n : Int) c d x y b i) res
  | 0, i, y, b, e, y0, y1, hy, hb => by
    obtain ⟨K, hk⟩ := Ev.get hK
    rw [show B.drop i = [] from List.drop_eq_nil_of_le (by omega)] at hy hb
    rw [show C.drop i = [] from List.drop_eq_nil_of_le (by omega), dot_nil, Int.add_zero] at hy
    rw [show nz p [] c d = true from rfl, Bool.and_true] at hb
    have key : x = y ↔ ((vls p A c d).map (inv p)).sum % p = dot C ((vls p B c d).map (inv p)) % p := by
      rw [← Cg.mod_eq hx, ← Cg.mod_eq hy, Int.emod_eq_of_lt x0 x1, Int.emod_eq_of_lt y0 y1]
    refine Ev.mks K fun k g => ?_
    rw [attestorref11_Found.l3, if_neg (by omega)]
    have hk := hk k g
    cases b with
    | false =>
      rw [if_neg (by rw [fd, ← hb, Bool.false_and]; decide)] at hk
      rw [if_neg (by decide)]
      exact hk
    | true =>
      rw [if_pos rfl]
      by_cases c1 : x = y
      · rw [if_pos (by rw [fd, ← hb, Bool.true_and]; exact decide_eq_true (key.1 c1))] at hk
        rw [if_pos c1, w64_succ (by omega)]
        exact hk
      · rw [if_neg (by rw [fd, ← hb, Bool.true_and, decide_eq_true_iff]; exact fun g => c1 (key.2 g))] at hk
        rw [if_neg c1]
        exact hk
  | e + 1, i, y, b, hi, y0, y1, hy, hb => by
    have iB : i < B.length := by omega
    have iC : i < C.length := by omega
    have rB := hB.nth iB
    rw [rd3 iB] at rB
    have c0 : (0 : Int) ≤ (c : Int) := Int.natCast_nonneg _
    have d0 : (0 : Int) ≤ (d : Int) := Int.natCast_nonneg _
    have hcx := U.co hC i
    have hv := h.mod (c + ev B[i] d)
    have m1 := h.mod (co C i * inv p ((c + ev B[i] d) % p))
    have m2 := h.mod (y + (co C i * inv p ((c + ev B[i] d) % p)) % p)
    rw [List.drop_eq_getElem_cons iB, List.drop_eq_getElem_cons iC, vls_cons, List.map_cons, dot, ← co_lt iC] at hy
    rw [List.drop_eq_getElem_cons iB, nz_cons, ← Bool.and_assoc] at hb
    obtain ⟨K1, k1⟩ := Ev.get (r_Val h rB.2 rB.1 c0 d0)
    obtain ⟨K2, k2⟩ := Ev.get (r_Div h hcx.1 hv.1)
    obtain ⟨K3, k3⟩ := Ev.get (rf_l3 hn x0 x1 hx hK e (i + 1) ((y + (co C i * inv p ((c + ev B[i] d) % p)) % p) % p) (b && (c + ev B[i] d) % p != 0) (by omega) m2.1 m2.2
      ((((Cg.mod _ _).trans ((Cg.refl _ _).add (Cg.mod _ _))).add (Cg.refl _ _)).trans ((Cg.of_eq (by omega)).trans hy)) hb)
    have lB := hB.1
    refine Ev.mks (K1 + K2 + K3) fun k g => ?_
    rw [attestorref11_Found.l3, if_pos (by omega), if_pos (by omega), rd3 iB, k1 k (by omega), Option.bind_some]
    have hk := k3 k (by omega)
    cases b with
    | false =>
      rw [if_neg (by decide), if_pos (by omega), rd_nat, k2 k (by omega), Option.bind_some, r_Add h y0 m1.1, Option.bind_some, w64_succ (by omega)]
      exact hk
    | true =>
      rw [if_pos rfl, if_pos (by omega), rd_nat, k2 k (by omega), Option.bind_some, r_Add h y0 m1.1, Option.bind_some, w64_succ (by omega)]
      exact hk
include hA
theorem rf_l2 {c d n : Nat} (hn : n ≤ 100000) {res : Int × Int} (hK : Ev (fun k => attestorref11_Found.l1 k f A B C ((n + (if fd p A B C c d = true then 1 else 0) : Nat) : Int) c (IntKind.u64.wrap ((d : Int) + 1))) res) : ∀ (e i : Nat) (x : Int) (b : Bool), i + e = A.length → 0 ≤ x → x < p → Cg p (x + ((vls p (A.drop i) c d).map (inv p)).sum) ((vls p A c d).map (inv p)).sum → (b && nz p (A.drop i) c d) = nz p A c d →
    Ev (fun k => attestorref11_Found.l2 k f A B C (n : Int) c d x 0 b i) res
  | 0, i, x, b, e, x0, x1, hx, hb => by
    rw [show A.drop i = [] from List.drop_eq_nil_of_le (by omega)] at hx hb
    rw [show ((vls p [] c d).map (inv p)).sum = 0 from rfl, Int.add_zero] at hx
    rw [show nz p [] c d = true from rfl, Bool.and_true] at hb
    refine Ev.succ (fun k => ?_) (rf_l3 h hB hC hl hn x0 x1 hx hK B.length 0 0 b (by omega) (by omega) h.o.pos (by rw [List.drop_zero, List.drop_zero, Int.zero_add]; exact Cg.refl _ _) (by rw [List.drop_zero, hb]))
    rw [attestorref11_Found.l2, if_neg (by omega)]
    rfl
  | e + 1, i, x, b, hi, x0, x1, hx, hb => by
    have iA : i < A.length := by omega
    have rA := hA.nth iA
    rw [rd3 iA] at rA
    have c0 : (0 : Int) ≤ (c : Int) := Int.natCast_nonneg _
    have d0 : (0 : Int) ≤ (d : Int) := Int.natCast_nonneg _
    have hv := h.mod (c + ev A[i] d)
    have m1 := inv_rg h ((c + ev A[i] d) % p)
    have m2 := h.mod (x + inv p ((c + ev A[i] d) % p))
    rw [List.drop_eq_getElem_cons iA, vls_cons, List.map_cons, List.sum_cons] at hx
    rw [List.drop_eq_getElem_cons iA, nz_cons, ← Bool.and_assoc] at hb
    obtain ⟨K1, k1⟩ := Ev.get (r_Val h rA.2 rA.1 c0 d0)
    obtain ⟨K2, k2⟩ := Ev.get (r_Inv h hv.1)
    obtain ⟨K3, k3⟩ := Ev.get (rf_l2 hn hK e (i + 1) ((x + inv p ((c + ev A[i] d) % p)) % p) (b && (c + ev A[i] d) % p != 0) (by omega) m2.1 m2.2
      (((Cg.mod _ _).add (Cg.refl _ _)).trans ((Cg.of_eq (by omega)).trans hx)) hb)
    have lA := hA.1
    refine Ev.mks (K1 + K2 + K3) fun k g => ?_
    rw [attestorref11_Found.l2, if_pos (by omega), if_pos (by omega), rd3 iA, k1 k (by omega), Option.bind_some]
    have hk := k3 k (by omega)
    cases b with
    | false =>
      rw [if_neg (by decide), k2 k (by omega), Option.bind_some, r_Add h x0 m1.1, Option.bind_some, w64_succ (by omega)]
      exact hk
    | true =>
      rw [if_pos rfl, k2 k (by omega), Option.bind_some, r_Add h x0 m1.1, Option.bind_some, w64_succ (by omega)]
      exact hk
include hp
theorem rf_l1 {c : Nat} (hc : c < p) {res : Int × Int} (hK : Ev (fun k => attestorref11_Found.l0 k f A B C ((cnt2 (c + 1) p (fun c d => fd p A B C c d) : Nat) : Int) (IntKind.u64.wrap ((c : Int) + 1))) res) : ∀ (e d : Nat), d + e = p →
    Ev (fun k => attestorref11_Found.l1 k f A B C ((cnt2 c p (fun c d => fd p A B C c d) + cnt d (fun d => fd p A B C c d) : Nat) : Int) c d) res
  | 0, d, e => by
    obtain rfl : d = p := by omega
    refine Ev.succ (fun k => ?_) hK
    rw [attestorref11_Found.l1, h.eqr, Option.bind_some, if_neg (by omega), cnt2]
  | e + 1, d, hd => by
    have hpp : p * p ≤ 66049 := Nat.mul_le_mul hp hp
    have n1 : cnt2 c p (fun c d => fd p A B C c d) ≤ 66049 := by
      have g1 : ∀ n, cnt2 n p (fun c d => fd p A B C c d) ≤ n * p := fun n => by
        induction n with
        | zero => exact Nat.zero_le _
        | succ n ih => have := cnt_le (fun d : Nat => fd p A B C (n : Int) d) p; rw [cnt2, Nat.add_mul]; omega
      exact Nat.le_trans (g1 c) (Nat.le_trans (Nat.mul_le_mul_right p (Nat.le_of_lt hc)) hpp)
    have n2 := cnt_le (fun d : Nat => fd p A B C (c : Int) d) d
    have ih := rf_l1 hc hK e (d + 1) (by omega)
    rw [cnt_succ, ← Nat.add_assoc, ← wu_succ (i := d) (by omega)] at ih
    refine Ev.succ (fun k => ?_) (rf_l2 h hA hB hC hl (c := c) (d := d) (n := cnt2 c p (fun c d => fd p A B C c d) + cnt d (fun d => fd p A B C c d)) (by omega) ih A.length 0 0 true (by omega) (by omega) h.o.pos (by rw [List.drop_zero, Int.zero_add]; exact Cg.refl _ _) (by rw [List.drop_zero, Bool.true_and]))
    rw [attestorref11_Found.l1, h.eqr, Option.bind_some, if_pos (by omega)]
    rfl
theorem rf_l0 : ∀ (e c : Nat), c + e = p →
    Ev (fun k => attestorref11_Found.l0 k f A B C ((cnt2 c p (fun c d => fd p A B C c d) : Nat) : Int) c) (((cnt2 p p (fun c d => fd p A B C c d) : Nat) : Int), 0)
  | 0, c, e => by
    obtain rfl : c = p := by omega
    refine Ev.mks 0 fun k _ => ?_
    rw [attestorref11_Found.l0, h.eqr, Option.bind_some, if_neg (by omega)]
  | e + 1, c, hc => by
    have ih := rf_l0 e (c + 1) (by omega)
    rw [← wu_succ (i := c) (by omega)] at ih
    refine Ev.succ (fun k => ?_) (rf_l1 h hA hB hC hl hp (c := c) (by omega) ih p 0 (by omega))
    rw [attestorref11_Found.l0, h.eqr, Option.bind_some, if_pos (by omega)]
    rfl
end
end good
theorem both_GFound (f : Int) {A B : List (List Int)} {C : List Int} (hA : Rws A) (hB : Rws B) (hC : UL C) (lA : A.length ≤ 1000) (lB : B.length ≤ 1000) : BothI (fun k => gap_Found.f k f A B C) (fun k => attestorref11_Found.f k f A B C) := by
  obtain ⟨e, t1, t2, t3⟩ := both_tuples f lA lB
  obtain ⟨K, hk⟩ := Ev.get t2
  by_cases cl : B.length = C.length
  · by_cases ce : e = 0
    · subst ce
      obtain ⟨f0, f1⟩ := t3 rfl
      obtain ⟨p, h, hp⟩ := fp_small f0 f1
      refine ⟨_, s_GFound h hA hB hC hp cl t1, ?_⟩
      obtain ⟨K2, hk2⟩ := Ev.get (rf_l0 h hA hB hC cl hp p 0 (by omega))
      refine Ev.mk (K + K2) fun k g => ?_
      rw [attestorref11_Found.f, if_pos (by omega), hk k (by omega), Option.bind_some, if_pos rfl]
      exact hk2 k (by omega)
    · refine ⟨(0, e), Ev.all fun k => ?_, Ev.mk K fun k g => ?_⟩
      · rw [gap_Found.f, t1, Option.bind_some, if_neg (by rw [cl]; simp), if_pos (by simpa using ce)]
      · rw [attestorref11_Found.f, if_pos (by omega), hk k g, Option.bind_some, if_neg ce, Option.bind_some]
  · refine ⟨(0, 1), Ev.all fun k => ?_, Ev.all fun k => ?_⟩
    · rw [gap_Found.f, t1, Option.bind_some, if_pos (by simp; omega)]
    · rw [attestorref11_Found.f, if_neg (by omega)]
end Go.Proofs.YtbjeemlbjkmhiaaDoor.Pure
namespace Go.Proofs.YtbjeemlbjkmhiaaDoor.Pure
open Go.RowKit Go.Proofs.YtbjeemlbjkmhiaaDoor.Q Go.Proofs.YtbjeemlbjkmhiaaDoor.Num Go.Proofs.YtbjeemlbjkmhiaaDoor.Pol Go.Proofs.YtbjeemlbjkmhiaaDoorW.PrintWords Go.Proofs.YtbjeemlbjkmhiaaDoorW.PrintLast Go.Proofs.YtbjeemlbjkmhiaaDoorW.PrintMore

def Rw (w : Nat) (v : List Int) : Prop := v.length = w ∧ ∀ x ∈ v, 0 ≤ x ∧ x < 97
def OkL (n w : Nat) (L : List (List Int)) : Prop := L.length = n ∧ ∀ v ∈ L, Rw w v
theorem Rw.set {w : Nat} {v : List Int} (h : Rw w v) {x : Int} (hx : 0 ≤ x ∧ x < 97) (i : Nat) : Rw w (v.set i x) := ⟨by rw [List.length_set]; exact h.1, fun y hy => by
  rcases List.mem_or_eq_of_mem_set hy with hy | rfl
  · exact h.2 _ hy
  · exact hx⟩
theorem Rw.zero (w : Nat) : Rw w (List.replicate w 0) := ⟨List.length_replicate, fun x hx => by rw [(List.mem_replicate.1 hx).2]; decide⟩
theorem OkL.nth {n w : Nat} {L : List (List Int)} (h : OkL n w L) {i : Nat} (hi : i < n) : ∃ h' : i < L.length, rd_L3 L (i : Int) = L[i] ∧ Rw w L[i] := by
  have h' : i < L.length := by rw [h.1]; exact hi
  refine ⟨h', ?_, h.2 _ (List.getElem_mem h')⟩
  rw [rd_L3, Int.toNat_natCast, List.getD_eq_getElem?_getD, List.getElem?_eq_getElem h', Option.getD_some]
theorem OkL.snoc {n w : Nat} {L : List (List Int)} (h : OkL n w L) {v : List Int} (hv : Rw w v) : OkL (n + 1) w (L ++ [v]) := ⟨by rw [List.length_append, h.1]; rfl, fun x hx => by
  rcases List.mem_append.1 hx with hx | hx
  · exact h.2 _ hx
  · rw [List.mem_singleton.1 hx]; exact hv⟩
theorem OkL.rws {n w : Nat} {L : List (List Int)} (h : OkL n w L) (hn : n ≤ 1000000) (hw : w ≤ 1000000) : Rws L := ⟨by rw [h.1]; exact hn, fun v hv => ⟨fun x hx => by have := (h.2 v hv).2 x hx; unfold U; omega, by rw [(h.2 v hv).1]; exact hw⟩⟩
def Evs {α : Type} (F : Nat → Option α) (P : α → Prop) : Prop := ∃ v, Ev F v ∧ P v
end Go.Proofs.YtbjeemlbjkmhiaaDoor.Pure
namespace Go.Proofs.YtbjeemlbjkmhiaaDoor.Pure
open Go.RowKit Go.Proofs.YtbjeemlbjkmhiaaDoor.Q Go.Proofs.YtbjeemlbjkmhiaaDoor.Num Go.Proofs.YtbjeemlbjkmhiaaDoor.Pol Go.Proofs.YtbjeemlbjkmhiaaDoorW.PrintWords Go.Proofs.YtbjeemlbjkmhiaaDoorW.PrintLast Go.Proofs.YtbjeemlbjkmhiaaDoorW.PrintMore

theorem mn_b {a K : Int} (ha : 0 ≤ a) (hK : 0 ≤ K) : 0 ≤ mn a K ∧ mn a K ≤ a ∧ mn a K ≤ K := by
  unfold mn
  split <;> refine ⟨?_, ?_, ?_⟩ <;> omega
def Cols (n : Nat) (L : List (List Int)) : Prop := L.length ≤ n ∧ ∀ v ∈ L, UL v ∧ v.length ≤ 10
theorem Cols.rws {n : Nat} {L : List (List Int)} (h : Cols n L) (hn : n ≤ 1000) : Rws L := ⟨Nat.le_trans h.1 (by omega), fun v hv => ⟨(h.2 v hv).1, Nat.le_trans (h.2 v hv).2 (by decide)⟩⟩
theorem Cols.take {n : Nat} {L : List (List Int)} (h : Cols n L) (m : Nat) : Cols n (L.take m) := ⟨by rw [List.length_take]; have := h.1; omega, fun v hv => h.2 v (List.mem_of_mem_take hv)⟩
theorem cols_l0 {l : List (List Int)} (hu : ∀ v ∈ l, UL v ∧ v.length * 8 ≤ 140737488351232) : ∀ (d i : Nat) (L : List (List Int)), i + d = 34 → L.length = i → (∀ v ∈ L, UL v ∧ v.length ≤ 10) →
    Evs (fun k => attestorlaw11_columns.l0 k l 34 10 L (i : Int)) (Cols 34)
  | 0, i, L, e, hL, hv => by
    refine ⟨L, Ev.mks 0 fun k _ => ?_, ⟨by omega, hv⟩⟩
    rw [attestorlaw11_columns.l0]
    by_cases c : (i : Int) < (l.length : Int)
    · rw [if_pos c, if_neg (by omega)]
    · rw [if_neg c]
  | d + 1, i, L, e, hL, hv => by
    by_cases c : (i : Int) < (l.length : Int)
    · have hi : i < l.length := by omega
      have hr := hu l[i] (List.getElem_mem hi)
      obtain ⟨b1, b2, b3⟩ := mn_b (a := (l[i].length : Int)) (K := 10) (Int.natCast_nonneg _) (by decide)
      generalize hm : mn (l[i].length : Int) 10 = m at b1 b2 b3
      have ht : (l[i].take m.toNat).length ≤ 10 := by rw [List.length_take]; omega
      obtain ⟨v, h1, h2⟩ := cols_l0 hu d (i + 1) (L ++ [l[i].take m.toNat]) (by omega) (by rw [List.length_append, hL]; rfl) (fun x hx => by
        rcases List.mem_append.1 hx with hx | hx
        · exact hv x hx
        · rw [List.mem_singleton.1 hx]
          exact ⟨hr.1.take _, ht⟩)
      obtain ⟨K, hk⟩ := Ev.get h1
      refine ⟨v, Ev.mks K fun k g => ?_, h2⟩
      rw [attestorlaw11_columns.l0, if_pos c, if_pos (by omega), if_pos (by omega), rd3 hi, hm, if_pos b1, if_pos b2, if_pos (by rw [List.length_nil]; omega), if_pos (by omega), List.nil_append, w64_succ (by omega)]
      exact hk k g
    · refine ⟨L, Ev.mks 0 fun k _ => ?_, ⟨by omega, hv⟩⟩
      rw [attestorlaw11_columns.l0, if_neg c]
theorem s_columns {l : List (List Int)} (hu : ∀ v ∈ l, UL v ∧ v.length * 8 ≤ 140737488351232) : Evs (fun k => attestorlaw11_columns.f k l 34 10) (Cols 34) :=
  cols_l0 hu 34 0 [] (by omega) rfl (fun v hv => by simp at hv)
section
variable (f : Int) {A B : List (List Int)} {C : List Int} (hA : Cols 34 A) (hB : Cols 34 B) (hC : UL C)
include hA hB hC
theorem ga_j : Ev (fun k => attestorlaw11_GapArguments.j0 k f A B C) true ∧ Ev (fun k => attestorlaw11_GapArguments.j1 k f A B C) true ∧ Ev (fun k => attestorlaw11_GapArguments.j2 k f A B C) true := by
  have rA := hA.rws (by decide)
  have rB := hB.rws (by decide)
  have lA := hA.1
  have lB := hB.1
  obtain ⟨u, u1, u2⟩ := both_GEqual f rA rB (by omega) (by omega)
  obtain ⟨v, v1, v2⟩ := both_GFound f rA rB hC (by omega) (by omega)
  obtain ⟨K1, k1⟩ := Ev.get u1
  obtain ⟨K2, k2⟩ := Ev.get u2
  obtain ⟨K3, k3⟩ := Ev.get v1
  obtain ⟨K4, k4⟩ := Ev.get v2
  obtain ⟨K5, k5⟩ := Ev.get g_works
  refine ⟨Ev.mks (K1 + K2 + K3 + K4 + K5) fun k hk => ?_, Ev.mks (K1 + K2 + K3 + K4 + K5) fun k hk => ?_, Ev.mks (K1 + K2 + K3 + K4 + K5) fun k hk => ?_⟩
  · rw [attestorlaw11_GapArguments.j0, k1 k (by omega), Option.bind_some, k2 k (by omega), Option.bind_some, if_pos rfl, if_pos rfl, k3 k (by omega), Option.bind_some, k4 k (by omega), Option.bind_some, if_pos rfl, if_pos rfl, k5 k (by omega), Option.bind_some]
  · rw [attestorlaw11_GapArguments.j1, k1 k (by omega), Option.bind_some, k2 k (by omega), Option.bind_some, if_pos rfl, if_pos rfl, k3 k (by omega), Option.bind_some, k4 k (by omega), Option.bind_some, if_pos rfl, if_pos rfl, k5 k (by omega), Option.bind_some]
  · rw [attestorlaw11_GapArguments.j2, k1 k (by omega), Option.bind_some, k2 k (by omega), Option.bind_some, if_pos rfl, if_pos rfl, k3 k (by omega), Option.bind_some, k4 k (by omega), Option.bind_some, if_pos rfl, if_pos rfl, k5 k (by omega), Option.bind_some]
end
theorem GapArguments (f : Int) (l1 : List Int) (l2 l3 : List (List Int)) (l4 : List Int) (_ : (Lit.int .i64 f).wf = true) (_ : l1.length * 8 ≤ 140737488351232) (w1 : ∀ x ∈ l1, (Lit.int .u64 x).wf = true)
    (w2 : ∀ r ∈ l2, r.length * 8 ≤ 140737488351232 ∧ ∀ z ∈ r, (Lit.int .u64 z).wf = true) (w3 : ∀ r ∈ l3, r.length * 8 ≤ 140737488351232 ∧ ∀ z ∈ r, (Lit.int .u64 z).wf = true) (_ : l4.length * 8 ≤ 140737488351232) (w4 : ∀ x ∈ l4, (Lit.int .u64 x).wf = true) :
    ∃ k, attestorlaw11_GapArguments.f k f l1 l2 l3 l4 = some true := by
  obtain ⟨A, a1, hA⟩ := s_columns (l := l2) fun v hv => ⟨UL.of_wf (w2 v hv).2, (w2 v hv).1⟩
  obtain ⟨B, b1, hB⟩ := s_columns (l := l3) fun v hv => ⟨UL.of_wf (w3 v hv).2, (w3 v hv).1⟩
  obtain ⟨m1, m2, m3⟩ := mn_b (a := (l1.length : Int)) (K := 40) (Int.natCast_nonneg _) (by decide)
  obtain ⟨n1, n2, n3⟩ := mn_b (a := (l4.length : Int)) (K := 34) (Int.natCast_nonneg _) (by decide)
  obtain ⟨p1, p2, p3⟩ := mn_b (a := (A.length : Int)) (K := 6) (Int.natCast_nonneg _) (by decide)
  obtain ⟨q1, q2, q3⟩ := mn_b (a := (B.length : Int)) (K := 6) (Int.natCast_nonneg _) (by decide)
  generalize hm : mn (l1.length : Int) 40 = m at m1 m2 m3
  generalize hn : mn (l4.length : Int) 34 = n at n1 n2 n3
  generalize hp : mn (A.length : Int) 6 = p at p1 p2 p3
  generalize hq : mn (B.length : Int) 6 = q at q1 q2 q3
  obtain ⟨r1, r2, r3⟩ := mn_b (a := ((l4.take n.toNat).length : Int)) (K := 6) (Int.natCast_nonneg _) (by decide)
  generalize hr : mn ((l4.take n.toNat).length : Int) 6 = r at r1 r2 r3
  have uC : UL (l4.take n.toNat) := (UL.of_wf w4).take _
  obtain ⟨v, v1, v2⟩ := both_GRoots f (l := l1.take m.toNat) (by rw [List.length_take]; omega) ((UL.of_wf w1).take _)
  obtain ⟨K1, k1⟩ := Ev.get a1
  obtain ⟨K2, k2⟩ := Ev.get b1
  obtain ⟨K3, k3⟩ := Ev.get v1
  obtain ⟨K4, k4⟩ := Ev.get v2
  obtain ⟨K5, k5⟩ := Ev.get (ga_j f (hA.take p.toNat) (hB.take q.toNat) (uC.take r.toNat)).1
  obtain ⟨K6, k6⟩ := Ev.get (ga_j f hA hB uC).2.1
  obtain ⟨K7, k7⟩ := Ev.get (ga_j f hA hB uC).2.2
  refine Ev.ex (F := fun k => attestorlaw11_GapArguments.f k f l1 l2 l3 l4) (Ev.mk (K1 + K2 + K3 + K4 + K5 + K6 + K7) fun k g => ?_)
  rw [attestorlaw11_GapArguments.f, hm, if_pos m1, if_pos m2, k1 k (by omega), Option.bind_some, k2 k (by omega), Option.bind_some, hn, if_pos n1, if_pos n2]
  by_cases c1 : (A.length : Int) ≤ 32
  · rw [if_pos c1]
    by_cases c2 : (B.length : Int) ≤ 32
    · rw [if_pos c2, hp, hq, hr, if_pos p1, if_pos p2, if_pos q1, if_pos q2, if_pos r1, if_pos r2, k3 k (by omega), Option.bind_some, k4 k (by omega), Option.bind_some, if_pos rfl, if_pos rfl]
      exact k5 k (by omega)
    · rw [if_neg c2, k3 k (by omega), Option.bind_some, k4 k (by omega), Option.bind_some, if_pos rfl, if_pos rfl]
      exact k6 k (by omega)
  · rw [if_neg c1, k3 k (by omega), Option.bind_some, k4 k (by omega), Option.bind_some, if_pos rfl, if_pos rfl]
    exact k7 k (by omega)
end Go.Proofs.YtbjeemlbjkmhiaaDoor.Pure

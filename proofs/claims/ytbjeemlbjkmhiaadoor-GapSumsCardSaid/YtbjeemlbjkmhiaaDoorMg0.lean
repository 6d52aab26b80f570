/- Whole numbers modulo a prime, in plain words: congruence, Euclid's lemma, the four primes, Fermat's little theorem. No program in sight. -/
import Derived.Test.YtbjeemlbjkmhiaaDoorQ0
import Derived.Test.YtbjeemlbjkmhiaaDoorQ1
import Derived.Test.YtbjeemlbjkmhiaaDoorQ14
import Derived.Test.YtbjeemlbjkmhiaaDoorQ4
import Derived.Test.YtbjeemlbjkmhiaaDoorQ9
import Derived.Test.YtbjeemlbjkmhiaaDoorQ3
import Derived.Laws.BitsAllLaws
import Derived.Test.YtbjeemlbjkmhiaaDoorQ2
import Derived.Laws.Strings
import Derived.Lib.SplitLaws
import Derived.Lib.CountLaws
import Derived.Test.YtbjeemlbjkmhiaaDoorQ6
import Derived.Test.YtbjeemlbjkmhiaaDoorQ7
import Derived.Test.YtbjeemlbjkmhiaaDoorQ8
import Derived.Test.YtbjeemlbjkmhiaaDoorQ5
import Derived.Test.YtbjeemlbjkmhiaaDoorQ11
import Derived.Test.YtbjeemlbjkmhiaaDoorQ12
import Derived.Test.YtbjeemlbjkmhiaaDoorQ10
namespace Go.Proofs.YtbjeemlbjkmhiaaDoor.Num

def Cg (p a b : Int) : Prop := ∃ k, a = b + p * k

theorem Cg.refl (p a : Int) : Cg p a a := ⟨0, by simp⟩
theorem Cg.of_eq {p a b : Int} (h : a = b) : Cg p a b := ⟨0, by simp [h]⟩
theorem Cg.symm {p a b : Int} (h : Cg p a b) : Cg p b a := let ⟨k, e⟩ := h; ⟨-k, by rw [e]; grind⟩
theorem Cg.trans {p a b c : Int} (h : Cg p a b) (g : Cg p b c) : Cg p a c := let ⟨k, e⟩ := h; let ⟨l, f⟩ := g; ⟨k + l, by rw [e, f]; grind⟩
theorem Cg.add {p a b c d : Int} (h : Cg p a b) (g : Cg p c d) : Cg p (a + c) (b + d) := let ⟨k, e⟩ := h; let ⟨l, f⟩ := g; ⟨k + l, by rw [e, f]; grind⟩
theorem Cg.sub {p a b c d : Int} (h : Cg p a b) (g : Cg p c d) : Cg p (a - c) (b - d) := let ⟨k, e⟩ := h; let ⟨l, f⟩ := g; ⟨k - l, by rw [e, f]; grind⟩
theorem Cg.mul {p a b c d : Int} (h : Cg p a b) (g : Cg p c d) : Cg p (a * c) (b * d) := let ⟨k, e⟩ := h; let ⟨l, f⟩ := g; ⟨k * d + b * l + p * k * l, by rw [e, f]; grind⟩
theorem Cg.pow {p a b : Int} (h : Cg p a b) : ∀ n : Nat, Cg p (a ^ n) (b ^ n)
  | 0 => by simpa using Cg.refl p 1
  | n + 1 => by rw [Int.pow_succ, Int.pow_succ]; exact (Cg.pow h n).mul h
theorem Cg.mod (p a : Int) : Cg p (a % p) a := ⟨-(a / p), by have := Int.emod_add_mul_ediv a p; grind⟩
theorem Cg.zero_of_dvd {p a : Int} (h : p ∣ a) : Cg p a 0 := let ⟨k, e⟩ := h; ⟨k, by rw [e]; grind⟩
theorem Cg.dvd {p a : Int} (h : Cg p a 0) : p ∣ a := let ⟨k, e⟩ := h; ⟨k, by rw [e]; grind⟩
theorem Cg.sub_zero {p a b : Int} (h : Cg p a b) : Cg p (a - b) 0 := let ⟨k, e⟩ := h; ⟨k, by rw [e]; grind⟩
theorem Cg.of_sub {p a b : Int} (h : Cg p (a - b) 0) : Cg p a b := let ⟨k, e⟩ := h; ⟨k, by grind⟩
theorem Cg.mod_eq {p a b : Int} (h : Cg p a b) : a % p = b % p := by
  obtain ⟨k, e⟩ := h
  rw [e, Int.add_mul_emod_self_left]
theorem Cg.of_mod {p a b : Int} (h : a % p = b % p) : Cg p a b := ((Cg.mod p a).symm.trans (Cg.of_eq h)).trans (Cg.mod p b)
theorem Cg.uniq {p a b : Int} (h : Cg p a b) (ha : 0 ≤ a) (ha' : a < p) (hb : 0 ≤ b) (hb' : b < p) : a = b := by
  have := h.mod_eq
  rwa [Int.emod_eq_of_lt ha ha', Int.emod_eq_of_lt hb hb'] at this
theorem mod_nonneg {p : Int} (hp : 0 < p) (a : Int) : 0 ≤ a % p := Int.emod_nonneg _ (by omega)
theorem mod_lt {p : Int} (hp : 0 < p) (a : Int) : a % p < p := Int.emod_lt_of_pos _ hp
theorem mod_eq_zero {p a : Int} : a % p = 0 ↔ Cg p a 0 := ⟨fun h => Cg.zero_of_dvd (Int.dvd_of_emod_eq_zero h), fun h => Int.emod_eq_zero_of_dvd h.dvd⟩

structure Pr (p : Nat) : Prop where
  two : 2 ≤ p
  div : ∀ d, d ∣ p → d = 1 ∨ d = p

theorem Pr.nat {p : Nat} (h : Pr p) {a b : Nat} (hd : p ∣ a * b) : p ∣ a ∨ p ∣ b := by
  rcases h.div (Nat.gcd p a) (Nat.gcd_dvd_left p a) with e | e
  · exact Or.inr (Nat.Coprime.dvd_of_dvd_mul_left e hd)
  · exact Or.inl (e ▸ Nat.gcd_dvd_right p a)
theorem Pr.int {p : Nat} (h : Pr p) {a b : Int} (hd : Cg p (a * b) 0) : Cg p a 0 ∨ Cg p b 0 := by
  have h1 : p ∣ a.natAbs * b.natAbs := by
    rw [← Int.natAbs_mul]
    exact Int.ofNat_dvd_left.1 hd.dvd
  rcases h.nat h1 with e | e
  · exact Or.inl (Cg.zero_of_dvd (Int.ofNat_dvd_left.2 e))
  · exact Or.inr (Cg.zero_of_dvd (Int.ofNat_dvd_left.2 e))
theorem Pr.pos {p : Nat} (h : Pr p) : (0 : Int) < p := by have := h.two; omega

def noDiv (n : Nat) : Nat → Nat → Bool
  | 0, lo => n % lo != 0 || Nat.ble n lo || Nat.ble lo 1
  | f + 1, lo => noDiv n f lo && noDiv n f (lo + 2 ^ f)
theorem noDiv_spec {n : Nat} : ∀ (f lo : Nat), noDiv n f lo = true → ∀ d, lo ≤ d → d < lo + 2 ^ f → d ∣ n → d = 1 ∨ n ≤ d ∨ d = 0
  | 0, lo, h, d, h1, h2, hd => by
    obtain rfl : d = lo := by simp at h2; omega
    simp only [noDiv, Bool.or_eq_true, bne_iff_ne, ne_eq, Nat.ble_eq] at h
    rcases h with (h | h) | h
    · exact absurd (Nat.mod_eq_zero_of_dvd hd) h
    · exact Or.inr (Or.inl h)
    · omega
  | f + 1, lo, h, d, h1, h2, hd => by
    simp only [noDiv, Bool.and_eq_true] at h
    rw [Nat.pow_succ] at h2
    by_cases hlt : d < lo + 2 ^ f
    · exact noDiv_spec f lo h.1 d h1 hlt hd
    · exact noDiv_spec f _ h.2 d (by omega) (by omega) hd
theorem Pr.of_noDiv {n f : Nat} (h2 : 2 ≤ n) (hf : n < (2 ^ f) * (2 ^ f)) (h : noDiv n f 2 = true) : Pr n := by
  refine ⟨h2, fun d hd => ?_⟩
  obtain ⟨e, he⟩ := hd
  have hd0 : d ≠ 0 := by rintro rfl; simp at he; omega
  have he0 : e ≠ 0 := by rintro rfl; simp at he; omega
  rcases Nat.lt_or_ge d (2 ^ f) with hl | hl
  · by_cases h1 : d = 1
    · exact Or.inl h1
    · rcases noDiv_spec f 2 h d (by omega) (by omega) ⟨e, he⟩ with h3 | h3 | h3
      · exact Or.inl h3
      · have : d ≤ n := Nat.le_of_dvd (by omega) ⟨e, he⟩
        exact Or.inr (by omega)
      · exact absurd h3 hd0
  · rcases Nat.lt_or_ge e (2 ^ f) with hl' | hl'
    · by_cases h1 : e = 1
      · subst h1; exact Or.inr (by omega)
      · rcases noDiv_spec f 2 h e (by omega) (by omega) ⟨d, by rw [Nat.mul_comm]; exact he⟩ with h3 | h3 | h3
        · exact absurd h3 h1
        · have : e ≤ n := Nat.le_of_dvd (by omega) ⟨d, by rw [Nat.mul_comm]; exact he⟩
          have hen : e = n := by omega
          have hp : 0 < n := by omega
          rw [hen] at he
          have h4 : d * n = 1 * n := by omega
          exact Or.inl (Nat.eq_of_mul_eq_mul_right hp h4)
        · exact absurd h3 he0
    · have := Nat.mul_le_mul hl hl'
      omega
theorem pr97 : Pr 97 := Pr.of_noDiv (f := 4) (by decide) (by decide) (by decide +kernel)
theorem pr257 : Pr 257 := Pr.of_noDiv (f := 5) (by decide) (by decide) (by decide +kernel)
theorem pr12289 : Pr 12289 := Pr.of_noDiv (f := 7) (by decide) (by decide) (by decide +kernel)
theorem pr998244353 : Pr 998244353 := Pr.of_noDiv (f := 15) (by decide) (by decide) (by decide +kernel)

def ch : Nat → Nat → Nat
  | _, 0 => 1
  | 0, _ + 1 => 0
  | n + 1, k + 1 => ch n k + ch n (k + 1)
theorem ch_zero (n : Nat) : ch n 0 = 1 := by cases n <;> rfl
theorem ch_over : ∀ (n k : Nat), n < k → ch n k = 0
  | 0, k + 1, _ => rfl
  | n + 1, k + 1, h => by simp only [ch]; rw [ch_over n k (by omega), ch_over n (k + 1) (by omega)]
theorem ch_self : ∀ n : Nat, ch n n = 1
  | 0 => rfl
  | n + 1 => by simp only [ch]; rw [ch_self n, ch_over n (n + 1) (by omega)]
theorem ch_mul : ∀ (n k : Nat), (k + 1) * ch (n + 1) (k + 1) = (n + 1) * ch n k
  | 0, 0 => rfl
  | 0, k + 1 => by simp [ch]
  | n + 1, 0 => by
    have h := ch_mul n 0
    simp only [ch, ch_zero] at h ⊢
    omega
  | n + 1, k + 1 => by
    have h1 := ch_mul n k
    have h2 := ch_mul n (k + 1)
    simp only [ch] at h1 h2 ⊢
    grind
theorem pr_ch {p : Nat} (h : Pr p) (k : Nat) (h0 : 0 < k) (hk : k < p) : p ∣ ch p k := by
  obtain ⟨n, rfl⟩ : ∃ n, p = n + 1 := ⟨p - 1, by omega⟩
  obtain ⟨j, rfl⟩ : ∃ j, k = j + 1 := ⟨k - 1, by omega⟩
  have h1 := ch_mul n j
  rcases h.nat (a := j + 1) (b := ch (n + 1) (j + 1)) ⟨_, h1⟩ with e | e
  · have := Nat.le_of_dvd (by omega) e; omega
  · exact e
def bin (n : Nat) (x : Int) : Nat → Int
  | 0 => 0
  | m + 1 => bin n x m + (ch n m : Int) * x ^ m
theorem bin_succ (n : Nat) (x : Int) : ∀ m, bin (n + 1) x (m + 1) = bin n x (m + 1) + x * bin n x m
  | 0 => by simp [bin, ch_zero]
  | m + 1 => by
    have h := bin_succ n x m
    simp only [bin] at h ⊢
    simp only [ch] at h ⊢
    rw [h]
    have : (x : Int) ^ (m + 1) = x ^ m * x := Int.pow_succ x m
    rw [this]
    simp only [Int.natCast_add]
    grind
theorem bin_pow (x : Int) : ∀ n, (1 + x) ^ n = bin n x (n + 1)
  | 0 => by simp [bin, ch]
  | n + 1 => by
    rw [Int.pow_succ, bin_pow x n, bin_succ n x (n + 1)]
    have : bin n x (n + 1 + 1) = bin n x (n + 1) := by
      simp only [bin]; rw [ch_over n (n + 1) (by omega)]; simp
    rw [this]
    grind
theorem bin_cg {p : Nat} (h : Pr p) (x : Int) : ∀ m, m + 1 ≤ p → Cg p (bin p x (m + 1)) 1
  | 0, _ => by simp [bin, ch_zero]; exact Cg.refl _ _
  | m + 1, hm => by
    have ih := bin_cg h x m (by omega)
    rw [show bin p x (m + 1 + 1) = bin p x (m + 1) + (ch p (m + 1) : Int) * x ^ (m + 1) from rfl]
    obtain ⟨c, hc⟩ := pr_ch h (m + 1) (by omega) (by omega)
    obtain ⟨k, hk⟩ := ih
    refine ⟨k + c * x ^ (m + 1), ?_⟩
    rw [hk, hc, Int.natCast_mul]
    grind
theorem pow_one_add {p : Nat} (h : Pr p) (x : Int) : Cg p ((1 + x) ^ p) (1 + x ^ p) := by
  rw [bin_pow]
  obtain ⟨m, hm⟩ : ∃ m, p = m + 1 := ⟨p - 1, by have := h.two; omega⟩
  have h1 := bin_cg h x m (by omega)
  rw [show bin p x (p + 1) = bin p x p + (ch p p : Int) * x ^ p from rfl, ch_self]
  rw [← hm] at h1
  simpa using h1.add (Cg.refl _ (x ^ p))
theorem flt_nat {p : Nat} (h : Pr p) : ∀ a : Nat, Cg p ((a : Int) ^ p) a
  | 0 => by
    have := h.two
    rw [show ((0 : Nat) : Int) = 0 from rfl, Int.zero_pow (by omega)]
    exact Cg.refl _ _
  | a + 1 => by
    have e : ((a + 1 : Nat) : Int) = 1 + (a : Int) := by omega
    rw [e]
    exact (pow_one_add h a).trans ((Cg.refl _ 1).add (flt_nat h a))
theorem flt {p : Nat} (h : Pr p) (a : Int) : Cg p (a ^ p) a := by
  have hp := h.pos
  have h1 : Cg p (a % p) a := Cg.mod _ _
  have h2 := flt_nat h (a % p).toNat
  rw [Int.toNat_of_nonneg (mod_nonneg hp a)] at h2
  exact ((h1.pow p).symm.trans h2).trans h1
theorem inv_pow {p : Nat} (h : Pr p) {a : Int} (ha : ¬ Cg p a 0) : Cg p (a * a ^ (p - 2)) 1 := by
  have h2 := h.two
  have h1 := flt h a
  have e : a ^ p = a * (a * a ^ (p - 2)) := by
    obtain ⟨m, rfl⟩ : ∃ m, p = m + 2 := ⟨p - 2, by omega⟩
    rw [Int.pow_succ, Int.pow_succ]
    simp only [Nat.add_sub_cancel]
    grind
  rw [e] at h1
  have h3 : Cg p (a * (a * a ^ (p - 2) - 1)) 0 := by
    obtain ⟨k, hk⟩ := h1
    exact ⟨k, by grind⟩
  rcases h.int h3 with e | e
  · exact absurd e ha
  · exact Cg.of_sub e
theorem inv_uniq {p : Nat} {a b c : Int} (hb : Cg p (a * b) 1) (hc : Cg p (a * c) 1) : Cg p b c := by
  have h1 : Cg p (b * (a * c)) (b * 1) := (Cg.refl _ b).mul hc
  have h2 : Cg p (c * (a * b)) (c * 1) := (Cg.refl _ c).mul hb
  have e : b * (a * c) = c * (a * b) := by grind
  rw [Int.mul_one] at h1 h2
  exact h1.symm.trans ((Cg.of_eq e).trans h2)
end Go.Proofs.YtbjeemlbjkmhiaaDoor.Num
namespace Go.Proofs.YtbjeemlbjkmhiaaDoor.Pol
open Num

def co (l : List Int) (i : Nat) : Int := l.getD i 0
def ev : List Int → Int → Int
  | [], _ => 0
  | c :: t, x => c + x * ev t x
def padd : List Int → List Int → List Int
  | [], b => b
  | x :: a, [] => x :: a
  | x :: a, y :: b => (x + y) :: padd a b
def psc (c : Int) (l : List Int) : List Int := l.map (c * ·)
def pmul : List Int → List Int → List Int
  | [], _ => []
  | c :: t, b => padd (psc c b) (0 :: pmul t b)
def psub (a b : List Int) : List Int := padd a (psc (-1) b)

@[simp] theorem co_nil (i : Nat) : co [] i = 0 := by simp [co]
@[simp] theorem co_cons_zero (c : Int) (t : List Int) : co (c :: t) 0 = c := by simp [co]
@[simp] theorem co_cons_succ (c : Int) (t : List Int) (i : Nat) : co (c :: t) (i + 1) = co t i := by simp [co]
theorem co_over {l : List Int} {i : Nat} (h : l.length ≤ i) : co l i = 0 := by simp [co, List.getD, List.getElem?_eq_none h]
theorem co_lt {l : List Int} {i : Nat} (h : i < l.length) : co l i = l[i] := by simp [co, List.getD, h]
theorem co_mem {l : List Int} {i : Nat} (h : i < l.length) : co l i ∈ l := by rw [co_lt h]; exact List.getElem_mem h
theorem co_padd : ∀ (a b : List Int) (i : Nat), co (padd a b) i = co a i + co b i
  | [], b, i => by simp [padd]
  | x :: a, [], i => by simp [padd]
  | x :: a, y :: b, 0 => by simp [padd]
  | x :: a, y :: b, i + 1 => by simp only [padd, co_cons_succ]; exact co_padd a b i
theorem co_psc (c : Int) : ∀ (l : List Int) (i : Nat), co (psc c l) i = c * co l i
  | [], i => by simp [psc]
  | x :: l, 0 => by simp [psc]
  | x :: l, i + 1 => by have := co_psc c l i; simp only [psc, List.map_cons, co_cons_succ] at this ⊢; exact this
theorem co_psub (a b : List Int) (i : Nat) : co (psub a b) i = co a i - co b i := by rw [psub, co_padd, co_psc]; omega
theorem co_pmul_zero' (c : Int) (t b : List Int) : co (pmul (c :: t) b) 0 = c * co b 0 := by simp [pmul, co_padd, co_psc]
theorem co_pmul_succ (c : Int) (t b : List Int) (i : Nat) : co (pmul (c :: t) b) (i + 1) = c * co b (i + 1) + co (pmul t b) i := by simp [pmul, co_padd, co_psc]
theorem ev_padd (x : Int) : ∀ a b : List Int, ev (padd a b) x = ev a x + ev b x
  | [], b => by simp [padd, ev]
  | c :: a, [] => by simp [padd, ev]
  | c :: a, d :: b => by simp only [padd, ev, ev_padd x a b]; grind
theorem ev_psc (x c : Int) : ∀ l : List Int, ev (psc c l) x = c * ev l x
  | [] => by simp [psc, ev]
  | d :: l => by
    have := ev_psc x c l
    simp only [psc, List.map_cons, ev] at this ⊢
    rw [this]; grind
theorem ev_pmul (x : Int) : ∀ a b : List Int, ev (pmul a b) x = ev a x * ev b x
  | [], b => by simp [pmul, ev]
  | c :: a, b => by
    rw [pmul, ev_padd, ev_psc, ev, ev, ev_pmul x a b]; grind
theorem ev_psub (x : Int) (a b : List Int) : ev (psub a b) x = ev a x - ev b x := by rw [psub, ev_padd, ev_psc]; grind

def EqP (p : Int) (a b : List Int) : Prop := ∀ i, Cg p (co a i) (co b i)
theorem EqP.refl (p : Int) (a : List Int) : EqP p a a := fun _ => Cg.refl _ _
theorem EqP.symm {p : Int} {a b : List Int} (h : EqP p a b) : EqP p b a := fun i => (h i).symm
theorem EqP.trans {p : Int} {a b c : List Int} (h : EqP p a b) (g : EqP p b c) : EqP p a c := fun i => (h i).trans (g i)
theorem EqP.padd {p : Int} {a b c d : List Int} (h : EqP p a b) (g : EqP p c d) : EqP p (padd a c) (padd b d) := fun i => by rw [co_padd, co_padd]; exact (h i).add (g i)
theorem EqP.psc {p : Int} {a b : List Int} {c d : Int} (g : Cg p c d) (h : EqP p a b) : EqP p (psc c a) (psc d b) := fun i => by rw [co_psc, co_psc]; exact g.mul (h i)
theorem EqP.psub {p : Int} {a b c d : List Int} (h : EqP p a b) (g : EqP p c d) : EqP p (psub a c) (psub b d) := fun i => by rw [co_psub, co_psub]; exact (h i).sub (g i)
theorem EqP.tail {p c d : Int} {a b : List Int} (h : EqP p (c :: a) (d :: b)) : EqP p a b := fun i => by simpa using h (i + 1)
theorem EqP.tail_nil {p c : Int} {a : List Int} (h : EqP p (c :: a) []) : EqP p a [] := fun i => by simpa using h (i + 1)
theorem ev_zero {p : Int} (x : Int) : ∀ {a : List Int}, EqP p a [] → Cg p (ev a x) 0
  | [], _ => Cg.refl _ _
  | c :: a, h => by
    have h0 : Cg p c 0 := by simpa using h 0
    have := h0.add ((Cg.refl p x).mul (ev_zero x h.tail_nil))
    simpa [ev] using this
theorem EqP.ev {p : Int} (x : Int) : ∀ {a b : List Int}, EqP p a b → Cg p (ev a x) (ev b x)
  | [], b, h => (ev_zero x h.symm).symm
  | c :: a, [], h => ev_zero x h
  | c :: a, d :: b, h => by
    have h0 : Cg p c d := by simpa using h 0
    exact h0.add ((Cg.refl p x).mul (EqP.ev x h.tail))
theorem pmul_zero_left {p : Int} {b : List Int} : ∀ {a : List Int}, EqP p a [] → EqP p (pmul a b) []
  | [], _ => EqP.refl _ _
  | c :: a, h => by
    have h0 : Cg p c 0 := by simpa using h 0
    intro i
    cases i with
    | zero => rw [co_pmul_zero']; simpa using h0.mul (Cg.refl p (co b 0))
    | succ i =>
      rw [co_pmul_succ]
      have := (h0.mul (Cg.refl p (co b (i + 1)))).add (pmul_zero_left (b := b) h.tail_nil i)
      simpa using this
theorem EqP.pmul_left {p : Int} {b : List Int} : ∀ {a c : List Int}, EqP p a c → EqP p (pmul a b) (pmul c b)
  | [], c, h => (pmul_zero_left h.symm).symm
  | x :: a, [], h => pmul_zero_left h
  | x :: a, y :: c, h => by
    have h0 : Cg p x y := by simpa using h 0
    intro i
    cases i with
    | zero => rw [co_pmul_zero', co_pmul_zero']; exact h0.mul (Cg.refl _ _)
    | succ i => rw [co_pmul_succ, co_pmul_succ]; exact (h0.mul (Cg.refl _ _)).add (EqP.pmul_left h.tail i)
theorem EqP.pmul_right {p : Int} {b d : List Int} (h : EqP p b d) : ∀ a : List Int, EqP p (pmul a b) (pmul a d)
  | [] => EqP.refl _ _
  | x :: a => by
    intro i
    cases i with
    | zero => rw [co_pmul_zero', co_pmul_zero']; exact (Cg.refl _ _).mul (h 0)
    | succ i => rw [co_pmul_succ, co_pmul_succ]; exact ((Cg.refl _ _).mul (h _)).add (EqP.pmul_right h a i)
theorem EqP.pmul {p : Int} {a b c d : List Int} (h : EqP p a c) (g : EqP p b d) : EqP p (pmul a b) (pmul c d) := (h.pmul_left).trans (g.pmul_right c)
theorem pmul_padd_left (p : Int) (b : List Int) : ∀ a c : List Int, EqP p (pmul (padd a c) b) (padd (pmul a b) (pmul c b))
  | [], c => fun i => by rw [co_padd]; simp [padd, pmul]; exact Cg.refl _ _
  | x :: a, [] => fun i => by rw [co_padd]; simp [padd, pmul]; exact Cg.refl _ _
  | x :: a, y :: c => by
    intro i
    rw [co_padd]
    cases i with
    | zero => simp only [padd, co_pmul_zero']; exact Cg.of_eq (by grind)
    | succ i =>
      simp only [padd, co_pmul_succ]
      have h := pmul_padd_left p b a c i
      rw [co_padd] at h
      exact ((Cg.refl p _).add h).trans (Cg.of_eq (by grind))
theorem pmul_psc_left (p k : Int) (b : List Int) : ∀ a : List Int, EqP p (pmul (psc k a) b) (psc k (pmul a b))
  | [] => EqP.refl _ _
  | x :: a => by
    intro i
    have e : psc k (x :: a) = k * x :: psc k a := rfl
    rw [co_psc, e]
    cases i with
    | zero => simp only [co_pmul_zero']; exact Cg.of_eq (by grind)
    | succ i =>
      simp only [co_pmul_succ]
      have h := pmul_psc_left p k b a i
      rw [co_psc] at h
      exact ((Cg.refl p _).add h).trans (Cg.of_eq (by grind))
theorem pmul_psub_left (p : Int) (b a c : List Int) : EqP p (pmul (psub a c) b) (psub (pmul a b) (pmul c b)) := fun i => by
  have h := pmul_padd_left p b a (psc (-1) c) i
  have g := pmul_psc_left p (-1) b c i
  rw [co_padd] at h
  rw [co_psc] at g
  rw [co_psub]
  exact (h.trans ((Cg.refl p _).add g)).trans (Cg.of_eq (by grind))

def Deg (p : Int) (l : List Int) (n : Nat) : Prop := ∀ i, n ≤ i → Cg p (co l i) 0
theorem Deg.len (p : Int) (l : List Int) : Deg p l l.length := fun i h => by rw [co_over h]; exact Cg.refl _ _
theorem Deg.mono {p : Int} {l : List Int} {n m : Nat} (h : Deg p l n) (hn : n ≤ m) : Deg p l m := fun i hi => h i (Nat.le_trans hn hi)
theorem Deg.congr {p : Int} {a b : List Int} {n : Nat} (h : Deg p a n) (e : EqP p a b) : Deg p b n := fun i hi => (e i).symm.trans (h i hi)
theorem Deg.padd {p : Int} {a b : List Int} {n : Nat} (h : Deg p a n) (g : Deg p b n) : Deg p (padd a b) n := fun i hi => by
  rw [co_padd]; simpa using (h i hi).add (g i hi)
theorem Deg.psub {p : Int} {a b : List Int} {n : Nat} (h : Deg p a n) (g : Deg p b n) : Deg p (psub a b) n := fun i hi => by
  rw [co_psub]; simpa using (h i hi).sub (g i hi)
theorem Deg.psc {p c : Int} {a : List Int} {n : Nat} (h : Deg p a n) : Deg p (psc c a) n := fun i hi => by
  rw [co_psc]; simpa using (Cg.refl p c).mul (h i hi)
theorem Deg.tail {p c : Int} {a : List Int} {n : Nat} (h : Deg p (c :: a) (n + 1)) : Deg p a n := fun i hi => by simpa using h (i + 1) (by omega)
theorem Deg.nil {p : Int} {a : List Int} (h : Deg p a 0) : EqP p a [] := fun i => by simpa using h i (Nat.zero_le _)
theorem co_pmul_top {p : Int} {b : List Int} {n : Nat} (hb : Deg p b (n + 1)) : ∀ {a : List Int} {m : Nat}, Deg p a (m + 1) → Cg p (co (pmul a b) (m + n)) (co a m * co b n)
  | [], m, _ => by simp [pmul]; exact Cg.refl _ _
  | c :: t, 0, ha => by
    have ht : EqP p t [] := ha.tail.nil
    rw [Nat.zero_add, co_cons_zero]
    cases n with
    | zero => rw [co_pmul_zero']; exact Cg.refl _ _
    | succ n =>
      rw [co_pmul_succ]
      have := (Cg.refl p (c * co b (n + 1))).add (pmul_zero_left (b := b) ht n)
      simpa using this
  | c :: t, m + 1, ha => by
    rw [show m + 1 + n = (m + n) + 1 by omega, co_pmul_succ, co_cons_succ]
    have h1 := (Cg.refl p c).mul (hb (m + n + 1) (by omega))
    have := h1.add (co_pmul_top hb ha.tail)
    simpa using this
theorem Deg.pmul {p : Int} {b : List Int} {n : Nat} (hb : Deg p b (n + 1)) : ∀ {a : List Int} {m : Nat}, Deg p a m → Deg p (pmul a b) (m + n)
  | [], m, _ => fun i _ => by simp [Pol.pmul]; exact Cg.refl _ _
  | c :: t, 0, ha => fun i _ => by simpa using pmul_zero_left (b := b) ha.nil i
  | c :: t, m + 1, ha => fun i hi => by
    obtain ⟨j, rfl⟩ : ∃ j, i = j + 1 := ⟨i - 1, by omega⟩
    rw [co_pmul_succ]
    have h1 := (Cg.refl p c).mul (hb (j + 1) (by omega))
    have := h1.add (Deg.pmul hb ha.tail j (by omega))
    simpa using this

theorem div_uniq {p : Nat} (hp : Pr p) {q q' b r r' : List Int} {n : Nat} (hb : Deg p b (n + 1)) (hl : ¬ Cg p (co b n) 0) (hr : Deg p r n) (hr' : Deg p r' n)
    (h : EqP p (padd (pmul q b) r) (padd (pmul q' b) r')) : EqP p q q' ∧ EqP p r r' := by
  have hd : ∀ i, n ≤ i → Cg p (co (pmul (psub q q') b) i) 0 := fun i hi => by
    have h1 := pmul_psub_left p b q q' i
    have h2 := h i
    rw [co_padd, co_padd] at h2
    rw [co_psub] at h1
    have h3 := (hr' i hi).sub (hr i hi)
    have h4 : Cg p (co (pmul q b) i - co (pmul q' b) i) (co r' i - co r i) := by
      obtain ⟨k, hk⟩ := h2
      exact ⟨k, by grind⟩
    simpa using (h1.trans h4).trans h3
  have hz : ∀ N, Deg p (psub q q') N → EqP p (psub q q') [] := by
    intro N
    induction N with
    | zero => exact Deg.nil
    | succ N ih =>
      intro hN
      refine ih fun i hi => ?_
      by_cases e : i = N
      · subst e
        have h1 := (co_pmul_top hb hN).symm.trans (hd (i + n) (by omega))
        rcases hp.int h1 with h2 | h2
        · exact h2
        · exact absurd h2 hl
      · exact hN i (by omega)
  have hq0 := hz _ (Deg.len p _)
  have hq : EqP p q q' := fun i => by
    have := hq0 i
    rw [co_psub, co_nil] at this
    exact Cg.of_sub this
  refine ⟨hq, fun i => ?_⟩
  have h1 := h i
  have h2 := hq.pmul_left (b := b) i
  rw [co_padd, co_padd] at h1
  have := h1.sub h2
  have e1 : co (pmul q b) i + co r i - co (pmul q b) i = co r i := by omega
  have e2 : co (pmul q' b) i + co r' i - co (pmul q' b) i = co r' i := by omega
  rwa [e1, e2] at this

def quo : List Int → Int → List Int
  | [], _ => []
  | _ :: t, r => ev t r :: quo t r
theorem quo_ev (x r : Int) : ∀ a : List Int, ev a x = ev a r + (x - r) * ev (quo a r) x
  | [] => by simp [ev, quo]
  | c :: t => by
    have h := quo_ev x r t
    simp only [ev, quo]
    rw [h]; grind
theorem quo_co (r : Int) : ∀ (a : List Int) (i : Nat), co (quo a r) i = ev (a.drop (i + 1)) r
  | [], i => by simp [quo, ev]
  | c :: t, 0 => by simp [quo]
  | c :: t, i + 1 => by simp only [quo, co_cons_succ, List.drop_succ_cons]; exact quo_co r t i
theorem co_drop (a : List Int) (k i : Nat) : co (a.drop k) i = co a (k + i) := by simp [co, List.getD]
theorem ev_step (r : Int) : ∀ (a : List Int) (i : Nat), ev (a.drop i) r = co a i + r * ev (a.drop (i + 1)) r
  | [], i => by simp [ev]
  | c :: t, 0 => by simp [ev]
  | c :: t, i + 1 => by simp only [List.drop_succ_cons, co_cons_succ]; exact ev_step r t i
theorem Deg.quo {p : Int} {a : List Int} {n : Nat} (h : Deg p a (n + 1)) (r : Int) : Deg p (quo a r) n := fun i hi => by
  rw [quo_co]
  refine ev_zero r fun j => ?_
  rw [co_drop]
  simpa using h (i + 1 + j) (by omega)
def Apart (p : Int) : List Int → Prop
  | [] => True
  | x :: l => (∀ y ∈ l, ¬ Cg p x y) ∧ Apart p l
theorem roots {p : Nat} (hp : Pr p) : ∀ (xs : List Int) (a : List Int), Apart p xs → Deg p a xs.length → (∀ x ∈ xs, Cg p (ev a x) 0) → EqP p a []
  | [], a, _, hd, _ => hd.nil
  | r :: xs, a, hx, hd, hr => by
    have h0 := hr r (List.mem_cons_self ..)
    have hq : EqP p (quo a r) [] := by
      refine roots hp xs (quo a r) hx.2 (hd.quo r) fun x hxm => ?_
      have h1 := hr x (List.mem_cons_of_mem _ hxm)
      rw [quo_ev x r a] at h1
      have h2 : Cg p ((x - r) * ev (quo a r) x) 0 := by
        have := h1.sub h0
        have e : ev a r + (x - r) * ev (quo a r) x - ev a r = (x - r) * ev (quo a r) x := by omega
        rw [e] at this
        simpa using this
      rcases hp.int h2 with h3 | h3
      · exact absurd (Cg.of_sub h3).symm (hx.1 x hxm)
      · exact h3
    intro i
    have h1 : ∀ i, Cg p (ev (a.drop (i + 1)) r) 0 := fun i => by
      have := hq i
      rwa [quo_co, co_nil] at this
    have h2 : Cg p (ev (a.drop i) r) 0 := by
      cases i with
      | zero => simpa using h0
      | succ i => exact h1 i
    have h3 := ev_step r a i
    have h4 := h2.sub ((Cg.refl p r).mul (h1 i))
    have e : ev (a.drop i) r - r * ev (a.drop (i + 1)) r = co a i := by omega
    rw [e] at h4
    simpa using h4
def trm : List Int → List Int
  | [] => []
  | c :: t => if trm t = [] ∧ c = 0 then [] else c :: trm t
def Lz (l : List Int) : Prop := ∀ n, l.length = n + 1 → co l n ≠ 0
theorem Lz.eq {a b : List Int} (ha : Lz a) (hb : Lz b) (h : ∀ i, co a i = co b i) : a = b := by
  have hl : a.length = b.length := by
    rcases Nat.lt_trichotomy a.length b.length with e | e | e
    · obtain ⟨n, hn⟩ : ∃ n, b.length = n + 1 := ⟨b.length - 1, by omega⟩
      exact absurd ((h n).symm.trans (co_over (by omega))) (hb n hn)
    · exact e
    · obtain ⟨n, hn⟩ : ∃ n, a.length = n + 1 := ⟨a.length - 1, by omega⟩
      exact absurd ((h n).trans (co_over (by omega))) (ha n hn)
  refine List.ext_getElem hl fun i h1 h2 => ?_
  have := h i
  rwa [co_lt h1, co_lt h2] at this
theorem trm_co : ∀ (l : List Int) (i : Nat), co (trm l) i = co l i
  | [], i => rfl
  | c :: t, i => by
    have ih := trm_co t
    unfold trm
    split
    · rename_i h
      cases i with
      | zero => simp [h.2]
      | succ i => have := ih i; rw [h.1] at this; simpa using this
    · cases i with
      | zero => simp
      | succ i => simpa using ih i
theorem trm_lz : ∀ l : List Int, Lz (trm l)
  | [] => fun n h => by simp [trm] at h
  | c :: t => by
    have ih := trm_lz t
    unfold trm
    split
    · intro n h; simp at h
    · rename_i hc
      intro n h
      cases n with
      | zero =>
        have : trm t = [] := by simpa using h
        intro h0
        exact hc ⟨this, by simpa using h0⟩
      | succ n => rw [co_cons_succ]; exact ih n (by simpa using h)
def nrm (p : Int) (l : List Int) : List Int := trm (l.map (· % p))
theorem co_map_mod (p : Int) : ∀ (l : List Int) (i : Nat), co (l.map (· % p)) i = co l i % p
  | [], i => by simp
  | c :: t, 0 => by simp
  | c :: t, i + 1 => by simpa using co_map_mod p t i
theorem nrm_co (p : Int) (l : List Int) (i : Nat) : co (nrm p l) i = co l i % p := by rw [nrm, trm_co, co_map_mod]
structure Nf (p : Int) (l : List Int) : Prop where
  rng : ∀ i, 0 ≤ co l i ∧ co l i < p
  lz : Lz l
theorem nrm_nf {p : Int} (hp : 0 < p) (l : List Int) : Nf p (nrm p l) := ⟨fun i => by rw [nrm_co]; exact ⟨mod_nonneg hp _, mod_lt hp _⟩, trm_lz _⟩
theorem Nf.eq {p : Int} {a b : List Int} (ha : Nf p a) (hb : Nf p b) (h : EqP p a b) : a = b :=
  ha.lz.eq hb.lz fun i => (h i).uniq (ha.rng i).1 (ha.rng i).2 (hb.rng i).1 (hb.rng i).2
theorem nrm_deg {p : Int} (hp : 0 < p) {l : List Int} {n : Nat} (h : Deg p l n) : (nrm p l).length ≤ n := by
  rcases Nat.lt_or_ge n (nrm p l).length with e | e
  · obtain ⟨m, hm⟩ : ∃ m, (nrm p l).length = m + 1 := ⟨(nrm p l).length - 1, by omega⟩
    refine absurd ?_ ((nrm_nf hp l).lz m hm)
    rw [nrm_co]
    exact mod_eq_zero.2 (h m (by omega))
  · exact e
def Mon (v : List Int) (n : Nat) : Prop := co v n = 1 ∧ ∀ i, n < i → co v i = 0
theorem Mon.one : Mon [1] 0 := ⟨by simp, fun i hi => co_over (by simp; omega)⟩
theorem Mon.deg {p : Int} {v : List Int} {n : Nat} (h : Mon v n) : Deg p v (n + 1) := fun i hi => by rw [h.2 i (by omega)]; exact Cg.refl _ _
theorem Mon.length {p : Int} (hp : 1 < p) {v : List Int} {n : Nat} (h : Mon v n) : (nrm p v).length = n + 1 := by
  have h1 := nrm_deg (by omega) (h.deg (p := p))
  rcases Nat.lt_or_ge n (nrm p v).length with e | e
  · omega
  · have := nrm_co p v n
    rw [co_over e, h.1, Int.emod_eq_of_lt (by omega) hp] at this
    omega
end Go.Proofs.YtbjeemlbjkmhiaaDoor.Pol
namespace Go.Proofs.YtbjeemlbjkmhiaaDoor.Pure
open Go.RowKit Go.Proofs.YtbjeemlbjkmhiaaDoor.Q Go.Proofs.YtbjeemlbjkmhiaaDoor.Num Go.Proofs.YtbjeemlbjkmhiaaDoor.Pol Go.Proofs.YtbjeemlbjkmhiaaDoorW.PrintWords Go.Proofs.YtbjeemlbjkmhiaaDoorW.PrintLast Go.Proofs.YtbjeemlbjkmhiaaDoorW.PrintMore

def Ev {α : Type} (F : Nat → Option α) (v : α) : Prop := ∃ K, ∀ k, K ≤ k → F k = some v
theorem Ev.all {α : Type} {F : Nat → Option α} {v : α} (h : ∀ k, F k = some v) : Ev F v := ⟨0, fun k _ => h k⟩
theorem Ev.mk {α : Type} {F : Nat → Option α} {v : α} (K : Nat) (h : ∀ k, K ≤ k → F k = some v) : Ev F v := ⟨K, h⟩
theorem Ev.mks {α : Type} {F : Nat → Option α} {v : α} (K : Nat) (h : ∀ k, K ≤ k → F (k + 1) = some v) : Ev F v := ⟨K + 1, fun k hk => by
  obtain ⟨k, rfl⟩ : ∃ k', k = k' + 1 := ⟨k - 1, by omega⟩
  exact h k (by omega)⟩
theorem Ev.get {α : Type} {F : Nat → Option α} {v : α} (h : Ev F v) : ∃ K, ∀ k, K ≤ k → F k = some v := h
theorem Ev.ex {α : Type} {F : Nat → Option α} {v : α} (h : Ev F v) : ∃ k, F k = some v := let ⟨K, hK⟩ := h; ⟨K, hK K (Nat.le_refl _)⟩
theorem Ev.succ {α : Type} {F G : Nat → Option α} {v : α} (h : ∀ k, G (k + 1) = F k) (hF : Ev F v) : Ev G v := by
  obtain ⟨K, hK⟩ := hF
  refine ⟨K + 1, fun k hk => ?_⟩
  obtain ⟨j, rfl⟩ : ∃ j, k = j + 1 := ⟨k - 1, by omega⟩
  rw [h]
  exact hK j (by omega)
theorem Ev.congr {α : Type} {F G : Nat → Option α} {v : α} (h : ∀ k, G k = F k) (hF : Ev F v) : Ev G v := by
  obtain ⟨K, hK⟩ := hF
  exact ⟨K, fun k hk => (h k).trans (hK k hk)⟩
theorem Ev.bind {α β : Type} {F : Nat → Option α} {G : Nat → α → Option β} {a : α} {b : β} (hF : Ev F a) (hG : Ev (fun k => G k a) b) : Ev (fun k => (F k).bind (G k)) b := by
  obtain ⟨K, hK⟩ := hF
  obtain ⟨L, hL⟩ := hG
  refine ⟨max K L, fun k hk => ?_⟩
  show (F k).bind (G k) = some b
  rw [hK k (by omega)]
  exact hL k (by omega)
theorem Ev.of_mono {α : Type} {F : Nat → Option α} {v : α} (hm : ∀ k, LeO (F k) (F (k + 1))) {K : Nat} (h : F K = some v) : Ev F v := by
  refine ⟨K, fun k hk => ?_⟩
  obtain ⟨d, rfl⟩ : ∃ d, k = K + d := ⟨k - K, by omega⟩
  clear hk
  induction d with
  | zero => exact h
  | succ d ih => exact hm _ _ ih
theorem Ev.uniq {α : Type} {F : Nat → Option α} {v w : α} (h : Ev F v) (g : Ev F w) : v = w := by
  obtain ⟨K, hK⟩ := h
  obtain ⟨L, hL⟩ := g
  exact Option.some.inj ((hK (max K L) (by omega)).symm.trans (hL (max K L) (by omega)))

def U (x : Int) : Prop := 0 ≤ x ∧ x < 18446744073709551616
def UL (l : List Int) : Prop := ∀ c ∈ l, U c
theorem U.zero : U 0 := by unfold U; omega
theorem U.of_wf {x : Int} (h : (Lit.int .u64 x).wf = true) : U x := by
  simp [Lit.wf, IntKind.min, IntKind.max, IntKind.bits, IntKind.signed] at h
  unfold U; omega
theorem U.co {l : List Int} (h : UL l) (i : Nat) : U (co l i) := by
  by_cases hi : i < l.length
  · exact h _ (co_mem hi)
  · rw [co_over (by omega)]; exact U.zero
theorem UL.nil : UL [] := fun _ h => by simp at h
theorem UL.cons {c : Int} {l : List Int} (h : U c) (g : UL l) : UL (c :: l) := fun x hx => (List.mem_cons.1 hx).elim (fun e => e ▸ h) (g x)
theorem UL.append {a b : List Int} (h : UL a) (g : UL b) : UL (a ++ b) := fun x hx => (List.mem_append.1 hx).elim (h x) (g x)
theorem UL.take {a : List Int} (h : UL a) (n : Nat) : UL (a.take n) := fun _ hx => h _ (List.mem_of_mem_take hx)
theorem UL.replicate (n : Nat) : UL (List.replicate n 0) := fun x hx => by rw [(List.mem_replicate.1 hx).2]; exact U.zero
theorem UL.set {a : List Int} (h : UL a) {x : Int} (hx : U x) (i : Nat) : UL (a.set i x) := fun y hy => by
  rcases List.mem_or_eq_of_mem_set hy with hy | rfl
  · exact h _ hy
  · exact hx
theorem UL.of_wf {l : List Int} (h : ∀ x ∈ l, (Lit.int .u64 x).wf = true) : UL l := fun x hx => U.of_wf (h x hx)

theorem w64 {n : Int} (h1 : -9223372036854775808 ≤ n) (h2 : n ≤ 9223372036854775807) : wrap64 n = n := by unfold wrap64; omega
theorem w64_succ {i : Nat} (h : i < 9223372036854775807) : wrap64 ((i : Int) + 1) = ((i + 1 : Nat) : Int) := by rw [w64 (by omega) (by omega)]; omega
theorem wu64 {n : Int} (h1 : 0 ≤ n) (h2 : n < 18446744073709551616) : IntKind.u64.wrap n = n := by rw [IntKind.wrap_u64]; omega
theorem rd_nat (l : List Int) (i : Nat) : rd l (i : Int) = co l i := by simp [rd, co]
theorem tmod_nn {a : Int} (h : 0 ≤ a) (p : Int) : Int.tmod a p = a % p := Int.tmod_eq_emod_of_nonneg h
theorem co_set {l : List Int} {i : Nat} (h : i < l.length) (x : Int) (j : Nat) : co (l.set i x) j = if j = i then x else co l j := by
  unfold co
  rw [List.getD_eq_getElem?_getD, List.getD_eq_getElem?_getD, List.getElem?_set]
  by_cases e : i = j
  · subst e; simp [h]
  · simp [e, Ne.symm e]
theorem co_set_same {l : List Int} {i : Nat} (h : i < l.length) (x : Int) : co (l.set i x) i = x := by rw [co_set h]; simp
theorem co_set_ne {l : List Int} {i j : Nat} (h : i < l.length) (x : Int) (e : j ≠ i) : co (l.set i x) j = co l j := by rw [co_set h]; simp [e]
theorem co_replicate (n i : Nat) : co (List.replicate n 0) i = 0 := by
  by_cases h : i < n
  · rw [co_lt (by simpa using h)]; simp
  · exact co_over (by simpa using h)
theorem co_append (a b : List Int) (i : Nat) : co (a ++ b) i = if i < a.length then co a i else co b (i - a.length) := by
  unfold co
  rw [List.getD_eq_getElem?_getD, List.getElem?_append]
  split <;> simp
theorem co_take (a : List Int) (n i : Nat) : co (a.take n) i = if i < n then co a i else 0 := by
  unfold co
  rw [List.getD_eq_getElem?_getD, List.getElem?_take]
  split <;> simp
theorem ext_co {a b : List Int} (hl : a.length = b.length) (h : ∀ i, i < a.length → co a i = co b i) : a = b := by
  refine List.ext_getElem hl fun i h1 h2 => ?_
  have := h i h1
  rwa [co_lt h1, co_lt h2] at this
end Go.Proofs.YtbjeemlbjkmhiaaDoor.Pure
namespace Go.Proofs.YtbjeemlbjkmhiaaDoor.Pure
open Go.RowKit Go.Proofs.YtbjeemlbjkmhiaaDoor.Q Go.Proofs.YtbjeemlbjkmhiaaDoor.Num Go.Proofs.YtbjeemlbjkmhiaaDoor.Pol Go.Proofs.YtbjeemlbjkmhiaaDoorW.PrintWords Go.Proofs.YtbjeemlbjkmhiaaDoorW.PrintLast Go.Proofs.YtbjeemlbjkmhiaaDoorW.PrintMore

structure FP (f : Int) (p : Nat) : Prop where
  lo : 0 ≤ f
  hi : f < 4
  eq : pOf f = p
  pr : Pr p
  le : p ≤ 998244353
theorem fp_of {f : Int} (h0 : 0 ≤ f) (h1 : f < 4) : ∃ p, FP f p := by
  have : f = 0 ∨ f = 1 ∨ f = 2 ∨ f = 3 := by omega
  rcases this with rfl | rfl | rfl | rfl
  · exact ⟨97, by omega, by omega, rfl, pr97, by omega⟩
  · exact ⟨257, by omega, by omega, rfl, pr257, by omega⟩
  · exact ⟨12289, by omega, by omega, rfl, pr12289, by omega⟩
  · exact ⟨998244353, by omega, by omega, rfl, pr998244353, by omega⟩
theorem FP.pos {f : Int} {p : Nat} (h : FP f p) : (0 : Int) < p := h.pr.pos
theorem FP.one {f : Int} {p : Nat} (h : FP f p) : (1 : Int) < p := by have := h.pr.two; omega
theorem FP.lei {f : Int} {p : Nat} (h : FP f p) : (p : Int) ≤ 998244353 := by have := h.le; omega
theorem FP.mod {f : Int} {p : Nat} (h : FP f p) (a : Int) : 0 ≤ a % p ∧ a % p < p := ⟨mod_nonneg h.pos a, mod_lt h.pos a⟩
theorem FP.U {f : Int} {p : Nat} (h : FP f p) (a : Int) : U (a % p) := by have := h.mod a; have := h.lei; unfold Pure.U; omega
theorem pOf_bad {f : Int} (h : f < 0 ∨ 4 ≤ f) : pOf f = 0 := by
  unfold pOf
  rw [if_neg (by omega), if_neg (by omega), if_neg (by omega), if_neg (by omega)]

section good
variable {f : Int} {p : Nat} (h : FP f p)
include h
theorem s_P : field_P.f f = some (p : Int) := by simp [field_P.f, h.eq]
theorem s_Add {a b : Int} (ha : 0 ≤ a) (hb : 0 ≤ b) : field_Add.f f a b = some ((a + b) % p) := by
  have hp := h.pos
  have ma := h.mod a
  have mb := h.mod b
  have hl := h.lei
  simp only [field_Add.f, s_P h, Option.bind_some]
  rw [if_neg (by omega), tmod_nn ha, tmod_nn hb, wu64 (by omega) (by omega)]
  have e : (a + b) % p = (a % p + b % p) % p := by rw [← Int.add_emod]
  by_cases hc : a % p + b % p ≥ p
  · rw [if_pos hc, wu64 (by omega) (by omega), e]
    have : (a % p + b % p) % p = (a % p + b % p - p) % p := by rw [← Int.sub_emod_right]
    rw [this]
    exact congrArg some (Int.emod_eq_of_lt (by omega) (by omega)).symm
  · rw [if_neg hc, e]
    exact congrArg some (Int.emod_eq_of_lt (by omega) (by omega)).symm
theorem s_Mul {a b : Int} (ha : 0 ≤ a) (hb : 0 ≤ b) : field_Mul.f f a b = some ((a * b) % p) := by
  have hp := h.pos
  have ma := h.mod a
  have mb := h.mod b
  have hl := h.lei
  have h1 : 0 ≤ (a % p) * (b % p) := Int.mul_nonneg ma.1 mb.1
  have h2 : (a % p) * (b % p) ≤ 998244353 * 998244353 := Int.mul_le_mul (by omega) (by omega) mb.1 (by omega)
  simp only [field_Mul.f, s_P h, Option.bind_some]
  rw [if_neg (by omega), tmod_nn ha, tmod_nn hb, wu64 h1 (by omega), tmod_nn h1]
  congr 1
  exact Cg.mod_eq ((Cg.mod p a).mul (Cg.mod p b))
end good

def inv (p : Nat) (a : Int) : Int := a ^ (p - 2) % p
theorem inv_spec {p : Nat} (h : Pr p) {a : Int} (ha : ¬ Cg p a 0) : Cg p (a * inv p a) 1 := ((Cg.refl _ a).mul (Cg.mod _ _)).trans (inv_pow h ha)
theorem inv_zero {p : Nat} (h3 : 3 ≤ p) {a : Int} (ha : Cg p a 0) : inv p a = 0 := by
  unfold inv
  have := (ha.pow (p - 2)).mod_eq
  rw [this, Int.zero_pow (by omega)]
  simp
theorem FP.three {f : Int} {p : Nat} (h : FP f p) : 3 ≤ p := by
  have h0 := h.eq
  have h1 := h.lo
  have h2 := h.hi
  have : f = 0 ∨ f = 1 ∨ f = 2 ∨ f = 3 := by omega
  rcases this with rfl | rfl | rfl | rfl <;> (simp [pOf] at h0; omega)

theorem inv_step (k : Nat) (P r0 r1 x8 x9 q m x9' : Int) (hq : q = r0 / r1) (hm : m = r0 % r1) (h1 : 0 < r1) (h0 : 0 ≤ r0) (hr : r0 ≤ 998244353) (hx : x9' = x8 - q * x9) (b1 : -998244353 ≤ q * x9) (b2 : q * x9 ≤ 998244353) (b3 : -998244353 ≤ x9') (b4 : x9' ≤ 998244353) :
    field_Inv.l0 (k + 1) P r0 r1 x8 x9 = field_Inv.l0 k P r1 m x9 x9' := by
  have e := Int.emod_add_mul_ediv r0 r1
  rw [← hq, ← hm] at e
  have hm0 : 0 ≤ m := by rw [hm]; exact Int.emod_nonneg _ (by omega)
  have hm1 : m < r1 := by rw [hm]; exact Int.emod_lt_of_pos _ h1
  have hq0 : 0 ≤ q := by rw [hq]; exact Int.ediv_nonneg h0 (by omega)
  have hqr : r1 * q ≤ r0 := by omega
  have hq1 : q ≤ r1 * q := by
    have := Int.mul_le_mul_of_nonneg_right (show (1 : Int) ≤ r1 by omega) hq0
    omega
  have hc : q * r1 = r1 * q := Int.mul_comm _ _
  rw [field_Inv.l0, if_neg (by omega), Int.tdiv_eq_ediv_of_nonneg h0, ← hq, w64 (n := q) (by omega) (by omega), w64 (n := q * r1) (by omega) (by omega), w64 (n := q * x9) (by omega) (by omega), ← hx, w64 (n := x9') (by omega) (by omega), w64 (n := r0 - q * r1) (by omega) (by omega)]
  rw [show r0 - q * r1 = m by omega]
theorem inv_l0 {p : Nat} (hp : Pr p) (hle : p ≤ 998244353) {a b : Int} (hb : 0 < b ∧ b < p) (hab : Cg p a b) : ∀ (n : Nat) (r0 r1 u v s : Int), r1.toNat ≤ n → 0 ≤ r1 → r1 < r0 → r0 ≤ p → 0 ≤ u → u ≤ v → (s = 1 ∨ s = -1) → r0 * v + r1 * u = p →
    Cg p (a * (-s * u)) r0 → Cg p (a * (s * v)) r1 → (∀ d : Int, d ∣ r0 → d ∣ r1 → d ∣ b) → Ev (fun k => field_Inv.l0 k p r0 r1 (-s * u) (s * v)) (inv p a) := by
  have hpi : (p : Int) ≤ 998244353 := by omega
  have na : ¬ Cg p a 0 := fun h => by
    have := (hab.symm.trans h).mod_eq
    rw [Int.emod_eq_of_lt (by omega) hb.2] at this
    simp at this; omega
  intro n
  induction n with
  | zero =>
    intro r0 r1 u v s hn h1 h01 h0p hu huv hs he c0 c1 hd
    obtain rfl : r1 = 0 := by omega
    have hpos : 0 < r0 := by omega
    have hr0 : r0 = 1 := by
      have hdb : r0 ∣ b := hd r0 (Int.dvd_refl _) (Int.dvd_zero _)
      have hle0 : r0 ≤ b := Int.le_of_dvd hb.1 hdb
      have hdp : r0.natAbs ∣ p := by
        have : r0 ∣ (p : Int) := ⟨v, by omega⟩
        exact Int.natAbs_dvd_natAbs.2 this
      rcases hp.div _ hdp with e | e <;> omega
    subst hr0
    have hvp : v = p := by omega
    have hu2 : u ≠ p := by
      rintro rfl
      have h2 : Cg p (a * (-s * (p : Int))) 0 := ⟨a * -s, by grind⟩
      have := (c0.symm.trans h2).mod_eq
      rw [Int.emod_eq_of_lt (by omega) (by have := hp.two; omega)] at this
      simp at this
    have fin : ∀ r : Int, Cg p r (-s * u) → 0 ≤ r → r < p → r = inv p a := fun r hr g0 g1 => by
      have h2 := ((Cg.refl _ a).mul hr).trans c0
      have h3 := inv_uniq h2 (inv_spec hp na)
      exact h3.uniq g0 g1 (mod_nonneg hp.pos _) (mod_lt hp.pos _)
    refine Ev.succ (F := fun _ => some (inv p a)) (fun k => ?_) (Ev.all fun _ => rfl)
    rw [field_Inv.l0, if_pos rfl]
    rcases hs with rfl | rfl
    · by_cases h0 : u = 0
      · rw [if_neg (by omega), wu64 (by omega) (by omega)]
        exact congrArg some (fin _ (Cg.refl _ _) (by omega) (by omega))
      · rw [if_pos (by omega), w64 (n := (p : Int)) (by omega) (by omega), w64 (by omega) (by omega), wu64 (by omega) (by omega)]
        exact congrArg some (fin _ ⟨1, by omega⟩ (by omega) (by omega))
    · rw [if_neg (by omega), wu64 (by omega) (by omega)]
      exact congrArg some (fin _ (Cg.refl _ _) (by omega) (by omega))
  | succ n ih =>
    intro r0 r1 u v s hn h1 h01 h0p hu huv hs he c0 c1 hd
    by_cases hz : r1 = 0
    · subst hz
      exact (ih r0 0 u v s (by simp) h1 h01 h0p hu huv hs he c0 c1 hd)
    · obtain ⟨q, hq⟩ : ∃ q, q = r0 / r1 := ⟨_, rfl⟩
      obtain ⟨m, hm⟩ : ∃ m, m = r0 % r1 := ⟨_, rfl⟩
      have e := Int.emod_add_mul_ediv r0 r1
      rw [← hq, ← hm] at e
      have hm0 : 0 ≤ m := by rw [hm]; exact Int.emod_nonneg _ (by omega)
      have hm1 : m < r1 := by rw [hm]; exact Int.emod_lt_of_pos _ (by omega)
      have hq1 : 1 ≤ q := by
        rcases Int.lt_or_le q 1 with h | h
        · have : r1 * q ≤ 0 := Int.mul_nonpos_of_nonneg_of_nonpos (by omega) (by omega)
          omega
        · exact h
      have hv0 : 0 ≤ v := by omega
      have hqv : 0 ≤ q * v := Int.mul_nonneg (by omega) hv0
      have hv1 : v ≤ q * v := by
        have := Int.mul_le_mul_of_nonneg_right hq1 hv0
        omega
      have hkey : r1 * (u + q * v) + m * v = p := by
        have : r1 * (u + q * v) + m * v = (m + r1 * q) * v + r1 * u := by grind
        rw [this, e]; exact he
      have hmv : 0 ≤ m * v := Int.mul_nonneg hm0 hv0
      have hle1 : u + q * v ≤ r1 * (u + q * v) := by
        have := Int.mul_le_mul_of_nonneg_right (show (1 : Int) ≤ r1 by omega) (show 0 ≤ u + q * v by omega)
        omega
      have hb1 : u + q * v ≤ p := by omega
      have key := ih r1 m v (u + q * v) (-s) (by omega) hm0 hm1 (by omega) hv0 (by omega) (by omega) hkey
        (by have : a * (- -s * v) = a * (s * v) := by grind
            rw [this]; exact c1)
        (by have e1 : a * (-s * (u + q * v)) = a * (-s * u) - q * (a * (s * v)) := by grind
            rw [e1]
            have h2 := c0.sub ((Cg.refl _ q).mul c1)
            have e2 : r0 - q * r1 = m := by have : q * r1 = r1 * q := Int.mul_comm _ _; omega
            rwa [e2] at h2)
        (fun d d1 d2 => hd d (by rw [← e]; exact Int.dvd_add d2 (Int.dvd_mul_of_dvd_left d1)) d1)
      refine Ev.succ (fun k => ?_) key
      have e3 : - -s * v = s * v := by grind
      rw [e3]
      have e4 : -s * u - q * (s * v) = -s * (u + q * v) := by grind
      have hqs : q * (s * v) = s * (q * v) := by grind
      exact inv_step k p r0 r1 (-s * u) (s * v) q m (-s * (u + q * v)) hq hm (by omega) (by omega) (by omega) e4.symm (by rw [hqs]; rcases hs with rfl | rfl <;> omega) (by rw [hqs]; rcases hs with rfl | rfl <;> omega)
        (by rcases hs with rfl | rfl <;> omega) (by rcases hs with rfl | rfl <;> omega)
section good2
variable {f : Int} {p : Nat} (h : FP f p)
include h
theorem s_Inv {a : Int} (ha : 0 ≤ a) : Ev (fun k => field_Inv.f k f a) (inv p a) := by
  have hp := h.pos
  have ma := h.mod a
  have hl := h.lei
  by_cases h0 : a % p = 0
  · refine Ev.succ (F := fun _ => some (inv p a)) (fun k => ?_) (Ev.all fun _ => rfl)
    simp only [field_Inv.f, s_P h, Option.bind_some]
    rw [if_neg (by omega), tmod_nn ha, h0]
    simp only [field_Inv.j0]
    rw [if_pos (by rfl), inv_zero h.three (mod_eq_zero.1 h0)]
  · have key := inv_l0 h.pr h.le (a := a) (b := a % p) ⟨by omega, ma.2⟩ (Cg.mod _ _).symm (a % p).toNat p (a % p) 0 1 1 (Nat.le_refl _) ma.1 ma.2 (by omega) (by omega) (by omega) (Or.inl rfl) (by omega)
      ⟨-1, by omega⟩ (by simpa using (Cg.mod p a).symm) (fun d _ d2 => d2)
    refine Ev.succ (fun k => ?_) key
    simp only [field_Inv.f, s_P h, Option.bind_some]
    rw [if_neg (by omega), tmod_nn ha]
    simp only [field_Inv.j0]
    rw [if_neg (by simpa using h0), if_neg (by omega), tmod_nn ha, w64 (by omega) (by omega), w64 (by omega) (by omega)]
    rfl
end good2

section bad
variable {f : Int} (h : f < 0 ∨ 4 ≤ f)
include h
theorem b_P : field_P.f f = some 0 := by simp [field_P.f, pOf_bad h]
theorem b_Add (a b : Int) : field_Add.f f a b = some 0 := by simp [field_Add.f, b_P h]
theorem b_Mul (a b : Int) : field_Mul.f f a b = some 0 := by simp [field_Mul.f, b_P h]
end bad
structure FO (f : Int) (p : Nat) : Prop where
  pos : (0 : Int) < p
  lei : (p : Int) ≤ 998244353
  ok : FP f p ∨ ((f < 0 ∨ 4 ≤ f) ∧ p = 1)
theorem FP.o {f : Int} {p : Nat} (h : FP f p) : FO f p := ⟨h.pos, h.lei, Or.inl h⟩
theorem FO.mod {f : Int} {p : Nat} (h : FO f p) (a : Int) : 0 ≤ a % p ∧ a % p < p := ⟨mod_nonneg h.pos a, mod_lt h.pos a⟩
theorem FO.U {f : Int} {p : Nat} (h : FO f p) (a : Int) : U (a % p) := by have := h.mod a; have := h.lei; unfold Pure.U; omega
theorem mod_one (a : Int) : a % ((1 : Nat) : Int) = 0 := Int.emod_one a
section any
variable {f : Int} {p : Nat} (h : FO f p)
include h
theorem o_Add {a b : Int} (ha : 0 ≤ a) (hb : 0 ≤ b) : field_Add.f f a b = some ((a + b) % p) := by
  rcases h.ok with g | ⟨g, rfl⟩
  · exact s_Add g ha hb
  · rw [b_Add g, mod_one]
theorem o_Mul {a b : Int} (ha : 0 ≤ a) (hb : 0 ≤ b) : field_Mul.f f a b = some ((a * b) % p) := by
  rcases h.ok with g | ⟨g, rfl⟩
  · exact s_Mul g ha hb
  · rw [b_Mul g, mod_one]
end any
end Go.Proofs.YtbjeemlbjkmhiaaDoor.Pure
namespace Go.Proofs.YtbjeemlbjkmhiaaDoor.Pure
open Go.RowKit Go.Proofs.YtbjeemlbjkmhiaaDoor.Q Go.Proofs.YtbjeemlbjkmhiaaDoor.Num Go.Proofs.YtbjeemlbjkmhiaaDoor.Pol Go.Proofs.YtbjeemlbjkmhiaaDoorW.PrintWords Go.Proofs.YtbjeemlbjkmhiaaDoorW.PrintLast Go.Proofs.YtbjeemlbjkmhiaaDoorW.PrintMore

theorem ev_take_succ (x : Int) : ∀ (l : List Int) (d : Nat), ev (l.take (d + 1)) x = ev (l.take d) x + co l d * x ^ d
  | [], d => by simp [ev]
  | c :: t, 0 => by simp [ev]
  | c :: t, d + 1 => by
    have := ev_take_succ x t d
    simp only [List.take_succ_cons, ev, co_cons_succ] at this ⊢
    rw [this, Int.pow_succ]; grind
section any
variable {f : Int} {p : Nat} (h : FO f p)
include h
theorem eval_l0 {l : List Int} (hl : l.length ≤ 1000000) (hu : UL l) {x : Int} (hx : 0 ≤ x) : ∀ (d : Nat) (acc : Int), d ≤ l.length → 0 ≤ acc → acc < p → Ev (fun k => poly_Eval.l0 k f l x acc (l.length : Int) ((l.length - d : Nat) : Int)) ((acc * x ^ d + ev (l.take d) x) % p) := by
  intro d
  induction d with
  | zero =>
    intro acc _ h0 h1
    refine Ev.succ (F := fun _ => some ((acc * x ^ 0 + ev (l.take 0) x) % p)) (fun k => ?_) (Ev.all fun _ => rfl)
    rw [poly_Eval.l0, if_neg (by omega)]
    have : acc * x ^ 0 + ev (l.take 0) x = acc := by simp [ev]
    rw [this, Int.emod_eq_of_lt h0 h1]
  | succ d ih =>
    intro acc hd h0 h1
    have e1 : wrap64 (wrap64 ((l.length : Int) - 1) - ((l.length - (d + 1) : Nat) : Int)) = (d : Int) := by
      rw [w64 (n := (l.length : Int) - 1) (by omega) (by omega), w64 (by omega) (by omega)]; omega
    have e2 : ((l.length - (d + 1) : Nat) : Int) + 1 = ((l.length - d : Nat) : Int) := by omega
    have key := ih ((acc * x % p + co l d) % p) (by omega) (mod_nonneg h.pos _) (mod_lt h.pos _)
    have e3 : ((acc * x % p + co l d) % p * x ^ d + ev (l.take d) x) % p = (acc * x ^ (d + 1) + ev (l.take (d + 1)) x) % p := by
      refine Cg.mod_eq ?_
      have c1 : Cg p ((acc * x % p + co l d) % p) (acc * x + co l d) := (Cg.mod _ _).trans ((Cg.mod _ _).add (Cg.refl _ _))
      refine ((c1.mul (Cg.refl _ (x ^ d))).add (Cg.refl _ _)).trans (Cg.of_eq ?_)
      rw [ev_take_succ x l d, Int.pow_succ]; grind
    rw [e3] at key
    refine Ev.succ (fun k => ?_) key
    rw [poly_Eval.l0, if_pos (by omega), o_Mul h h0 hx, Option.bind_some, e1, if_pos (by omega), if_pos (by omega), rd_nat, o_Add h (mod_nonneg h.pos _) (U.co hu d).1, Option.bind_some, e2, w64 (by omega) (by omega)]
theorem s_Eval {l : List Int} (hl : l.length ≤ 1000000) (hu : UL l) {x : Int} (hx : 0 ≤ x) : Ev (fun k => poly_Eval.f k f l x) (ev l x % p) := by
  have key := eval_l0 h hl hu hx l.length 0 (Nat.le_refl _) (Int.le_refl _) h.pos
  rw [List.take_length, Int.zero_mul, Int.zero_add, Nat.sub_self] at key
  exact key

end any
section good
variable {f : Int} {p : Nat} (h : FP f p)
include h
end good
end Go.Proofs.YtbjeemlbjkmhiaaDoor.Pure
namespace Go.Proofs.YtbjeemlbjkmhiaaDoor.Pure
open Go.RowKit Go.Proofs.YtbjeemlbjkmhiaaDoor.Q Go.Proofs.YtbjeemlbjkmhiaaDoor.Num Go.Proofs.YtbjeemlbjkmhiaaDoor.Pol Go.Proofs.YtbjeemlbjkmhiaaDoorW.PrintWords Go.Proofs.YtbjeemlbjkmhiaaDoorW.PrintLast Go.Proofs.YtbjeemlbjkmhiaaDoorW.PrintMore

def Rg (p : Int) (l : List Int) : Prop := ∀ i, 0 ≤ co l i ∧ co l i < p
theorem Rg.set {p : Int} {l : List Int} (h : Rg p l) {i : Nat} {x : Int} (hx : 0 ≤ x ∧ x < p) : Rg p (l.set i x) := fun j => by
  by_cases hi : i < l.length
  · rw [co_set hi]
    split
    · exact hx
    · exact h j
  · rw [List.set_eq_of_length_le (by omega)]; exact h j
theorem Rg.zeros {p : Int} (hp : 0 < p) (n : Nat) : Rg p (List.replicate n 0) := fun j => by rw [co_replicate]; omega
theorem Rg.eq {p : Int} {a b : List Int} (ha : Rg p a) (hb : Rg p b) (hl : a.length = b.length) (h : ∀ i, i < a.length → Cg p (co a i) (co b i)) : a = b :=
  ext_co hl fun i hi => (h i hi).uniq (ha i).1 (ha i).2 (hb i).1 (hb i).2
theorem Rg.U {f : Int} {p : Nat} (h : FO f p) {l : List Int} (hr : Rg p l) : UL l := fun c hc => by
  obtain ⟨i, hi, rfl⟩ := List.getElem_of_mem hc
  have := hr i
  rw [co_lt hi] at this
  have := h.lei
  unfold Pure.U; omega
def Interp (p : Nat) (xs ys R : List Int) : Prop := Deg p R xs.length ∧ ∀ i, i < xs.length → Cg p (ev R (co xs i)) (co ys i)

section good
variable {f : Int} {p : Nat} (h : FP f p)
include h
end good
end Go.Proofs.YtbjeemlbjkmhiaaDoor.Pure
namespace Go.Proofs.YtbjeemlbjkmhiaaDoor.Pure
open Go.RowKit Go.Proofs.YtbjeemlbjkmhiaaDoor.Q Go.Proofs.YtbjeemlbjkmhiaaDoor.Num Go.Proofs.YtbjeemlbjkmhiaaDoor.Pol

def vl : List Int → Int
  | [] => 0
  | x :: t => x + 4294967296 * vl t
def Lb (l : List Int) : Prop := ∀ i, 0 ≤ co l i ∧ co l i < 4294967296
def Bp (n : Nat) : Int := 4294967296 ^ n
theorem Bp_zero : Bp 0 = 1 := rfl
theorem Bp_succ (n : Nat) : Bp (n + 1) = 4294967296 * Bp n := by unfold Bp; rw [Int.pow_succ, Int.mul_comm]
theorem Bp_pos (n : Nat) : 0 < Bp n := by unfold Bp; exact Int.pow_pos (by omega)
theorem Bp_add (m n : Nat) : Bp (m + n) = Bp m * Bp n := by unfold Bp; exact Int.pow_add ..
theorem Lb.of_mem {l : List Int} (h : ∀ x ∈ l, 0 ≤ x ∧ x < 4294967296) : Lb l := fun i => by
  by_cases hi : i < l.length
  · exact h _ (co_mem hi)
  · rw [co_over (by omega)]; omega
theorem Lb.of_wf {l : List Int} (h : ∀ x ∈ l, (Lit.int .u32 x).wf = true) : Lb l := Lb.of_mem fun x hx => by
  have := h x hx
  simp [Lit.wf, IntKind.min, IntKind.max, IntKind.bits, IntKind.signed] at this
  omega
theorem Lb.nil : Lb [] := fun i => by simp [co]
theorem Lb.cons {x : Int} {l : List Int} (hx : 0 ≤ x ∧ x < 4294967296) (h : Lb l) : Lb (x :: l)
  | 0 => hx
  | i + 1 => h i
theorem Lb.tail {x : Int} {l : List Int} (h : Lb (x :: l)) : Lb l := fun i => h (i + 1)
theorem Lb.set {l : List Int} (h : Lb l) {x : Int} (hx : 0 ≤ x ∧ x < 4294967296) (i : Nat) : Lb (l.set i x) := fun j => by
  by_cases hi : i < l.length
  · rw [co_set hi]
    split
    · exact hx
    · exact h j
  · rw [List.set_eq_of_length_le (by omega)]; exact h j
theorem Lb.take {l : List Int} (h : Lb l) (n : Nat) : Lb (l.take n) := fun i => by
  rw [co_take]
  split
  · exact h i
  · omega
theorem co_drop (l : List Int) (n i : Nat) : co (l.drop n) i = co l (n + i) := by
  unfold co
  rw [List.getD_eq_getElem?_getD, List.getD_eq_getElem?_getD, List.getElem?_drop]
theorem Lb.drop {l : List Int} (h : Lb l) (n : Nat) : Lb (l.drop n) := fun i => by
  rw [co_drop]
  exact h _
theorem Lb.replicate (n : Nat) : Lb (List.replicate n 0) := fun i => by rw [co_replicate]; omega
theorem Lb.append {a b : List Int} (ha : Lb a) (hb : Lb b) : Lb (a ++ b) := fun i => by
  rw [co_append]
  split
  · exact ha i
  · exact hb _
theorem vl_nil : vl [] = 0 := rfl
theorem vl_cons (x : Int) (l : List Int) : vl (x :: l) = x + 4294967296 * vl l := rfl
theorem vl_append : ∀ (a b : List Int), vl (a ++ b) = vl a + Bp a.length * vl b
  | [], b => by simp [vl, Bp_zero]
  | x :: a, b => by
    rw [List.cons_append, vl_cons, vl_append a b, vl_cons, List.length_cons, Bp_succ]
    grind
theorem vl_replicate : ∀ n : Nat, vl (List.replicate n 0) = 0
  | 0 => rfl
  | n + 1 => by rw [List.replicate_succ, vl_cons, vl_replicate n]; rfl
theorem vl_range : ∀ {l : List Int}, Lb l → 0 ≤ vl l ∧ vl l < Bp l.length
  | [], _ => by simp [vl, Bp_zero]
  | x :: l, h => by
    have h1 := vl_range h.tail
    have h2 := h 0
    rw [show co (x :: l) 0 = x from rfl] at h2
    rw [vl_cons, List.length_cons, Bp_succ]
    omega
theorem take_succ_co {l : List Int} {i : Nat} (h : i < l.length) : l.take (i + 1) = l.take i ++ [co l i] := by
  rw [List.take_add_one, co_lt h, List.getElem?_eq_getElem h]
  rfl
theorem vl_take_succ {l : List Int} {i : Nat} (h : i < l.length) : vl (l.take (i + 1)) = vl (l.take i) + co l i * Bp i := by
  rw [take_succ_co h, vl_append, List.length_take, Nat.min_eq_left (by omega), vl_cons, vl_nil]
  grind
theorem vl_take_all {l : List Int} {n : Nat} (h : l.length ≤ n) : vl (l.take n) = vl l := by rw [List.take_of_length_le h]
theorem vl_split (l : List Int) (n : Nat) (h : n ≤ l.length) : vl l = vl (l.take n) + Bp n * vl (l.drop n) := by
  have := vl_append (l.take n) (l.drop n)
  rw [List.take_append_drop, List.length_take, Nat.min_eq_left h] at this
  exact this
theorem drop_succ_co {l : List Int} {i : Nat} (h : i < l.length) : vl (l.drop i) = co l i + 4294967296 * vl (l.drop (i + 1)) := by
  rw [List.drop_eq_getElem_cons h, vl_cons, co_lt h]
theorem vl_set {l : List Int} {i : Nat} (h : i < l.length) (x : Int) : vl (l.set i x) = vl l + (x - co l i) * Bp i := by
  induction l generalizing i with
  | nil => simp at h
  | cons y l ih =>
    cases i with
    | zero => rw [List.set_cons_zero, vl_cons, vl_cons, Bp_zero, show co (y :: l) 0 = y from rfl]; omega
    | succ i =>
      rw [List.set_cons_succ, vl_cons, vl_cons, ih (by simpa using h), Bp_succ, show co (y :: l) (i + 1) = co l i from rfl]
      grind
theorem take_set_succ {l : List Int} {i : Nat} (h : i < l.length) (x : Int) : vl ((l.set i x).take (i + 1)) = vl (l.take i) + x * Bp i := by
  have hs : i < (l.set i x).length := by rw [List.length_set]; exact h
  rw [vl_take_succ hs, co_set_same h, List.take_set_of_le (Nat.le_refl i)]
def Nf (l : List Int) : Prop := Lb l ∧ (l = [] ∨ co l (l.length - 1) ≠ 0)
theorem Nf.nil : Nf [] := ⟨Lb.nil, Or.inl rfl⟩
theorem Nf.tail {x : Int} {l : List Int} (h : Nf (x :: l)) : Nf l := ⟨h.1.tail, by
  cases l with
  | nil => exact Or.inl rfl
  | cons y l => exact Or.inr (h.2.resolve_left (by simp))⟩
theorem Nf.low : ∀ {l : List Int}, Nf l → l ≠ [] → Bp (l.length - 1) ≤ vl l
  | [], _, h => absurd rfl h
  | [x], h, _ => by
    have h1 := h.2.resolve_left (by simp)
    have h2 := h.1 0
    rw [show co [x] 0 = x from rfl] at h2
    rw [show co [x] ([x].length - 1) = x from rfl] at h1
    show Bp 0 ≤ _
    rw [Bp_zero, vl_cons, vl_nil]
    omega
  | x :: y :: l, h, _ => by
    have h1 := Nf.low h.tail (by simp)
    have h2 := h.1 0
    rw [show co (x :: y :: l) 0 = x from rfl] at h2
    rw [vl_cons]
    rw [show (y :: l).length - 1 = l.length from rfl] at h1
    rw [show (x :: y :: l).length - 1 = l.length + 1 from rfl, Bp_succ]
    omega
theorem Nf.pos {l : List Int} (h : Nf l) (hl : l ≠ []) : 0 < vl l := by
  have := h.low hl
  have := Bp_pos (l.length - 1)
  omega
def dgF : Nat → Int → List Int
  | 0, _ => []
  | k + 1, n => if n ≤ 0 then [] else n % 4294967296 :: dgF k (n / 4294967296)
def dg (n : Int) : List Int := dgF n.toNat n
theorem Nf.eq_dgF : ∀ {l : List Int} {k : Nat}, Nf l → vl l ≤ k → l = dgF k (vl l)
  | [], k, _, _ => by cases k <;> simp [dgF, vl]
  | x :: l, k, h, hk => by
    have hp := h.pos (by simp)
    have h2 := h.1 0
    rw [show co (x :: l) 0 = x from rfl] at h2
    have h3 := (vl_range h.1.tail).1
    rw [vl_cons] at hp hk ⊢
    cases k with
    | zero => omega
    | succ k =>
      rw [dgF, if_neg (by omega), show (x + 4294967296 * vl l) % 4294967296 = x by omega, show (x + 4294967296 * vl l) / 4294967296 = vl l by omega]
      rw [← Nf.eq_dgF (k := k) h.tail (by omega)]
theorem Nf.eq_dg {l : List Int} (h : Nf l) : l = dg (vl l) := h.eq_dgF (by have := (vl_range h.1).1; omega)
theorem Nf.of_val {l : List Int} (h : Nf l) {n : Int} (e : vl l = n) : l = dg n := e ▸ h.eq_dg
theorem Nf.uniq {a b : List Int} (ha : Nf a) (hb : Nf b) (e : vl a = vl b) : a = b := by rw [ha.eq_dg, hb.eq_dg, e]
theorem dgF_ok : ∀ (k : Nat) (n : Int), n ≤ k → Lb (dgF k n) ∧ (dgF k n = [] ∨ co (dgF k n) ((dgF k n).length - 1) ≠ 0) ∧ (0 ≤ n → vl (dgF k n) = n)
  | 0, n, h => ⟨Lb.nil, Or.inl rfl, fun h0 => by rw [dgF, vl]; omega⟩
  | k + 1, n, h => by
    rw [dgF]
    by_cases c : n ≤ 0
    · rw [if_pos c]
      exact ⟨Lb.nil, Or.inl rfl, fun h0 => by rw [vl]; omega⟩
    · rw [if_neg c]
      obtain ⟨h1, h2, h3⟩ := dgF_ok k (n / 4294967296) (by omega)
      have h3' := h3 (by omega)
      refine ⟨Lb.cons (by omega) h1, Or.inr ?_, fun _ => by rw [vl_cons, h3']; omega⟩
      rcases h2 with h2 | h2
      · rw [h2] at h3' ⊢
        rw [vl] at h3'
        show n % 4294967296 ≠ 0
        omega
      · cases hd : dgF k (n / 4294967296) with
        | nil =>
          rw [hd, vl] at h3'
          show n % 4294967296 ≠ 0
          omega
        | cons y t =>
          rw [hd] at h2
          exact h2
theorem dg_nf (n : Int) : Nf (dg n) := by
  obtain ⟨h1, h2, _⟩ := dgF_ok n.toNat n (by omega)
  exact ⟨h1, h2⟩
theorem vl_dg {n : Int} (h : 0 ≤ n) : vl (dg n) = n := (dgF_ok n.toNat n (by omega)).2.2 h
theorem dg_lb (n : Int) : Lb (dg n) := (dg_nf n).1
theorem dg_inj {m n : Int} (hm : 0 ≤ m) (hn : 0 ≤ n) (h : dg m = dg n) : m = n := by rw [← vl_dg hm, h, vl_dg hn]
theorem Bp_le {m n : Nat} (h : m ≤ n) : Bp m ≤ Bp n := by
  obtain ⟨d, rfl⟩ : ∃ d, n = m + d := ⟨n - m, by omega⟩
  rw [Bp_add]
  have h1 := Bp_pos m
  have h2 := Bp_pos d
  have := Int.mul_le_mul_of_nonneg_left (show 1 ≤ Bp d by omega) (Int.le_of_lt h1)
  omega
theorem Nf.len_le {l : List Int} (h : Nf l) {n : Nat} : l.length ≤ n ↔ vl l < Bp n := by
  constructor
  · intro hl
    have h1 := vl_range h.1
    have h2 := Bp_le hl
    omega
  · intro hv
    by_cases hl : l = []
    · simp [hl]
    · have h1 := h.low hl
      by_cases c : l.length ≤ n
      · exact c
      · have := Bp_le (show n ≤ l.length - 1 by omega)
        omega
theorem dg_len {v : Int} (h : 0 ≤ v) {n : Nat} : (dg v).length ≤ n ↔ v < Bp n := by
  rw [(dg_nf v).len_le, vl_dg h]
theorem Nf.len_pos {l : List Int} (h : Nf l) : 0 < l.length ↔ 0 < vl l := by
  constructor
  · intro hl
    exact h.pos (by intro e; simp [e] at hl)
  · intro hv
    cases l with
    | nil => rw [vl] at hv; omega
    | cons x l => simp
def cmpZ (x y : Int) : Int := if x < y then -1 else if y < x then 1 else 0
theorem Nf.len_lt {a b : List Int} (ha : Nf a) (hb : Nf b) (h : a.length < b.length) : vl a < vl b := by
  have h1 := (vl_range ha.1).2
  have h2 := hb.low (by intro e; simp [e] at h)
  have h3 := Bp_le (show a.length ≤ b.length - 1 by omega)
  omega
end Go.Proofs.YtbjeemlbjkmhiaaDoor.Pure
namespace Go.Proofs.YtbjeemlbjkmhiaaDoor.Pure
open Go.RowKit Go.Proofs.YtbjeemlbjkmhiaaDoor.Q Go.Proofs.YtbjeemlbjkmhiaaDoor.Num Go.Proofs.YtbjeemlbjkmhiaaDoor.Pol Go.Proofs.YtbjeemlbjkmhiaaDoorW.PrintWords Go.Proofs.YtbjeemlbjkmhiaaDoorW.PrintLast Go.Proofs.YtbjeemlbjkmhiaaDoorW.PrintMore

theorem trim_l {l : List Int} (hl : Lb l) (hn : l.length < 4611686018427387904) : ∀ m : Nat, m ≤ l.length → vl (l.take m) = vl l → Ev (fun k => ratio_trim.l0 k l (m : Int)) (dg (vl l)) := by
  intro m
  induction m with
  | zero =>
    intro _ hv
    refine Ev.succ (F := fun _ => some []) (fun k => ?_) (Ev.all fun _ => ?_)
    · rw [ratio_trim.l0, if_neg (by omega), if_pos (by omega), if_pos (by omega)]
      simp
    · rw [← hv]
      rfl
  | succ m ih =>
    intro hm hv
    have e1 : wrap64 (((m + 1 : Nat) : Int) - 1) = (m : Int) := by rw [w64 (by omega) (by omega)]; omega
    have hs := vl_take_succ (l := l) (i := m) (by omega)
    by_cases c : co l m = 0
    · refine Ev.succ (fun k => ?_) (ih (by omega) (by rw [← hv, hs, c]; omega))
      rw [ratio_trim.l0, e1, if_pos (by omega), if_pos (by omega), if_pos (by omega), rd_nat, if_pos c]
    · have hN : Nf (l.take (m + 1)) := ⟨hl.take _, Or.inr (by
        rw [List.length_take, Nat.min_eq_left hm]
        show co (l.take (m + 1)) m ≠ 0
        rw [co_take, if_pos (by omega)]
        exact c)⟩
      refine Ev.succ (F := fun _ => some (l.take (m + 1))) (fun k => ?_) (Ev.all fun _ => by rw [hN.of_val hv])
      rw [ratio_trim.l0, e1, if_pos (by omega), if_pos (by omega), if_pos (by omega), rd_nat, if_neg c, if_pos (by omega), if_pos (by omega), Int.toNat_natCast]
theorem sr_trim {l : List Int} (hl : Lb l) (hn : l.length < 4611686018427387904) : Ev (fun k => ratio_trim.f k l) (dg (vl l)) := trim_l hl hn l.length (Nat.le_refl _) (by rw [List.take_length])
theorem s_Nat {n : Int} (h : U n) : Ev (fun k => ratio_Nat.f k n) (dg n) := by
  unfold U at h
  have hl : Lb [n % 4294967296, n / 4294967296 % 4294967296] := Lb.cons (by omega) (Lb.cons (by omega) Lb.nil)
  have e : vl [n % 4294967296, n / 4294967296 % 4294967296] = n := by rw [vl_cons, vl_cons, vl_nil]; omega
  have s := sr_trim hl (by simp)
  rw [e] at s
  exact s.bind (G := fun _ t => some t) (Ev.all fun _ => rfl)
theorem cmpZ_lt {x y : Int} (h : x < y) : cmpZ x y = -1 := by unfold cmpZ; rw [if_pos h]
theorem cmpZ_gt {x y : Int} (h : y < x) : cmpZ x y = 1 := by unfold cmpZ; rw [if_neg (by omega), if_pos h]
theorem cmpZ_eq {x y : Int} (h : x = y) : cmpZ x y = 0 := by unfold cmpZ; rw [if_neg (by omega), if_neg (by omega)]
theorem top_lt {a b : List Int} {m : Nat} (ha : Lb a) (hb : Lb b) (hma : m ≤ a.length) (hmb : m ≤ b.length) (h : vl (a.drop m) < vl (b.drop m)) : vl a < vl b := by
  rw [vl_split a m hma, vl_split b m hmb]
  have h1 := (vl_range (ha.take m)).2
  have h2 := (vl_range (hb.take m)).1
  rw [List.length_take, Nat.min_eq_left hma] at h1
  have h3 := Int.mul_le_mul_of_nonneg_left (show vl (a.drop m) + 1 ≤ vl (b.drop m) by omega) (Int.le_of_lt (Bp_pos m))
  rw [Int.mul_add] at h3
  omega
theorem cmp_l {a b : List Int} {n : Nat} (ha : Lb a) (hb : Lb b) (la : a.length = n) (lb : b.length = n) (hn : n < 4611686018427387904) : ∀ m : Nat, m ≤ n → vl (a.drop m) = vl (b.drop m) → Ev (fun k => ratio_compare.l0 k a b (n : Int) ((n - m : Nat) : Int)) (cmpZ (vl a) (vl b)) := by
  intro m
  induction m with
  | zero =>
    intro _ hv
    rw [List.drop_zero, List.drop_zero] at hv
    refine Ev.succ (F := fun _ => some 0) (fun k => ?_) (Ev.all fun _ => by rw [cmpZ_eq hv])
    rw [ratio_compare.l0, if_neg (by omega)]
  | succ m ih =>
    intro hm hv
    have e1 : wrap64 (wrap64 ((a.length : Int) - 1) - ((n - (m + 1) : Nat) : Int)) = (m : Int) := by rw [w64 (n := (a.length : Int) - 1) (by omega) (by omega), w64 (by omega) (by omega)]; omega
    have e2 : wrap64 (((n - (m + 1) : Nat) : Int) + 1) = ((n - m : Nat) : Int) := by rw [w64 (by omega) (by omega)]; omega
    have da := drop_succ_co (l := a) (i := m) (by omega)
    have db := drop_succ_co (l := b) (i := m) (by omega)
    by_cases c1 : co a m < co b m
    · have := top_lt (m := m) ha hb (by omega) (by omega) (by omega)
      refine Ev.succ (F := fun _ => some (-1)) (fun k => ?_) (Ev.all fun _ => by rw [cmpZ_lt this])
      rw [ratio_compare.l0, e1, if_pos (by omega), if_pos (by omega), if_pos (by omega), if_pos (by omega), rd_nat, rd_nat, if_pos c1]
    by_cases c2 : co b m < co a m
    · have := top_lt (m := m) hb ha (by omega) (by omega) (by omega)
      refine Ev.succ (F := fun _ => some 1) (fun k => ?_) (Ev.all fun _ => by rw [cmpZ_gt this])
      rw [ratio_compare.l0, e1, if_pos (by omega), if_pos (by omega), if_pos (by omega), if_pos (by omega), rd_nat, rd_nat, if_neg c1, if_pos c2]
    refine Ev.succ (fun k => ?_) (ih (by omega) (by omega))
    rw [ratio_compare.l0, e1, e2, if_pos (by omega), if_pos (by omega), if_pos (by omega), if_pos (by omega), rd_nat, rd_nat, if_neg c1, if_neg (by omega)]
theorem s_compare {a b : List Int} (ha : Nf a) (hb : Nf b) (la : a.length < 4611686018427387904) (lb : b.length < 4611686018427387904) : Ev (fun k => ratio_compare.f k a b) (cmpZ (vl a) (vl b)) := by
  by_cases c1 : a.length < b.length
  · refine Ev.all fun k => ?_
    rw [ratio_compare.f, if_pos (by omega), cmpZ_lt (ha.len_lt hb c1)]
  by_cases c2 : b.length < a.length
  · refine Ev.all fun k => ?_
    rw [ratio_compare.f, if_neg (by omega), if_pos (by omega), cmpZ_gt (hb.len_lt ha c2)]
  have s := cmp_l ha.1 hb.1 rfl (show b.length = a.length by omega) la a.length (Nat.le_refl _) (by rw [List.drop_length, List.drop_of_length_le (by omega)])
  rw [Nat.sub_self] at s
  refine Ev.congr (fun k => ?_) s
  rw [ratio_compare.f, if_neg (by omega), if_neg (by omega)]
  rfl
theorem Nf.dec {l : List Int} (hl : Lb l) : (l.length = (dg (vl l)).length) ↔ Nf l := by
  constructor
  · intro h
    refine ⟨hl, ?_⟩
    by_cases c : l = []
    · exact Or.inl c
    · refine Or.inr fun e => ?_
      have hp : 0 < l.length := by cases l with | nil => exact absurd rfl c | cons x l => simp
      have h1 := vl_take_succ (l := l) (i := l.length - 1) (by omega)
      rw [show l.length - 1 + 1 = l.length by omega, List.take_length, e] at h1
      have h2 := (vl_range (hl.take (l.length - 1))).2
      rw [List.length_take, Nat.min_eq_left (by omega)] at h2
      have h3 := (dg_len (vl_range hl).1 (n := l.length - 1)).2 (by omega)
      omega
  · intro h
    rw [← h.eq_dg]
def Vn (l : List Int) : Prop := l.length ≤ 64 ∧ Nf l
theorem sr_Valid {l : List Int} (hl : Lb l) (hn : l.length < 4611686018427387904) (b : Bool) (hb : b = true ↔ Vn l) : Ev (fun k => ratio_ValidNat.f k l) b := by
  by_cases c : l.length ≤ 64
  · have s := (sr_trim hl hn).bind (G := fun _ t => some ((t.length : Int) == (l.length : Int))) (Ev.all fun _ => rfl)
    have e : (((dg (vl l)).length : Int) == (l.length : Int)) = b := by
      rw [Bool.eq_iff_iff, hb]
      simp only [beq_iff_eq]
      unfold Vn
      rw [← Nf.dec hl]
      omega
    rw [e] at s
    refine Ev.congr (fun k => ?_) s
    rw [ratio_ValidNat.f, if_pos (by omega)]
  · refine Ev.all fun k => ?_
    rw [ratio_ValidNat.f, if_neg (by omega)]
    congr
    rw [Bool.eq_iff_iff, hb]
    unfold Vn
    simp
    omega
theorem s_ValidT {l : List Int} (h : Vn l) : Ev (fun k => ratio_ValidNat.f k l) true := sr_Valid h.2.1 (by have := h.1; omega) true (by simp [h])
theorem Vn.dg {v : Int} (h0 : 0 ≤ v) (h : v < Bp 64) : Vn (dg v) := ⟨(dg_len h0).2 h, dg_nf v⟩
theorem add32 {a b c : Int} (ha : 0 ≤ a ∧ a < 4294967296) (hb : 0 ≤ b ∧ b < 4294967296) (hc : 0 ≤ c ∧ c ≤ 1) : bits_Add32.f a b c = some ((a + b + c) % 4294967296, (a + b + c) / 4294967296) := by
  unfold bits_Add32.f
  rw [wu64 (n := a) (by omega) (by omega), wu64 (n := b) (by omega) (by omega), wu64 (n := c) (by omega) (by omega), wu64 (n := a + b) (by omega) (by omega), wu64 (by omega) (by omega)]
  congr 2
  omega
theorem add_alg {O X Y P r q ca cb c : Int} (hv : O + c * P = X + Y) (hd : r + 4294967296 * q = ca + cb + c) : O + r * P + q * (4294967296 * P) = X + ca * P + (Y + cb * P) := by
  have h := congrArg (fun t => t * P) hd
  simp only [Int.add_mul] at h
  rw [show q * (4294967296 * P) = 4294967296 * q * P by rw [← Int.mul_assoc, Int.mul_comm q]]
  omega
theorem s_Clone {l : List Int} (hn : l.length < 35184372088832) : api_Nat_uint32.f l = some l := by
  unfold api_Nat_uint32.f
  rw [Option.bind_some, if_pos (by simpa using hn)]
  simp
end Go.Proofs.YtbjeemlbjkmhiaaDoor.Pure
namespace Go.Proofs.YtbjeemlbjkmhiaaDoor.Pure
open Go.RowKit Go.Proofs.YtbjeemlbjkmhiaaDoor.Q Go.Proofs.YtbjeemlbjkmhiaaDoor.Num Go.Proofs.YtbjeemlbjkmhiaaDoor.Pol Go.Proofs.YtbjeemlbjkmhiaaDoorW.PrintWords Go.Proofs.YtbjeemlbjkmhiaaDoorW.PrintLast Go.Proofs.YtbjeemlbjkmhiaaDoorW.PrintMore

theorem tb31 {n : Nat} (h : n < 4294967296) : n.testBit 31 = decide (2147483648 ≤ n) := by
  rw [Nat.testBit_eq_decide_div_mod_eq, decide_eq_decide]
  show n / 2147483648 % 2 = 1 ↔ _
  omega
theorem div31 {n : Nat} (h : n < 4294967296) : n / 2147483648 = (n.testBit 31).toNat := by
  rw [tb31 h]
  by_cases c : 2147483648 ≤ n
  · rw [decide_eq_true c, Bool.toNat_true]; omega
  · rw [decide_eq_false c, Bool.toNat_false]; omega
theorem sub32_top {a b d c : Nat} (ha : a < 4294967296) (hb : b < 4294967296) (hc : c ≤ 1) (hd : d = (4294967296 + a - b - c) % 4294967296 ∨ (b + c > 4294967296 + a ∧ d = 0)) :
    (((4294967295 ^^^ a) &&& b) ||| ((4294967295 ^^^ (a ^^^ b)) &&& d)) / 2147483648 = if a < b + c then 1 else 0 := by
  have hdl : d < 4294967296 := by omega
  have x1 : 4294967295 ^^^ a < 4294967296 := Nat.xor_lt_two_pow (n := 32) (by omega) ha
  have x2 : a ^^^ b < 4294967296 := Nat.xor_lt_two_pow (n := 32) ha hb
  have x3 : 4294967295 ^^^ (a ^^^ b) < 4294967296 := Nat.xor_lt_two_pow (n := 32) (by omega) x2
  have x4 : (4294967295 ^^^ a) &&& b < 4294967296 := Nat.and_lt_two_pow (n := 32) _ hb
  have x5 : (4294967295 ^^^ (a ^^^ b)) &&& d < 4294967296 := Nat.and_lt_two_pow (n := 32) _ hdl
  have x6 : (((4294967295 ^^^ a) &&& b) ||| ((4294967295 ^^^ (a ^^^ b)) &&& d)) < 4294967296 := Nat.or_lt_two_pow (n := 32) x4 x5
  rw [div31 x6, Nat.testBit_or, Nat.testBit_and, Nat.testBit_and, Nat.testBit_xor, Nat.testBit_xor, Nat.testBit_xor, tb31 ha, tb31 hb, tb31 hdl, show Nat.testBit 4294967295 31 = true from by decide]
  clear x1 x2 x3 x4 x5 x6
  by_cases ca : 2147483648 ≤ a <;> by_cases cb : 2147483648 ≤ b <;> by_cases cd : 2147483648 ≤ d <;> simp [ca, cb, cd] <;> (try split) <;> omega
theorem sub32 {a b c : Int} (ha : 0 ≤ a ∧ a < 4294967296) (hb : 0 ≤ b ∧ b < 4294967296) (hc : 0 ≤ c ∧ c ≤ 1) : bits_Sub32.f a b c = some ((a - b - c) % 4294967296, if a < b + c then 1 else 0) := by
  unfold bits_Sub32.f
  have e1 : ((a - b) % 4294967296 - c) % 4294967296 = (a - b - c) % 4294967296 := by omega
  rw [e1]
  obtain ⟨A, rfl⟩ : ∃ n : Nat, a = n := ⟨a.toNat, by omega⟩
  obtain ⟨B, rfl⟩ : ∃ n : Nat, b = n := ⟨b.toNat, by omega⟩
  obtain ⟨C, rfl⟩ : ∃ n : Nat, c = n := ⟨c.toNat, by omega⟩
  obtain ⟨D, hD⟩ : ∃ n : Nat, ((A : Int) - B - C) % 4294967296 = n := ⟨(((A : Int) - B - C) % 4294967296).toNat, by omega⟩
  rw [hD]
  have hA : A < 4294967296 := by omega
  have hB : B < 4294967296 := by omega
  have hDl : D < 4294967296 := by omega
  have x2 : A ^^^ B < 4294967296 := Nat.xor_lt_two_pow (n := 32) hA hB
  have x1 : 4294967295 ^^^ A < 4294967296 := Nat.xor_lt_two_pow (n := 32) (by omega) hA
  have x3 : 4294967295 ^^^ (A ^^^ B) < 4294967296 := Nat.xor_lt_two_pow (n := 32) (by omega) x2
  rw [show IntKind.u32.max = ((4294967295 : Nat) : Int) from rfl, u32_xor_nat _ _ (by omega) hA, u32_and_nat _ _ x1 hB, u32_xor_nat _ _ hA hB, u32_xor_nat _ _ (by omega) x2, u32_and_nat _ _ x3 hDl,
    u32_or_nat _ _ (Nat.and_lt_two_pow (n := 32) _ hB) (Nat.and_lt_two_pow (n := 32) _ hDl)]
  have k := sub32_top (a := A) (b := B) (d := D) (c := C) hA hB (by omega) (by omega)
  have k2 : ((((4294967295 ^^^ A) &&& B) ||| ((4294967295 ^^^ (A ^^^ B)) &&& D) : Nat) : Int) / 2147483648 = (((((4294967295 ^^^ A) &&& B) ||| ((4294967295 ^^^ (A ^^^ B)) &&& D)) / 2147483648 : Nat) : Int) := by
    rw [Int.natCast_ediv]; rfl
  rw [k2, k]
  congr 2
  by_cases q : A < B + C
  · rw [if_pos q, if_pos (by omega)]; rfl
  · rw [if_neg q, if_neg (by omega)]; rfl
theorem sub_alg {O X Y P r q x y c : Int} (hv : O - c * P = X - Y) (hd : r - 4294967296 * q = x - y - c) : O + r * P - q * (4294967296 * P) = X + x * P - (Y + y * P) := by
  have h := congrArg (fun t => t * P) hd
  simp only [Int.sub_mul] at h
  rw [show q * (4294967296 * P) = 4294967296 * q * P by rw [← Int.mul_assoc, Int.mul_comm q]]
  omega
theorem mul_alg {O V0 P Pi Pj T lo hi x y o c : Int} (hv : O + c * P = V0 + x * (Pi * T)) (hP : P = Pi * Pj) (hd : lo + 4294967296 * hi = x * y + o + c) : O + (lo - o) * P + hi * (4294967296 * P) = V0 + x * (Pi * (T + y * Pj)) := by
  have h := congrArg (fun t => t * P) hd
  subst hP
  grind
theorem mul_bd {x y o c : Int} (hx : 0 ≤ x ∧ x < 4294967296) (hy : 0 ≤ y ∧ y < 4294967296) (ho : 0 ≤ o ∧ o < 4294967296) (hc : 0 ≤ c ∧ c < 4294967296) : 0 ≤ x * y ∧ x * y + o + c < 18446744073709551616 := by
  have h1 := Int.mul_nonneg hx.1 hy.1
  have h2 := Int.mul_le_mul (show x ≤ 4294967295 by omega) (show y ≤ 4294967295 by omega) hy.1 (by omega)
  generalize x * y = z at *
  omega
theorem mul_in {a b : List Int} (ha : Lb a) (hb : Lb b) (hn : a.length + b.length < 70368744177664) {i : Nat} (hi : i < a.length) {R V0 : Int} {r : List Int} :
    ∀ (d j : Nat) (out : List Int) (c : Int), j + d = b.length → out.length = a.length + b.length → Lb out → 0 ≤ c ∧ c < 4294967296 → (∀ t, i + b.length ≤ t → co out t = 0) → Aside0 (vl out + c * Bp (i + j) = V0 + co a i * (Bp i * vl (b.take j))) →
    (∀ out' : List Int, out'.length = a.length + b.length → Lb out' → (∀ t, i + 1 + b.length ≤ t → co out' t = 0) → Aside0 (vl out' = V0 + co a i * (Bp i * vl b)) → Ev (fun k => ratio_mul.l0 k b out' a (a.length : Int) ((i + 1 : Nat) : Int)) r) →
    Ev (fun k => ratio_mul.l1 k b out (i : Int) (co a i) c a (a.length : Int) (i : Int) b (b.length : Int) (j : Int)) r := by
  intro d
  induction d with
  | zero =>
    intro j out c hj ho hout hc hz hv hK
    have q1 : ¬ ((j : Int) < (b.length : Int)) := by omega
    have q2 : wrap64 ((i : Int) + (b.length : Int)) = ((i + b.length : Nat) : Int) := by rw [w64 (by omega) (by omega)]; omega
    have q3 : i + b.length < out.length := by omega
    have q4 : c % 4294967296 = c := by omega
    have q5 := w64_succ (i := i) (by omega)
    have q6 : j = b.length := by omega
    have key := hK (out.set (i + b.length) c) (by rw [List.length_set]; exact ho) (hout.set hc _) (fun t ht => by
      rw [co_set_ne q3 _ (by omega)]
      exact hz t (by omega)) ⟨by
        have h := hv.out
        rw [q6, List.take_length] at h
        rw [vl_set q3, hz _ (Nat.le_refl _), ← h, Int.sub_zero]⟩
    refine Ev.succ (fun k => ?_) key
    rw [ratio_mul.l1, if_neg q1, q2, if_pos (Int.natCast_nonneg _), if_pos (Int.ofNat_lt.2 q3), Int.toNat_natCast, q4, q5]
  | succ d ih =>
    intro j out c hj ho hout hc hz hv hK
    have g1 : (j : Int) < (b.length : Int) := by omega
    have g2 : wrap64 ((i : Int) + (j : Int)) = ((i + j : Nat) : Int) := by rw [w64 (by omega) (by omega)]; omega
    have g3 : i + j < out.length := by omega
    have g4 : j < b.length := by omega
    have g5 := w64_succ (i := j) (by omega)
    have hx := ha i
    have hy := hb j
    have hoo := hout (i + j)
    obtain ⟨b1, b2⟩ := mul_bd hx hy hoo hc
    obtain ⟨z, hzz⟩ : ∃ z, z = co a i * co b j := ⟨_, rfl⟩
    have w1 : IntKind.u64.wrap (IntKind.u64.wrap (IntKind.u64.wrap (IntKind.u64.wrap (co a i) * IntKind.u64.wrap (co b j)) + IntKind.u64.wrap (co out (i + j))) + c) = z + co out (i + j) + c := by
      rw [← hzz] at b1 b2
      rw [wu64 (n := co a i) (by omega) (by omega), wu64 (n := co b j) (by omega) (by omega), ← hzz]
      clear hzz hz hv hK ih g1 g2 g3 g4 g5
      generalize co out (i + j) = o at *
      rw [wu64 (n := z) (by omega) (by omega), wu64 (n := o) (by omega) (by omega), wu64 (n := z + o) (by omega) (by omega), wu64 (by omega) (by omega)]
    have hd := Int.emod_add_mul_ediv (z + co out (i + j) + c) 4294967296
    have hr : 0 ≤ (z + co out (i + j) + c) % 4294967296 ∧ (z + co out (i + j) + c) % 4294967296 < 4294967296 := ⟨Int.emod_nonneg _ (by decide), Int.emod_lt_of_pos _ (by decide)⟩
    have hq : 0 ≤ (z + co out (i + j) + c) / 4294967296 ∧ (z + co out (i + j) + c) / 4294967296 < 4294967296 := by
      rw [← hzz] at b1 b2
      clear hd hr w1 hzz hz hv hK ih g1 g2 g3 g4 g5
      generalize co out (i + j) = o at *
      omega
    have key := ih (j + 1) (out.set (i + j) ((z + co out (i + j) + c) % 4294967296)) ((z + co out (i + j) + c) / 4294967296) (by omega) (by rw [List.length_set]; exact ho) (hout.set hr _) hq (fun t ht => by
      rw [co_set_ne g3 _ (by omega)]
      exact hz t ht) ⟨by
        rw [vl_set g3, show i + (j + 1) = i + j + 1 from rfl, Bp_succ, vl_take_succ g4]
        rw [hzz] at hd ⊢
        exact mul_alg hv.out (Bp_add i j) hd⟩ hK
    refine Ev.succ (fun k => ?_) key
    rw [ratio_mul.l1, if_pos g1, if_pos (Int.natCast_nonneg _), if_pos g1, g2, if_pos (Int.natCast_nonneg _), if_pos (Int.ofNat_lt.2 g3), Int.toNat_natCast, rd_nat, rd_nat, w1, g5]
theorem mul_l {a b : List Int} (ha : Lb a) (hb : Lb b) (hn : a.length + b.length < 70368744177664) :
    ∀ (d i : Nat) (out : List Int), i + d = a.length → out.length = a.length + b.length → Lb out → (∀ t, i + b.length ≤ t → co out t = 0) → Aside0 (vl out = vl (a.take i) * vl b) → Ev (fun k => ratio_mul.l0 k b out a (a.length : Int) (i : Int)) (dg (vl a * vl b)) := by
  intro d
  induction d with
  | zero =>
    intro i out hi ho hout hz hv
    have s := sr_trim (l := out) hout (by omega)
    rw [hv.out, vl_take_all (show a.length ≤ i by omega)] at s
    refine Ev.succ (fun k => ?_) (s.bind (G := fun _ t => some t) (Ev.all fun _ => rfl))
    rw [ratio_mul.l0, if_neg (by omega)]
  | succ d ih =>
    intro i out hi ho hout hz hv
    have g1 : (i : Int) < (a.length : Int) := by omega
    have key := mul_in ha hb hn (i := i) (by omega) (R := 0) (V0 := vl (a.take i) * vl b) (r := dg (vl a * vl b)) b.length 0 out 0 (Nat.zero_add _) ho hout (by omega) hz ⟨by rw [hv.out]; simp [vl]⟩ (fun out' ho' hout' hz' hv' => by
      refine ih (i + 1) out' (by omega) ho' hout' hz' ⟨?_⟩
      rw [hv'.out, vl_take_succ (by omega), Int.add_mul, Int.mul_assoc])
    refine Ev.succ (fun k => ?_) key
    rw [ratio_mul.l0, if_pos g1, if_pos (Int.natCast_nonneg _), if_pos g1, rd_nat]
    rfl
theorem s_mul {a b : List Int} (ha : Lb a) (hb : Lb b) (hn : a.length + b.length < 70368744177664) : Ev (fun k => ratio_mul.f k a b) (dg (vl a * vl b)) := by
  have q2 : wrap64 ((a.length : Int) + (b.length : Int)) = ((a.length + b.length : Nat) : Int) := by rw [w64 (by omega) (by omega)]; omega
  refine Ev.congr (fun k => ?_) (mul_l ha hb hn a.length 0 (List.replicate (a.length + b.length) 0) (Nat.zero_add _) (by simp) (Lb.replicate _) (fun t _ => co_replicate _ _) ⟨by rw [vl_replicate]; simp [vl]⟩)
  rw [ratio_mul.f, q2, if_pos (Int.natCast_nonneg _), if_pos (by rw [Int.toNat_natCast]; omega), Int.toNat_natCast]
  rfl
end Go.Proofs.YtbjeemlbjkmhiaaDoor.Pure
namespace Go.Proofs.YtbjeemlbjkmhiaaDoor.Pure
open Go.RowKit Go.Proofs.YtbjeemlbjkmhiaaDoor.Q Go.Proofs.YtbjeemlbjkmhiaaDoor.Num Go.Proofs.YtbjeemlbjkmhiaaDoor.Pol Go.Proofs.YtbjeemlbjkmhiaaDoorW.PrintWords Go.Proofs.YtbjeemlbjkmhiaaDoorW.PrintLast Go.Proofs.YtbjeemlbjkmhiaaDoorW.PrintMore

theorem or_join {x y : Int} (hx : 0 ≤ x ∧ x < 4294967296) (hy : 0 ≤ y ∧ y < 4294967296) : Go.bits .or .u64 (IntKind.u64.wrap (x * 4294967296)) (IntKind.u64.wrap y) = x * 4294967296 + y := by
  rw [wu64 (n := x * 4294967296) (by omega) (by omega), wu64 (n := y) (by omega) (by omega)]
  obtain ⟨X, rfl⟩ : ∃ n : Nat, x = n := ⟨x.toNat, by omega⟩
  obtain ⟨Y, rfl⟩ : ∃ n : Nat, y = n := ⟨y.toNat, by omega⟩
  rw [show (X : Int) * 4294967296 = ((X * 4294967296 : Nat) : Int) by omega, u64_or_nat _ _ (by omega) (by omega), nat_join 32 _ _ (by omega) (by omega)]
  omega
theorem ediv_lt {v b : Int} (hb : 0 < b) (h0 : 0 ≤ v) (h : v < b * 4294967296) : 0 ≤ v / b ∧ v / b < 4294967296 := ⟨Int.ediv_nonneg h0 (Int.le_of_lt hb), Int.ediv_lt_of_lt_mul hb (by rw [Int.mul_comm]; exact h)⟩
theorem div_uniq {v b q r : Int} (hr : 0 ≤ r ∧ r < b) (h : v = q * b + r) : v / b = q ∧ v % b = r := by
  have hb : 0 < b := by omega
  have h1 : v / b = q := by
    rw [h, Int.add_comm, Int.add_mul_ediv_right _ _ (by omega), Int.ediv_eq_zero_of_lt hr.1 hr.2, Int.zero_add]
  refine ⟨h1, ?_⟩
  rw [h, Int.add_comm, Int.add_mul_emod_self_right, Int.emod_eq_of_lt hr.1 hr.2]
theorem small_alg {D q b rest x v s t : Int} (hD : D = q * b + rest) (hv : v = rest * 4294967296 + x) (hd : t + b * s = v) : x + 4294967296 * D = (q * 4294967296 + s) * b + t := by
  subst hD
  grind
theorem small_l {a : List Int} {b : Int} (ha : Lb a) (hb : 0 < b ∧ b < 4294967296) (hn : a.length < 70368744177664) : ∀ (m : Nat) (out : List Int) (rest q : Int), m ≤ a.length → out.length = a.length → Lb out → 0 ≤ rest ∧ rest < b → (∀ t, t < m → co out t = 0) → Aside0 (vl out = q * Bp m) → Aside0 (vl (a.drop m) = q * b + rest) →
    Ev (fun k => ratio_small.l0 k a b out rest (a.length : Int) ((a.length - m : Nat) : Int)) (dg (vl a / b), vl a % b) := by
  intro m
  induction m with
  | zero =>
    intro out rest q hm ho hout hr hz hv hd
    have q1 : ¬ (((a.length - 0 : Nat) : Int) < (a.length : Int)) := by omega
    have q2 : out.length < 4611686018427387904 := by omega
    have q3 : rest % 4294967296 = rest := by omega
    obtain ⟨e1, e2⟩ := div_uniq (v := vl a) (q := q) hr hd.out
    have s := sr_trim (l := out) hout q2
    rw [hv.out, Bp_zero, Int.mul_one] at s
    rw [e1, e2]
    refine Ev.succ (fun k => ?_) (s.bind (G := fun _ t => some (t, rest)) (Ev.all fun _ => rfl))
    rw [ratio_small.l0, if_neg q1, q3]
  | succ m ih =>
    intro out rest q hm ho hout hr hz hv hd
    have q1 : ((a.length - (m + 1) : Nat) : Int) < (a.length : Int) := by omega
    have q2 : wrap64 (wrap64 ((a.length : Int) - 1) - ((a.length - (m + 1) : Nat) : Int)) = (m : Int) := by rw [w64 (n := (a.length : Int) - 1) (by omega) (by omega), w64 (by omega) (by omega)]; omega
    have q3 : m < a.length := by omega
    have q4 : m < out.length := by omega
    have q5 : wrap64 (((a.length - (m + 1) : Nat) : Int) + 1) = ((a.length - m : Nat) : Int) := by rw [w64 (by omega) (by omega)]; omega
    have hx := ha m
    have q6 : IntKind.u64.wrap b = b := wu64 (by omega) (by omega)
    have q7 := or_join (x := rest) (y := co a m) (by omega) hx
    obtain ⟨v, hvv⟩ : ∃ v, v = rest * 4294967296 + co a m := ⟨_, rfl⟩
    have v0 : 0 ≤ v := by omega
    have v1 : v < b * 4294967296 := by omega
    obtain ⟨s0, s1⟩ := ediv_lt hb.1 v0 v1
    have s2 : v < 18446744073709551616 := by omega
    have q8 : v / b % 4294967296 = v / b := Int.emod_eq_of_lt s0 s1
    have q9 : IntKind.u64.wrap (Int.tdiv v b) = v / b := by
      rw [Int.tdiv_eq_ediv_of_nonneg v0]
      exact wu64 s0 (Int.lt_trans s1 (by decide))
    have t1 : 0 ≤ v % b ∧ v % b < b := ⟨Int.emod_nonneg _ (by omega), Int.emod_lt_of_pos _ hb.1⟩
    have q10 : Int.tmod v b = v % b := Int.tmod_eq_emod_of_nonneg v0
    have hde := Int.emod_add_mul_ediv v b
    have key := ih (out.set m (v / b)) (v % b) (q * 4294967296 + v / b) (by omega) (by rw [List.length_set]; exact ho) (hout.set ⟨s0, s1⟩ _) t1 (fun t ht => by
      rw [co_set_ne q4 _ (by omega)]
      exact hz t (by omega)) ⟨by
        rw [vl_set q4, hv.out, hz m (Nat.lt_succ_self m), Bp_succ, Int.sub_zero, Int.add_mul, Int.mul_assoc]⟩ ⟨by
        rw [drop_succ_co q3]
        exact small_alg hd.out hvv hde⟩
    refine Ev.succ (fun k => ?_) key
    rw [ratio_small.l0, if_pos q1, q2, if_pos (Int.natCast_nonneg _), if_pos (Int.ofNat_lt.2 q3), q6, if_neg (by omega), if_pos (Int.ofNat_lt.2 q4), Int.toNat_natCast, rd_nat, q7, ← hvv, q9, q8, q10, q5]
theorem s_small {a : List Int} {b : Int} (ha : Lb a) (hb : 0 < b ∧ b < 4294967296) (hn : a.length < 70368744177664) : Ev (fun k => ratio_small.f k a b) (dg (vl a / b), vl a % b) := by
  have s := small_l ha hb hn a.length (List.replicate a.length 0) 0 0 (Nat.le_refl _) (by simp) (Lb.replicate _) (by omega) (fun t _ => co_replicate _ _) ⟨by rw [vl_replicate]; simp⟩ ⟨by rw [List.drop_length]; simp [vl]⟩
  rw [Nat.sub_self] at s
  refine Ev.congr (fun k => ?_) s
  rw [ratio_small.f, if_pos (Int.natCast_nonneg _), if_pos (by rw [Int.toNat_natCast]; omega), Int.toNat_natCast]
  rfl
theorem two_pow {n : Nat} (h : n < 32) : (0 : Int) < 2 ^ n ∧ (2 : Int) ^ n ≤ 2147483648 ∧ ∃ d : Int, 4294967296 = 2 ^ n * d := by
  have key : ∀ n : Fin 32, (0 : Int) < 2 ^ n.val ∧ (2 : Int) ^ n.val ≤ 2147483648 ∧ 4294967296 = (2 : Int) ^ n.val * 2 ^ (32 - n.val) := by decide +kernel
  obtain ⟨h1, h2, h3⟩ := key ⟨n, h⟩
  exact ⟨h1, h2, _, h3⟩
theorem low_mult {x S d : Int} (hS : 0 < S) (hd : 4294967296 = S * d) : (x * S) % 4294967296 % S = 0 := by
  rw [hd, Int.emod_emod_of_dvd _ (Int.dvd_mul_right S d), Int.mul_emod_left]
theorem or32_join {o lo S : Int} {n : Nat} (hS : S = 2 ^ n) (ho : 0 ≤ o ∧ o < S) (hl : 0 ≤ lo ∧ lo < 4294967296) (hm : lo % S = 0) (hSl : S ≤ 2147483648) : Go.bits .or .u32 o lo = o + lo := by
  obtain ⟨O, rfl⟩ : ∃ n : Nat, o = n := ⟨o.toNat, by omega⟩
  obtain ⟨L, rfl⟩ : ∃ n : Nat, lo = n := ⟨lo.toNat, by omega⟩
  have hS' : S = ((2 ^ n : Nat) : Int) := by rw [hS]; simp
  rw [u32_or_nat _ _ (by omega) (by omega), Nat.or_comm, nat_join n L O]
  · omega
  · rw [hS'] at hm
    exact_mod_cast hm
  · rw [hS'] at ho
    exact_mod_cast ho.2
theorem shifted_alg {T X S x o lo hi P : Int} (hv : T + o * P = X * S) (hd : lo + 4294967296 * hi = x * S) : T + (o + lo) * P + hi * (4294967296 * P) = (X + x * P) * S := by
  have h := congrArg (fun t => t * P) hd
  grind
theorem shifted_l {a : List Int} {n : Nat} (ha : Lb a) (hn : n < 32) (hl : a.length < 70368744177664) : ∀ (d i : Nat) (out : List Int), i + d = a.length → out.length = a.length + 1 → Lb out → co out i < 2 ^ n → Aside0 (vl (out.take (i + 1)) = vl (a.take i) * 2 ^ n) →
    ∃ r : List Int, r.length = a.length + 1 ∧ Lb r ∧ vl r = vl a * 2 ^ n ∧ Ev (fun k => ratio_shifted.l0 k (n : Int) out a (a.length : Int) (i : Int)) r := by
  intro d
  induction d with
  | zero =>
    intro i out hi ho hout hs hv
    have q1 : ¬ ((i : Int) < (a.length : Int)) := by omega
    have q2 : out.length ≤ i + 1 := by omega
    have q3 : a.length ≤ i := by omega
    refine ⟨out, ho, hout, ?_, Ev.succ (F := fun _ => some out) (fun k => ?_) (Ev.all fun _ => rfl)⟩
    · have := hv.out
      rwa [vl_take_all q2, vl_take_all q3] at this
    · rw [ratio_shifted.l0, if_neg q1]
  | succ d ih =>
    intro i out hi ho hout hs hv
    have g1 : (i : Int) < (a.length : Int) := by omega
    have g2 : i < a.length := by omega
    have g3 : i < out.length := by omega
    have g4 : i + 1 < out.length := by omega
    have g5 := w64_succ (i := i) (by omega)
    obtain ⟨p1, p2, p3, p4⟩ := two_pow hn
    have hmin : min ((n : Int)).toNat 64 = n := by omega
    obtain ⟨S, hS⟩ : ∃ S : Int, S = 2 ^ n := ⟨_, rfl⟩
    rw [← hS] at p1 p2 p4 hs
    have hx := ha i
    have hoo := hout i
    have b1 := Int.mul_nonneg hx.1 (Int.le_of_lt p1)
    have b2 := Int.mul_le_mul (show co a i ≤ 4294967295 by omega) p2 (Int.le_of_lt p1) (by omega)
    have e1 : shl .u64 (IntKind.u64.wrap (co a i)) (n : Int) = co a i * S := by
      rw [wu64 (n := co a i) (by omega) (by omega)]
      show IntKind.u64.wrap (co a i * 2 ^ min ((n : Int)).toNat 64) = _
      rw [hmin, ← hS]
      exact wu64 b1 (by omega)
    obtain ⟨z, hz⟩ : ∃ z, z = co a i * S := ⟨_, rfl⟩
    rw [← hz] at e1 b1 b2
    have lo1 : 0 ≤ z % 4294967296 ∧ z % 4294967296 < 4294967296 := by omega
    have hi1 : 0 ≤ z / 4294967296 ∧ z / 4294967296 < 4294967296 := by omega
    have hi2 : z / 4294967296 % 4294967296 = z / 4294967296 := by omega
    have lm := low_mult (x := co a i) p1 p4
    rw [← hz] at lm
    have e2 := or32_join (o := co out i) (lo := z % 4294967296) hS ⟨hoo.1, hs⟩ lo1 lm p2
    have hiS : z / 4294967296 < S := by
      refine Int.ediv_lt_of_lt_mul (by decide) ?_
      rw [hz, Int.mul_comm]
      exact Int.mul_lt_mul_of_pos_left hx.2 p1
    have slo : 0 ≤ co out i + z % 4294967296 ∧ co out i + z % 4294967296 < 4294967296 := by
      refine ⟨by omega, ?_⟩
      obtain ⟨c, hc⟩ := Int.dvd_of_emod_eq_zero lm
      have h1 := lo1.2
      rw [hc, p4] at h1
      have h2 := Int.lt_of_mul_lt_mul_left h1 (Int.le_of_lt p1)
      have h3 := Int.mul_le_mul_of_nonneg_left (show c + 1 ≤ p3 by omega) (Int.le_of_lt p1)
      rw [Int.mul_add, Int.mul_one, ← p4, ← hc] at h3
      omega
    have hd := Int.emod_add_mul_ediv z 4294967296
    have l1 : i + 1 < (out.set i (co out i + z % 4294967296)).length := by rw [List.length_set]; exact g4
    have key := ih (i + 1) ((out.set i (co out i + z % 4294967296)).set (i + 1) (z / 4294967296)) (by omega) (by rw [List.length_set, List.length_set]; exact ho) ((hout.set slo _).set hi1 _) (by rw [co_set_same l1, ← hS]; exact hiS) ⟨by
      rw [take_set_succ l1, take_set_succ g3, vl_take_succ g2, Bp_succ]
      have h := hv.out
      rw [vl_take_succ g3] at h
      rw [← hS] at h ⊢
      exact shifted_alg h (hd.trans hz)⟩
    obtain ⟨r, h1, h2, h3, h4⟩ := key
    refine ⟨r, h1, h2, h3, Ev.succ (fun k => ?_) h4⟩
    rw [ratio_shifted.l0, if_pos g1, if_pos (Int.natCast_nonneg _), if_pos g1, if_pos (Int.natCast_nonneg _), if_pos (Int.ofNat_lt.2 g3), g5, if_pos (Int.natCast_nonneg _), if_pos (Int.ofNat_lt.2 g4), Int.toNat_natCast, Int.toNat_natCast, rd_nat, rd_nat, e1, e2, hi2]
theorem s_shifted {a : List Int} {n : Nat} (ha : Lb a) (hn : n < 32) (hl : a.length < 70368744177663) : ∃ r : List Int, r.length = a.length + 1 ∧ Lb r ∧ vl r = vl a * 2 ^ n ∧ Ev (fun k => ratio_shifted.f k a (n : Int)) r := by
  have q2 : wrap64 ((a.length : Int) + 1) = ((a.length + 1 : Nat) : Int) := by rw [w64 (by omega) (by omega)]; omega
  obtain ⟨r, h1, h2, h3, h4⟩ := shifted_l ha hn (by omega) a.length 0 (List.replicate (a.length + 1) 0) (Nat.zero_add _) (by simp) (Lb.replicate _) (by rw [co_replicate]; exact (two_pow hn).1) ⟨by rw [vl_take_succ (by simp), co_replicate]; simp [vl]⟩
  refine ⟨r, h1, h2, h3, Ev.congr (fun k => ?_) h4⟩
  rw [ratio_shifted.f, q2, if_pos (Int.natCast_nonneg _), if_pos (by rw [Int.toNat_natCast]; omega), Int.toNat_natCast]
  rfl
def lt8 : ByteArray := (⟨#[0, 1, 2, 2, 3, 3, 3, 3, 4, 4, 4, 4, 4, 4, 4, 4, 5, 5, 5, 5, 5, 5, 5, 5, 5, 5, 5, 5, 5, 5, 5, 5, 6, 6, 6, 6, 6, 6, 6, 6, 6, 6, 6, 6, 6, 6, 6, 6, 6, 6, 6, 6, 6, 6, 6, 6, 6, 6, 6, 6, 6, 6, 6, 6, 7, 7, 7, 7, 7, 7, 7, 7, 7, 7, 7, 7, 7, 7, 7, 7, 7, 7, 7, 7, 7, 7, 7, 7, 7, 7, 7, 7, 7, 7, 7, 7, 7, 7, 7, 7, 7, 7, 7, 7, 7, 7, 7, 7, 7, 7, 7, 7, 7, 7, 7, 7, 7, 7, 7, 7, 7, 7, 7, 7, 7, 7, 7, 7, 8, 8, 8, 8, 8, 8, 8, 8, 8, 8, 8, 8, 8, 8, 8, 8, 8, 8, 8, 8, 8, 8, 8, 8, 8, 8, 8, 8, 8, 8, 8, 8, 8, 8, 8, 8, 8, 8, 8, 8, 8, 8, 8, 8, 8, 8, 8, 8, 8, 8, 8, 8, 8, 8, 8, 8, 8, 8, 8, 8, 8, 8, 8, 8, 8, 8, 8, 8, 8, 8, 8, 8, 8, 8, 8, 8, 8, 8, 8, 8, 8, 8, 8, 8, 8, 8, 8, 8, 8, 8, 8, 8, 8, 8, 8, 8, 8, 8, 8, 8, 8, 8, 8, 8, 8, 8, 8, 8, 8, 8, 8, 8, 8, 8, 8, 8, 8, 8, 8, 8, 8, 8, 8, 8, 8, 8, 8, 8]⟩ : ByteArray)
theorem lt8_all : ∀ i : Fin 255, ∃ t : Fin 8, bt lt8 ((i.val : Int) + 1) = (t.val : Int) + 1 ∧ (2 : Int) ^ t.val ≤ (i.val : Int) + 1 ∧ (i.val : Int) + 1 < 2 * 2 ^ t.val := by decide +kernel
theorem lt8_ok {i : Int} (h : 1 ≤ i ∧ i < 256) : ∃ t : Nat, t < 8 ∧ bt lt8 i = (t : Int) + 1 ∧ (2 : Int) ^ t ≤ i ∧ i < 2 * 2 ^ t := by
  obtain ⟨t, h1, h2, h3⟩ := lt8_all ⟨(i - 1).toNat, by omega⟩
  have e : (((i - 1).toNat : Nat) : Int) + 1 = i := by omega
  rw [e] at h1 h2 h3
  exact ⟨t.val, t.isLt, h1, h2, h3⟩
theorem lz_fin {x L : Int} {s t : Nat} (hs : s = 0 ∨ s = 8 ∨ s = 16 ∨ s = 24) (ht : t < 8) (hL : L = s + (t + 1)) (h1 : (2 : Int) ^ t ≤ x / 2 ^ s) (h2 : x / 2 ^ s < 2 * 2 ^ t) : ∃ n : Nat, n < 32 ∧ wrap64 (32 - L) = n ∧ 2147483648 ≤ x * 2 ^ n ∧ x * 2 ^ n < 4294967296 := by
  refine ⟨31 - s - t, by omega, by rw [w64 (by omega) (by omega)]; omega, ?_⟩
  rcases hs with rfl | rfl | rfl | rfl <;> rcases (show t = 0 ∨ t = 1 ∨ t = 2 ∨ t = 3 ∨ t = 4 ∨ t = 5 ∨ t = 6 ∨ t = 7 by omega) with rfl | rfl | rfl | rfl | rfl | rfl | rfl | rfl <;> simp only [Int.reducePow, Nat.reduceSub] at h1 h2 ⊢ <;> omega
set_option maxRecDepth 100000 in
theorem s_lz {x : Int} (h : 1 ≤ x ∧ x < 4294967296) : ∃ n : Nat, n < 32 ∧ bits_LeadingZeros32.f x = some (n : Int) ∧ 2147483648 ≤ x * 2 ^ n ∧ x * 2 ^ n < 4294967296 := by
  have fin : ∀ (s : Nat) (L : Int), (s = 0 ∨ s = 8 ∨ s = 16 ∨ s = 24) → 1 ≤ x / 2 ^ s ∧ x / 2 ^ s < 256 → bits_Len32.f x = some (wrap64 (L + wrap64 (bt lt8 (x / 2 ^ s)))) → L = s → ∃ n : Nat, n < 32 ∧ bits_LeadingZeros32.f x = some (n : Int) ∧ 2147483648 ≤ x * 2 ^ n ∧ x * 2 ^ n < 4294967296 := by
    intro s L hs hi hf hL
    obtain ⟨t, t1, t2, t3, t4⟩ := lt8_ok hi
    rw [t2, w64 (n := (t : Int) + 1) (by omega) (by omega), w64 (n := L + ((t : Int) + 1)) (by omega) (by omega)] at hf
    obtain ⟨n, n1, n2, n3, n4⟩ := lz_fin (x := x) (L := L + ((t : Int) + 1)) hs t1 (by rw [hL]) t3 t4
    refine ⟨n, n1, ?_, n3, n4⟩
    rw [bits_LeadingZeros32.f, hf, Option.bind_some, n2]
  by_cases c1 : x ≥ 65536
  · by_cases c2 : x / 65536 ≥ 256
    · refine fin 24 (16 + 8) (by simp) (by simp only [Int.reducePow]; omega) ?_ (by rfl)
      rw [bits_Len32.f, if_pos c1, if_pos c2, if_pos (by omega), if_pos (by omega), show x / 65536 / 256 % 256 = x / 2 ^ 24 by simp only [Int.reducePow]; omega]
      kernel_rfl
    · refine fin 16 16 (by simp) (by simp only [Int.reducePow]; omega) ?_ (by rfl)
      rw [bits_Len32.f, if_pos c1, if_neg c2, if_pos (by omega), if_pos (by omega), show x / 65536 % 256 = x / 2 ^ 16 by simp only [Int.reducePow]; omega]
      rfl
  · by_cases c2 : x ≥ 256
    · refine fin 8 (0 + 8) (by simp) (by simp only [Int.reducePow]; omega) ?_ (by rfl)
      rw [bits_Len32.f, if_neg c1, if_pos c2, if_pos (by omega), if_pos (by omega), show x / 256 % 256 = x / 2 ^ 8 by simp only [Int.reducePow]; omega]
      kernel_rfl
    · refine fin 0 0 (by simp) (by simp only [Int.reducePow]; omega) ?_ (by rfl)
      rw [bits_Len32.f, if_neg c1, if_neg c2, if_pos (by omega), if_pos (by omega), show x % 256 = x / 2 ^ 0 by simp only [Int.reducePow]; omega]
      rfl
end Go.Proofs.YtbjeemlbjkmhiaaDoor.Pure
namespace Go.Proofs.YtbjeemlbjkmhiaaDoor.Pure
open Go.RowKit Go.Proofs.YtbjeemlbjkmhiaaDoor.Q Go.Proofs.YtbjeemlbjkmhiaaDoor.Num Go.Proofs.YtbjeemlbjkmhiaaDoor.Pol Go.Proofs.YtbjeemlbjkmhiaaDoorW.PrintWords Go.Proofs.YtbjeemlbjkmhiaaDoorW.PrintLast Go.Proofs.YtbjeemlbjkmhiaaDoorW.PrintMore

structure KD (U V q v1 v2 u2 top Q U3 V3 : Int) : Prop where
  hU : U = U3 + u2 * Q + top * (4294967296 * Q)
  hV : V = V3 + v2 * Q + v1 * (4294967296 * Q)
  hU3 : 0 ≤ U3 ∧ U3 < Q
  hV3 : 0 ≤ V3 ∧ V3 < Q
  hv1 : 2147483648 ≤ v1 ∧ v1 < 4294967296
  hv2 : 0 ≤ v2 ∧ v2 < 4294967296
  hu2 : 0 ≤ u2 ∧ u2 < 4294967296
  htop : 0 ≤ top ∧ top ≤ v1 * 4294967296 + 4294967295
  q0 : 0 ≤ q
  hq : q * V ≤ U
  hq2 : U < (q + 1) * V
section
variable {U V q v1 v2 u2 top Q U3 V3 : Int}
theorem KD.Qpos (h : KD U V q v1 v2 u2 top Q U3 V3) : 0 < Q := by have := h.hU3; omega
theorem KD.Vlow (h : KD U V q v1 v2 u2 top Q U3 V3) : 4294967296 * Q ≤ V := by
  have h1 := h.Qpos
  have h2 := Int.mul_le_mul_of_nonneg_right (show 1 ≤ v1 by have := h.hv1; omega) (show 0 ≤ 4294967296 * Q by omega)
  have h3 := Int.mul_nonneg h.hv2.1 (Int.le_of_lt h1)
  have h4 := h.hV3
  rw [h.hV]
  omega
theorem KD.Vpos (h : KD U V q v1 v2 u2 top Q U3 V3) : 0 < V := by
  have := h.Vlow
  have := h.Qpos
  omega
theorem KD.exit (h : KD U V q v1 v2 u2 top Q U3 V3) {g rest : Int} (g0 : 0 ≤ g) (g1 : g < 4294967296) (e : g * v1 + rest = top) (t : g * v2 ≤ rest * 4294967296 + u2) : g ≤ q + 1 := by
  refine Int.not_lt.1 fun hc => ?_
  have hQ := h.Qpos
  have e2 := Int.mul_le_mul_of_nonneg_right t (Int.le_of_lt hQ)
  have e4 : g * V3 ≤ 4294967295 * Q := Int.mul_le_mul (by omega) (Int.le_of_lt h.hV3.2) h.hV3.1 (by omega)
  have e6 := Int.mul_le_mul_of_nonneg_right (show q + 1 ≤ g - 1 by omega) (Int.le_of_lt h.Vpos)
  have e7 := h.hq2
  have e8 := h.Vlow
  have e9 := h.hU3.1
  have e1 : g * V = g * V3 + g * v2 * Q + g * v1 * (4294967296 * Q) := by rw [h.hV]; grind
  have e3 : g * v1 * (4294967296 * Q) = top * (4294967296 * Q) - rest * (4294967296 * Q) := by rw [← e]; grind
  have e5 : (rest * 4294967296 + u2) * Q = rest * (4294967296 * Q) + u2 * Q := by grind
  have e10 : (g - 1) * V = g * V - V := by grind
  have e11 := h.hU
  omega
theorem KD.more (h : KD U V q v1 v2 u2 top Q U3 V3) {g rest : Int} (g0 : 0 ≤ g) (e : g * v1 + rest = top) (t : rest * 4294967296 + u2 < g * v2) : q < g := by
  refine Int.not_le.1 fun hc => ?_
  have hQ := h.Qpos
  have e2 := Int.mul_le_mul_of_nonneg_right (show rest * 4294967296 + u2 + 1 ≤ g * v2 by omega) (Int.le_of_lt hQ)
  have e4 := Int.mul_nonneg g0 h.hV3.1
  have e6 := Int.mul_le_mul_of_nonneg_right hc (Int.le_of_lt h.Vpos)
  have e7 := h.hq
  have e9 := h.hU3.2
  have e1 : g * V = g * V3 + g * v2 * Q + g * v1 * (4294967296 * Q) := by rw [h.hV]; grind
  have e3 : g * v1 * (4294967296 * Q) = top * (4294967296 * Q) - rest * (4294967296 * Q) := by rw [← e]; grind
  have e5 : (rest * 4294967296 + u2 + 1) * Q = rest * (4294967296 * Q) + u2 * Q + Q := by grind
  have e11 := h.hU
  omega
theorem KD.first (h : KD U V q v1 v2 u2 top Q U3 V3) : q ≤ top / v1 := by
  have hQ := h.Qpos
  have hv := h.hv1
  refine Int.le_ediv_of_mul_le (by omega) (Int.not_lt.1 fun hc => ?_)
  have e1 := Int.mul_le_mul_of_nonneg_right (show top + 1 ≤ q * v1 by omega) (show 0 ≤ 4294967296 * Q by omega)
  have e2 : q * V = q * V3 + q * v2 * Q + q * v1 * (4294967296 * Q) := by rw [h.hV]; grind
  have e3 := Int.mul_nonneg h.q0 h.hV3.1
  have e4 := Int.mul_nonneg (Int.mul_nonneg h.q0 h.hv2.1) (Int.le_of_lt hQ)
  have e5 := Int.mul_le_mul_of_nonneg_right (show u2 ≤ 4294967295 by have := h.hu2; omega) (Int.le_of_lt hQ)
  have e6 : (top + 1) * (4294967296 * Q) = top * (4294967296 * Q) + 4294967296 * Q := by grind
  have e7 := h.hq
  have e8 := h.hU
  have e9 := h.hU3.2
  omega
theorem KD.bound (h : KD U V q v1 v2 u2 top Q U3 V3) : top / v1 ≤ 4294967297 := by
  have hv := h.hv1
  have ht := h.htop
  refine Int.le_of_lt_add_one (Int.ediv_lt_of_lt_mul (by omega) ?_)
  omega
theorem KD.below (h : KD U V q v1 v2 u2 top Q U3 V3) {g rest : Int} (e : g * v1 + rest = top) (hr : 4294967296 ≤ rest) : g < 4294967296 := by
  refine Int.not_le.1 fun hc => ?_
  have h1 := Int.mul_le_mul_of_nonneg_right hc (show 0 ≤ v1 by have := h.hv1; omega)
  have ht := h.htop
  rw [Int.mul_comm 4294967296 v1] at h1
  omega
theorem KD.small (h : KD U V q v1 v2 u2 top Q U3 V3) {g rest : Int} (g0 : 0 ≤ g) (g1 : g < 4294967296) (hr : 4294967296 ≤ rest) : g * v2 ≤ rest * 4294967296 + u2 := by
  have h1 : g * v2 ≤ 4294967295 * 4294967295 := Int.mul_le_mul (by omega) (by have := h.hv2; omega) h.hv2.1 (by omega)
  have h2 := h.hu2.1
  omega
end
theorem search_l {u v : List Int} {n : Nat} {U V q top Q U3 V3 : Int} (hu : Lb u) (hv : Lb v) (lu : u.length = n + 1) (lv : v.length = n) (hn : 2 ≤ n) (hl : n < 70368744177664) (h : Aside0 (KD U V q (co v (n - 1)) (co v (n - 2)) (co u (n - 2)) top Q U3 V3)) (hqB : q < 4294967296) {r : Int × List Int}
    (hK : ∀ g : Int, (g = q ∨ g = q + 1) → 0 ≤ g → g < 4294967296 → Ev (fun k => ratio_digit.j2 k u v (n : Int) g) r) :
    ∀ (m : Nat) (g rest : Int), g = q + m → g ≤ 4294967297 → 0 ≤ rest ∧ rest < 4294967296 → Aside0 (g * co v (n - 1) + rest = top) → Ev (fun k => ratio_digit.l0 k u v (n : Int) g rest) r := by
  intro m
  induction m with
  | zero =>
    intro g rest hg hg1 hr he
    have q0 := h.out.q0
    have g0 : 0 ≤ g := by omega
    have g1 : g < 4294967296 := by omega
    have i2 : wrap64 ((n : Int) - 2) = ((n - 2 : Nat) : Int) := by rw [w64 (by omega) (by omega)]; omega
    have v2 := hv (n - 2)
    have u2 := hu (n - 2)
    have t : ¬ (rest * 4294967296 + co u (n - 2) < g * co v (n - 2)) := fun t => by
      have := h.out.more g0 he.out t
      omega
    obtain ⟨b1, b2⟩ := mul_bd (x := g) (y := co v (n - 2)) (o := 0) (c := 0) ⟨g0, g1⟩ v2 (by omega) (by omega)
    have w1 : IntKind.u64.wrap (g * IntKind.u64.wrap (co v (n - 2))) = g * co v (n - 2) := by
      rw [wu64 (n := co v (n - 2)) (by omega) (by omega)]
      exact wu64 b1 (by omega)
    have w2 := or_join (x := rest) hr u2
    have d1 : g / 4294967296 = 0 := by omega
    have l1 : ((n - 2 : Nat) : Int) < (v.length : Int) := by omega
    have l2 : ((n - 2 : Nat) : Int) < (u.length : Int) := by omega
    refine Ev.succ (fun k => ?_) (Ev.succ (fun k => ?_) (hK g (Or.inl (by omega)) g0 g1) : Ev (fun k => ratio_digit.j1 k u v (n : Int) g rest false) r)
    · rw [ratio_digit.l0, if_pos d1, i2, if_pos (Int.natCast_nonneg _), if_pos l1, if_pos l2, rd_nat, rd_nat, w1, w2, decide_eq_false t]
    · rw [ratio_digit.j1, if_neg (by decide)]
  | succ m ih =>
    intro g rest hg hg1 hr he
    have q0 := h.out.q0
    have g0 : 0 ≤ g := by omega
    have i1 : wrap64 ((n : Int) - 1) = ((n - 1 : Nat) : Int) := by rw [w64 (by omega) (by omega)]; omega
    have i2 : wrap64 ((n : Int) - 2) = ((n - 2 : Nat) : Int) := by rw [w64 (by omega) (by omega)]; omega
    have v1 := hv (n - 1)
    have v2 := hv (n - 2)
    have u2 := hu (n - 2)
    have l1 : ((n - 2 : Nat) : Int) < (v.length : Int) := by omega
    have l2 : ((n - 2 : Nat) : Int) < (u.length : Int) := by omega
    have l3 : ((n - 1 : Nat) : Int) < (v.length : Int) := by omega
    have w3 : IntKind.u64.wrap (rest + IntKind.u64.wrap (co v (n - 1))) = rest + co v (n - 1) := by
      rw [wu64 (n := co v (n - 1)) (by omega) (by omega)]
      exact wu64 (by omega) (by omega)
    have w4 : IntKind.u64.wrap (g - 1) = g - 1 := wu64 (by omega) (by omega)
    have he2 : (g - 1) * co v (n - 1) + (rest + co v (n - 1)) = top := by
      rw [← he.out, Int.sub_mul, Int.one_mul]
      omega
    have step : Ev (fun k => ratio_digit.j1 k u v (n : Int) g rest true) r := by
      by_cases c : (rest + co v (n - 1)) / 4294967296 = 0
      · refine Ev.succ (fun k => ?_) (ih (g - 1) (rest + co v (n - 1)) (by omega) (by omega) (by omega) ⟨he2⟩)
        rw [ratio_digit.j1, if_pos rfl, i1, if_pos (Int.natCast_nonneg _), if_pos l3, rd_nat, w3, if_pos c, w4]
      · have hr2 : 4294967296 ≤ rest + co v (n - 1) := by omega
        have g1 := h.out.below he2 hr2
        have g2 := h.out.exit (by omega) g1 he2 (h.out.small (by omega) g1 hr2)
        refine Ev.succ (fun k => ?_) (hK (g - 1) (by omega) (by omega) g1)
        rw [ratio_digit.j1, if_pos rfl, i1, if_pos (Int.natCast_nonneg _), if_pos l3, rd_nat, w3, if_neg c, w4]
    by_cases d1 : g / 4294967296 = 0
    · have g1 : g < 4294967296 := by omega
      obtain ⟨b1, b2⟩ := mul_bd (x := g) (y := co v (n - 2)) (o := 0) (c := 0) ⟨g0, g1⟩ v2 (by omega) (by omega)
      have w1 : IntKind.u64.wrap (g * IntKind.u64.wrap (co v (n - 2))) = g * co v (n - 2) := by
        rw [wu64 (n := co v (n - 2)) (by omega) (by omega)]
        exact wu64 b1 (by omega)
      have w2 := or_join (x := rest) hr u2
      by_cases t : rest * 4294967296 + co u (n - 2) < g * co v (n - 2)
      · refine Ev.succ (fun k => ?_) step
        rw [ratio_digit.l0, if_pos d1, i2, if_pos (Int.natCast_nonneg _), if_pos l1, if_pos l2, rd_nat, rd_nat, w1, w2, decide_eq_true t]
      · have g2 := h.out.exit g0 g1 he.out (Int.not_lt.1 t)
        refine Ev.succ (fun k => ?_) (Ev.succ (fun k => ?_) (hK g (by omega) g0 g1) : Ev (fun k => ratio_digit.j1 k u v (n : Int) g rest false) r)
        · rw [ratio_digit.l0, if_pos d1, i2, if_pos (Int.natCast_nonneg _), if_pos l1, if_pos l2, rd_nat, rd_nat, w1, w2, decide_eq_false t]
        · rw [ratio_digit.j1, if_neg (by decide)]
    · refine Ev.succ (fun k => ?_) step
      rw [ratio_digit.l0, if_neg d1]
end Go.Proofs.YtbjeemlbjkmhiaaDoor.Pure
namespace Go.Proofs.YtbjeemlbjkmhiaaDoor.Pure
open Go.RowKit Go.Proofs.YtbjeemlbjkmhiaaDoor.Q Go.Proofs.YtbjeemlbjkmhiaaDoor.Num Go.Proofs.YtbjeemlbjkmhiaaDoor.Pol Go.Proofs.YtbjeemlbjkmhiaaDoorW.PrintWords Go.Proofs.YtbjeemlbjkmhiaaDoorW.PrintLast Go.Proofs.YtbjeemlbjkmhiaaDoorW.PrintMore

def dgN : Nat → Int → List Int
  | 0, _ => []
  | n + 1, x => x % 4294967296 :: dgN n (x / 4294967296)
theorem dgN_len : ∀ (n : Nat) (x : Int), (dgN n x).length = n
  | 0, _ => rfl
  | n + 1, x => by rw [dgN, List.length_cons, dgN_len]
theorem dgN_lb : ∀ (n : Nat) (x : Int), Lb (dgN n x)
  | 0, _ => Lb.nil
  | n + 1, x => Lb.cons (by omega) (dgN_lb n _)
theorem dgN_vl : ∀ {n : Nat} {x : Int}, 0 ≤ x → x < Bp n → vl (dgN n x) = x
  | 0, x, h0, h => by rw [Bp_zero] at h; rw [dgN, vl_nil]; omega
  | n + 1, x, h0, h => by rw [Bp_succ] at h; rw [dgN, vl_cons, dgN_vl (by omega) (by omega)]; omega
theorem lb_uniq : ∀ {a b : List Int}, Lb a → Lb b → a.length = b.length → vl a = vl b → a = b
  | [], [], _, _, _, _ => rfl
  | [], _ :: _, _, _, h, _ => by simp at h
  | _ :: _, [], _, _, h, _ => by simp at h
  | x :: a, y :: b, ha, hb, h, e => by
    have h1 := ha 0
    have h2 := hb 0
    rw [show co (x :: a) 0 = x from rfl] at h1
    rw [show co (y :: b) 0 = y from rfl] at h2
    rw [vl_cons, vl_cons] at e
    have e1 : x = y := by omega
    rw [e1, lb_uniq ha.tail hb.tail (by simpa using h) (by omega)]
theorem dsub_alg {X U g T P x y c b d b2 lo hi : Int} (hv : X + g * T = U + (c + b) * P) (hp : lo + 4294967296 * hi = g * y + c) (hd : d - 4294967296 * b2 = x - lo - b) : X + (d - x) * P + g * (T + y * P) = U + (hi + b2) * (4294967296 * P) := by
  have h1 := congrArg (fun t => t * P) hp
  have h2 := congrArg (fun t => t * P) hd
  grind
theorem dsub_end {X U gV P x c b d b2 : Int} (hv : X + gV = U + (c + b) * P) (hd : d - 4294967296 * b2 = x - c - b) : X + (d - x) * P = U - gV + b2 * (4294967296 * P) := by
  have h2 := congrArg (fun t => t * P) hd
  grind
theorem dadd_alg {X Y T P x y c s q : Int} (hv : X + c * P = Y + T) (hd : s + 4294967296 * q = x + y + c) : X + (s - x) * P + q * (4294967296 * P) = Y + (T + y * P) := by
  have h2 := congrArg (fun t => t * P) hd
  grind
theorem dadd_l {v : List Int} {n : Nat} (hv : Lb v) (lv : v.length = n) (hl : n < 70368744177664) {Y g : Int} (hg : 1 ≤ g ∧ g < 4294967297) :
    ∀ (d i : Nat) (out : List Int) (c : Int), i + d = n → out.length = n + 1 → Lb out → 0 ≤ c ∧ c ≤ 1 → Aside0 (vl out + c * Bp i = Y + vl (v.take i)) →
    ∃ r : List Int, r.length = n + 1 ∧ Lb r ∧ (∃ t : Int, (t = 0 ∨ t = 1) ∧ vl r = Y + vl v - t * Bp (n + 1)) ∧ Ev (fun k => ratio_digit.l2 k out (n : Int) g c v (n : Int) (i : Int)) (g - 1, r) := by
  intro d
  induction d with
  | zero =>
    intro i out c hi ho hout hc hx
    have q1 : ¬ ((i : Int) < (n : Int)) := by omega
    have q2 : (n : Int) < (out.length : Int) := by omega
    have q3 : n < out.length := by omega
    have q4 : i = n := by omega
    have q5 : v.length ≤ i := by omega
    have q6 : IntKind.u64.wrap (g - 1) % 4294967296 = g - 1 := by rw [wu64 (by omega) (by omega)]; omega
    have hy := hout n
    have hs : 0 ≤ (co out n + c) % 4294967296 ∧ (co out n + c) % 4294967296 < 4294967296 := by omega
    have ht : (co out n + c) / 4294967296 = 0 ∨ (co out n + c) / 4294967296 = 1 := by omega
    have hd := Int.emod_add_mul_ediv (co out n + c) 4294967296
    refine ⟨out.set n ((co out n + c) % 4294967296), by rw [List.length_set]; exact ho, hout.set hs _, ⟨(co out n + c) / 4294967296, ht, ?_⟩, Ev.succ (F := fun _ => some (g - 1, out.set n ((co out n + c) % 4294967296))) (fun k => ?_) (Ev.all fun _ => rfl)⟩
    · rw [vl_set q3]
      have h := hx.out
      rw [q4, vl_take_all (by omega)] at h
      have h3 := dadd_alg (T := vl v) (y := 0) (x := co out n) h (hd.trans (by omega))
      rw [Int.zero_mul, Int.add_zero] at h3
      rw [Bp_succ]
      omega
    · rw [ratio_digit.l2, if_neg q1, if_pos (Int.natCast_nonneg _), if_pos q2, Int.toNat_natCast, rd_nat, q6]
  | succ d ih =>
    intro i out c hi ho hout hc hx
    have g1 : (i : Int) < (n : Int) := by omega
    have g2 : (i : Int) < (v.length : Int) := by omega
    have g3 : (i : Int) < (out.length : Int) := by omega
    have g4 : i < v.length := by omega
    have g5 : i < out.length := by omega
    have g6 := w64_succ (i := i) (by omega)
    have hxx := hout i
    have hy := hv i
    have hd := Int.emod_add_mul_ediv (co out i + co v i + c) 4294967296
    have hr : 0 ≤ (co out i + co v i + c) % 4294967296 ∧ (co out i + co v i + c) % 4294967296 < 4294967296 := ⟨Int.emod_nonneg _ (by decide), Int.emod_lt_of_pos _ (by decide)⟩
    have hq : 0 ≤ (co out i + co v i + c) / 4294967296 ∧ (co out i + co v i + c) / 4294967296 ≤ 1 := by
      clear hd hr g1 g2 g3 g4 g5 g6 hi ho
      generalize co out i = x at *
      generalize co v i = y at *
      omega
    obtain ⟨r, r1, r2, r3, r4⟩ := ih (i + 1) (out.set i ((co out i + co v i + c) % 4294967296)) ((co out i + co v i + c) / 4294967296) (by omega) (by rw [List.length_set]; exact ho) (hout.set hr _) hq ⟨by
      rw [vl_set g5, vl_take_succ g4, Bp_succ]
      exact dadd_alg hx.out hd⟩
    refine ⟨r, r1, r2, r3, Ev.succ (fun k => ?_) r4⟩
    rw [ratio_digit.l2, if_pos g1, if_pos (Int.natCast_nonneg _), if_pos g2, if_pos g3, rd_nat, rd_nat, add32 hxx hy hc, Option.bind_some, Int.toNat_natCast, g6]
theorem sub32_rel {x y b : Int} (hx : 0 ≤ x ∧ x < 4294967296) (hy : 0 ≤ y ∧ y < 4294967296) (hb : 0 ≤ b ∧ b ≤ 1) : ∃ d b2 : Int, bits_Sub32.f x y b = some (d, b2) ∧ (0 ≤ d ∧ d < 4294967296) ∧ (b2 = 0 ∨ b2 = 1) ∧ d - 4294967296 * b2 = x - y - b := by
  refine ⟨_, _, sub32 hx hy hb, by omega, ?_, ?_⟩
  · by_cases h : x < y + b
    · rw [if_pos h]; exact Or.inr rfl
    · rw [if_neg h]; exact Or.inl rfl
  · by_cases h : x < y + b
    · rw [if_pos h]; omega
    · rw [if_neg h]; omega
theorem dsub_l {v : List Int} {n : Nat} (hv : Lb v) (lv : v.length = n) (hl : n < 70368744177664) {U g : Int} (hg : 0 ≤ g ∧ g < 4294967296) {r : Int × List Int}
    (hK : ∀ (y : List Int) (b : Int), y.length = n + 1 → Lb y → (b = 0 ∨ b = 1) → Aside0 (vl y = U - g * vl v + b * Bp (n + 1)) → Ev (fun k => if b = 0 then some (g % 4294967296, y) else ratio_digit.l2 k y (n : Int) g 0 v (n : Int) 0) r) :
    ∀ (d i : Nat) (out : List Int) (c b : Int), i + d = n → out.length = n + 1 → Lb out → 0 ≤ c ∧ c < 4294967296 → 0 ≤ b ∧ b ≤ 1 → Aside0 (vl out + g * vl (v.take i) = U + (c + b) * Bp i) →
    Ev (fun k => ratio_digit.l1 k out v (n : Int) g c b v (n : Int) (i : Int)) r := by
  intro d
  induction d with
  | zero =>
    intro i out c b hi ho hout hc hb hx
    have q1 : ¬ ((i : Int) < (n : Int)) := by omega
    have q2 : (n : Int) < (out.length : Int) := by omega
    have q3 : n < out.length := by omega
    have q4 : i = n := by omega
    have q5 : v.length ≤ n := by omega
    have q6 : c % 4294967296 = c := by omega
    obtain ⟨d, b2, e1, e2, e3, e4⟩ := sub32_rel (hout n) hc hb
    refine Ev.succ (fun k => ?_) (hK (out.set n d) b2 (by rw [List.length_set]; exact ho) (hout.set e2 _) e3 ⟨?_⟩)
    · rw [ratio_digit.l1, if_neg q1, if_pos (Int.natCast_nonneg _), if_pos q2, rd_nat, q6, e1, Option.bind_some, Option.bind_some, Int.toNat_natCast, lv]
    · have h := hx.out
      rw [q4, vl_take_all q5] at h
      rw [vl_set q3, Bp_succ]
      exact dsub_end h e4
  | succ d ih =>
    intro i out c b hi ho hout hc hb hx
    have g1 : (i : Int) < (n : Int) := by omega
    have g2 : (i : Int) < (v.length : Int) := by omega
    have g3 : (i : Int) < (out.length : Int) := by omega
    have g4 : i < v.length := by omega
    have g5 : i < out.length := by omega
    have g6 := w64_succ (i := i) (by omega)
    have hy := hv i
    obtain ⟨m1, m2⟩ := mul_bd (x := g) (y := co v i) (o := 0) (c := c) hg hy (by omega) hc
    have w0 : IntKind.u64.wrap (co v i) = co v i := wu64 (by omega) (by omega)
    have w1 : IntKind.u64.wrap (g * co v i) = g * co v i := wu64 m1 (by omega)
    have w2 : IntKind.u64.wrap (g * co v i + c) = g * co v i + c := wu64 (by omega) (by omega)
    have hr : 0 ≤ (g * co v i + c) % 4294967296 ∧ (g * co v i + c) % 4294967296 < 4294967296 := ⟨Int.emod_nonneg _ (by decide), Int.emod_lt_of_pos _ (by decide)⟩
    have hq : 0 ≤ (g * co v i + c) / 4294967296 ∧ (g * co v i + c) / 4294967296 < 4294967296 := by omega
    have hp := Int.emod_add_mul_ediv (g * co v i + c) 4294967296
    obtain ⟨d1, b2, e1, e2, e3, e4⟩ := sub32_rel (hout i) hr hb
    refine Ev.succ (fun k => ?_) (ih (i + 1) (out.set i d1) ((g * co v i + c) / 4294967296) b2 (by omega) (by rw [List.length_set]; exact ho) (hout.set e2 _) hq (by omega) ⟨?_⟩)
    · rw [ratio_digit.l1, if_pos g1, if_pos (Int.natCast_nonneg _), if_pos g2, if_pos g3, rd_nat, rd_nat, w0, w1, w2, e1, Option.bind_some, Int.toNat_natCast, g6]
    · rw [vl_set g5, vl_take_succ g4, Bp_succ]
      exact dsub_alg hx.out hp e4
theorem b_cases {U V q g bb : Int} {P : Int} (hq : q * V ≤ U) (hq2 : U < (q + 1) * V) (hg : g = q ∨ g = q + 1) {y : Int} (hy : 0 ≤ y ∧ y < P) (hb : bb = 0 ∨ bb = 1) (e : y = U - g * V + bb * P) : (bb = 0 ∧ g = q ∧ y = U - q * V) ∨ (bb = 1 ∧ g = q + 1 ∧ y = U - q * V - V + P) := by
  have h2 : (q + 1) * V = q * V + V := by grind
  rcases hg with rfl | rfl <;> rcases hb with rfl | rfl
  · left; refine ⟨rfl, rfl, ?_⟩; omega
  · omega
  · omega
  · right; refine ⟨rfl, rfl, ?_⟩; omega
theorem s_digit {u v : List Int} {n : Nat} (hu : Lb u) (hv : Lb v) (lu : u.length = n + 1) (lv : v.length = n) (hn : 2 ≤ n) (hl : n < 70368744177664) (ht : 2147483648 ≤ co v (n - 1)) (hlt : vl u < vl v * 4294967296) :
    ∃ r : List Int, r.length = n + 1 ∧ Lb r ∧ vl r = vl u % vl v ∧ Ev (fun k => ratio_digit.f k u v) (vl u / vl v, r) := by
  have ru := vl_range hu
  have rv := vl_range hv
  have n1 : n - 1 = n - 2 + 1 := by omega
  have sv : vl v = vl (v.take (n - 2)) + co v (n - 2) * Bp (n - 2) + co v (n - 1) * (4294967296 * Bp (n - 2)) := by
    have h1 := vl_take_succ (l := v) (i := n - 2) (by omega)
    have h2 := vl_take_succ (l := v) (i := n - 1) (by omega)
    rw [vl_take_all (by omega), n1, h1, Bp_succ] at h2
    rw [n1]; exact h2
  have su : vl u = vl (u.take (n - 2)) + co u (n - 2) * Bp (n - 2) + (co u n * 4294967296 + co u (n - 1)) * (4294967296 * Bp (n - 2)) := by
    have h1 := vl_take_succ (l := u) (i := n - 2) (by omega)
    have h2 := vl_take_succ (l := u) (i := n - 1) (by omega)
    have h3 := vl_take_succ (l := u) (i := n) (by omega)
    have e : n = n - 2 + 1 + 1 := by omega
    rw [vl_take_all (by omega)] at h3
    rw [h3]
    have h4 : vl (u.take n) = vl (u.take (n - 1 + 1)) := by rw [show n - 1 + 1 = n by omega]
    rw [h4, h2, n1, h1, show Bp n = 4294967296 * (4294967296 * Bp (n - 2)) by rw [← Bp_succ, ← Bp_succ, ← e], Bp_succ]
    grind
  have hV : 0 < vl v := by
    have h1 := vl_range (hv.take (n - 2))
    have h2 := Int.mul_nonneg (hv (n - 2)).1 (Int.le_of_lt (Bp_pos (n - 2)))
    have h3 := Int.mul_le_mul_of_nonneg_right (show 1 ≤ co v (n - 1) by omega) (show 0 ≤ 4294967296 * Bp (n - 2) by have := Bp_pos (n - 2); omega)
    have h4 := Bp_pos (n - 2)
    omega
  have hq := ediv_lt hV ru.1 hlt
  have hdm := Int.emod_add_mul_ediv (vl u) (vl v)
  have hm0 := Int.emod_nonneg (vl u) (Int.ne_of_gt hV)
  have hm1 := Int.emod_lt_of_pos (vl u) hV
  have tv := hv (n - 1)
  have tu := hu n
  have tu1 := hu (n - 1)
  have hq1 : vl u / vl v * vl v ≤ vl u := by rw [Int.mul_comm]; omega
  have hq2 : vl u < (vl u / vl v + 1) * vl v := by rw [Int.add_mul, Int.mul_comm (vl u / vl v)]; omega
  have htop : co u n * 4294967296 + co u (n - 1) ≤ co v (n - 1) * 4294967296 + 4294967295 := by
    refine Int.not_lt.1 fun hc => ?_
    have hQ := Bp_pos (n - 2)
    have hc2 : (co v (n - 1) + 1) * 4294967296 ≤ co u n * 4294967296 + co u (n - 1) := by omega
    have h1 := Int.mul_le_mul_of_nonneg_right hc2 (show 0 ≤ 4294967296 * Bp (n - 2) by omega)
    have h2 := (vl_range (hu.take (n - 2))).1
    have h3 := Int.mul_nonneg (hu (n - 2)).1 (Int.le_of_lt hQ)
    have h4 := (vl_range (hv.take (n - 2))).2
    rw [List.length_take, Nat.min_eq_left (by omega)] at h4
    have h5 := Int.mul_le_mul_of_nonneg_right (show co v (n - 2) ≤ 4294967295 by have := hv (n - 2); omega) (Int.le_of_lt hQ)
    have h6 : (co v (n - 1) + 1) * 4294967296 * (4294967296 * Bp (n - 2)) = 4294967296 * (co v (n - 1) * (4294967296 * Bp (n - 2))) + 4294967296 * (4294967296 * Bp (n - 2)) := by grind
    omega
  have hr3 : (vl (u.take (n - 2))) < Bp (n - 2) := by
    have := (vl_range (hu.take (n - 2))).2
    rw [List.length_take, Nat.min_eq_left (by omega)] at this
    exact this
  have hr4 : (vl (v.take (n - 2))) < Bp (n - 2) := by
    have := (vl_range (hv.take (n - 2))).2
    rw [List.length_take, Nat.min_eq_left (by omega)] at this
    exact this
  have K : KD (vl u) (vl v) (vl u / vl v) (co v (n - 1)) (co v (n - 2)) (co u (n - 2)) (co u n * 4294967296 + co u (n - 1)) (Bp (n - 2)) (vl (u.take (n - 2))) (vl (v.take (n - 2))) := {
    hU := su
    hV := sv
    hU3 := ⟨(vl_range (hu.take _)).1, hr3⟩
    hV3 := ⟨(vl_range (hv.take _)).1, hr4⟩
    hv1 := ⟨ht, tv.2⟩
    hv2 := hv _
    hu2 := hu _
    htop := ⟨by omega, htop⟩
    q0 := hq.1
    hq := hq1
    hq2 := hq2 }
  have hres : vl u - vl u / vl v * vl v = vl u % vl v := by rw [Int.mul_comm]; omega
  have hVP : vl v < Bp (n + 1) := by
    have h1 := rv.2
    rw [lv] at h1
    rw [Bp_succ]
    omega
  have D : ∃ r : List Int, (r.length = n + 1 ∧ Lb r ∧ vl r = vl u % vl v) ∧ ∀ g : Int, (g = vl u / vl v ∨ g = vl u / vl v + 1) → 0 ≤ g → g < 4294967296 → Ev (fun k => ratio_digit.j2 k u v (n : Int) g) (vl u / vl v, r) := by
    refine ⟨dgN (n + 1) (vl u % vl v), ⟨dgN_len _ _, dgN_lb _ _, dgN_vl (by omega) (by omega)⟩, fun g hg g0 g1 => ?_⟩
    refine Ev.succ (F := fun k => ratio_digit.l1 k u v (n : Int) g 0 0 v (n : Int) ((0 : Nat) : Int)) (fun k => ?_) ?_
    · rw [ratio_digit.j2, lv]; rfl
    refine dsub_l (U := vl u) hv lv hl ⟨g0, g1⟩ (fun y b ly hy hb e => ?_) n 0 u 0 0 (by omega) lu hu (by omega) (by omega) ⟨by rw [List.take_zero, vl_nil]; grind⟩
    have ry := vl_range hy
    rw [ly] at ry
    rcases b_cases hq1 hq2 hg ry hb e.out with ⟨c1, c2, c3⟩ | ⟨c1, c2, c3⟩
    · subst c1
      refine Ev.all fun k => ?_
      rw [if_pos rfl, c2, Int.emod_eq_of_lt hq.1 hq.2]
      refine congrArg some (Prod.ext rfl ?_)
      exact lb_uniq hy (dgN_lb _ _) (by rw [ly, dgN_len]) (by rw [c3, dgN_vl (by omega) (by omega), hres])
    · subst c1
      obtain ⟨y2, l2, h2, ⟨t, ht1, ht2⟩, e2⟩ := dadd_l (Y := vl y) (g := g) hv lv hl (by omega) n 0 y 0 (by omega) ly hy (by omega) ⟨by rw [List.take_zero, vl_nil]; omega⟩
      have ry2 := vl_range h2
      rw [l2] at ry2
      have hy2 : y2 = dgN (n + 1) (vl u % vl v) := by
        refine lb_uniq h2 (dgN_lb _ _) (by rw [l2, dgN_len]) ?_
        rw [dgN_vl (by omega) (by omega)]
        rcases ht1 with rfl | rfl
        · omega
        · omega
      subst hy2
      refine Ev.congr (fun k => ?_) (show Ev _ (vl u / vl v, dgN (n + 1) (vl u % vl v)) from (show g - 1 = vl u / vl v by omega) ▸ e2)
      rw [if_neg (by decide)]
      rfl
  obtain ⟨r, ⟨r1, r2, r3⟩, hD⟩ := D
  refine ⟨r, r1, r2, r3, ?_⟩
  have hm := Int.emod_add_mul_ediv (co u n * 4294967296 + co u (n - 1)) (co v (n - 1))
  have hmr0 := Int.emod_nonneg (co u n * 4294967296 + co u (n - 1)) (show co v (n - 1) ≠ 0 by omega)
  have hmr1 := Int.emod_lt_of_pos (co u n * 4294967296 + co u (n - 1)) (show 0 < co v (n - 1) by omega)
  have hf := K.first
  have hb := K.bound
  have S := search_l hu hv lu lv hn hl ⟨K⟩ hq.2 hD ((co u n * 4294967296 + co u (n - 1)) / co v (n - 1) - vl u / vl v).toNat ((co u n * 4294967296 + co u (n - 1)) / co v (n - 1)) ((co u n * 4294967296 + co u (n - 1)) % co v (n - 1)) (by omega) hb (by omega) ⟨by rw [Int.mul_comm]; omega⟩
  refine S.congr fun k => ?_
  have i1 : wrap64 ((n : Int) - 1) = ((n - 1 : Nat) : Int) := by rw [w64 (by omega) (by omega)]; omega
  have p2 : ((n : Nat) : Int) < (u.length : Int) := by omega
  have p3 : ((n - 1 : Nat) : Int) < (u.length : Int) := by omega
  have p4 : ((n - 1 : Nat) : Int) < (n : Int) := by omega
  have p5 : IntKind.u64.wrap (co v (n - 1)) = co v (n - 1) := wu64 (by omega) (by omega)
  have p6 : IntKind.u64.wrap (co u n) = co u n := wu64 (by omega) (by omega)
  have p7 : ¬ (co v (n - 1) = 0) := by omega
  have p8 := or_join tu tu1
  have p9 : 0 ≤ co u n * 4294967296 + co u (n - 1) := by omega
  have pa : IntKind.u64.wrap ((co u n * 4294967296 + co u (n - 1)) / co v (n - 1)) = (co u n * 4294967296 + co u (n - 1)) / co v (n - 1) := wu64 (by omega) (by omega)
  rw [ratio_digit.f, lv, if_pos (Int.natCast_nonneg _), if_pos p2, i1, if_pos (Int.natCast_nonneg _), if_pos p3, if_pos p4, rd_nat, rd_nat, rd_nat, p5, if_neg p7, p6, p8, Int.tdiv_eq_ediv_of_nonneg p9, Int.tmod_eq_emod_of_nonneg p9, pa]
end Go.Proofs.YtbjeemlbjkmhiaaDoor.Pure
namespace Go.Proofs.YtbjeemlbjkmhiaaDoor.Pure
open Go.RowKit Go.Proofs.YtbjeemlbjkmhiaaDoor.Q Go.Proofs.YtbjeemlbjkmhiaaDoor.Num Go.Proofs.YtbjeemlbjkmhiaaDoor.Pol Go.Proofs.YtbjeemlbjkmhiaaDoorW.PrintWords Go.Proofs.YtbjeemlbjkmhiaaDoorW.PrintLast Go.Proofs.YtbjeemlbjkmhiaaDoorW.PrintMore

theorem dw_alg {T P W R Q V : Int} (h : R + V * Q = W) : T + P * R + Q * P * V = T + P * W := by rw [← h]; grind
theorem dw_lt {b top S D P T : Int} (hb : b = T + top * P) (hT : T < P) (hP : 0 < P) (hS : 0 < S) (hD : 4294967296 = S * D) (h : top * S < 4294967296) : b * S < 4294967296 * P := by
  have h1 : top + 1 ≤ D := by
    refine Int.add_one_le_iff.2 (Int.lt_of_mul_lt_mul_left (a := S) ?_ (Int.le_of_lt hS))
    rw [← hD, Int.mul_comm]; exact h
  have h2 := Int.mul_le_mul_of_nonneg_right h1 (Int.le_of_lt hS)
  have h3 := Int.mul_le_mul_of_nonneg_right h2 (Int.le_of_lt hP)
  have h4 := Int.mul_lt_mul_of_pos_right hT hS
  rw [Int.mul_comm D S, ← hD] at h3
  rw [hb]
  grind
theorem s_digw {u v : List Int} {n j : Nat} (hu : Lb u) (hv : Lb v) (lv : v.length = n) (lu : j + n + 1 ≤ u.length) (hn : 2 ≤ n) (hl : n < 70368744177664) (ht : 2147483648 ≤ co v (n - 1)) (hlt : vl (u.drop (j + 1)) < vl v) :
    ∃ (q : Int) (r : List Int), (0 ≤ q ∧ q < 4294967296) ∧ r.length = u.length ∧ Lb r ∧ vl r + q * Bp j * vl v = vl u ∧ vl (r.drop j) < vl v ∧ Ev (fun k => ratio_digw.f k u v (j : Int) (n : Int)) (q, r) := by
  have rv := vl_range hv
  rw [lv] at rv
  have hj := hu j
  have hV : 0 < vl v := by
    have := (vl_range (hu.drop (j + 1))).1
    omega
  have e1 : vl (u.drop j) = co u j + 4294967296 * vl (u.drop (j + 1)) := drop_succ_co (by omega)
  have e2 : vl (u.drop j) = vl ((u.drop j).take (n + 1)) + Bp (n + 1) * vl ((u.drop j).drop (n + 1)) := vl_split _ _ (by rw [List.length_drop]; omega)
  have lW : ((u.drop j).take (n + 1)).length = n + 1 := by rw [List.length_take, List.length_drop]; omega
  have hW := (hu.drop j).take (n + 1)
  have rW := vl_range hW
  have hz : vl ((u.drop j).drop (n + 1)) = 0 := by
    have h1 := (vl_range ((hu.drop j).drop (n + 1))).1
    by_cases c : vl ((u.drop j).drop (n + 1)) = 0
    · exact c
    · have h2 := Int.mul_le_mul_of_nonneg_left (show 1 ≤ vl ((u.drop j).drop (n + 1)) by omega) (Int.le_of_lt (Bp_pos (n + 1)))
      rw [Bp_succ] at h2
      rw [Bp_succ] at e2
      omega
  rw [hz, Int.mul_zero, Int.add_zero] at e2
  have hlt2 : vl ((u.drop j).take (n + 1)) < vl v * 4294967296 := by rw [← e2]; omega
  obtain ⟨r, r1, r2, r3, r4⟩ := s_digit hW hv lW lv hn hl ht hlt2
  have hq := ediv_lt hV rW.1 hlt2
  have hdm := Int.emod_add_mul_ediv (vl ((u.drop j).take (n + 1))) (vl v)
  have hm := Int.emod_lt_of_pos (vl ((u.drop j).take (n + 1))) hV
  have lT : (u.take j).length = j := by rw [List.length_take]; omega
  have eu := vl_split u j (by omega)
  have eD : (u.take j ++ (r ++ u.drop (j + (n + 1)))).drop j = r ++ u.drop (j + (n + 1)) := List.drop_left' lT
  have eR : vl (r ++ u.drop (j + (n + 1))) = vl r := by
    rw [vl_append, ← List.drop_drop, hz, Int.mul_zero, Int.add_zero]
  refine ⟨_, u.take j ++ (r ++ u.drop (j + (n + 1))), hq, ?_, (hu.take j).append (r2.append (hu.drop _)), ?_, ?_, ?_⟩
  · rw [List.length_append, List.length_append, List.length_drop, lT, r1]; omega
  · rw [vl_append, lT, eR, r3, eu, e2]
    exact dw_alg hdm
  · rw [eD, eR, r3]; exact hm
  · refine Ev.congr (fun k => ?_) (r4.bind (G := fun _ t => some (t.1, u.take j ++ (t.2 ++ u.drop (j + (n + 1))))) (Ev.all fun _ => rfl))
    rw [ratio_digw.f, if_pos ⟨Int.natCast_nonneg _, Int.natCast_nonneg _, by omega⟩, Int.toNat_natCast, Int.toNat_natCast]

theorem sh_alg {S D x y : Int} (hS : 0 < S) (hD : 4294967296 = S * D) (hx : 0 ≤ x ∧ x < 4294967296) : ((y * 4294967296 + x) / S % 4294967296) * S = (y % S) * 4294967296 + x - x % S := by
  have hDp : 0 < D := by
    refine Int.not_le.1 fun hc => ?_
    have := Int.mul_le_mul_of_nonneg_left hc (Int.le_of_lt hS)
    omega
  have e1 : y * 4294967296 + x = y * D * S + x := by rw [hD]; grind
  have e2 : (y * 4294967296 + x) / S = y * D + x / S := by
    rw [e1, Int.add_comm, Int.add_mul_ediv_right _ _ (Int.ne_of_gt hS), Int.add_comm]
  have h1 := Int.emod_add_mul_ediv x S
  have h2 := Int.emod_add_mul_ediv y S
  have b1 : 0 ≤ x / S ∧ x / S < D := ⟨Int.ediv_nonneg hx.1 (Int.le_of_lt hS), Int.ediv_lt_of_lt_mul hS (by rw [Int.mul_comm, ← hD]; exact hx.2)⟩
  have b2 := Int.emod_nonneg y (Int.ne_of_gt hS)
  have b3 := Int.emod_lt_of_pos y hS
  have e3 : y * D + x / S = (y % S * D + x / S) + 4294967296 * (y / S) := by
    have := congrArg (fun t => t * D) h2
    rw [hD]
    grind
  have b4 : 0 ≤ y % S * D + x / S := by
    have := Int.mul_nonneg b2 (Int.le_of_lt hDp)
    omega
  have b5 : y % S * D + x / S < 4294967296 := by
    have := Int.mul_le_mul_of_nonneg_right (show y % S + 1 ≤ S by omega) (Int.le_of_lt hDp)
    rw [Int.add_mul, Int.one_mul, ← hD] at this
    omega
  rw [e2, e3, Int.add_mul_emod_self_left, Int.emod_eq_of_lt b4 b5, Int.add_mul, Int.mul_assoc, Int.mul_comm D S, ← hD, Int.mul_comm (x / S)]
  omega
theorem back_l {u out : List Int} {n s : Nat} {Rm : Int} (hu : Lb u) (ho : Lb out) (hs : s < 32) (lu : n + 1 ≤ u.length) (hl : u.length < 70368744177664) (lo : out.length < 70368744177664) (hz : co u n = 0) (hv : vl (u.take n) = Rm * 2 ^ s) :
    ∀ (d i : Nat) (rest : List Int), i + d = n → rest.length = n → Lb rest → Aside0 (vl (rest.take i) * 2 ^ s = vl (u.take i) + co u i % 2 ^ s * Bp i) →
    Ev (fun k => ratio_div.l1 k (s : Int) u out rest (n : Int) (i : Int)) (dg (vl out), dg Rm) := by
  obtain ⟨p1, p2, p3, p4⟩ := two_pow hs
  have hmin : min ((s : Int)).toNat 64 = s := by omega
  intro d
  induction d with
  | zero =>
    intro i rest hi hr hrest hx
    have q1 : ¬ ((i : Int) < (n : Int)) := by omega
    have q2 : i = n := by omega
    have q3 : rest.length ≤ n := by omega
    have e : vl rest = Rm := by
      have h := hx.out
      rw [q2, vl_take_all q3, hv, hz, Int.zero_emod, Int.zero_mul, Int.add_zero] at h
      exact Int.eq_of_mul_eq_mul_right (Int.ne_of_gt p1) h
    have s1 := sr_trim ho (by omega)
    have s2 := sr_trim hrest (by omega)
    rw [e] at s2
    refine Ev.succ (fun k => ?_) (s1.bind (G := fun k t => (ratio_trim.f k rest).bind fun t2 => some (t, t2)) (s2.bind (G := fun _ t2 => some (dg (vl out), t2)) (Ev.all fun _ => rfl)))
    rw [ratio_div.l1, if_neg q1]
  | succ d ih =>
    intro i rest hi hr hrest hx
    have g1 : (i : Int) < (n : Int) := by omega
    have g2 : ((i + 1 : Nat) : Int) < (u.length : Int) := by omega
    have g3 : (i : Int) < (u.length : Int) := by omega
    have g4 : i < u.length := by omega
    have g5 : i < rest.length := by omega
    have g6 := w64_succ (i := i) (by omega)
    have hy := hu i
    have hy1 := hu (i + 1)
    have w1 : shr .u64 (Go.bits .or .u64 (IntKind.u64.wrap (IntKind.u64.wrap (co u (i + 1)) * 4294967296)) (IntKind.u64.wrap (co u i))) (s : Int) = (co u (i + 1) * 4294967296 + co u i) / 2 ^ s := by
      rw [wu64 (n := co u (i + 1)) (by omega) (by omega), or_join hy1 hy]
      show _ / 2 ^ min ((s : Int)).toNat 64 = _
      rw [hmin]
    have hr1 : 0 ≤ (co u (i + 1) * 4294967296 + co u i) / 2 ^ s % 4294967296 ∧ (co u (i + 1) * 4294967296 + co u i) / 2 ^ s % 4294967296 < 4294967296 := ⟨Int.emod_nonneg _ (by decide), Int.emod_lt_of_pos _ (by decide)⟩
    have ha := sh_alg (y := co u (i + 1)) p1 p4 hy
    refine Ev.succ (fun k => ?_) (ih (i + 1) (rest.set i ((co u (i + 1) * 4294967296 + co u i) / 2 ^ s % 4294967296)) (by omega) (by rw [List.length_set]; exact hr) (hrest.set hr1 _) ⟨?_⟩)
    · rw [ratio_div.l1, if_pos g1, g6, if_pos (Int.natCast_nonneg _), if_pos g2, if_pos (Int.natCast_nonneg _), if_pos g3, if_pos (Int.natCast_nonneg _), if_pos (Int.ofNat_lt.2 g5), Int.toNat_natCast, rd_nat, rd_nat, w1]
    · rw [take_set_succ g5, vl_take_succ g4, Bp_succ, Int.add_mul, hx.out]
      have h := congrArg (fun t => t * Bp i) ha
      grind
theorem div_l {v : List Int} {n m s : Nat} {A a b : Int} (hv : Lb v) (lv : v.length = n) (hn : 2 ≤ n) (hl : m + n < 35184372088832) (hs : s < 32) (ht : 2147483648 ≤ co v (n - 1)) (hb : 0 < b) (hA : A = a * 2 ^ s) (hV : vl v = b * 2 ^ s) :
    ∀ (j i : Nat) (u out : List Int), i + j = m + 1 → u.length = m + n + 1 → out.length = m + 1 → Lb u → Lb out → (∀ t, t < j → co out t = 0) → vl (u.drop j) < vl v → Aside0 (vl u + vl out * vl v = A) →
    Ev (fun k => ratio_div.l0 k (n : Int) (s : Int) u v out ((m + 1 : Nat) : Int) (i : Int)) (dg (a / b), dg (a % b)) := by
  obtain ⟨p1, p2, p3, p4⟩ := two_pow hs
  intro j
  induction j with
  | zero =>
    intro i u out hi lu lo hu hout hz hd hx
    have q1 : ¬ ((i : Int) < ((m + 1 : Nat) : Int)) := by omega
    have ru := vl_range hu
    have rv := vl_range hv
    rw [lv] at rv
    rw [List.drop_zero] at hd
    have hx' := hx.out
    have e0 := vl_split u n (by omega)
    have e1 : vl (u.drop n) = 0 := by
      have h1 := (vl_range (hu.drop n)).1
      by_cases c : vl (u.drop n) = 0
      · exact c
      · have h2 := Int.mul_le_mul_of_nonneg_left (show 1 ≤ vl (u.drop n) by omega) (Int.le_of_lt (Bp_pos n))
        have h3 := (vl_range (hu.take n)).1
        omega
    have e2 : co u n = 0 := by
      have h1 : vl (u.drop n) = co u n + 4294967296 * vl (u.drop (n + 1)) := drop_succ_co (by omega)
      have h2 := (vl_range (hu.drop (n + 1))).1
      have h3 := (hu n).1
      omega
    rw [e1, Int.mul_zero, Int.add_zero] at e0
    have hb2 : 0 < vl v := by omega
    have e3 := div_uniq (v := A) (b := vl v) (q := vl out) (r := vl u) ⟨ru.1, hd⟩ (by omega)
    have e4 : A / vl v = a / b := by rw [hA, hV, Int.mul_ediv_mul_of_pos_left _ _ p1]
    have e5 : A % vl v = a % b * 2 ^ s := by
      rw [hA, hV, Int.mul_comm a, Int.mul_comm b, Int.mul_emod_mul_of_pos _ _ p1, Int.mul_comm]
    have key := back_l (Rm := a % b) hu hout hs (by omega) (by omega) (by omega) e2 (by rw [← e0, ← e3.2, e5]) n 0 (List.replicate n 0) (by omega) (by simp) (Lb.replicate _) ⟨by
      rw [List.take_zero, List.take_zero, vl_nil, Int.zero_mul, Int.zero_add, Bp_zero, Int.mul_one]
      have h1 : vl u = co u 0 + 4294967296 * vl (u.drop 1) := drop_succ_co (l := u) (i := 0) (by omega)
      have h2 : vl u % 2 ^ s = 0 := by rw [← e3.2, e5, Int.mul_emod_left]
      have h4 : 4294967296 * vl (u.drop 1) = vl (u.drop 1) * p3 * 2 ^ s := by rw [p4]; grind
      rw [h1, h4, Int.add_mul_emod_self_right] at h2
      exact h2.symm⟩
    rw [← e3.1, e4] at key
    refine Ev.succ (fun k => ?_) key
    rw [ratio_div.l0, if_neg q1, if_pos (Int.natCast_nonneg _), if_pos (by rw [Int.toNat_natCast]; omega), Int.toNat_natCast]
    rfl
  | succ j ih =>
    intro i u out hi lu lo hu hout hz hd hx
    obtain ⟨q, r, h1, h2, h3, h4, h5, h6⟩ := s_digw (j := j) hu hv lv (by omega) hn (by omega) ht hd
    have g1 : (i : Int) < ((m + 1 : Nat) : Int) := by omega
    have g2 : j < out.length := by omega
    have g3 : wrap64 (wrap64 ((out.length : Int) - 1) - (i : Int)) = (j : Int) := by
      rw [w64 (n := (out.length : Int) - 1) (by omega) (by omega), w64 (by omega) (by omega)]
      omega
    have g4 := w64_succ (i := i) (by omega)
    have key := ih (i + 1) r (out.set j q) (by omega) (by omega) (by rw [List.length_set]; exact lo) h3 (hout.set h1 _) (fun t ht => by
      rw [co_set_ne g2 _ (by omega)]
      exact hz t (by omega)) h5 ⟨by
        rw [vl_set g2, hz j (by omega), Int.sub_zero, Int.add_mul]
        have := hx.out
        omega⟩
    refine Ev.succ (fun k => ?_) (h6.bind (G := fun k t => ratio_div.l0 k (n : Int) (s : Int) t.2 v (out.set j t.1) ((m + 1 : Nat) : Int) ((i + 1 : Nat) : Int)) key)
    rw [ratio_div.l0, if_pos g1, g3, g4, Int.toNat_natCast]
    simp only [if_pos (Int.natCast_nonneg j), if_pos (Int.ofNat_lt.2 g2)]
theorem s_div {a b : List Int} (ha : Nf a) (hb : Nf b) (hb0 : b ≠ []) (la : a.length < 1000000) (lb : b.length < 1000000) : Ev (fun k => ratio_div.f k a b) (dg (vl a / vl b), dg (vl a % vl b)) := by
  have hbp := hb.pos hb0
  by_cases c1 : b.length = 1
  · obtain ⟨x, rfl⟩ : ∃ x, b = [x] := by
      cases b with
      | nil => simp at c1
      | cons x t => cases t with
        | nil => exact ⟨x, rfl⟩
        | cons y t => simp at c1
    have hx := hb.1 0
    rw [show co [x] 0 = x from rfl] at hx
    rw [vl_cons, vl_nil, Int.mul_zero, Int.add_zero] at hbp ⊢
    have s1 := s_small ha.1 ⟨hbp, hx.2⟩ (by omega)
    have hm0 := Int.emod_nonneg (vl a) (Int.ne_of_gt hbp)
    have hm1 := Int.emod_lt_of_pos (vl a) hbp
    have s2 := s_Nat (n := vl a % x) (by unfold U; omega)
    refine Ev.congr (fun k => ?_) (s1.bind (G := fun k bt => (ratio_Nat.f k (IntKind.u64.wrap bt.2)).bind fun t => some (bt.1, t)) ?_)
    · rw [ratio_div.f]
      rfl
    · refine Ev.congr (fun k => ?_) (s2.bind (G := fun _ t => some (dg (vl a / x), t)) (Ev.all fun _ => rfl))
      rw [show IntKind.u64.wrap (dg (vl a / x), vl a % x).2 = vl a % x from wu64 (by show 0 ≤ vl a % x; omega) (by show vl a % x < _; omega)]
  · have lb0 : 0 < b.length := hb.len_pos.2 hbp
    have n1 : ¬ ((b.length : Int) = 1) := by omega
    have sc := s_compare ha hb (by omega) (by omega)
    have ra := vl_range ha.1
    by_cases c2 : vl a < vl b
    · rw [cmpZ_lt c2] at sc
      rw [Int.ediv_eq_zero_of_lt ra.1 c2, Int.emod_eq_of_lt ra.1 c2, ← ha.eq_dg]
      obtain ⟨K, hK⟩ := sc.get
      refine Ev.mk K fun k hk => ?_
      rw [ratio_div.f, if_neg n1, hK k hk, Option.bind_some, if_pos (by decide), s_Clone (by omega), Option.bind_some]
      rfl
    · have cz : ¬ (cmpZ (vl a) (vl b) < 0) := by unfold cmpZ; rw [if_neg c2]; split <;> omega
      have hlen : b.length ≤ a.length := Int.ofNat_le.1 (by
        refine Int.not_lt.1 fun hc => c2 (ha.len_lt hb (by omega)))
      obtain ⟨n, hn⟩ : ∃ n, n = b.length := ⟨_, rfl⟩
      obtain ⟨m, hm⟩ : ∃ m, m + n = a.length := ⟨a.length - n, by omega⟩
      have t0 := hb.2.resolve_left hb0
      rw [← hn] at t0
      have tb := hb.1 (n - 1)
      obtain ⟨s, s1, s2, s3, s4⟩ := s_lz (x := co b (n - 1)) (by omega)
      obtain ⟨u, u1, u2, u3, u4⟩ := s_shifted ha.1 s1 (by omega)
      obtain ⟨w, w1, w2, w3, w4⟩ := s_shifted hb.1 s1 (by omega)
      obtain ⟨p1, p2, p3, p4⟩ := two_pow s1
      have e1 : vl b = vl (b.take (n - 1)) + co b (n - 1) * Bp (n - 1) := by
        have h := vl_take_succ (l := b) (i := n - 1) (by omega)
        rwa [vl_take_all (by omega)] at h
      have e2 : Bp n = 4294967296 * Bp (n - 1) := by rw [← Bp_succ, show n - 1 + 1 = n by omega]
      have rT := vl_range (hb.1.take (n - 1))
      rw [List.length_take, Nat.min_eq_left (by omega)] at rT
      have e3 : vl w < Bp n := by rw [w3, e2]; exact dw_lt e1 rT.2 (Bp_pos _) p1 p4 s4
      have e4 : vl (w.take n) = vl w := by
        have h := vl_split w n (by omega)
        have h1 := (vl_range (w2.drop n)).1
        have h2 := (vl_range (w2.take n)).1
        by_cases c : vl (w.drop n) = 0
        · rw [c] at h; omega
        · have h3 := Int.mul_le_mul_of_nonneg_left (show 1 ≤ vl (w.drop n) by omega) (Int.le_of_lt (Bp_pos n))
          omega
      have lv : (w.take n).length = n := by rw [List.length_take]; omega
      have e5 : 2147483648 ≤ co (w.take n) (n - 1) := by
        have h := vl_take_succ (l := w.take n) (i := n - 1) (by omega)
        rw [vl_take_all (by omega), e4, w3, e1] at h
        have h1 := (vl_range ((w2.take n).take (n - 1))).2
        rw [List.length_take, lv, Nat.min_eq_left (by omega)] at h1
        have h2 := Int.mul_le_mul_of_nonneg_right s3 (Int.le_of_lt (Bp_pos (n - 1)))
        have h3 := Int.mul_nonneg rT.1 (Int.le_of_lt p1)
        refine Int.not_lt.1 fun hc => ?_
        have h4 := Int.mul_le_mul_of_nonneg_right (show co (w.take n) (n - 1) ≤ 2147483647 by omega) (Int.le_of_lt (Bp_pos (n - 1)))
        have h5 : (vl (b.take (n - 1)) + co b (n - 1) * Bp (n - 1)) * 2 ^ s = vl (b.take (n - 1)) * 2 ^ s + co b (n - 1) * 2 ^ s * Bp (n - 1) := by grind
        omega
      have e6 : vl (u.drop (m + 1)) < vl (w.take n) := by
        rw [e4, w3]
        have h := vl_split u (m + 1) (by omega)
        have h1 := (vl_range (u2.take (m + 1))).1
        have h2 := ra.2
        have h3 := hb.low hb0
        rw [← hn] at h3
        have h4 := Int.mul_lt_mul_of_pos_right h2 p1
        rw [← u3, h, ← hm] at h4
        have h5 := Int.mul_le_mul_of_nonneg_right h3 (Int.le_of_lt p1)
        refine Int.lt_of_lt_of_le ?_ h5
        refine Int.lt_of_mul_lt_mul_left (a := Bp (m + 1)) ?_ (Int.le_of_lt (Bp_pos _))
        have h6 : Bp (m + n) = Bp (m + 1) * Bp (n - 1) := by rw [← Bp_add]; congr 1; omega
        rw [h6, Int.mul_assoc] at h4
        omega
      have key := div_l (m := m) (A := vl a * 2 ^ s) (a := vl a) (b := vl b) (w2.take n) lv (by omega) (by omega) s1 e5 hbp rfl (by rw [e4, w3]) (m + 1) 0 u (List.replicate (m + 1) 0) (by omega) (by omega) (by simp) u2 (Lb.replicate _) (fun t _ => co_replicate _ _) e6 ⟨by rw [vl_replicate, u3]; omega⟩
      obtain ⟨K1, hK1⟩ := sc.get
      obtain ⟨K2, hK2⟩ := u4.get
      obtain ⟨K3, hK3⟩ := w4.get
      obtain ⟨K4, hK4⟩ := key.get
      have i1 : wrap64 ((b.length : Int) - 1) = ((n - 1 : Nat) : Int) := by rw [w64 (by omega) (by omega)]; omega
      have i2 : wrap64 (wrap64 ((a.length : Int) - (b.length : Int)) + 1) = ((m + 1 : Nat) : Int) := by
        rw [w64 (n := (a.length : Int) - (b.length : Int)) (by omega) (by omega), w64 (by omega) (by omega)]
        omega
      have i3 : ((n - 1 : Nat) : Int) < (b.length : Int) := by omega
      have i4 : (b.length : Int) ≤ (w.length : Int) := by omega
      have i5 : m + 1 ≤ 70368744177664 := by omega
      refine Ev.mk (K1 + K2 + K3 + K4) fun k hk => ?_
      rw [ratio_div.f, if_neg n1, hK1 k (by omega), Option.bind_some, if_neg cz, i1, if_pos (Int.natCast_nonneg _), if_pos i3, rd_nat, s2, Option.bind_some, hK2 k (by omega), Option.bind_some, hK3 k (by omega), Option.bind_some, if_pos (Int.natCast_nonneg _), if_pos i4, i2, if_pos (Int.natCast_nonneg _), Int.toNat_natCast, if_pos i5, Option.bind_some, Int.toNat_natCast, List.length_replicate, ← hn]
      exact hK4 k (by omega)
theorem gcd_l : ∀ (N : Nat) {a b : List Int}, vl b ≤ N → Nf a → Nf b → a.length < 1000000 → b.length < 1000000 → Ev (fun k => ratio_gcd.l0 k a b) (dg ((Int.gcd (vl a) (vl b) : Nat) : Int)) := by
  intro N
  induction N with
  | zero =>
    intro a b hN ha hb la lb
    have rb := (vl_range hb.1).1
    have ra := (vl_range ha.1).1
    have e : vl b = 0 := by omega
    have e2 : b.length = 0 := by
      have := hb.len_pos
      omega
    rw [e, Int.gcd_zero_right, Int.natAbs_of_nonneg ra, ← ha.eq_dg]
    refine Ev.succ (F := fun _ => some a) (fun k => ?_) (Ev.all fun _ => rfl)
    rw [ratio_gcd.l0, if_neg (by omega), s_Clone (by omega), Option.bind_some]
  | succ N ih =>
    intro a b hN ha hb la lb
    have rb := (vl_range hb.1).1
    by_cases c : vl b = 0
    · exact ih (by omega) ha hb la lb
    · have hp : 0 < b.length := hb.len_pos.2 (by omega)
      have hb0 : b ≠ [] := by intro e; simp [e] at hp
      have hm0 := Int.emod_nonneg (vl a) c
      have hm1 := Int.emod_lt_of_pos (vl a) (show 0 < vl b by omega)
      have ll : (dg (vl a % vl b)).length ≤ b.length := (dg_len hm0).2 (by have := (vl_range hb.1).2; omega)
      have key := ih (a := b) (b := dg (vl a % vl b)) (by rw [vl_dg hm0]; omega) hb (dg_nf _) lb (by omega)
      rw [vl_dg hm0] at key
      have e : Int.gcd (vl a) (vl b) = Int.gcd (vl b) (vl a % vl b) := by
        conv => lhs; rw [← Int.emod_add_mul_ediv (vl a) (vl b)]
        rw [Int.gcd_add_mul_left_left, Int.gcd_comm]
      rw [e]
      refine Ev.succ (fun k => ?_) ((s_div ha hb hb0 la lb).bind (G := fun k bt => ratio_gcd.l0 k b bt.2) key)
      rw [ratio_gcd.l0, if_pos (by omega)]
theorem s_gcd {a b : List Int} (ha : Nf a) (hb : Nf b) (la : a.length < 1000000) (lb : b.length < 1000000) : Ev (fun k => ratio_gcd.f k a b) (dg ((Int.gcd (vl a) (vl b) : Nat) : Int)) := gcd_l (vl b).toNat (by have := (vl_range hb.1).1; omega) ha hb la lb
end Go.Proofs.YtbjeemlbjkmhiaaDoor.Pure
namespace Go.Proofs.YtbjeemlbjkmhiaaDoor.Pure
open Go.RowKit Go.Proofs.YtbjeemlbjkmhiaaDoor.Q Go.Proofs.YtbjeemlbjkmhiaaDoor.Num Go.Proofs.YtbjeemlbjkmhiaaDoor.Pol Go.Proofs.YtbjeemlbjkmhiaaDoorW.PrintWords Go.Proofs.YtbjeemlbjkmhiaaDoorW.PrintLast Go.Proofs.YtbjeemlbjkmhiaaDoorW.PrintMore

theorem dl {x : Int} (hx : 0 ≤ x ∧ x < Bp 64) : (dg x).length ≤ 64 := (dg_len hx.1).2 hx.2
theorem n_Valid {x : Int} (hx : 0 ≤ x ∧ x < Bp 64) : Ev (fun k => ratio_ValidNat.f k (dg x)) true := s_ValidT (Vn.dg hx.1 hx.2)
theorem dg_pos {x : Int} (h : 0 < x) : 0 < (dg x).length := (dg_nf x).len_pos.2 (by rw [vl_dg (by omega)]; exact h)
theorem mul_Bp {x y : Int} {m n p : Nat} (hx : 0 ≤ x ∧ x < Bp m) (hy : 0 ≤ y ∧ y < Bp n) (h : m + n ≤ p) : 0 ≤ x * y ∧ x * y < Bp p := by
  refine ⟨Int.mul_nonneg hx.1 hy.1, Int.lt_of_lt_of_le ?_ (Bp_le h)⟩
  rw [Bp_add]
  have h1 := Int.mul_le_mul_of_nonneg_left (show y ≤ Bp n by omega) hx.1
  have h2 := Int.mul_lt_mul_of_pos_right hx.2 (Bp_pos n)
  omega
theorem up_Bp {x : Int} {m p : Nat} (hx : 0 ≤ x ∧ x < Bp m) (h : m ≤ p) : 0 ≤ x ∧ x < Bp p := by
  have h1 := Bp_le h
  omega
end Go.Proofs.YtbjeemlbjkmhiaaDoor.Pure
namespace Go.Proofs.YtbjeemlbjkmhiaaDoor.Pure
open Go.RowKit Go.Proofs.YtbjeemlbjkmhiaaDoor.Q Go.Proofs.YtbjeemlbjkmhiaaDoor.Num Go.Proofs.YtbjeemlbjkmhiaaDoor.Pol Go.Proofs.YtbjeemlbjkmhiaaDoorW.PrintWords Go.Proofs.YtbjeemlbjkmhiaaDoorW.PrintLast Go.Proofs.YtbjeemlbjkmhiaaDoorW.PrintMore

structure Fr (p q : Int) : Prop where
  p0 : 0 ≤ p
  q0 : 0 < q
  co : Int.gcd p q = 1
theorem gz_data {x y : Int} (hx : 0 ≤ x) (hy : 0 < y) : ∃ g p q : Int, ((Int.gcd x y : Nat) : Int) = g ∧ 0 < g ∧ x = p * g ∧ y = q * g ∧ p ≤ x ∧ q ≤ y ∧ Fr p q := by
  have hg : 0 < Int.gcd x y := Nat.pos_of_ne_zero fun h => by
    have := (Int.gcd_eq_zero_iff.1 h).2
    omega
  obtain ⟨p, hp⟩ := Int.gcd_dvd_left (a := x) (b := y)
  obtain ⟨q, hq⟩ := Int.gcd_dvd_right (a := x) (b := y)
  obtain ⟨g, hgd⟩ : ∃ g : Int, g = ((Int.gcd x y : Nat) : Int) := ⟨_, rfl⟩
  have hc : Int.gcd x y = g.natAbs * Int.gcd p q := by
    rw [← Int.gcd_mul_left, hgd, ← hp, ← hq]
  rw [← hgd] at hp hq
  have g0 : 0 < g := by omega
  have e1 : Int.gcd p q = 1 := by
    have e2 : g.natAbs = Int.gcd x y := by omega
    rw [e2] at hc
    exact Nat.eq_of_mul_eq_mul_left hg (by omega)
  have p0 : 0 ≤ p := Int.not_lt.1 fun h => by
    have := Int.mul_le_mul_of_nonneg_left (show p ≤ -1 by omega) (Int.le_of_lt g0)
    omega
  have q0 : 0 < q := Int.not_le.1 fun h => by
    have := Int.mul_le_mul_of_nonneg_left h (Int.le_of_lt g0)
    omega
  have px := Int.mul_le_mul_of_nonneg_right (show 1 ≤ g by omega) p0
  have qx := Int.mul_le_mul_of_nonneg_right (show 1 ≤ g by omega) (Int.le_of_lt q0)
  exact ⟨g, p, q, hgd.symm, g0, by rw [hp, Int.mul_comm], by rw [hq, Int.mul_comm], by omega, by omega, p0, q0, e1⟩
theorem Fr.gcd_mul {p q g : Int} (h : Fr p q) (hg : 0 < g) : ((Int.gcd (p * g) (q * g) : Nat) : Int) = g := by
  rw [Int.gcd_mul_right, h.co, Nat.one_mul]
  omega
theorem Fr.uniq {p q a b g z : Int} (h : Fr p q) (k : Fr a b) (hg : 0 < g) (hz : 0 < z) (e1 : p * g = a * z) (e2 : q * g = b * z) : p = a ∧ q = b := by
  have e : g = z := by rw [← h.gcd_mul hg, e1, e2, k.gcd_mul hz]
  rw [e] at e1 e2
  exact ⟨Int.eq_of_mul_eq_mul_right (by omega) e1, Int.eq_of_mul_eq_mul_right (by omega) e2⟩
theorem n_gcd {x y : Int} {n : Nat} (hx : 0 ≤ x ∧ x < Bp n) (hy : 0 ≤ y ∧ y < Bp n) (hn : n < 1000000) : Ev (fun k => ratio_gcd.f k (dg x) (dg y)) (dg ((Int.gcd x y : Nat) : Int)) := by
  have lx : (dg x).length ≤ n := (dg_len hx.1).2 hx.2
  have ly : (dg y).length ≤ n := (dg_len hy.1).2 hy.2
  have h := s_gcd (dg_nf x) (dg_nf y) (by omega) (by omega)
  rwa [vl_dg hx.1, vl_dg hy.1] at h
theorem n_div {x y : Int} {n : Nat} (hx : 0 ≤ x ∧ x < Bp n) (hy : 0 < y ∧ y < Bp n) (hn : n < 1000000) : Ev (fun k => ratio_div.f k (dg x) (dg y)) (dg (x / y), dg (x % y)) := by
  have hl := dg_pos hy.1
  have lx : (dg x).length ≤ n := (dg_len hx.1).2 hx.2
  have ly : (dg y).length ≤ n := (dg_len (by omega)).2 hy.2
  have s := s_div (dg_nf x) (dg_nf y) (by intro e; rw [e] at hl; exact absurd hl (by decide)) (by omega) (by omega)
  rwa [vl_dg hx.1, vl_dg (by omega)] at s
theorem n_lowest {x y : Int} {n : Nat} (hx : 0 ≤ x ∧ x < Bp n) (hy : 0 < y ∧ y < Bp n) (hn : n ≤ 64) : ∃ p q g : Int, Fr p q ∧ 0 < g ∧ x = p * g ∧ y = q * g ∧ (0 ≤ p ∧ p < Bp n) ∧ (0 ≤ q ∧ q < Bp n) ∧ Ev (fun k => ratio_lowest.f k (dg x) (dg y)) (dg p, dg q, 0) := by
  obtain ⟨g, p, q, hg, g0, ex, ey, px, qy, F⟩ := gz_data hx.1 hy.1
  have e1 := n_gcd hx (show 0 ≤ y ∧ y < Bp n by omega) (by omega)
  rw [hg] at e1
  have F2 := F.q0
  have F1 := F.p0
  have hgy : g < Bp n := by
    have := Int.mul_le_mul_of_nonneg_right (show 1 ≤ q by omega) (Int.le_of_lt g0)
    omega
  have e2 := n_div hx ⟨g0, hgy⟩ (by omega)
  have e3 := n_div (x := y) (by omega) ⟨g0, hgy⟩ (by omega)
  rw [show x / g = p by rw [ex, Int.mul_ediv_cancel _ (by omega)]] at e2
  rw [show y / g = q by rw [ey, Int.mul_ediv_cancel _ (by omega)]] at e3
  have u1 := up_Bp (x := p) (m := n) (p := 64) (by omega) hn
  have u2 := up_Bp (x := q) (m := n) (p := 64) (by omega) hn
  have l1 := dl u1
  have l2 := dl u2
  refine ⟨p, q, g, F, g0, ex, ey, by omega, by omega, ?_⟩
  refine e1.bind ?_
  refine e2.bind ?_
  refine e3.bind ?_
  refine Ev.congr (fun k => if_neg (by show ¬ (((dg p).length : Int) > 64); omega)) ?_
  refine Ev.congr (fun k => if_neg (by show ¬ (((dg q).length : Int) > 64); omega)) ?_
  exact Ev.all fun _ => rfl
theorem n_New {x y : Int} {n : Nat} (hx : 0 ≤ x ∧ x < Bp n) (hy : 0 < y ∧ y < Bp n) (hn : n ≤ 64) : ∃ p q g : Int, Fr p q ∧ 0 < g ∧ x = p * g ∧ y = q * g ∧ (0 ≤ p ∧ p < Bp n) ∧ (0 ≤ q ∧ q < Bp n) ∧ Ev (fun k => ratio_New.f k (dg x) (dg y)) (dg p, dg q, 0) := by
  obtain ⟨p, q, g, F, g0, ex, ey, hp, hq, e⟩ := n_lowest hx hy hn
  have u1 := up_Bp hx hn
  have u2 := up_Bp (x := y) (m := n) (p := 64) (by omega) hn
  have l2 := dg_pos hy.1
  refine ⟨p, q, g, F, g0, ex, ey, hp, hq, ?_⟩
  refine (n_Valid u1).bind ?_
  refine Ev.congr (fun k => if_pos rfl) ?_
  refine (n_Valid u2).bind ?_
  refine Ev.succ (fun k => ?_) (e.bind (G := fun _ bt => some (bt.1, bt.2.1, bt.2.2)) (Ev.all fun _ => rfl))
  rw [ratio_New.j0, if_neg (by decide), if_neg (by omega)]
theorem n_Fr {p q : Int} (F : Fr p q) (hp : p < Bp 64) (hq : q < Bp 64) : Ev (fun k => ratio_Valid.f k (dg p) (dg q)) true := by
  have F2 := F.q0
  have F1 := F.p0
  have l2 := dg_pos F2
  have e := n_gcd (n := 64) ⟨F1, hp⟩ (show 0 ≤ q ∧ q < Bp 64 by omega) (by omega)
  rw [F.co] at e
  refine (n_Valid ⟨F1, hp⟩).bind ?_
  refine Ev.congr (fun k => if_pos rfl) ?_
  refine (n_Valid (x := q) (by omega)).bind ?_
  refine Ev.congr (fun k => if_pos rfl) ?_
  refine Ev.congr (fun k => if_pos (by omega)) ?_
  refine e.bind ?_
  exact Ev.all fun _ => rfl
theorem n_mul {x y : Int} {n : Nat} (hx : 0 ≤ x ∧ x < Bp n) (hy : 0 ≤ y ∧ y < Bp n) (hn : n < 1000000) : Ev (fun k => ratio_mul.f k (dg x) (dg y)) (dg (x * y)) := by
  have lx : (dg x).length ≤ n := (dg_len hx.1).2 hx.2
  have ly : (dg y).length ≤ n := (dg_len hy.1).2 hy.2
  have s := s_mul (dg_lb x) (dg_lb y) (by omega)
  rwa [vl_dg hx.1, vl_dg hy.1] at s
theorem n_compare {x y : Int} {n : Nat} (hx : 0 ≤ x ∧ x < Bp n) (hy : 0 ≤ y ∧ y < Bp n) (hn : n < 1000000) : Ev (fun k => ratio_compare.f k (dg x) (dg y)) (cmpZ x y) := by
  have lx : (dg x).length ≤ n := (dg_len hx.1).2 hx.2
  have ly : (dg y).length ≤ n := (dg_len hy.1).2 hy.2
  have s := s_compare (dg_nf x) (dg_nf y) (by omega) (by omega)
  rwa [vl_dg hx.1, vl_dg hy.1] at s
section
variable {a b c d : Int} {n m : Nat} (F : Fr a b) (G : Fr c d) (ha : a < Bp n) (hb : b < Bp n) (hc : c < Bp m) (hd : d < Bp m)
include F G ha hb hc hd
theorem n_Order (hn : n ≤ 64) (hm : m ≤ 64) : Ev (fun k => ratio_Order.f k (dg a) (dg b) (dg c) (dg d)) (cmpZ (a * d) (c * b)) := by
  have a0 := F.p0
  have b0 := F.q0
  have c0 := G.p0
  have d0 := G.q0
  have m1 := mul_Bp ⟨a0, ha⟩ ⟨Int.le_of_lt d0, hd⟩ (Nat.le_refl (n + m))
  have m2 := mul_Bp ⟨c0, hc⟩ ⟨Int.le_of_lt b0, hb⟩ (show m + n ≤ n + m by omega)
  have a1 := up_Bp ⟨a0, ha⟩ hn
  have b1 := up_Bp ⟨Int.le_of_lt b0, hb⟩ hn
  have c1 := up_Bp ⟨c0, hc⟩ hm
  have d1 := up_Bp ⟨Int.le_of_lt d0, hd⟩ hm
  refine (n_Fr F a1.2 b1.2).bind ?_
  refine Ev.congr (fun k => if_pos rfl) ?_
  refine (n_Fr G c1.2 d1.2).bind ?_
  refine Ev.succ (fun k => by rw [ratio_Order.j0, if_neg (by decide)]) ?_
  refine (n_mul (n := 64) a1 d1 (by omega)).bind ?_
  refine (n_mul (n := 64) c1 b1 (by omega)).bind ?_
  exact (n_compare (n := n + m) m1 m2 (by omega)).bind (Ev.all fun _ => rfl)
end
end Go.Proofs.YtbjeemlbjkmhiaaDoor.Pure
namespace Go.Proofs.YtbjeemlbjkmhiaaDoor.Pure
open Go.RowKit Go.Proofs.YtbjeemlbjkmhiaaDoor.Q Go.Proofs.YtbjeemlbjkmhiaaDoor.Num Go.Proofs.YtbjeemlbjkmhiaaDoor.Pol Go.Proofs.YtbjeemlbjkmhiaaDoorW.PrintWords Go.Proofs.YtbjeemlbjkmhiaaDoorW.PrintLast Go.Proofs.YtbjeemlbjkmhiaaDoorW.PrintMore

def Dt (l : List Int) : Prop := ∀ x ∈ l, 48 ≤ x ∧ x ≤ 57
def rv : List Int → Int
  | [] => 0
  | x :: t => (x - 48) + 10 * rv t
def Cn (l : List Int) : Prop := l = [] ∨ l.getLast? ≠ some 48
theorem Cn.pos : ∀ {l : List Int}, Dt l → Cn l → l ≠ [] → 0 < rv l
  | [], _, _, h => absurd rfl h
  | [x], hd, hc, _ => by
    have h1 := hd x List.mem_cons_self
    have h2 := hc.resolve_left (by simp)
    have h3 : x ≠ 48 := fun e => h2 (by rw [e]; rfl)
    rw [rv, rv]
    omega
  | x :: y :: t, hd, hc, _ => by
    have h1 := hd x List.mem_cons_self
    have h2 := Cn.pos (l := y :: t) (fun z hz => hd z (List.mem_cons_of_mem _ hz)) (Or.inr (by have := hc.resolve_left (by simp); rwa [List.getLast?_cons_cons] at this)) (by simp)
    rw [rv]
    omega
end Go.Proofs.YtbjeemlbjkmhiaaDoor.Pure
namespace Go.Proofs.YtbjeemlbjkmhiaaDoor.Pure
open Go.RowKit Go.Proofs.YtbjeemlbjkmhiaaDoor.Q Go.Proofs.YtbjeemlbjkmhiaaDoor.Num Go.Proofs.YtbjeemlbjkmhiaaDoor.Pol Go.Proofs.YtbjeemlbjkmhiaaDoorW.PrintWords Go.Proofs.YtbjeemlbjkmhiaaDoorW.PrintLast Go.Proofs.YtbjeemlbjkmhiaaDoorW.PrintMore

def fin (l : List Int) : ByteArray := if (l.length : Int) = 0 then ⟨#[48]⟩ else strOfNums l.reverse
end Go.Proofs.YtbjeemlbjkmhiaaDoor.Pure
namespace Go.Proofs.YtbjeemlbjkmhiaaDoor.Pure
open Go.RowKit Go.Proofs.YtbjeemlbjkmhiaaDoor.Q Go.Proofs.YtbjeemlbjkmhiaaDoor.Num Go.Proofs.YtbjeemlbjkmhiaaDoor.Pol Go.Proofs.YtbjeemlbjkmhiaaDoorW.PrintWords Go.Proofs.YtbjeemlbjkmhiaaDoorW.PrintLast Go.Proofs.YtbjeemlbjkmhiaaDoorW.PrintMore

end Go.Proofs.YtbjeemlbjkmhiaaDoor.Pure
namespace Go.Proofs.YtbjeemlbjkmhiaaDoor.Pure
open Go.RowKit Go.Proofs.YtbjeemlbjkmhiaaDoor.Q Go.Proofs.YtbjeemlbjkmhiaaDoor.Num Go.Proofs.YtbjeemlbjkmhiaaDoor.Pol Go.Proofs.YtbjeemlbjkmhiaaDoorW.PrintWords Go.Proofs.YtbjeemlbjkmhiaaDoorW.PrintLast Go.Proofs.YtbjeemlbjkmhiaaDoorW.PrintMore

end Go.Proofs.YtbjeemlbjkmhiaaDoor.Pure
namespace Go.Proofs.YtbjeemlbjkmhiaaDoor.Pure
open Go.RowKit Go.Proofs.YtbjeemlbjkmhiaaDoor.Q Go.Proofs.YtbjeemlbjkmhiaaDoor.Num Go.Proofs.YtbjeemlbjkmhiaaDoor.Pol Go.Proofs.YtbjeemlbjkmhiaaDoorW.PrintWords Go.Proofs.YtbjeemlbjkmhiaaDoorW.PrintLast Go.Proofs.YtbjeemlbjkmhiaaDoorW.PrintMore

theorem rtrim_l {l : List Int} (hl : Lb l) (hn : l.length < 35184372088832) : ∀ m : Nat, m ≤ l.length → vl (l.take m) = vl l → Ev (fun k => r2xtrim.l0 k l (m : Int)) (dg (vl l)) := by
  intro m
  induction m with
  | zero =>
    intro _ hv
    refine Ev.succ (F := fun _ => some []) (fun k => ?_) (Ev.all fun _ => ?_)
    · rw [r2xtrim.l0, if_neg (by omega), if_pos (by omega), if_pos (by omega)]
      simp
    · rw [← hv]
      rfl
  | succ m ih =>
    intro hm hv
    have e1 : wrap64 (((m + 1 : Nat) : Int) - 1) = (m : Int) := by rw [w64 (by omega) (by omega)]; omega
    have hs := vl_take_succ (l := l) (i := m) (by omega)
    by_cases c : co l m = 0
    · refine Ev.succ (fun k => ?_) (ih (by omega) (by rw [← hv, hs, c]; omega))
      rw [r2xtrim.l0, e1, if_pos (by omega), if_pos (by omega), if_pos (by omega), rd_nat, if_pos c]
    · have hN : Nf (l.take (m + 1)) := ⟨hl.take _, Or.inr (by
        rw [List.length_take, Nat.min_eq_left hm]
        show co (l.take (m + 1)) m ≠ 0
        rw [co_take, if_pos (by omega)]
        exact c)⟩
      refine Ev.succ (F := fun _ => some (l.take (m + 1))) (fun k => ?_) (Ev.all fun _ => by rw [hN.of_val hv])
      have e2 : (l.take (m + 1)).length = m + 1 := by rw [List.length_take]; omega
      rw [r2xtrim.l0, e1, if_pos (by omega), if_pos (by omega), if_pos (by omega), rd_nat, if_neg c, if_pos (by omega), if_pos (by omega), Int.toNat_natCast, List.nil_append, if_pos (by rw [e2]; show 0 + (m + 1) < _; omega)]
theorem r_trim {l : List Int} (hl : Lb l) (hn : l.length < 35184372088832) : Ev (fun k => r2xtrim.f k l) (dg (vl l)) := rtrim_l hl hn l.length (Nat.le_refl _) (by rw [List.take_length])
theorem r_Nat {n : Int} (h : U n) : Ev (fun k => r2xNat.f k n) (dg n) := by
  unfold U at h
  have hl : Lb [Int.tmod n 4294967296 % 4294967296, IntKind.u64.wrap (Int.tdiv n 4294967296) % 4294967296] := by
    refine Lb.cons (by omega) (Lb.cons (by omega) Lb.nil)
  have e : vl [Int.tmod n 4294967296 % 4294967296, IntKind.u64.wrap (Int.tdiv n 4294967296) % 4294967296] = n := by
    rw [vl_cons, vl_cons, vl_nil, Int.tmod_eq_emod_of_nonneg h.1, Int.tdiv_eq_ediv_of_nonneg h.1, wu64 (by omega) (by omega)]
    omega
  have s := r_trim hl (by simp)
  rw [e] at s
  exact s.bind (G := fun _ t => some t) (Ev.all fun _ => rfl)
theorem r_ValidNat {l : List Int} (hl : Lb l) (b : Bool) (hb : b = true ↔ Vn l) : r2xValidNat.f l = some b := by
  have hb' : b = decide (l.length ≤ 64 ∧ (l = [] ∨ co l (l.length - 1) ≠ 0)) := by
    rw [Bool.eq_iff_iff, hb, decide_eq_true_iff]
    unfold Vn Nf
    simp [hl]
  rw [hb']
  rw [r2xValidNat.f]
  by_cases c : l.length ≤ 64
  · rw [if_pos (by omega)]
    by_cases c2 : l = []
    · rw [if_pos (by rw [c2]; rfl)]
      simp [c2]
    · have hp : 0 < l.length := List.length_pos_iff.2 c2
      have e1 : wrap64 ((l.length : Int) - 1) = ((l.length - 1 : Nat) : Int) := by rw [w64 (by omega) (by omega)]; omega
      rw [if_neg (by omega), e1, if_pos (by omega), if_pos (by omega), rd_nat]
      congr 1
      rw [Bool.eq_iff_iff, bne_iff_ne, decide_eq_true_iff]
      simp [c, c2]
  · rw [if_neg (by omega)]
    simp [c]
theorem r_limb {l : List Int} (hl : Lb l) (i : Nat) : r2xlimb.f l (i : Int) = some (co l i) := by
  have h := hl i
  rw [r2xlimb.f]
  by_cases c : i < l.length
  · rw [if_pos (by omega), if_pos (by omega), rd_nat, wu64 (by omega) (by omega)]
  · rw [if_neg (by omega), co_over (by omega)]
theorem vl_snoc (l : List Int) (x : Int) : vl (l ++ [x]) = vl l + x * Bp l.length := by
  rw [vl_append, vl_cons, vl_nil]
  grind
theorem tk_succ (b : List Int) (i : Nat) : vl (b.take (i + 1)) = vl (b.take i) + co b i * Bp i := by
  by_cases c1 : i < b.length
  · exact vl_take_succ c1
  · have c2 := Nat.le_of_not_lt c1
    rw [vl_take_all c2, vl_take_all (Nat.le_trans c2 (Nat.le_succ i)), co_over c2, Int.zero_mul, Int.add_zero]
theorem mx_nat (m n : Nat) : mx (m : Int) (n : Int) = ((max m n : Nat) : Int) := by unfold mx; split <;> omega
theorem rsum_l {a b : List Int} (ha : Lb a) (hb : Lb b) {n : Nat} (hn : n = max a.length b.length + 1) (hs : n < 35184372088832) : ∀ (d i : Nat) (out : List Int) (c : Int), i + d = n → out.length = i → Lb out → 0 ≤ c ∧ c ≤ 1 → Aside0 (vl out + c * Bp i = vl (a.take i) + vl (b.take i)) →
    Ev (fun k => r2xsum.l0 k a b out c (i : Int)) (dg (vl a + vl b)) := by
  have ew : wrap64 (mx (a.length : Int) (b.length : Int) + 1) = (n : Int) := by rw [mx_nat, w64 (by omega) (by omega)]; omega
  intro d
  induction d with
  | zero =>
    intro i out c hi ho hout hc hv
    have e : vl out = vl a + vl b := by
      have h := hv.out
      have h1 := (vl_range ha).2
      have h2 := (vl_range hb).2
      have h3 := Bp_le (show a.length ≤ max a.length b.length by omega)
      have h4 := Bp_le (show b.length ≤ max a.length b.length by omega)
      have h5 := (vl_range hout).1
      rw [vl_take_all (show a.length ≤ i by omega), vl_take_all (show b.length ≤ i by omega), show i = max a.length b.length + 1 by omega, Bp_succ] at h
      have hp := Bp_pos (max a.length b.length)
      rcases (show c = 0 ∨ c = 1 by omega) with rfl | rfl
      · rw [Int.zero_mul] at h
        omega
      · rw [Int.one_mul] at h
        omega
    have s := r_trim (l := out) hout (by omega)
    rw [e] at s
    refine Ev.succ (fun k => ?_) (s.bind (G := fun _ t => some t) (Ev.all fun _ => rfl))
    rw [r2xsum.l0, ew, if_neg (by omega)]
  | succ d ih =>
    intro i out c hi ho hout hc hv
    have h1 := ha i
    have h2 := hb i
    have hd := Int.emod_add_mul_ediv (co a i + co b i + c) 4294967296
    have hr : 0 ≤ (co a i + co b i + c) % 4294967296 ∧ (co a i + co b i + c) % 4294967296 < 4294967296 := ⟨Int.emod_nonneg _ (by decide), Int.emod_lt_of_pos _ (by decide)⟩
    have hq : 0 ≤ (co a i + co b i + c) / 4294967296 ∧ (co a i + co b i + c) / 4294967296 ≤ 1 := by
      clear hd hr hv
      generalize co a i = x at *
      generalize co b i = y at *
      omega
    have key := ih (i + 1) (out ++ [(co a i + co b i + c) % 4294967296]) ((co a i + co b i + c) / 4294967296) (by omega) (by simp [ho]) (hout.append (Lb.cons hr Lb.nil)) hq ⟨by
      rw [vl_snoc, ho, tk_succ, tk_succ, Bp_succ]
      exact add_alg hv.out hd⟩
    have w1 : IntKind.u64.wrap (IntKind.u64.wrap (co a i + co b i) + c) = co a i + co b i + c := by
      clear hd hr hq key hv
      generalize co a i = x at *
      generalize co b i = y at *
      rw [wu64 (n := x + y) (by omega) (by omega), wu64 (by omega) (by omega)]
    have w2 : Int.tmod (co a i + co b i + c) 4294967296 % 4294967296 = (co a i + co b i + c) % 4294967296 := by
      clear hd hr hq key hv w1
      generalize co a i = x at *
      generalize co b i = y at *
      rw [Int.tmod_eq_emod_of_nonneg (by omega)]
      omega
    have w3 : IntKind.u64.wrap (Int.tdiv (co a i + co b i + c) 4294967296) = (co a i + co b i + c) / 4294967296 := by
      rw [Int.tdiv_eq_ediv_of_nonneg (by clear hd hr hq key hv w1 w2; omega), wu64 (by omega) (by omega)]
    refine Ev.succ (fun k => ?_) key
    rw [r2xsum.l0, ew, if_pos (by omega), r_limb ha, Option.bind_some, r_limb hb, Option.bind_some, if_pos (by omega), w1, w2, w3, w64_succ (by omega)]
theorem r_sum {a b : List Int} (ha : Lb a) (hb : Lb b) (la : a.length < 17592186044416) (lb : b.length < 17592186044416) : Ev (fun k => r2xsum.f k a b) (dg (vl a + vl b)) := by
  refine Ev.congr (fun k => ?_) (rsum_l ha hb rfl (by omega) (max a.length b.length + 1) 0 [] 0 (Nat.zero_add _) rfl Lb.nil (by omega) ⟨by simp [vl]⟩)
  rfl
theorem rord_l {a b : List Int} {n : Nat} (ha : Lb a) (hb : Lb b) (la : a.length = n) (lb : b.length = n) (hn : n < 4611686018427387904) : ∀ m : Nat, m ≤ n → vl (a.drop m) = vl (b.drop m) → Ev (fun k => r2xorder.l0 k a b ((m : Int) - 1)) (cmpZ (vl a) (vl b)) := by
  intro m
  induction m with
  | zero =>
    intro _ hv
    rw [List.drop_zero, List.drop_zero] at hv
    refine Ev.succ (F := fun _ => some 0) (fun k => ?_) (Ev.all fun _ => by rw [cmpZ_eq hv])
    rw [r2xorder.l0, if_neg (by omega)]
  | succ m ih =>
    intro hm hv
    have e0 : (((m + 1 : Nat) : Int) - 1) = (m : Int) := by omega
    have e2 : wrap64 ((m : Int) - 1) = (m : Int) - 1 := w64 (by omega) (by omega)
    have da := drop_succ_co (l := a) (i := m) (by omega)
    have db := drop_succ_co (l := b) (i := m) (by omega)
    have hv1 := ih (by omega)
    rw [e0]
    by_cases c1 : co a m < co b m
    · have := top_lt (m := m) ha hb (by omega) (by omega) (by omega)
      refine Ev.succ (F := fun _ => some (-1)) (fun k => ?_) (Ev.all fun _ => by rw [cmpZ_lt this])
      rw [r2xorder.l0, if_pos (by omega), if_pos (by omega), if_pos (by omega), if_pos (by omega), rd_nat, rd_nat, if_pos c1]
    by_cases c2 : co b m < co a m
    · have := top_lt (m := m) hb ha (by omega) (by omega) (by omega)
      refine Ev.succ (F := fun _ => some 1) (fun k => ?_) (Ev.all fun _ => by rw [cmpZ_gt this])
      rw [r2xorder.l0, if_pos (by omega), if_pos (by omega), if_pos (by omega), if_pos (by omega), rd_nat, rd_nat, if_neg c1, if_pos (by omega)]
    refine Ev.succ (fun k => ?_) (hv1 (by omega))
    rw [r2xorder.l0, if_pos (by omega), if_pos (by omega), if_pos (by omega), if_pos (by omega), rd_nat, rd_nat, if_neg c1, if_neg (by omega), e2]
theorem r_order {a b : List Int} (ha : Nf a) (hb : Nf b) (la : a.length < 4611686018427387904) (lb : b.length < 4611686018427387904) : Ev (fun k => r2xorder.f k a b) (cmpZ (vl a) (vl b)) := by
  by_cases c1 : a.length < b.length
  · refine Ev.all fun k => ?_
    rw [r2xorder.f, if_neg (by omega), if_pos (by omega), cmpZ_lt (ha.len_lt hb c1)]
  by_cases c2 : b.length < a.length
  · refine Ev.all fun k => ?_
    rw [r2xorder.f, if_neg (by omega), if_neg (by omega), cmpZ_gt (hb.len_lt ha c2)]
  have s := rord_l ha.1 hb.1 rfl (show b.length = a.length by omega) la a.length (Nat.le_refl _) (by rw [List.drop_length, List.drop_of_length_le (by omega)])
  refine Ev.congr (fun k => ?_) s
  rw [r2xorder.f, if_pos (by omega), w64 (by omega) (by omega)]
theorem rmul_in {a b : List Int} (ha : Lb a) (hb : Lb b) (hn : a.length + b.length < 35184372088832) {i : Nat} (hi : i < a.length) {V0 : Int} {r : List Int} :
    ∀ (d j : Nat) (out : List Int) (c : Int), j + d = b.length → out.length = a.length + b.length → Lb out → 0 ≤ c ∧ c < 4294967296 → (∀ t, i + b.length ≤ t → co out t = 0) → Aside0 (vl out + c * Bp (i + j) = V0 + co a i * (Bp i * vl (b.take j))) →
    (∀ out' : List Int, out'.length = a.length + b.length → Lb out' → (∀ t, i + 1 + b.length ≤ t → co out' t = 0) → Aside0 (vl out' = V0 + co a i * (Bp i * vl b)) → Ev (fun k => r2xproduct.l0 k a b out' ((i + 1 : Nat) : Int)) r) →
    Ev (fun k => r2xproduct.l1 k a b out (i : Int) c (j : Int)) r := by
  intro d
  induction d with
  | zero =>
    intro j out c hj ho hout hc hz hv hK
    have q1 : ¬ ((j : Int) < (b.length : Int)) := by omega
    have q2 : wrap64 ((i : Int) + (b.length : Int)) = ((i + b.length : Nat) : Int) := by rw [w64 (by omega) (by omega)]; omega
    have q3 : i + b.length < out.length := by omega
    have q4 : c % 4294967296 = c := by omega
    have q5 := w64_succ (i := i) (by omega)
    have q6 : j = b.length := by omega
    have key := hK (out.set (i + b.length) c) (by rw [List.length_set]; exact ho) (hout.set hc _) (fun t ht => by
      rw [co_set_ne q3 _ (by omega)]
      exact hz t (by omega)) ⟨by
        have h := hv.out
        rw [q6, List.take_length] at h
        rw [vl_set q3, hz _ (Nat.le_refl _), ← h, Int.sub_zero]⟩
    refine Ev.succ (fun k => ?_) key
    rw [r2xproduct.l1, if_neg q1, q2, if_pos (Int.natCast_nonneg _), if_pos (Int.ofNat_lt.2 q3), Int.toNat_natCast, q4, q5]
  | succ d ih =>
    intro j out c hj ho hout hc hz hv hK
    have g1 : (j : Int) < (b.length : Int) := by omega
    have g2 : wrap64 ((i : Int) + (j : Int)) = ((i + j : Nat) : Int) := by rw [w64 (by omega) (by omega)]; omega
    have g3 : i + j < out.length := by omega
    have g4 : j < b.length := by omega
    have g5 := w64_succ (i := j) (by omega)
    have g6 : (i : Int) < (a.length : Int) := by omega
    have hx := ha i
    have hy := hb j
    have hoo := hout (i + j)
    obtain ⟨b1, b2⟩ := mul_bd hx hy hoo hc
    obtain ⟨z, hzz⟩ : ∃ z, z = co a i * co b j := ⟨_, rfl⟩
    have w1 : IntKind.u64.wrap (IntKind.u64.wrap (IntKind.u64.wrap (co out (i + j)) + IntKind.u64.wrap (IntKind.u64.wrap (co a i) * IntKind.u64.wrap (co b j))) + c) = z + co out (i + j) + c := by
      rw [← hzz] at b1 b2
      rw [wu64 (n := co a i) (by omega) (by omega), wu64 (n := co b j) (by omega) (by omega), ← hzz]
      clear hzz hz hv hK ih g1 g2 g3 g4 g5 g6
      generalize co out (i + j) = o at *
      rw [wu64 (n := z) (by omega) (by omega), wu64 (n := o) (by omega) (by omega), wu64 (n := o + z) (by omega) (by omega), wu64 (by omega) (by omega)]
      omega
    have b0 : 0 ≤ z + co out (i + j) + c ∧ z + co out (i + j) + c < 18446744073709551616 := by
      rw [← hzz] at b1 b2
      clear w1 hzz hz hv hK ih g1 g2 g3 g4 g5 g6
      generalize co out (i + j) = o at *
      omega
    have hd := Int.emod_add_mul_ediv (z + co out (i + j) + c) 4294967296
    have hr : 0 ≤ (z + co out (i + j) + c) % 4294967296 ∧ (z + co out (i + j) + c) % 4294967296 < 4294967296 := ⟨Int.emod_nonneg _ (by decide), Int.emod_lt_of_pos _ (by decide)⟩
    have hq : 0 ≤ (z + co out (i + j) + c) / 4294967296 ∧ (z + co out (i + j) + c) / 4294967296 < 4294967296 := by
      clear hd hr w1 hzz hz hv hK ih g1 g2 g3 g4 g5 g6 b1 b2
      generalize z + co out (i + j) + c = o at *
      omega
    have w2 : Int.tmod (z + co out (i + j) + c) 4294967296 % 4294967296 = (z + co out (i + j) + c) % 4294967296 := by
      rw [Int.tmod_eq_emod_of_nonneg b0.1, Int.emod_emod]
    have w3 : IntKind.u64.wrap (Int.tdiv (z + co out (i + j) + c) 4294967296) = (z + co out (i + j) + c) / 4294967296 := by
      rw [Int.tdiv_eq_ediv_of_nonneg b0.1, wu64 hq.1 (Int.lt_trans hq.2 (by decide))]
    have key := ih (j + 1) (out.set (i + j) ((z + co out (i + j) + c) % 4294967296)) ((z + co out (i + j) + c) / 4294967296) (by omega) (by rw [List.length_set]; exact ho) (hout.set hr _) hq (fun t ht => by
      rw [co_set_ne g3 _ (by omega)]
      exact hz t ht) ⟨by
        rw [vl_set g3, show i + (j + 1) = i + j + 1 from rfl, Bp_succ, vl_take_succ g4]
        rw [hzz] at hd ⊢
        exact mul_alg hv.out (Bp_add i j) hd⟩ hK
    refine Ev.succ (fun k => ?_) key
    rw [r2xproduct.l1, if_pos g1, g2, if_pos (Int.natCast_nonneg _), if_pos (Int.ofNat_lt.2 g3), if_pos (Int.natCast_nonneg _), if_pos g6, if_pos (Int.natCast_nonneg _), Int.toNat_natCast, rd_nat, rd_nat, rd_nat, w1, w2, w3, g5]
theorem rmul_l {a b : List Int} (ha : Lb a) (hb : Lb b) (hn : a.length + b.length < 35184372088832) :
    ∀ (d i : Nat) (out : List Int), i + d = a.length → out.length = a.length + b.length → Lb out → (∀ t, i + b.length ≤ t → co out t = 0) → Aside0 (vl out = vl (a.take i) * vl b) → Ev (fun k => r2xproduct.l0 k a b out (i : Int)) (dg (vl a * vl b)) := by
  intro d
  induction d with
  | zero =>
    intro i out hi ho hout hz hv
    have s := r_trim (l := out) hout (by omega)
    rw [hv.out, vl_take_all (show a.length ≤ i by omega)] at s
    refine Ev.succ (fun k => ?_) (s.bind (G := fun _ t => some t) (Ev.all fun _ => rfl))
    rw [r2xproduct.l0, if_neg (by omega)]
  | succ d ih =>
    intro i out hi ho hout hz hv
    have g1 : (i : Int) < (a.length : Int) := by omega
    have key := rmul_in ha hb hn (i := i) (by omega) (V0 := vl (a.take i) * vl b) (r := dg (vl a * vl b)) b.length 0 out 0 (Nat.zero_add _) ho hout (by omega) hz ⟨by rw [hv.out]; simp [vl]⟩ (fun out' ho' hout' hz' hv' => by
      refine ih (i + 1) out' (by omega) ho' hout' hz' ⟨?_⟩
      rw [hv'.out, vl_take_succ (by omega), Int.add_mul, Int.mul_assoc])
    refine Ev.succ (fun k => ?_) key
    rw [r2xproduct.l0, if_pos g1]
    rfl
theorem r_product {a b : List Int} (ha : Lb a) (hb : Lb b) (hn : a.length + b.length < 35184372088832) : Ev (fun k => r2xproduct.f k a b) (dg (vl a * vl b)) := by
  have q2 : wrap64 ((a.length : Int) + (b.length : Int)) = ((a.length + b.length : Nat) : Int) := by rw [w64 (by omega) (by omega)]; omega
  refine Ev.congr (fun k => ?_) (rmul_l ha hb hn a.length 0 (List.replicate (a.length + b.length) 0) (Nat.zero_add _) (by simp) (Lb.replicate _) (fun t _ => co_replicate _ _) ⟨by rw [vl_replicate]; simp [vl]⟩)
  rw [r2xproduct.f, q2, if_pos (Int.natCast_nonneg _), if_pos (by rw [Int.toNat_natCast]; omega), Int.toNat_natCast]
  rfl
end Go.Proofs.YtbjeemlbjkmhiaaDoor.Pure
namespace Go.Proofs.YtbjeemlbjkmhiaaDoor.Pure
open Go.RowKit Go.Proofs.YtbjeemlbjkmhiaaDoor.Q Go.Proofs.YtbjeemlbjkmhiaaDoor.Num Go.Proofs.YtbjeemlbjkmhiaaDoor.Pol Go.Proofs.YtbjeemlbjkmhiaaDoorW.PrintWords Go.Proofs.YtbjeemlbjkmhiaaDoorW.PrintLast Go.Proofs.YtbjeemlbjkmhiaaDoorW.PrintMore

theorem rdiff_l {a b : List Int} (ha : Lb a) (hb : Lb b) (hl : b.length ≤ a.length) (hs : a.length < 35184372088832) (hab : Aside0 (vl b ≤ vl a)) : ∀ (d i : Nat) (out : List Int) (c : Int), i + d = a.length → out.length = i → Lb out → 0 ≤ c ∧ c ≤ 1 → Aside0 (vl out - c * Bp i = vl (a.take i) - vl (b.take i)) →
    Ev (fun k => r2xdiff.l0 k a b out c (i : Int)) (dg (vl a - vl b)) := by
  intro d
  induction d with
  | zero =>
    intro i out c hi ho hout hc hv
    have e : vl out = vl a - vl b := by
      have h := hv.out
      have h1 := (vl_range hout).2
      have h2 := hab.out
      rw [vl_take_all (show a.length ≤ i by omega), vl_take_all (show b.length ≤ i by omega)] at h
      rw [ho] at h1
      rcases (show c = 0 ∨ c = 1 by omega) with rfl | rfl
      · rw [Int.zero_mul] at h
        omega
      · rw [Int.one_mul] at h
        omega
    have s := r_trim (l := out) hout (by omega)
    rw [e] at s
    refine Ev.succ (fun k => ?_) (s.bind (G := fun _ t => some t) (Ev.all fun _ => rfl))
    rw [r2xdiff.l0, if_neg (by omega)]
  | succ d ih =>
    intro i out c hi ho hout hc hv
    have h1 := ha i
    have h2 := hb i
    have go : ∀ (q r : Int), 0 ≤ q ∧ q ≤ 1 → 0 ≤ r ∧ r < 4294967296 → r - 4294967296 * q = co a i - co b i - c → Ev (fun k => r2xdiff.l0 k a b (out ++ [r]) q ((i + 1 : Nat) : Int)) (dg (vl a - vl b)) := fun q r hq hr hd =>
      ih (i + 1) (out ++ [r]) q (by omega) (by simp [ho]) (hout.append (Lb.cons hr Lb.nil)) hq ⟨by
        rw [vl_snoc, ho, tk_succ, tk_succ, Bp_succ]
        exact sub_alg hv.out hd⟩
    have g1 : (i : Int) < (a.length : Int) := by omega
    have g2 : out.length < 35184372088832 := by omega
    have g3 := w64_succ (i := i) (by omega)
    have g4 := r_limb ha i
    have g5 := r_limb hb i
    clear ih hv hl hs hab hi ho
    generalize co a i = x at *
    generalize co b i = y at *
    have w1 : IntKind.u64.wrap (y + c) = y + c := wu64 (by omega) (by omega)
    by_cases q : x < y + c
    · refine Ev.succ (fun k => ?_) (go 1 (x + 4294967296 - (y + c)) (by omega) (by omega) (by omega))
      rw [r2xdiff.l0, if_pos g1, g4, Option.bind_some, g5, Option.bind_some, w1, if_pos q, if_pos g2, g3, wu64 (n := x + 4294967296) (by omega) (by omega), wu64 (by omega) (by omega), Int.emod_eq_of_lt (by omega) (by omega)]
    · refine Ev.succ (fun k => ?_) (go 0 (x - (y + c)) (by omega) (by omega) (by omega))
      rw [r2xdiff.l0, if_pos g1, g4, Option.bind_some, g5, Option.bind_some, w1, if_neg q, if_pos g2, g3, wu64 (by omega) (by omega), Int.emod_eq_of_lt (by omega) (by omega)]
theorem r_diff {a b : List Int} (ha : Lb a) (hb : Lb b) (hl : b.length ≤ a.length) (hn : a.length < 35184372088832) (hab : vl b ≤ vl a) : Ev (fun k => r2xdiff.f k a b) (dg (vl a - vl b)) :=
  rdiff_l ha hb hl hn ⟨hab⟩ a.length 0 [] 0 (Nat.zero_add _) rfl Lb.nil (by omega) ⟨by simp [vl]⟩
theorem r_even {l : List Int} (hl : Lb l) : r2xeven.f l = some (decide (vl l % 2 = 0)) := by
  rw [r2xeven.f]
  cases l with
  | nil => rw [if_pos (show (([] : List Int).length : Int) = 0 from rfl)]; rfl
  | cons x t =>
    have h := hl 0
    rw [show co (x :: t) 0 = x from rfl] at h
    rw [if_neg (by rw [List.length_cons]; omega), if_pos (by rw [List.length_cons]; omega), show rd (x :: t) 0 = x from rfl, Int.tmod_eq_emod_of_nonneg h.1, vl_cons]
    congr 1
    rw [Bool.eq_iff_iff, beq_iff_eq, decide_eq_true_iff]
    generalize vl t = v
    omega
theorem rhalf_l {a : List Int} (ha : Lb a) (hs : a.length < 35184372088832) : ∀ (m : Nat) (out : List Int) (c : Int), m ≤ a.length → out.length = a.length → Lb out → c = vl (a.drop m) % 2 * 2147483648 → vl (out.drop m) = vl (a.drop m) / 2 →
    Ev (fun k => r2xhalf.l0 k a out c ((m : Int) - 1)) (dg (vl a / 2)) := by
  intro m
  induction m with
  | zero =>
    intro out c _ ho hout _ hv
    rw [List.drop_zero, List.drop_zero] at hv
    have s := r_trim (l := out) hout (by omega)
    rw [hv] at s
    refine Ev.succ (fun k => ?_) (s.bind (G := fun _ t => some t) (Ev.all fun _ => rfl))
    rw [r2xhalf.l0, if_neg (by omega)]
  | succ m ih =>
    intro out c hm ho hout hc hv
    have e0 : (((m + 1 : Nat) : Int) - 1) = (m : Int) := by omega
    have e2 : wrap64 ((m : Int) - 1) = (m : Int) - 1 := w64 (by omega) (by omega)
    have da := drop_succ_co (l := a) (i := m) (by omega)
    have h := ha m
    have gm : m < out.length := by omega
    have key : ∀ r : Int, r = co a m / 2 + c → Ev (fun k => r2xhalf.l0 k a (out.set m r) (co a m % 2 * 2147483648) ((m : Int) - 1)) (dg (vl a / 2)) := by
      intro r hr
      have hb : 0 ≤ r ∧ r < 4294967296 := by omega
      refine ih (out.set m r) _ (by omega) (by rw [List.length_set]; exact ho) (hout.set hb _) ?_ ?_
      · rw [da]; omega
      · have ds := drop_succ_co (l := out.set m r) (i := m) (by rw [List.length_set]; omega)
        rw [co_set_same gm, List.drop_set_of_lt (Nat.lt_succ_self m), hv] at ds
        rw [ds, da]
        omega
    rw [e0]
    have k1 := key _ rfl
    have w1 : (Int.tdiv (co a m) 2 % 4294967296 + c) % 4294967296 = co a m / 2 + c := by
      rw [Int.tdiv_eq_ediv_of_nonneg h.1]; omega
    have w2 : Int.tmod (co a m) 2 * 2147483648 % 4294967296 = co a m % 2 * 2147483648 := by
      rw [Int.tmod_eq_emod_of_nonneg h.1]; omega
    refine Ev.succ (fun k => ?_) k1
    rw [r2xhalf.l0, if_pos (by omega), if_pos (by omega), if_pos (by omega), if_pos (by omega), rd_nat, w1, w2, e2, Int.toNat_natCast]
theorem r_half {a : List Int} (ha : Lb a) (hs : a.length < 35184372088832) : Ev (fun k => r2xhalf.f k a) (dg (vl a / 2)) := by
  have s := rhalf_l ha hs a.length (List.replicate a.length 0) 0 (Nat.le_refl _) (by simp) (Lb.replicate _) (by rw [List.drop_length]; rfl) (by rw [List.drop_length, List.drop_of_length_le (by simp)]; rfl)
  refine Ev.congr (fun k => ?_) s
  rw [r2xhalf.f, if_pos (by omega), if_pos (by rw [Int.toNat_natCast]; omega), Int.toNat_natCast, w64 (by omega) (by omega)]
section
variable {n : Nat} (hn : n < 1000000)
include hn
theorem m_sum {x y : Int} (hx : 0 ≤ x ∧ x < Bp n) (hy : 0 ≤ y ∧ y < Bp n) : Ev (fun k => r2xsum.f k (dg x) (dg y)) (dg (x + y)) := by
  have lx : (dg x).length ≤ n := (dg_len hx.1).2 hx.2
  have ly : (dg y).length ≤ n := (dg_len hy.1).2 hy.2
  have s := r_sum (dg_lb x) (dg_lb y) (by omega) (by omega)
  rwa [vl_dg hx.1, vl_dg hy.1] at s
theorem m_product {x y : Int} (hx : 0 ≤ x ∧ x < Bp n) (hy : 0 ≤ y ∧ y < Bp n) : Ev (fun k => r2xproduct.f k (dg x) (dg y)) (dg (x * y)) := by
  have lx : (dg x).length ≤ n := (dg_len hx.1).2 hx.2
  have ly : (dg y).length ≤ n := (dg_len hy.1).2 hy.2
  have s := r_product (dg_lb x) (dg_lb y) (by omega)
  rwa [vl_dg hx.1, vl_dg hy.1] at s
theorem m_order {x y : Int} (hx : 0 ≤ x ∧ x < Bp n) (hy : 0 ≤ y ∧ y < Bp n) : Ev (fun k => r2xorder.f k (dg x) (dg y)) (cmpZ x y) := by
  have lx : (dg x).length ≤ n := (dg_len hx.1).2 hx.2
  have ly : (dg y).length ≤ n := (dg_len hy.1).2 hy.2
  have s := r_order (dg_nf x) (dg_nf y) (by omega) (by omega)
  rwa [vl_dg hx.1, vl_dg hy.1] at s
theorem m_diff {x y : Int} (hx : 0 ≤ x ∧ x < Bp n) (hy : 0 ≤ y ∧ y ≤ x) : Ev (fun k => r2xdiff.f k (dg x) (dg y)) (dg (x - y)) := by
  have lx : (dg x).length ≤ n := (dg_len hx.1).2 hx.2
  have ly : (dg y).length ≤ (dg x).length := (dg_len hy.1).2 (by have := (vl_range (dg_lb x)).2; rw [vl_dg hx.1] at this; omega)
  have s := r_diff (dg_lb x) (dg_lb y) ly (by omega) (by rw [vl_dg hx.1, vl_dg hy.1]; exact hy.2)
  rwa [vl_dg hx.1, vl_dg hy.1] at s
theorem m_half {x : Int} (hx : 0 ≤ x ∧ x < Bp n) : Ev (fun k => r2xhalf.f k (dg x)) (dg (x / 2)) := by
  have lx : (dg x).length ≤ n := (dg_len hx.1).2 hx.2
  have s := r_half (dg_lb x) (by omega)
  rwa [vl_dg hx.1] at s
theorem m_trim {x : Int} (hx : 0 ≤ x ∧ x < Bp n) : Ev (fun k => r2xtrim.f k (dg x)) (dg x) := by
  have lx : (dg x).length ≤ n := (dg_len hx.1).2 hx.2
  have s := r_trim (dg_lb x) (by omega)
  rwa [vl_dg hx.1] at s
end
theorem m_even {x : Int} (hx : 0 ≤ x) : r2xeven.f (dg x) = some (decide (x % 2 = 0)) := by
  have s := r_even (dg_lb x)
  rwa [vl_dg hx] at s
theorem gcd_half_left {x y : Nat} (hx : x % 2 = 0) (hy : y % 2 = 1) : Nat.gcd (x / 2) y = Nat.gcd x y := by
  have c : Nat.Coprime 2 y := by
    unfold Nat.Coprime
    rw [Nat.gcd_rec, hy]
    rfl
  have h := Nat.Coprime.gcd_mul_left_cancel (x / 2) c
  rw [show 2 * (x / 2) = x by omega] at h
  exact h.symm
theorem gcd_half_right {x y : Nat} (hx : x % 2 = 1) (hy : y % 2 = 0) : Nat.gcd x (y / 2) = Nat.gcd x y := by
  rw [Nat.gcd_comm, gcd_half_left hy hx, Nat.gcd_comm]
theorem gcd_half_both {x y : Nat} (hx : x % 2 = 0) (hy : y % 2 = 0) : Nat.gcd x y = 2 * Nat.gcd (x / 2) (y / 2) := by
  have h := Nat.gcd_mul_left 2 (x / 2) (y / 2)
  rw [show 2 * (x / 2) = x by omega, show 2 * (y / 2) = y by omega] at h
  exact h
theorem Bp_nat (n : Nat) : ∃ B : Nat, Bp n = (B : Int) ∧ B = 2 ^ (32 * n) := by
  refine ⟨2 ^ (32 * n), ?_, rfl⟩
  have e : ((2 ^ 32 : Nat) : Int) = 4294967296 := by decide
  unfold Bp
  rw [Nat.pow_mul, Int.natCast_pow, e]
section
variable {n : Nat} (hn : n < 1000000) {B : Nat} (hB : Bp n = (B : Int)) (hB2 : B = 2 ^ (32 * n))
include hn hB
theorem gcd_l4 {t : Nat} (ht : t < 1000000000) : ∀ (d j y : Nat), j + d = t → y * 2 ^ d < B → Ev (fun k => r2xgcd.l4 k (dg (y : Int)) (t : Int) (j : Int)) (dg ((y * 2 ^ d : Nat) : Int)) := by
  intro d
  induction d with
  | zero =>
    intro j y hj hb
    rw [Nat.pow_zero, Nat.mul_one] at hb ⊢
    refine Ev.succ (fun k => ?_) ((m_trim hn (x := (y : Int)) (by omega)).bind (G := fun _ t => some t) (Ev.all fun _ => rfl))
    rw [r2xgcd.l4, if_neg (by omega)]
  | succ d ih =>
    intro j y hj hb
    have e : y * 2 ^ (d + 1) = (y + y) * 2 ^ d := by rw [Nat.pow_succ, Nat.mul_comm (2 ^ d) 2, ← Nat.mul_assoc]; congr 1; omega
    rw [e] at hb ⊢
    have hy : y + y < B := Nat.lt_of_le_of_lt (Nat.le_mul_of_pos_right _ (Nat.two_pow_pos d)) hb
    have s := ih (j + 1) (y + y) (by omega) hb
    rw [Int.natCast_add y y] at s
    refine Ev.succ (fun k => ?_) ((m_sum hn (x := (y : Int)) (y := (y : Int)) (by omega) (by omega)).bind (G := fun k t1 => r2xgcd.l4 k t1 (t : Int) ((j + 1 : Nat) : Int)) s)
    rw [r2xgcd.l4, if_pos (by omega), w64_succ (by omega)]
theorem gcd_l1 {t : Nat} (ht : t < 1000000000) : ∀ (M x y : Nat), x + y < M → 0 < y → x * 2 ^ t < B → y * 2 ^ t < B → (x % 2 = 1 ∨ y % 2 = 1) → Ev (fun k => r2xgcd.l1 k (dg (x : Int)) (dg (y : Int)) (t : Int)) (dg ((Nat.gcd x y * 2 ^ t : Nat) : Int)) := by
  have hp := Nat.two_pow_pos t
  have le : ∀ {z : Nat}, z * 2 ^ t < B → z < B := fun h => Nat.lt_of_le_of_lt (Nat.le_mul_of_pos_right _ hp) h
  have mo : ∀ {z w : Nat}, w ≤ z → z * 2 ^ t < B → w * 2 ^ t < B := fun h g => Nat.lt_of_le_of_lt (Nat.mul_le_mul_right _ h) g
  intro M
  induction M with
  | zero => intro x y h; omega
  | succ M IH =>
    have l3 : ∀ (y : Nat) (x : Nat), x % 2 = 1 → 0 < y → x + y < M + 1 → x * 2 ^ t < B → y * 2 ^ t < B → Ev (fun k => r2xgcd.l3 k (dg (x : Int)) (dg (y : Int)) (t : Int)) (dg ((Nat.gcd x y * 2 ^ t : Nat) : Int)) := by
      intro y
      induction y using Nat.strongRecOn with
      | ind y ih =>
        intro x hx hy hM bx bY
        have lx := le bx
        have ly := le bY
        have ev := m_even (x := (y : Int)) (by omega)
        by_cases c : y % 2 = 0
        · have s := ih (y / 2) (by omega) x hx (by omega) (by omega) bx (mo (by omega) bY)
          rw [gcd_half_right hx c, Int.natCast_ediv] at s
          refine Ev.succ (fun k => ?_) ((m_half hn (x := (y : Int)) (by omega)).bind (G := fun k t1 => r2xgcd.l3 k (dg (x : Int)) t1 (t : Int)) s)
          rw [r2xgcd.l3, ev, Option.bind_some, if_pos (by rw [decide_eq_true_iff]; omega)]
        · refine Ev.succ (F := fun k => (r2xorder.f k (dg (x : Int)) (dg (y : Int))).bind fun t1057 => (if t1057 < 0 then ((r2xdiff.f k (dg (y : Int)) (dg (x : Int))).bind fun t1058 => (r2xgcd.l1 k t1058 (dg (x : Int)) (t : Int))) else ((r2xdiff.f k (dg (x : Int)) (dg (y : Int))).bind fun t1061 => (r2xgcd.l1 k t1061 (dg (y : Int)) (t : Int))))) (fun k => ?_) ?_
          · rw [r2xgcd.l3, ev, Option.bind_some, if_neg (by rw [decide_eq_true_iff]; omega)]
          · refine (m_order hn (x := (x : Int)) (y := (y : Int)) (by omega) (by omega)).bind ?_
            by_cases q : x < y
            · have s := IH (y - x) x (by omega) (by omega) (mo (by omega) bY) bx (Or.inr hx)
              have e : Nat.gcd (y - x) x = Nat.gcd x y := by
                rw [Nat.gcd_comm (y - x) x, Nat.gcd_sub_self_right (by omega)]
              rw [e, Int.natCast_sub (by omega)] at s
              refine Ev.congr (fun k => if_pos (by rw [cmpZ_lt (by omega)]; decide)) ?_
              exact (m_diff hn (x := (y : Int)) (y := (x : Int)) (by omega) (by omega)).bind s
            · have s := IH (x - y) y (by omega) hy (mo (by omega) bx) bY (Or.inr (by omega))
              have e : Nat.gcd (x - y) y = Nat.gcd x y := Nat.gcd_sub_self_left (by omega)
              rw [e, Int.natCast_sub (by omega)] at s
              refine Ev.congr (fun k => if_neg (by unfold cmpZ; rw [if_neg (by omega)]; split <;> omega)) ?_
              exact (m_diff hn (x := (x : Int)) (y := (y : Int)) (by omega) (by omega)).bind s
    have l2 : ∀ (x : Nat) (y : Nat), 0 < x → 0 < y → x + y < M + 1 → x * 2 ^ t < B → y * 2 ^ t < B → (x % 2 = 1 ∨ y % 2 = 1) → Ev (fun k => r2xgcd.l2 k (dg (x : Int)) (dg (y : Int)) (t : Int)) (dg ((Nat.gcd x y * 2 ^ t : Nat) : Int)) := by
      intro x
      induction x using Nat.strongRecOn with
      | ind x ih =>
        intro y hx hy hM bx bY ho
        have lx := le bx
        have ev := m_even (x := (x : Int)) (by omega)
        by_cases c : x % 2 = 0
        · have s := ih (x / 2) (by omega) y (by omega) hy (by omega) (mo (by omega) bx) bY (Or.inr (by omega))
          rw [gcd_half_left c (by omega), Int.natCast_ediv] at s
          refine Ev.succ (fun k => ?_) ((m_half hn (x := (x : Int)) (by omega)).bind (G := fun k t1 => r2xgcd.l2 k t1 (dg (y : Int)) (t : Int)) s)
          rw [r2xgcd.l2, ev, Option.bind_some, if_pos (by rw [decide_eq_true_iff]; omega)]
        · refine Ev.succ (fun k => ?_) (l3 y x (by omega) hy hM bx bY)
          rw [r2xgcd.l2, ev, Option.bind_some, if_neg (by rw [decide_eq_true_iff]; omega)]
    intro x y hM hy bx bY ho
    by_cases c : x = 0
    · subst c
      rw [Nat.gcd_zero_left]
      refine Ev.succ (fun k => ?_) (gcd_l4 hn hB ht t 0 y (Nat.zero_add _) bY)
      rw [r2xgcd.l1, if_neg (by decide)]
      rfl
    · have hp := dg_pos (x := (x : Int)) (by omega)
      refine Ev.succ (fun k => ?_) (l2 x y (by omega) hy hM bx bY ho)
      rw [r2xgcd.l1, if_pos (by omega)]
include hB2
theorem gcd_l0 : ∀ (x y t : Nat), 0 < x → 0 < y → x * 2 ^ t < B → y * 2 ^ t < B → Ev (fun k => r2xgcd.l0 k (dg (x : Int)) (dg (y : Int)) (t : Int)) (dg ((Nat.gcd x y * 2 ^ t : Nat) : Int)) := by
  intro x
  induction x using Nat.strongRecOn with
  | ind x ih =>
    intro y t hx hy bx bY
    have ht : t < 32 * n := by
      rw [hB2] at bx
      have h1 : 2 ^ t < 2 ^ (32 * n) := Nat.lt_of_le_of_lt (Nat.le_mul_of_pos_left _ hx) bx
      exact (Nat.pow_lt_pow_iff_right (by decide)).1 h1
    have hp := Nat.two_pow_pos t
    have le : ∀ {z : Nat}, z * 2 ^ t < B → z < B := fun h => Nat.lt_of_le_of_lt (Nat.le_mul_of_pos_right _ hp) h
    have lx := le bx
    have ly := le bY
    have ex := m_even (x := (x : Int)) (by omega)
    have ey := m_even (x := (y : Int)) (by omega)
    have two : ∀ z : Nat, z % 2 = 0 → z / 2 * 2 ^ (t + 1) = z * 2 ^ t := fun z hz => by
      rw [Nat.pow_succ, Nat.mul_comm (2 ^ t) 2, ← Nat.mul_assoc]; congr 1; omega
    by_cases c : x % 2 = 0 ∧ y % 2 = 0
    · have s := ih (x / 2) (by omega) (y / 2) (t + 1) (by omega) (by omega) (by rw [two x c.1]; exact bx) (by rw [two y c.2]; exact bY)
      have e : Nat.gcd (x / 2) (y / 2) * 2 ^ (t + 1) = Nat.gcd x y * 2 ^ t := by
        rw [gcd_half_both c.1 c.2, Nat.pow_succ, Nat.mul_comm (2 ^ t) 2, ← Nat.mul_assoc]; congr 1; omega
      rw [e, Int.natCast_ediv, Int.natCast_ediv] at s
      refine Ev.succ (F := fun k => r2xgcd.j1 k (dg (x : Int)) (dg (y : Int)) (t : Int) true) (fun k => ?_) (Ev.succ (F := fun k => (r2xhalf.f k (dg (x : Int))).bind fun t1043 => ((r2xhalf.f k (dg (y : Int))).bind fun t1046 => (r2xgcd.l0 k t1043 t1046 ((t + 1 : Nat) : Int)))) (fun k => ?_) ?_)
      · rw [r2xgcd.l0, ex, Option.bind_some, if_pos (by rw [decide_eq_true_iff]; omega), ey, Option.bind_some, decide_eq_true (by omega)]
      · rw [r2xgcd.j1, if_pos rfl, w64_succ (by omega)]
      · exact (m_half hn (x := (x : Int)) (by omega)).bind ((m_half hn (x := (y : Int)) (by omega)).bind s)
    · have s := gcd_l1 hn hB (t := t) (by omega) (x + y + 1) x y (Nat.lt_succ_self _) hy bx bY (by omega)
      refine Ev.succ (F := fun k => r2xgcd.j1 k (dg (x : Int)) (dg (y : Int)) (t : Int) false) (fun k => ?_) (Ev.succ (fun k => ?_) s)
      · rw [r2xgcd.l0, ex, Option.bind_some]
        by_cases q : x % 2 = 0
        · rw [if_pos (by rw [decide_eq_true_iff]; omega), ey, Option.bind_some, decide_eq_false (by omega)]
        · rw [if_neg (by rw [decide_eq_true_iff]; omega)]
      · rw [r2xgcd.j1, if_neg (by decide)]
end
theorem m_gcd {n : Nat} (hn : n < 1000000) {x y : Int} (hx : 0 ≤ x ∧ x < Bp n) (hy : 0 ≤ y ∧ y < Bp n) : Ev (fun k => r2xgcd.f k (dg x) (dg y)) (dg ((Int.gcd x y : Nat) : Int)) := by
  by_cases c1 : x = 0
  · have e : ((Int.gcd x y : Nat) : Int) = y := by rw [c1, Int.gcd_zero_left]; omega
    rw [e]
    refine Ev.congr (fun k => ?_) ((m_trim hn hy).bind (G := fun _ t => some t) (Ev.all fun _ => rfl))
    rw [r2xgcd.f, if_pos (by rw [c1]; rfl)]
  have p1 := dg_pos (x := x) (by omega)
  by_cases c2 : y = 0
  · have e : ((Int.gcd x y : Nat) : Int) = x := by rw [c2, Int.gcd_zero_right]; omega
    rw [e]
    refine Ev.congr (fun k => ?_) ((m_trim hn hx).bind (G := fun _ t => some t) (Ev.all fun _ => rfl))
    rw [r2xgcd.f, if_neg (by omega), if_pos (by rw [c2]; rfl)]
  have p2 := dg_pos (x := y) (by omega)
  obtain ⟨B, hB, hB2⟩ := Bp_nat n
  obtain ⟨a, rfl⟩ : ∃ a : Nat, x = a := ⟨x.toNat, by omega⟩
  obtain ⟨b, rfl⟩ : ∃ b : Nat, y = b := ⟨y.toNat, by omega⟩
  have s := gcd_l0 hn hB hB2 a b 0 (by omega) (by omega) (by rw [Nat.pow_zero]; omega) (by rw [Nat.pow_zero]; omega)
  rw [Nat.pow_zero, Nat.mul_one] at s
  refine Ev.congr (fun k => ?_) s
  rw [r2xgcd.f, if_neg (by omega), if_neg (by omega)]
  rfl
end Go.Proofs.YtbjeemlbjkmhiaaDoor.Pure
namespace Go.Proofs.YtbjeemlbjkmhiaaDoor.Pure
open Go.RowKit Go.Proofs.YtbjeemlbjkmhiaaDoor.Q Go.Proofs.YtbjeemlbjkmhiaaDoor.Num Go.Proofs.YtbjeemlbjkmhiaaDoor.Pol Go.Proofs.YtbjeemlbjkmhiaaDoorW.PrintWords Go.Proofs.YtbjeemlbjkmhiaaDoorW.PrintLast Go.Proofs.YtbjeemlbjkmhiaaDoorW.PrintMore

theorem Bp_two (d : Nat) : Bp d = 2 ^ (32 * d) := by
  unfold Bp
  rw [show (4294967296 : Int) = 2 ^ 32 from by decide, ← Int.pow_mul]
theorem shl_one {s : Nat} (h : s < 32) : shl .u32 1 (s : Int) = 2 ^ s := by
  have key : ∀ s : Fin 32, shl .u32 1 ((s.val : Nat) : Int) = 2 ^ s.val := by decide +kernel
  exact key ⟨s, h⟩
theorem two_pos (s : Nat) : (0 : Int) < 2 ^ s := Int.pow_pos (by decide)
theorem two_top {s : Nat} (h : s < 32) : (4294967296 : Int) = 2 ^ s * (2 * 2 ^ (31 - s)) := by
  rw [← Int.mul_assoc, Int.mul_comm (2 ^ s) 2, Int.mul_assoc, ← Int.pow_add, show s + (31 - s) = 31 by omega]
  decide
theorem vl_shift {l : List Int} (hl : Lb l) {d : Nat} (h : d ≤ l.length) : vl l / Bp d = vl (l.drop d) := by
  have h1 := vl_range (hl.take d)
  rw [List.length_take, Nat.min_eq_left h] at h1
  have hp := Bp_pos d
  rw [vl_split l d h, Int.add_mul_ediv_left _ _ (by omega), Int.ediv_eq_zero_of_lt h1.1 h1.2, Int.zero_add]
theorem two_at (i : Nat) : (2 : Int) ^ i = Bp (i / 32) * 2 ^ (i % 32) := by
  rw [Bp_two, ← Int.pow_add, Nat.div_add_mod]
theorem bit_alg {l : List Int} (hl : Lb l) {i : Nat} (h : i / 32 < l.length) : (co l (i / 32) / 2 ^ (i % 32)) % 4294967296 % 2 = vl l / 2 ^ i % 2 ∧ 0 ≤ co l (i / 32) / 2 ^ (i % 32) := by
  have hs : i % 32 < 32 := Nat.mod_lt _ (by decide)
  have hb := Int.le_of_lt (Bp_pos (i / 32))
  have hp := two_pos (i % 32)
  have h0 := hl (i / 32)
  rw [two_at i, ← Int.ediv_ediv_of_nonneg hb, vl_shift hl (by omega), drop_succ_co h, two_top hs]
  generalize vl (l.drop (i / 32 + 1)) = V
  refine ⟨?_, Int.ediv_nonneg h0.1 (by omega)⟩
  rw [Int.mul_assoc (2 ^ (i % 32)) _ V, Int.add_mul_ediv_left _ _ (by omega), Int.mul_assoc 2 _ V, ← two_top hs]
  generalize 2 ^ (31 - i % 32) * V = y
  generalize co l (i / 32) / 2 ^ (i % 32) = x
  omega
theorem tdiv32 (i : Nat) : Int.tdiv (i : Int) 32 = ((i / 32 : Nat) : Int) := by
  rw [Int.tdiv_eq_ediv_of_nonneg (by omega)]; omega
theorem tmod32 (i : Nat) : IntKind.u64.wrap (Int.tmod (i : Int) 32) = ((i % 32 : Nat) : Int) := by
  rw [Int.tmod_eq_emod_of_nonneg (by omega), wu64 (by omega) (by omega)]; omega
theorem r_bit {l : List Int} (hl : Lb l) {i : Nat} (h : i < 32 * l.length) (hn : l.length < 1000000) : r2xbit.f l (i : Int) = some (vl l / 2 ^ i % 2) := by
  have hs : i % 32 < 32 := Nat.mod_lt _ (by decide)
  obtain ⟨e1, e2⟩ := bit_alg hl (i := i) (by omega)
  have hp := two_pos (i % 32)
  have w := w64 (n := ((i / 32 : Nat) : Int)) (by omega) (by omega)
  rw [r2xbit.f, tdiv32, tmod32, w, if_pos (by omega), if_pos (by omega), if_pos (by omega), shl_one hs, if_neg (by omega), rd_nat, ← e1, Int.tdiv_eq_ediv_of_nonneg (hl _).1]
theorem quo_cell {q : List Int} (hq : Lb q) {i : Nat} {Q : Int} (h : i / 32 < q.length) (hv : vl q = Q * 2 ^ (i + 1)) : 0 ≤ co q (i / 32) + 2 ^ (i % 32) ∧ co q (i / 32) + 2 ^ (i % 32) < 4294967296 := by
  have hs : i % 32 < 32 := Nat.mod_lt _ (by decide)
  have hb := Bp_pos (i / 32)
  have hp := two_pos (i % 32)
  have h0 := hq (i / 32)
  have hv2 := vl_shift hq (d := i / 32) (by omega)
  rw [hv, Int.pow_succ, two_at i, drop_succ_co h, show Q * (Bp (i / 32) * 2 ^ (i % 32) * 2) = Bp (i / 32) * (2 ^ (i % 32) * (2 * Q)) by grind, Int.mul_ediv_cancel_left _ (by omega)] at hv2
  have tt := two_top hs
  rw [tt] at hv2 h0 ⊢
  generalize hP : (2 : Int) ^ (i % 32) = P at *
  generalize vl (q.drop (i / 32 + 1)) = V at *
  generalize (2 : Int) ^ (31 - i % 32) = T at *
  generalize co q (i / 32) = x at *
  have e : x = P * (2 * (Q - T * V)) := by grind
  rw [e] at h0 ⊢
  have hz : 2 * (Q - T * V) < 2 * T := by
    exact Int.lt_of_mul_lt_mul_left h0.2 (by omega)
  have hy : P * (2 * (Q - T * V) + 1) < P * (2 * T) := Int.mul_lt_mul_of_pos_left (by omega) hp
  rw [Int.mul_add, Int.mul_one] at hy
  omega
theorem quo_l {a : List Int} (ha : Lb a) {B : Int} {N : Nat} (hB : 0 < B ∧ B < Bp N) (hN : N + 1 < 1000000) (hl : a.length < 1000000) : ∀ (i : Nat) (q : List Int) (R Q : Int), i ≤ 32 * a.length → q.length = a.length → Lb q → Aside0 (vl q = Q * 2 ^ i) → 0 ≤ R ∧ R < B → Aside0 (vl a / 2 ^ i = Q * B + R) →
    Ev (fun k => r2xquotient.l0 k a (dg B) q (dg R) ((i : Int) - 1)) (dg (vl a / B), dg (vl a % B)) := by
  intro i
  induction i with
  | zero =>
    intro q R Q _ hql hq hv hR hA
    have h1 := hv.out
    have h2 := hA.out
    rw [Int.pow_zero, Int.mul_one] at h1
    rw [Int.pow_zero, Int.ediv_one] at h2
    have e1 : vl a / B = Q := by
      rw [h2, Int.add_comm, Int.add_mul_ediv_right _ _ (by omega), Int.ediv_eq_zero_of_lt hR.1 hR.2, Int.zero_add]
    have e2 : vl a % B = R := by
      rw [h2, Int.add_comm, Int.add_mul_emod_self_right, Int.emod_eq_of_lt hR.1 hR.2]
    have s := r_trim hq (by omega)
    rw [h1] at s
    rw [e1, e2]
    refine Ev.succ (fun k => ?_) (s.bind (G := fun _ t => some (t, dg R)) (Ev.all fun _ => rfl))
    rw [r2xquotient.l0, if_neg (by omega)]
  | succ i ih =>
    intro q R Q hi hql hq hv hR hA
    have e0 : (((i + 1 : Nat) : Int) - 1) = (i : Int) := by omega
    have e2 : wrap64 ((i : Int) - 1) = (i : Int) - 1 := w64 (by omega) (by omega)
    have bt := r_bit ha (i := i) (by omega) hl
    have b1 := Bp_pos N
    have b2 := Bp_succ N
    have hn : N + 1 < 1000000 := hN
    obtain ⟨b, hb⟩ : ∃ b, b = vl a / 2 ^ i % 2 := ⟨_, rfl⟩
    rw [← hb] at bt
    have hb2 : b = 0 ∨ b = 1 := by omega
    have hA2 : vl a / 2 ^ i = (2 * Q) * B + (R + R + b) := by
      have h := hA.out
      rw [Int.pow_succ, ← Int.ediv_ediv_of_nonneg (Int.le_of_lt (two_pos i))] at h
      have e : vl a / 2 ^ i = 2 * (vl a / 2 ^ i / 2) + b := by rw [hb]; omega
      rw [e, h]
      grind
    have hv2 : vl q = 2 * Q * 2 ^ i := by rw [hv.out, Int.pow_succ]; grind
    have hd : i / 32 < q.length := by omega
    have s1 := m_sum hn (x := R) (y := R) (by omega) (by omega)
    rw [e0]
    have J : Ev (fun k => r2xquotient.j1 k a (dg B) q (dg (R + R + b)) (i : Int)) (dg (vl a / B), dg (vl a % B)) := by
      refine Ev.succ (F := fun k => (r2xorder.f k (dg (R + R + b)) (dg B)).bind fun t1087 => (if t1087 ≥ 0 then ((r2xdiff.f k (dg (R + R + b)) (dg B)).bind fun t1088 => r2xquotient.l0 k a (dg B) (q.set (i / 32) (co q (i / 32) + 2 ^ (i % 32))) t1088 ((i : Int) - 1)) else (r2xquotient.l0 k a (dg B) q (dg (R + R + b)) ((i : Int) - 1)))) (fun k => ?_) ?_
      · have w := w64 (n := ((i / 32 : Nat) : Int)) (by omega) (by omega)
        have cl := quo_cell hq hd hv.out
        rw [r2xquotient.j1]
        simp only [tdiv32, tmod32, w, e2, if_pos (Int.natCast_nonneg _), if_pos (Int.ofNat_lt.2 hd), Int.toNat_natCast, rd_nat, shl_one (Nat.mod_lt i (show 32 > 0 by decide)), Int.emod_eq_of_lt cl.1 cl.2]
      · refine (m_order hn (x := R + R + b) (y := B) (by omega) (by omega)).bind ?_
        by_cases c : R + R + b < B
        · refine Ev.congr (fun k => if_neg (by rw [cmpZ_lt c]; decide)) ?_
          exact ih q (R + R + b) (2 * Q) (by omega) hql hq ⟨hv2⟩ (by omega) ⟨hA2⟩
        · refine Ev.congr (fun k => if_pos (by unfold cmpZ; rw [if_neg (by omega)]; split <;> omega)) ?_
          refine (m_diff hn (x := R + R + b) (y := B) (by omega) (by omega)).bind ?_
          refine ih _ (R + R + b - B) (2 * Q + 1) (by omega) (by rw [List.length_set]; exact hql) (hq.set (quo_cell hq hd hv.out) _) ⟨?_⟩ (by omega) ⟨?_⟩
          · rw [vl_set hd, hv2, two_at i]
            grind
          · rw [hA2]
            grind
    rcases hb2 with hb2 | hb2
    · rw [hb2, Int.add_zero] at J
      refine Ev.succ (F := fun k => (r2xsum.f k (dg R) (dg R)).bind fun t1077 => r2xquotient.j1 k a (dg B) q t1077 (i : Int)) (fun k => ?_) (s1.bind J)
      rw [r2xquotient.l0, if_pos (by omega), bt]
      simp [hb2]
    · have s2 := m_sum hn (x := R + R) (y := 1) (by omega) (by rw [b2]; omega)
      rw [hb2] at J
      refine Ev.succ (F := fun k => (r2xsum.f k (dg R) (dg R)).bind fun t1077 => (r2xsum.f k t1077 (dg 1)).bind fun t1084 => r2xquotient.j1 k a (dg B) q t1084 (i : Int)) (fun k => ?_) (s1.bind (s2.bind J))
      rw [r2xquotient.l0, if_pos (by omega), bt]
      simp only [hb2, Option.bind_some]
      rfl
theorem m_quotient {x y : Int} {n : Nat} (hx : 0 ≤ x ∧ x < Bp n) (hy : 0 < y ∧ y < Bp n) (hn : n + 1 < 1000000) : Ev (fun k => r2xquotient.f k (dg x) (dg y)) (dg (x / y), dg (x % y)) := by
  have lx : (dg x).length ≤ n := (dg_len hx.1).2 hx.2
  have hr := (vl_range (dg_lb x)).2
  rw [vl_dg hx.1, Bp_two] at hr
  have s := quo_l (dg_lb x) hy hn (by omega) (32 * (dg x).length) (List.replicate (dg x).length 0) 0 0 (Nat.le_refl _) (by simp) (Lb.replicate _) ⟨by rw [vl_replicate, Int.zero_mul]⟩ (by omega) ⟨by rw [vl_dg hx.1, Int.ediv_eq_zero_of_lt hx.1 hr]; simp⟩
  rw [vl_dg hx.1] at s
  refine Ev.congr (fun k => ?_) s
  rw [r2xquotient.f, if_pos (by omega), if_pos (by rw [Int.toNat_natCast]; omega), Int.toNat_natCast, w64 (n := 32 * ((dg x).length : Int)) (by omega) (by omega), w64 (by omega) (by omega), Int.natCast_mul]
  rfl
def lowF (x y : Int) : List Int × List Int × Int :=
  if 64 < (dg (x / ((Int.gcd x y : Nat) : Int))).length then ([], [], 3) else if 64 < (dg (y / ((Int.gcd x y : Nat) : Int))).length then ([], [], 3) else (dg (x / ((Int.gcd x y : Nat) : Int)), dg (y / ((Int.gcd x y : Nat) : Int)), 0)
theorem gcd_bd {x y : Int} {n : Nat} (hx : 0 ≤ x) (hy : 0 < y ∧ y < Bp n) : 0 < ((Int.gcd x y : Nat) : Int) ∧ ((Int.gcd x y : Nat) : Int) < Bp n := by
  obtain ⟨g, p, q, hg, g0, ex, ey, px, qy, F⟩ := gz_data hx hy.1
  have F2 := F.q0
  rw [hg]
  have := Int.mul_le_mul_of_nonneg_right (show 1 ≤ q by omega) (Int.le_of_lt g0)
  omega
theorem low_if (x y : Int) : (if ((dg (x / ((Int.gcd x y : Nat) : Int))).length : Int) > 64 then some (([] : List Int), ([] : List Int), (3 : Int)) else (if ((dg (y / ((Int.gcd x y : Nat) : Int))).length : Int) > 64 then some (([] : List Int), ([] : List Int), (3 : Int)) else some (dg (x / ((Int.gcd x y : Nat) : Int)), dg (y / ((Int.gcd x y : Nat) : Int)), (0 : Int)))) = some (lowF x y) := by
  unfold lowF
  by_cases c1 : 64 < (dg (x / ((Int.gcd x y : Nat) : Int))).length
  · rw [if_pos (by omega), if_pos c1]
  · rw [if_neg (by omega), if_neg c1]
    by_cases c2 : 64 < (dg (y / ((Int.gcd x y : Nat) : Int))).length
    · rw [if_pos (by omega), if_pos c2]
    · rw [if_neg (by omega), if_neg c2]
theorem g_lowest {x y : Int} {n : Nat} (hx : 0 ≤ x ∧ x < Bp n) (hy : 0 < y ∧ y < Bp n) (hn : n < 1000000) : Ev (fun k => ratio_lowest.f k (dg x) (dg y)) (lowF x y) := by
  have g := gcd_bd hx.1 hy
  refine (n_gcd hx (show 0 ≤ y ∧ y < Bp n by omega) hn).bind ?_
  refine (n_div hx g hn).bind ?_
  refine (n_div (x := y) (by omega) g hn).bind ?_
  exact Ev.all fun _ => low_if x y
theorem m_lowest {x y : Int} {n : Nat} (hx : 0 ≤ x ∧ x < Bp n) (hy : 0 < y ∧ y < Bp n) (hn : n + 1 < 1000000) : Ev (fun k => r2xlowest.f k (dg x) (dg y)) (lowF x y) := by
  have g := gcd_bd hx.1 hy
  refine (m_gcd (by omega) hx (show 0 ≤ y ∧ y < Bp n by omega)).bind ?_
  refine (m_quotient hx g hn).bind ?_
  refine (m_quotient (x := y) (by omega) g hn).bind ?_
  exact Ev.all fun _ => low_if x y
theorem Vn.dgv {l : List Int} (h : Vn l) : ∃ x : Int, l = Pure.dg x ∧ 0 ≤ x ∧ x < Bp 64 :=
  ⟨vl l, h.2.eq_dg, (vl_range h.2.1).1, h.2.len_le.1 h.1⟩
open Classical in
noncomputable def newF (a b : List Int) : List Int × List Int × Int :=
  if ¬ Vn a ∨ ¬ Vn b then ([], [], 1) else if b = [] then ([], [], 2) else lowF (vl a) (vl b)
theorem g_New {a b : List Int} (ha : Lb a) (hb : Lb b) (la : a.length < 1000000) (lb : b.length < 1000000) : Ev (fun k => ratio_New.f k a b) (newF a b) ∧ Ev (fun k => r2xNew.f k a b) (newF a b) := by
  classical
  unfold newF
  have sa := sr_Valid ha (by omega) (decide (Vn a)) (by simp)
  have sb := sr_Valid hb (by omega) (decide (Vn b)) (by simp)
  have ra := r_ValidNat ha (decide (Vn a)) (by simp)
  have rb := r_ValidNat hb (decide (Vn b)) (by simp)
  have bad : ∀ k : Nat, ratio_New.j0 (k + 1) a b true = some ([], [], 1) := fun k => by rw [ratio_New.j0, if_pos rfl]
  have bad2 : ∀ k : Nat, r2xNew.j0 (k + 1) a b true = some ([], [], 1) := fun k => by rw [r2xNew.j0, if_pos rfl]
  by_cases ca : Vn a
  · rw [decide_eq_true ca] at sa ra
    by_cases cb : Vn b
    · rw [decide_eq_true cb] at sb rb
      rw [if_neg (by simp [ca, cb])]
      by_cases cc : b = []
      · rw [if_pos cc]
        constructor
        · refine sa.bind (Ev.congr (fun k => if_pos rfl) (sb.bind (Ev.succ (F := fun _ => some ([], [], 2)) (fun k => ?_) (Ev.all fun _ => rfl))))
          rw [ratio_New.j0, if_neg (by decide), if_pos (by rw [cc]; rfl)]
        · refine Ev.succ (F := fun _ => some ([], [], 2)) (fun k => ?_) (Ev.all fun _ => rfl)
          rw [r2xNew.f, ra, Option.bind_some, if_pos rfl, rb, Option.bind_some, r2xNew.j0, if_neg (by decide), if_pos (by rw [cc]; rfl)]
      · rw [if_neg cc]
        obtain ⟨x, rfl, hx⟩ := ca.dgv
        obtain ⟨y, rfl, hy⟩ := cb.dgv
        have hy0 : 0 < y := by
          by_cases q : y = 0
          · exact absurd (by rw [q]; rfl) cc
          · omega
        have l2 := dg_pos hy0
        rw [vl_dg hx.1, vl_dg hy.1]
        constructor
        · refine sa.bind (Ev.congr (fun k => if_pos rfl) (sb.bind (Ev.succ (fun k => ?_) ((g_lowest (n := 64) hx ⟨hy0, hy.2⟩ (by omega)).bind (G := fun _ bt => some (bt.1, bt.2.1, bt.2.2)) (Ev.all fun _ => rfl)))))
          rw [ratio_New.j0, if_neg (by decide), if_neg (by omega)]
        · refine Ev.succ (fun k => ?_) ((m_lowest (n := 64) hx ⟨hy0, hy.2⟩ (by omega)).bind (G := fun _ bt => some (bt.1, bt.2.1, bt.2.2)) (Ev.all fun _ => rfl))
          rw [r2xNew.f, ra, Option.bind_some, if_pos rfl, rb, Option.bind_some, r2xNew.j0, if_neg (by decide), if_neg (by omega)]
    · rw [decide_eq_false cb] at sb rb
      rw [if_pos (Or.inr cb)]
      constructor
      · exact sa.bind (Ev.congr (fun k => if_pos rfl) (sb.bind (Ev.succ (F := fun _ => some ([], [], 1)) bad (Ev.all fun _ => rfl))))
      · refine Ev.succ (F := fun _ => some ([], [], 1)) (fun k => ?_) (Ev.all fun _ => rfl)
        rw [r2xNew.f, ra, Option.bind_some, if_pos rfl, rb, Option.bind_some]
        exact bad2 k
  · rw [decide_eq_false ca] at sa ra
    rw [if_pos (Or.inl ca)]
    constructor
    · exact sa.bind (Ev.congr (fun k => if_neg (by decide)) (Ev.succ (F := fun _ => some ([], [], 1)) bad (Ev.all fun _ => rfl)))
    · refine Ev.succ (F := fun _ => some ([], [], 1)) (fun k => ?_) (Ev.all fun _ => rfl)
      rw [r2xNew.f, ra, Option.bind_some, if_neg (by decide)]
      exact bad2 k
end Go.Proofs.YtbjeemlbjkmhiaaDoor.Pure
namespace Go.Proofs.YtbjeemlbjkmhiaaDoor.Pure
open Go.RowKit Go.Proofs.YtbjeemlbjkmhiaaDoor.Q Go.Proofs.YtbjeemlbjkmhiaaDoor.Num Go.Proofs.YtbjeemlbjkmhiaaDoor.Pol Go.Proofs.YtbjeemlbjkmhiaaDoorW.PrintWords Go.Proofs.YtbjeemlbjkmhiaaDoorW.PrintLast Go.Proofs.YtbjeemlbjkmhiaaDoorW.PrintMore

def By (l : List Int) : Prop := ∀ x ∈ l, 0 ≤ x ∧ x < 256
theorem Dt.by {l : List Int} (h : Dt l) : By l := fun x hx => by have := h x hx; omega
theorem By.take {l : List Int} (h : By l) (n : Nat) : By (l.take n) := fun _ hx => h _ (List.mem_of_mem_take hx)
theorem By.drop {l : List Int} (h : By l) (n : Nat) : By (l.drop n) := fun _ hx => h _ (List.mem_of_mem_drop hx)
section
variable {l : List Int} (hb : By l) (hn : l.length < 4611686018427387904)
include hb hn
end
section
variable {l : List Int} (hd : Dt l)
include hd
end
section
variable {l : List Int} (hb : By l) (hn : l.length ≤ 800)
include hb hn
end
end Go.Proofs.YtbjeemlbjkmhiaaDoor.Pure
namespace Go.Proofs.YtbjeemlbjkmhiaaDoor.Pure
open Go.RowKit Go.Proofs.YtbjeemlbjkmhiaaDoor.Q Go.Proofs.YtbjeemlbjkmhiaaDoor.Num Go.Proofs.YtbjeemlbjkmhiaaDoor.Pol Go.Proofs.YtbjeemlbjkmhiaaDoorW.PrintWords Go.Proofs.YtbjeemlbjkmhiaaDoorW.PrintLast Go.Proofs.YtbjeemlbjkmhiaaDoorW.PrintMore

theorem rsame_l {a : List Int} (hn : a.length < 4611686018427387904) : ∀ (d i : Nat), i + d = a.length → Ev (fun k => r2xSameNat.l0 k a a (i : Int)) true := by
  intro d
  induction d with
  | zero =>
    intro i hi
    refine Ev.succ (F := fun _ => some true) (fun k => ?_) (Ev.all fun _ => rfl)
    rw [r2xSameNat.l0, if_neg (by omega)]
  | succ d ih =>
    intro i hi
    refine Ev.succ (fun k => ?_) (ih (i + 1) (by omega))
    rw [r2xSameNat.l0, if_pos (by omega), if_pos (by omega), if_pos (by omega), if_pos rfl, w64_succ (by omega)]
theorem r_SameNat {a : List Int} (hn : a.length < 4611686018427387904) : Ev (fun k => r2xSameNat.f k a a) true := by
  refine Ev.congr (fun k => ?_) (rsame_l hn a.length 0 (Nat.zero_add _))
  rw [r2xSameNat.f, if_pos rfl]
  rfl
end Go.Proofs.YtbjeemlbjkmhiaaDoor.Pure
namespace Go.Proofs.YtbjeemlbjkmhiaaDoor.Pure
open Go.RowKit Go.Proofs.YtbjeemlbjkmhiaaDoor.Q Go.Proofs.YtbjeemlbjkmhiaaDoor.Num Go.Proofs.YtbjeemlbjkmhiaaDoor.Pol Go.Proofs.YtbjeemlbjkmhiaaDoorW.PrintWords Go.Proofs.YtbjeemlbjkmhiaaDoorW.PrintLast Go.Proofs.YtbjeemlbjkmhiaaDoorW.PrintMore

section
variable {α : Type} {J : Nat → Bool → Option α} {G : Nat → Option α} {d v : α} {a b : List Int} (ha : Lb a) (hb : Lb b) (la : a.length < 1000000) (lb : b.length < 1000000)
include ha hb la lb
theorem pv_front2 (H1 : Vn a ∧ Vn b → Ev G v) (H2 : ¬ (Vn a ∧ Vn b) → d = v) : Ev (fun k => (ratio_ValidNat.f k a).bind fun t => if t = true then (ratio_ValidNat.f k b).bind fun t' => (if t' = true then G k else some d) else some d) v := by
  classical
  have sa := sr_Valid ha (by omega) (decide (Vn a)) (by simp)
  have sb := sr_Valid hb (by omega) (decide (Vn b)) (by simp)
  refine sa.bind ?_
  by_cases ca : Vn a
  · refine Ev.congr (fun k => if_pos (decide_eq_true ca)) ?_
    refine sb.bind ?_
    by_cases cb : Vn b
    · refine Ev.congr (fun k => if_pos (decide_eq_true cb)) ?_
      exact H1 ⟨ca, cb⟩
    · refine Ev.congr (fun k => if_neg (by rw [decide_eq_false cb]; decide)) ?_
      exact Ev.all fun _ => congrArg some (H2 fun h => cb h.2)
  · refine Ev.congr (fun k => if_neg (by rw [decide_eq_false ca]; decide)) ?_
    exact Ev.all fun _ => congrArg some (H2 fun h => ca h.1)
theorem rv_front2 (H1 : Vn a ∧ Vn b → Ev G v) (H2 : ¬ (Vn a ∧ Vn b) → d = v) : Ev (fun k => (r2xValidNat.f a).bind fun t => if t = true then (r2xValidNat.f b).bind fun t' => (if t' = true then G k else some d) else some d) v := by
  have _ := la
  have _ := lb
  classical
  have sa := r_ValidNat ha (decide (Vn a)) (by simp)
  have sb := r_ValidNat hb (decide (Vn b)) (by simp)
  rw [sa, sb]
  by_cases ca : Vn a
  · refine Ev.congr (fun k => if_pos (decide_eq_true ca)) ?_
    by_cases cb : Vn b
    · refine Ev.congr (fun k => if_pos (decide_eq_true cb)) ?_
      exact H1 ⟨ca, cb⟩
    · refine Ev.congr (fun k => if_neg (by rw [decide_eq_false cb]; decide)) ?_
      exact Ev.all fun _ => congrArg some (H2 fun h => cb h.2)
  · refine Ev.congr (fun k => if_neg (by rw [decide_eq_false ca]; decide)) ?_
    exact Ev.all fun _ => congrArg some (H2 fun h => ca h.1)
end
section
variable {a b : List Int} (ha : Lb a) (hb : Lb b) (la : a.length < 1000000) (lb : b.length < 1000000)
include ha hb la lb
end
section
variable {a : List Int} (ha : Lb a) (la : a.length < 1000000)
include ha la
end
end Go.Proofs.YtbjeemlbjkmhiaaDoor.Pure
namespace Go.Proofs.YtbjeemlbjkmhiaaDoor.Pure
open Go.RowKit Go.Proofs.YtbjeemlbjkmhiaaDoor.Q Go.Proofs.YtbjeemlbjkmhiaaDoor.Num Go.Proofs.YtbjeemlbjkmhiaaDoor.Pol Go.Proofs.YtbjeemlbjkmhiaaDoorW.PrintWords Go.Proofs.YtbjeemlbjkmhiaaDoorW.PrintLast Go.Proofs.YtbjeemlbjkmhiaaDoorW.PrintMore

theorem one_dg {g : Int} (h : 0 ≤ g) : (dg g = [1]) ↔ g = 1 := by
  constructor
  · intro e
    exact dg_inj h (show (0 : Int) ≤ 1 by decide) (by rw [e]; rfl)
  · rintro rfl
    rfl
theorem s_isOne {g : Int} (h : 0 ≤ g) : ratio_isOne.f (dg g) = some (decide (g = 1)) := by
  rw [ratio_isOne.f]
  by_cases c : g = 1
  · rw [c]; rfl
  · by_cases q : ((dg g).length : Int) = 1
    · rw [if_pos q, if_pos (by omega)]
      congr 1
      rw [decide_eq_false c, Bool.eq_false_iff]
      intro e
      rw [beq_iff_eq] at e
      refine c ((one_dg h).1 ?_)
      cases hd : dg g with
      | nil => rw [hd] at q; simp at q
      | cons x t =>
        rw [hd] at q e
        have hz : t.length = 0 := by rw [List.length_cons] at q; omega
        rw [List.eq_nil_of_length_eq_zero hz, show x = 1 from e]
    · rw [if_neg q, decide_eq_false c]
theorem r_SameOne {g : Int} (h : 0 ≤ g) (hl : (dg g).length < 1000000) : Ev (fun k => r2xSameNat.f k (dg g) [1]) (decide (g = 1)) := by
  by_cases c : g = 1
  · rw [c]
    exact r_SameNat (a := [1]) (by decide)
  · rw [decide_eq_false c]
    by_cases q : ((dg g).length : Int) = 1
    · cases hd : dg g with
      | nil => rw [hd] at q; simp at q
      | cons x t =>
        rw [hd] at q
        have hz : t = [] := List.eq_nil_of_length_eq_zero (by rw [List.length_cons] at q; omega)
        subst hz
        have hx : x ≠ 1 := fun e => c ((one_dg h).1 (by rw [hd, e]))
        refine Ev.succ (F := fun _ => some false) (fun k => ?_) (Ev.all fun _ => rfl)
        rw [r2xSameNat.f, if_pos (show (([x] : List Int).length : Int) = (([1] : List Int).length : Int) from rfl), r2xSameNat.l0, if_pos (show (0 : Int) < (([x] : List Int).length : Int) from Int.one_pos), if_pos (by decide), if_pos (by decide), show rd [x] 0 = x from rfl, show rd [1] 0 = 1 from rfl, if_neg hx]
    · refine Ev.all fun k => ?_
      rw [r2xSameNat.f]
      exact if_neg q
def Vf (a b : List Int) : Prop := ∃ p q : Int, a = dg p ∧ b = dg q ∧ Fr p q ∧ p < Bp 64 ∧ q < Bp 64
section
variable {a b : List Int} (ha : Lb a) (hb : Lb b) (la : a.length < 1000000) (lb : b.length < 1000000)
include ha hb la lb
open Classical in
theorem both_Valid : Ev (fun k => ratio_Valid.f k a b) (decide (Vf a b)) ∧ Ev (fun k => r2xValid.f k a b) (decide (Vf a b)) := by
  have no : ¬ (Vn a ∧ Vn b) → decide (Vf a b) = false := fun h => decide_eq_false (by
    rintro ⟨p, q, rfl, rfl, F, hp, hq⟩
    exact h ⟨Vn.dg F.p0 hp, Vn.dg (Int.le_of_lt F.q0) hq⟩)
  have key : ∀ {x y : Int}, a = dg x → b = dg y → 0 ≤ x → 0 ≤ y → x < Bp 64 → y < Bp 64 → (Vf a b ↔ 0 < y ∧ ((Int.gcd x y : Nat) : Int) = 1) := by
    intro x y ea eb hx hy lx ly
    constructor
    · rintro ⟨p, q, e1, e2, F, _, _⟩
      have f1 := F.p0
      have f2 := F.q0
      obtain rfl := dg_inj hx f1 (ea.symm.trans e1)
      obtain rfl := dg_inj hy (Int.le_of_lt f2) (eb.symm.trans e2)
      have := F.co
      omega
    · rintro ⟨h1, h2⟩
      exact ⟨x, y, ea, eb, ⟨hx, h1, by omega⟩, lx, ly⟩
  by_cases c : Vn a ∧ Vn b
  · obtain ⟨x, ea, hx⟩ := c.1.dgv
    obtain ⟨y, eb, hy⟩ := c.2.dgv
    have K := key ea eb hx.1 hy.1 hx.2 hy.2
    by_cases q : 0 < y
    · have hl := dg_pos q
      have g := gcd_bd hx.1 (y := y) (n := 64) ⟨q, hy.2⟩
      have ge : decide (Vf a b) = decide (((Int.gcd x y : Nat) : Int) = 1) := by
        rw [decide_eq_decide, K]
        exact and_iff_right q
      rw [ge]
      constructor
      · refine pv_front2 (G := fun k => if (b.length : Int) > 0 then ((ratio_gcd.f k a b).bind fun t253 => ((ratio_isOne.f t253).bind fun t256 => (some t256))) else some false) ha hb la lb (fun _ => ?_) (fun h => absurd c h)
        refine Ev.congr (fun k => if_pos (by rw [eb]; omega)) ?_
        rw [ea, eb]
        exact (n_gcd (n := 64) hx hy (by omega)).bind (Ev.all fun _ => by rw [s_isOne (by omega)]; rfl)
      · refine rv_front2 (G := fun k => if (b.length : Int) > 0 then ((r2xgcd.f k a b).bind fun t1310 => ((r2xSameNat.f k t1310 (([1] : List Int))).bind fun t1316 => (some t1316))) else some false) ha hb la lb (fun _ => ?_) (fun h => absurd c h)
        refine Ev.congr (fun k => if_pos (by rw [eb]; omega)) ?_
        rw [ea, eb]
        exact (m_gcd (n := 64) (by omega) hx hy).bind ((r_SameOne (by omega) (by have := dl (show 0 ≤ ((Int.gcd x y : Nat) : Int) ∧ ((Int.gcd x y : Nat) : Int) < Bp 64 by omega); omega)).bind (Ev.all fun _ => rfl))
    · have e0 : decide (Vf a b) = false := decide_eq_false fun h => q (K.1 h).1
      have ey : y = 0 := by omega
      have el : ¬ (b.length : Int) > 0 := by rw [eb, ey]; decide
      rw [e0]
      constructor
      · exact pv_front2 (G := fun k => if (b.length : Int) > 0 then ((ratio_gcd.f k a b).bind fun t253 => ((ratio_isOne.f t253).bind fun t256 => (some t256))) else some false) ha hb la lb (fun _ => Ev.all fun _ => if_neg el) (fun h => absurd c h)
      · exact rv_front2 (G := fun k => if (b.length : Int) > 0 then ((r2xgcd.f k a b).bind fun t1310 => ((r2xSameNat.f k t1310 (([1] : List Int))).bind fun t1316 => (some t1316))) else some false) ha hb la lb (fun _ => Ev.all fun _ => if_neg el) (fun h => absurd c h)
  · rw [no c]
    constructor
    · exact pv_front2 (G := fun k => if (b.length : Int) > 0 then ((ratio_gcd.f k a b).bind fun t253 => ((ratio_isOne.f t253).bind fun t256 => (some t256))) else some false) ha hb la lb (fun h => absurd h c) (fun _ => rfl)
    · exact rv_front2 (G := fun k => if (b.length : Int) > 0 then ((r2xgcd.f k a b).bind fun t1310 => ((r2xSameNat.f k t1310 (([1] : List Int))).bind fun t1316 => (some t1316))) else some false) ha hb la lb (fun h => absurd h c) (fun _ => rfl)
end
section
variable {a b c d : List Int} (ha : Lb a) (hb : Lb b) (la : a.length < 1000000) (lb : b.length < 1000000) (hc : Lb c) (hd : Lb d) (lc : c.length < 1000000) (ld : d.length < 1000000)
include ha hb la lb hc hd lc ld
theorem fr_front {α : Type} {J R : Nat → Bool → Option α} {v : α} (H1 : Vf a b ∧ Vf c d → Ev (fun k => J k false) v ∧ Ev (fun k => R k false) v) (H2 : ¬ (Vf a b ∧ Vf c d) → Ev (fun k => J k true) v ∧ Ev (fun k => R k true) v) :
    Ev (fun k => (ratio_Valid.f k a b).bind fun t => if t = true then (ratio_Valid.f k c d).bind fun t' => J k (!t') else J k true) v ∧ Ev (fun k => (r2xValid.f k a b).bind fun t => if t = true then (r2xValid.f k c d).bind fun t' => R k (!t') else R k true) v := by
  classical
  obtain ⟨e1, e2⟩ := both_Valid ha hb la lb
  obtain ⟨f1, f2⟩ := both_Valid hc hd lc ld
  by_cases q1 : Vf a b
  · by_cases q2 : Vf c d
    · rw [decide_eq_true q2] at f1 f2
      exact ⟨e1.bind (Ev.congr (fun k => if_pos (decide_eq_true q1)) (f1.bind (H1 ⟨q1, q2⟩).1)), e2.bind (Ev.congr (fun k => if_pos (decide_eq_true q1)) (f2.bind (H1 ⟨q1, q2⟩).2))⟩
    · rw [decide_eq_false q2] at f1 f2
      exact ⟨e1.bind (Ev.congr (fun k => if_pos (decide_eq_true q1)) (f1.bind (H2 fun h => q2 h.2).1)), e2.bind (Ev.congr (fun k => if_pos (decide_eq_true q1)) (f2.bind (H2 fun h => q2 h.2).2))⟩
  · exact ⟨e1.bind (Ev.congr (fun k => if_neg (by rw [decide_eq_false q1]; decide)) (H2 fun h => q1 h.1).1), e2.bind (Ev.congr (fun k => if_neg (by rw [decide_eq_false q1]; decide)) (H2 fun h => q1 h.1).2)⟩
theorem both_Order : ∃ v : Int, Ev (fun k => ratio_Order.f k a b c d) v ∧ Ev (fun k => r2xOrder.f k a b c d) v := by
  by_cases q : Vf a b ∧ Vf c d
  · obtain ⟨⟨x, y, rfl, rfl, F, hx, hy⟩, z, w, rfl, rfl, G, hz, hw⟩ := q
    have x0 := F.p0
    have y0 := F.q0
    have z0 := G.p0
    have w0 := G.q0
    have m1 := mul_Bp ⟨x0, hx⟩ ⟨Int.le_of_lt w0, hw⟩ (Nat.le_refl (64 + 64))
    have m2 := mul_Bp ⟨z0, hz⟩ ⟨Int.le_of_lt y0, hy⟩ (Nat.le_refl (64 + 64))
    refine ⟨cmpZ (x * w) (z * y), fr_front (J := fun k t => ratio_Order.j0 k t (dg x) (dg y) (dg z) (dg w)) (R := fun k t => r2xOrder.j0 k t (dg x) (dg y) (dg z) (dg w)) ha hb la lb hc hd lc ld (fun _ => ⟨?_, ?_⟩) (fun h => absurd ⟨⟨x, y, rfl, rfl, F, hx, hy⟩, z, w, rfl, rfl, G, hz, hw⟩ h)⟩
    · refine Ev.succ (fun k => by show ratio_Order.j0 (k + 1) false _ _ _ _ = _; rw [ratio_Order.j0, if_neg (by decide)]) ?_
      refine (n_mul (n := 64) ⟨x0, hx⟩ ⟨Int.le_of_lt w0, hw⟩ (by omega)).bind ?_
      refine (n_mul (n := 64) ⟨z0, hz⟩ ⟨Int.le_of_lt y0, hy⟩ (by omega)).bind ?_
      exact (n_compare (n := 64 + 64) m1 m2 (by omega)).bind (Ev.all fun _ => rfl)
    · refine Ev.succ (fun k => by show r2xOrder.j0 (k + 1) false _ _ _ _ = _; rw [r2xOrder.j0, if_neg (by decide)]) ?_
      refine (m_product (n := 64) (by omega) ⟨x0, hx⟩ ⟨Int.le_of_lt w0, hw⟩).bind ?_
      refine (m_product (n := 64) (by omega) ⟨z0, hz⟩ ⟨Int.le_of_lt y0, hy⟩).bind ?_
      exact (m_order (n := 64 + 64) (by omega) m1 m2).bind (Ev.all fun _ => rfl)
  · refine ⟨0, fr_front (J := fun k t => ratio_Order.j0 k t a b c d) (R := fun k t => r2xOrder.j0 k t a b c d) ha hb la lb hc hd lc ld (fun h => absurd h q) (fun _ => ⟨Ev.succ (F := fun _ => some 0) (fun k => ?_) (Ev.all fun _ => rfl), Ev.succ (F := fun _ => some 0) (fun k => ?_) (Ev.all fun _ => rfl)⟩)⟩
    · show ratio_Order.j0 (k + 1) true _ _ _ _ = _
      rw [ratio_Order.j0, if_pos rfl]
    · show r2xOrder.j0 (k + 1) true _ _ _ _ = _
      rw [r2xOrder.j0, if_pos rfl]
end
section
variable {a b : List Int} (ha : Lb a) (hb : Lb b) (la : a.length < 1000000) (lb : b.length < 1000000)
include ha hb la lb
end
end Go.Proofs.YtbjeemlbjkmhiaaDoor.Pure
namespace Go.Proofs.YtbjeemlbjkmhiaaDoor.Pure
open Go.RowKit Go.Proofs.YtbjeemlbjkmhiaaDoor.Q Go.Proofs.YtbjeemlbjkmhiaaDoor.Num Go.Proofs.YtbjeemlbjkmhiaaDoor.Pol Go.Proofs.YtbjeemlbjkmhiaaDoorW.PrintWords Go.Proofs.YtbjeemlbjkmhiaaDoorW.PrintLast Go.Proofs.YtbjeemlbjkmhiaaDoorW.PrintMore

theorem Bp2 : Bp 2 = 18446744073709551616 := by decide +kernel
theorem dg_lt {x : Int} {n : Nat} (h0 : 0 ≤ x) (h : x < Bp n) (hn : n ≤ 64) : Lb (dg x) ∧ (dg x).length < 1000000 := ⟨dg_lb x, by have := (dg_len h0).2 h; omega⟩
theorem f_Of {x y : Int} (hx : U x) (hy : U y) (h0 : 0 < y) : ∃ p q g : Int, Fr p q ∧ 0 < g ∧ x = p * g ∧ y = q * g ∧ p < Bp 2 ∧ q < Bp 2 ∧ Ev (fun k => ratio_Of.f k x y) (dg p, dg q, 0) ∧ Ev (fun k => r2xOf.f k x y) (dg p, dg q, 0) := by
  obtain ⟨p, q, g, F, hg, e1, e2, bp, bq, hN⟩ := n_New (n := 2) ⟨hx.1, by rw [Bp2]; exact hx.2⟩ ⟨h0, by rw [Bp2]; exact hy.2⟩ (by decide)
  have lx := dg_lt (n := 2) hx.1 (by rw [Bp2]; exact hx.2) (by decide)
  have ly := dg_lt (n := 2) hy.1 (by rw [Bp2]; exact hy.2) (by decide)
  obtain ⟨g1, g2⟩ := g_New lx.1 ly.1 lx.2 ly.2
  rw [g1.uniq hN] at g2
  refine ⟨p, q, g, F, hg, e1, e2, bp.2, bq.2, ?_, ?_⟩
  · exact (s_Nat hx).bind ((s_Nat hy).bind (hN.bind (Ev.all fun _ => rfl)))
  · exact (r_Nat hx).bind ((r_Nat hy).bind (g2.bind (Ev.all fun _ => rfl)))
section
variable {a b c d : Int} {n m : Nat} (F : Fr a b) (G : Fr c d) (ha : a < Bp n) (hb : b < Bp n) (hc : c < Bp m) (hd : d < Bp m)
include F G ha hb hc hd
theorem f_Order (hn : n ≤ 64) (hm : m ≤ 64) : Ev (fun k => ratio_Order.f k (dg a) (dg b) (dg c) (dg d)) (cmpZ (a * d) (c * b)) ∧ Ev (fun k => r2xOrder.f k (dg a) (dg b) (dg c) (dg d)) (cmpZ (a * d) (c * b)) := by
  have la := dg_lt F.p0 ha hn
  have lb := dg_lt (Int.le_of_lt F.q0) hb hn
  have lc := dg_lt G.p0 hc hm
  have ld := dg_lt (Int.le_of_lt G.q0) hd hm
  have h1 := n_Order F G ha hb hc hd hn hm
  obtain ⟨v, v1, v2⟩ := both_Order la.1 lb.1 la.2 lb.2 lc.1 ld.1 lc.2 ld.2
  rw [v1.uniq h1] at v2
  exact ⟨h1, v2⟩
end
theorem Fr.pow {a b : Int} (F : Fr a b) (n : Nat) : Fr (a ^ n) (b ^ n) := by
  obtain ⟨x, rfl⟩ := Int.eq_ofNat_of_zero_le F.p0
  obtain ⟨y, rfl⟩ := Int.eq_ofNat_of_zero_le (Int.le_of_lt F.q0)
  refine ⟨Int.pow_nonneg F.p0, Int.pow_pos F.q0, ?_⟩
  have h := F.co
  rw [Int.gcd_natCast_natCast] at h
  rw [← Int.natCast_pow, ← Int.natCast_pow, Int.gcd_natCast_natCast]
  exact Nat.Coprime.pow n n h
theorem gworks60 : a11works.f 200 = some true := by kernel_rfl
theorem g_works : Ev (fun k => a11works.f k) true := Ev.of_mono a11works.mono gworks60
end Go.Proofs.YtbjeemlbjkmhiaaDoor.Pure
namespace Go.Proofs.YtbjeemlbjkmhiaaDoor.Pol
open Num

def cnt : Nat → (Nat → Bool) → Nat
  | 0, _ => 0
  | n + 1, P => cnt n P + if P n = true then 1 else 0
def lst : Nat → (Nat → Bool) → List Nat
  | 0, _ => []
  | n + 1, P => if P n = true then n :: lst n P else lst n P
theorem lst_length : ∀ (n : Nat) (P : Nat → Bool), (lst n P).length = cnt n P
  | 0, _ => rfl
  | n + 1, P => by
    have := lst_length n P
    simp only [lst, cnt]
    split <;> simp [this]
theorem lst_mem {x : Nat} : ∀ {n : Nat} {P : Nat → Bool}, x ∈ lst n P ↔ x < n ∧ P x = true
  | 0, _ => by simp [lst]
  | n + 1, P => by
    have ih := lst_mem (x := x) (n := n) (P := P)
    simp only [lst]
    split
    · rename_i h
      rw [List.mem_cons, ih]
      constructor
      · rintro (rfl | ⟨h1, h2⟩)
        · exact ⟨by omega, h⟩
        · exact ⟨by omega, h2⟩
      · rintro ⟨h1, h2⟩
        by_cases e : x = n
        · exact Or.inl e
        · exact Or.inr ⟨by omega, h2⟩
    · rename_i h
      rw [ih]
      constructor
      · rintro ⟨h1, h2⟩; exact ⟨by omega, h2⟩
      · rintro ⟨h1, h2⟩
        refine ⟨?_, h2⟩
        by_cases e : x = n
        · subst e; exact absurd h2 h
        · omega
theorem cnt_le (P : Nat → Bool) : ∀ n, cnt n P ≤ n
  | 0 => Nat.le_refl _
  | n + 1 => by have := cnt_le P n; simp only [cnt]; split <;> omega
theorem cnt_mono {P Q : Nat → Bool} : ∀ {n : Nat}, (∀ x, x < n → P x = true → Q x = true) → cnt n P ≤ cnt n Q
  | 0, _ => Nat.le_refl _
  | n + 1, h => by
    have ih := cnt_mono (P := P) (Q := Q) (n := n) fun x hx => h x (by omega)
    have hn := h n (by omega)
    simp only [cnt]
    split
    · rename_i hp; rw [if_pos (hn hp)]; omega
    · omega
theorem cnt_congr {P Q : Nat → Bool} {n : Nat} (h : ∀ x, x < n → P x = Q x) : cnt n P = cnt n Q :=
  Nat.le_antisymm (cnt_mono fun x hx hp => by rw [← h x hx]; exact hp) (cnt_mono fun x hx hp => by rw [h x hx]; exact hp)
theorem cnt_all {P : Nat → Bool} : ∀ {n : Nat}, (∀ x, x < n → P x = true) → cnt n P = n
  | 0, _ => rfl
  | n + 1, h => by simp only [cnt]; rw [cnt_all fun x hx => h x (by omega), if_pos (h n (by omega))]
theorem cnt_or (P Q : Nat → Bool) : ∀ n, cnt n (fun x => P x || Q x) ≤ cnt n P + cnt n Q
  | 0 => Nat.le_refl _
  | n + 1 => by
    have := cnt_or P Q n
    simp only [cnt]
    rcases Bool.eq_false_or_eq_true (P n) with e | e <;> rcases Bool.eq_false_or_eq_true (Q n) with g | g <;> simp only [e, g] <;> simp <;> omega
theorem cnt_hit {P : Nat → Bool} : ∀ {n : Nat}, cnt n P < n → ∃ x, x < n ∧ P x = false
  | 0, h => by simp [cnt] at h
  | n + 1, h => by
    simp only [cnt] at h
    cases e : P n with
    | false => exact ⟨n, by omega, e⟩
    | true =>
      rw [e, if_pos rfl] at h
      obtain ⟨x, hx, hp⟩ := cnt_hit (P := P) (n := n) (by omega)
      exact ⟨x, by omega, hp⟩
def cnt2 : Nat → Nat → (Nat → Nat → Bool) → Nat
  | 0, _, _ => 0
  | n + 1, m, P => cnt2 n m P + cnt m (P n)
theorem cnt2_congr {P Q : Nat → Nat → Bool} {m : Nat} : ∀ {n : Nat}, (∀ x y, x < n → y < m → P x y = Q x y) → cnt2 n m P = cnt2 n m Q
  | 0, _ => rfl
  | n + 1, h => by
    simp only [cnt2]
    rw [cnt2_congr (n := n) fun x y hx hy => h x y (by omega) hy, cnt_congr fun y hy => h n y (by omega) hy]
theorem cnt2_mono {P Q : Nat → Nat → Bool} {m : Nat} : ∀ {n : Nat}, (∀ x y, x < n → y < m → P x y = true → Q x y = true) → cnt2 n m P ≤ cnt2 n m Q
  | 0, _ => Nat.le_refl _
  | n + 1, h => by
    have h1 := cnt2_mono (P := P) (Q := Q) (n := n) fun x y hx hy => h x y (by omega) hy
    have h2 := cnt_mono fun y hy => h n y (by omega) hy
    simp only [cnt2]; omega
theorem cnt2_zero (n : Nat) (P : Nat → Nat → Bool) : cnt2 n 0 P = 0 := by
  induction n with
  | zero => rfl
  | succ n ih => simp [cnt2, cnt, ih]
theorem cnt2_right (P : Nat → Nat → Bool) (m : Nat) : ∀ n, cnt2 n (m + 1) P = cnt2 n m P + cnt n (fun x => P x m)
  | 0 => rfl
  | n + 1 => by
    have := cnt2_right P m n
    simp only [cnt2, cnt] at this ⊢
    rw [this]
    split <;> omega
theorem cnt2_swap (P : Nat → Nat → Bool) (n : Nat) : ∀ m, cnt2 n m P = cnt2 m n (fun y x => P x y)
  | 0 => by rw [cnt2_zero]; rfl
  | m + 1 => by rw [cnt2_right, cnt2_swap P n m]; rfl
theorem cnt2_bound {P : Nat → Nat → Bool} {B : Nat → Bool} {m a : Nat} : ∀ {n : Nat}, (∀ x, x < n → B x = false → cnt m (P x) ≤ a) → cnt2 n m P ≤ cnt n B * m + n * a
  | 0, _ => by simp [cnt2]
  | n + 1, h => by
    have ih := cnt2_bound (P := P) (B := B) (m := m) (a := a) (n := n) fun x hx => h x (by omega)
    have hn := h n (by omega)
    have hm := cnt_le (P n) m
    simp only [cnt2, cnt]
    cases e : B n with
    | false => have := hn e; simp; grind
    | true => simp; grind

theorem apart_lst {p : Nat} (P : Nat → Bool) : ∀ n, n ≤ p → Apart p ((lst n P).map fun x : Nat => (x : Int))
  | 0, _ => trivial
  | n + 1, h => by
    have ih := apart_lst (p := p) P n (by omega)
    simp only [lst]
    split
    · refine ⟨fun y hy => ?_, ih⟩
      obtain ⟨x, hx, rfl⟩ := List.mem_map.1 hy
      replace hx := (lst_mem.1 hx).1
      intro hc
      replace hc : Cg p (n : Int) (x : Int) := hc
      have := hc.uniq (by omega) (by omega) (by omega) (by omega)
      omega
    · exact ih
def zro (p : Nat) (x : Int) : Bool := x % (p : Int) == 0
theorem zro_iff {p : Nat} {x : Int} : zro p x = true ↔ Cg p x 0 := by rw [zro, beq_iff_eq]; exact mod_eq_zero
theorem zro_not {p : Nat} {x : Int} : zro p x = false ↔ ¬ Cg p x 0 := by rw [← zro_iff]; simp
theorem cnt_roots {p : Nat} (hp : Pr p) {a : List Int} {n : Nat} (hd : Deg p a (n + 1)) (hne : ¬ EqP p a []) : cnt p (fun x => zro p (ev a x)) ≤ n := by
  rcases Nat.lt_or_ge n (cnt p (fun x => zro p (ev a x))) with hlt | hge
  · refine absurd (roots hp _ a (apart_lst (fun x => zro p (ev a x)) p (Nat.le_refl _)) ?_ ?_) hne
    · rw [List.length_map, lst_length]; exact hd.mono hlt
    · intro x hx
      obtain ⟨y, hy, rfl⟩ := List.mem_map.1 hx
      exact zro_iff.1 (lst_mem.1 hy).2
  · exact hge
theorem zero_of_cnt {p : Nat} (hp : Pr p) {a : List Int} {n : Nat} (hd : Deg p a (n + 1)) (h : n < cnt p (fun x => zro p (ev a x))) : EqP p a [] := Classical.byContradiction fun hne => by
  have := cnt_roots hp hd hne
  omega

def W (p s : Nat) : Nat → (Int → Int → Int) → Prop
  | 0, F => ∃ a, Deg p a 1 ∧ ∀ c d, Cg p (F c d) (ev a d)
  | n + 1, F => ∃ a G, Deg p a ((n + 1) * s + 1) ∧ W p s n G ∧ ∀ c d, Cg p (F c d) (ev a d + c * G c d)
theorem W.congr {p s : Nat} : ∀ {n : Nat} {F G : Int → Int → Int}, W p s n F → (∀ c d, Cg p (G c d) (F c d)) → W p s n G
  | 0, _, _, ⟨a, ha, h⟩, g => ⟨a, ha, fun c d => (g c d).trans (h c d)⟩
  | _ + 1, _, _, ⟨a, K, ha, hK, h⟩, g => ⟨a, K, ha, hK, fun c d => (g c d).trans (h c d)⟩
theorem W.zero (p s : Nat) : ∀ n, W p s n (fun _ _ => 0)
  | 0 => ⟨[], Deg.mono (Deg.len _ _) (Nat.zero_le _), fun _ _ => Cg.refl _ _⟩
  | n + 1 => ⟨[], fun _ _ => 0, Deg.mono (Deg.len _ _) (Nat.zero_le _), W.zero p s n, fun c d => by simp [ev]; exact Cg.refl _ _⟩
theorem W.one (p s : Nat) : W p s 0 (fun _ _ => 1) := ⟨[1], Deg.len _ _, fun c d => by simp [ev]; exact Cg.refl _ _⟩
theorem W.add {p s : Nat} : ∀ {n : Nat} {F G : Int → Int → Int}, W p s n F → W p s n G → W p s n (fun c d => F c d + G c d)
  | 0, _, _, ⟨a, ha, h⟩, ⟨b, hb, g⟩ => ⟨padd a b, ha.padd hb, fun c d => by rw [ev_padd]; exact (h c d).add (g c d)⟩
  | n + 1, _, _, ⟨a, K, ha, hK, h⟩, ⟨b, L, hb, hL, g⟩ => ⟨padd a b, fun c d => K c d + L c d, ha.padd hb, hK.add hL, fun c d => by
      rw [ev_padd]
      exact ((h c d).add (g c d)).trans (Cg.of_eq (by grind))⟩
theorem W.mulc {p s : Nat} (e : Int) : ∀ {n : Nat} {F : Int → Int → Int}, W p s n F → W p s n (fun c d => e * F c d)
  | 0, _, ⟨a, ha, h⟩ => ⟨Pol.psc e a, ha.psc, fun c d => by rw [ev_psc]; exact (Cg.refl _ _).mul (h c d)⟩
  | n + 1, _, ⟨a, K, ha, hK, h⟩ => ⟨Pol.psc e a, fun c d => e * K c d, ha.psc, hK.mulc e, fun c d => by
      rw [ev_psc]
      exact ((Cg.refl p e).mul (h c d)).trans (Cg.of_eq (by grind))⟩
theorem W.sub {p s n : Nat} {F G : Int → Int → Int} (h : W p s n F) (g : W p s n G) : W p s n (fun c d => F c d - G c d) :=
  (h.add (g.mulc (-1))).congr fun c d => Cg.of_eq (by omega)
theorem deg_pmul {p : Nat} {a b : List Int} {m n : Nat} (ha : Deg p a (m + 1)) (hb : Deg p b (n + 1)) : Deg p (pmul a b) (m + n + 1) := by
  have := Deg.pmul hb ha
  exact this.mono (by omega)
theorem W.mulv {p s : Nat} {v : List Int} (hv : Deg p v (s + 1)) : ∀ {n : Nat} {F : Int → Int → Int}, W p s n F → W p s (n + 1) (fun c d => ev v d * F c d)
  | 0, _, ⟨a, ha, h⟩ => ⟨pmul v a, fun _ _ => 0, (deg_pmul hv ha).mono (by simp), W.zero _ _ _, fun c d => by
      rw [ev_pmul]
      exact ((Cg.refl _ _).mul (h c d)).trans (Cg.of_eq (by grind))⟩
  | n + 1, _, ⟨a, K, ha, hK, h⟩ => ⟨pmul v a, fun c d => ev v d * K c d, (deg_pmul hv ha).mono (by grind), hK.mulv hv, fun c d => by
      rw [ev_pmul]
      exact ((Cg.refl p (ev v d)).mul (h c d)).trans (Cg.of_eq (by grind))⟩
theorem W.mulC {p s n : Nat} {F : Int → Int → Int} (h : W p s n F) : W p s (n + 1) (fun c d => c * F c d) :=
  ⟨[], F, Deg.mono (Deg.len _ _) (Nat.zero_le _), h, fun c d => by simp [ev]; exact Cg.refl _ _⟩
theorem W.mul {p s n : Nat} {v : List Int} (hv : Deg p v (s + 1)) {F : Int → Int → Int} (h : W p s n F) : W p s (n + 1) (fun c d => (c + ev v d) * F c d) :=
  (h.mulC.add (h.mulv hv)).congr fun c d => Cg.of_eq (by grind)
theorem W.list {p s : Nat} : ∀ {n : Nat} {F : Int → Int → Int}, W p s n F → ∃ Q : List (List Int), Q.length = n + 1 ∧ (∀ i, i ≤ n → Deg p (Q.getD i []) ((n - i) * s + 1)) ∧ ∀ c d, Cg p (F c d) (ev (Q.map fun q => ev q d) c)
  | 0, _, ⟨a, ha, h⟩ => ⟨[a], rfl, fun i hi => by
      obtain rfl : i = 0 := by omega
      simpa using ha, fun c d => by simpa [ev] using h c d⟩
  | n + 1, _, ⟨a, K, ha, hK, h⟩ => by
    obtain ⟨Q, hl, hd, he⟩ := hK.list
    refine ⟨a :: Q, by simp [hl], fun i hi => ?_, fun c d => ?_⟩
    · cases i with
      | zero => simpa using ha
      | succ i => simpa using hd i (by omega)
    · simp only [List.map_cons, ev]
      exact (h c d).trans ((Cg.refl p _).add ((Cg.refl p c).mul (he c d)))
theorem top_or {p : Nat} (Q : Nat → List Int) : ∀ n, (∀ i, i < n → EqP p (Q i) []) ∨ ∃ i, i < n ∧ ¬ EqP p (Q i) [] ∧ ∀ j, i < j → j < n → EqP p (Q j) []
  | 0 => Or.inl fun i hi => absurd hi (Nat.not_lt_zero _)
  | n + 1 => by
    by_cases h : EqP p (Q n) []
    · rcases top_or (p := p) Q n with g | ⟨i, hi, g1, g2⟩
      · refine Or.inl fun i hi => ?_
        by_cases e : i = n
        · exact e ▸ h
        · exact g i (by omega)
      · refine Or.inr ⟨i, by omega, g1, fun j h1 h2 => ?_⟩
        by_cases e : j = n
        · exact e ▸ h
        · exact g2 j h1 (by omega)
    · exact Or.inr ⟨n, by omega, h, fun j h1 h2 => by omega⟩
theorem co_evs (Q : List (List Int)) (d : Int) (i : Nat) : co (Q.map fun q => ev q d) i = ev (Q.getD i []) d := by
  unfold co
  rw [List.getD_eq_getElem?_getD, List.getD_eq_getElem?_getD, List.getElem?_map]
  cases Q[i]? <;> simp [ev]
theorem W.zeros {p s n : Nat} (hp : Pr p) (hs : 1 ≤ s) {F : Int → Int → Int} (h : W p s n F) : (∀ c d, Cg p (F c d) 0) ∨ cnt2 p p (fun c d => zro p (F c d)) ≤ n * s * p := by
  obtain ⟨Q, hl, hd, he⟩ := h.list
  rcases top_or (p := p) (fun i => Q.getD i []) (n + 1) with h0 | ⟨i, hi, h1, h2⟩
  · refine Or.inl fun c d => (he c d).trans (ev_zero c fun j => ?_)
    rw [co_evs, co_nil]
    by_cases hj : j < n + 1
    · exact ev_zero d (h0 j hj)
    · rw [List.getD_eq_getElem?_getD, List.getElem?_eq_none (by omega)]
      exact Cg.refl _ _
  · refine Or.inr ?_
    rw [cnt2_swap]
    have hB := cnt_roots hp (hd i (by omega)) h1
    have hC : ∀ d, d < p → zro p (ev (Q.getD i []) d) = false → cnt p (fun c => zro p (F c d)) ≤ i := fun d _ hz => by
      rw [cnt_congr (Q := fun c => zro p (ev (Q.map fun q => ev q d) c)) fun c _ => ?_]
      · refine cnt_roots hp (fun j hj => ?_) fun hn => ?_
        · rw [co_evs]
          by_cases hjn : j < n + 1
          · exact ev_zero d (h2 j (by omega) hjn)
          · rw [List.getD_eq_getElem?_getD, List.getElem?_eq_none (by omega)]
            exact Cg.refl _ _
        · have := hn i
          rw [co_evs, co_nil] at this
          exact zro_not.1 hz this
      · rw [Bool.eq_iff_iff, zro_iff, zro_iff]
        exact ⟨fun h => (he c d).symm.trans h, fun h => (he c d).trans h⟩
    have hbound := cnt2_bound (P := fun d c => zro p (F c d)) (B := fun d => zro p (ev (Q.getD i []) d)) (m := p) (a := i) (n := p) hC
    refine Nat.le_trans hbound ?_
    have e1 : cnt p (fun d => zro p (ev (Q.getD i []) d)) * p ≤ (n - i) * s * p := Nat.mul_le_mul_right p hB
    have e2 : p * i ≤ i * s * p := by
      rw [Nat.mul_comm p i]
      exact Nat.mul_le_mul_right p (by have := Nat.mul_le_mul_left i hs; omega)
    have e3 : (n - i) * s * p + i * s * p = n * s * p := by
      rw [← Nat.add_mul, ← Nat.add_mul, Nat.sub_add_cancel (by omega)]
    omega
end Go.Proofs.YtbjeemlbjkmhiaaDoor.Pol
namespace Go.Proofs.YtbjeemlbjkmhiaaDoor.Pol
open Num

theorem cg_or {p : Nat} (hp : Pr p) {a b : Int} (h : Cg p (a * b) 0) (ha : ¬ Cg p a 0) : Cg p b 0 := (hp.int h).resolve_left ha
theorem W.full {p s n : Nat} (hp : Pr p) {F : Int → Int → Int} (h : W p s n F) (hn : n + 1 < p) {a d : Int} (hz : ∀ c, ¬ Cg p (c + a) 0 → Cg p (F c d) 0) (c : Int) : Cg p (F c d) 0 := by
  obtain ⟨Q, hl, _, he⟩ := h.list
  refine (he c d).trans (ev_zero c (zero_of_cnt hp (n := n) ?_ ?_))
  · exact fun i hi => (Deg.len p _) i (by rw [List.length_map, hl]; exact hi)
  · have h1 : cnt p (fun x => zro p (ev [a, 1] x)) ≤ 1 := cnt_roots hp (Deg.len _ _) fun h => by
      have := h 1
      simp only [co_cons_succ, co_cons_zero, co_nil] at this
      have h2 := hp.two
      have := this.uniq (by omega) (by omega) (by omega) (by omega)
      omega
    have h2 := cnt_or (fun x => zro p (ev [a, 1] x)) (fun x => zro p (ev (Q.map fun q => ev q d) x)) p
    rw [cnt_all fun x _ => ?_] at h2
    · omega
    · rw [Bool.or_eq_true, zro_iff, zro_iff]
      by_cases hc : Cg p ((x : Int) + a) 0
      · exact Or.inl ((Cg.of_eq (by simp [ev]; omega)).trans hc)
      · exact Or.inr ((he x d).symm.trans (hz x hc))

def PR : List (List Int) → Int → Int → Int
  | [], _, _ => 1
  | v :: A, c, d => (c + ev v d) * PR A c d
theorem W.ofPR {p s : Nat} : ∀ {A : List (List Int)}, (∀ v ∈ A, Deg p v (s + 1)) → W p s A.length (PR A)
  | [], _ => W.one p s
  | v :: A, h => (W.ofPR fun x hx => h x (List.mem_cons_of_mem _ hx)).mul (h v (List.mem_cons_self ..))
theorem PR_zero {p : Nat} (hp : Pr p) {c d : Int} : ∀ {B : List (List Int)}, Cg p (PR B c d) 0 → ∃ b, b ∈ B ∧ Cg p (c + ev b d) 0
  | [], h => by
    have h2 := hp.two
    have := h.uniq (by simp [PR]) (by simp [PR]; omega) (by omega) (by omega)
    simp [PR] at this
  | b :: B, h => by
    rcases hp.int h with g | g
    · exact ⟨b, List.mem_cons_self .., g⟩
    · obtain ⟨x, hx, hz⟩ := PR_zero hp g
      exact ⟨x, List.mem_cons_of_mem _ hx, hz⟩
theorem PR_unit {p : Nat} (hp : Pr p) {c d : Int} {B : List (List Int)} (h : ∀ b ∈ B, ¬ Cg p (c + ev b d) 0) : ¬ Cg p (PR B c d) 0 := fun hz => by
  obtain ⟨b, hb, g⟩ := PR_zero hp hz
  exact h b hb g
theorem place {p s : Nat} (hp : Pr p) {a : List Int} (ha : Deg p a (s + 1)) (B : List (List Int)) (hB : ∀ b ∈ B, Deg p b (s + 1)) (hne : ∀ b ∈ B, ¬ EqP p b a) (hn : B.length * s < p) : ∃ d : Nat, d < p ∧ ∀ b ∈ B, ¬ Cg p (ev b d) (ev a d) := by
  have hc : ∀ B : List (List Int), (∀ b ∈ B, Deg p b (s + 1)) → (∀ b ∈ B, ¬ EqP p b a) → cnt p (fun d => B.any fun b => zro p (ev (psub b a) d)) ≤ B.length * s := by
    intro B
    induction B with
    | nil =>
      intro _ _
      have h0 : ∀ n, cnt n (fun _ => false) = 0 := fun n => by
        induction n with
        | zero => rfl
        | succ n ih => simp [cnt, ih]
      have := h0 p
      simp only [List.any_nil, List.length_nil, Nat.zero_mul]
      omega
    | cons b B ih =>
      intro h1 h2
      have i1 := ih (fun x hx => h1 x (List.mem_cons_of_mem _ hx)) (fun x hx => h2 x (List.mem_cons_of_mem _ hx))
      have i2 := cnt_roots hp ((h1 b (List.mem_cons_self ..)).psub ha) fun h => h2 b (List.mem_cons_self ..) fun i => by
        have := h i
        rw [co_psub, co_nil] at this
        exact Cg.of_sub this
      have i3 := cnt_or (fun d => zro p (ev (psub b a) d)) (fun d => B.any fun b => zro p (ev (psub b a) d)) p
      simp only [List.any_cons, List.length_cons]
      have e : (B.length + 1) * s = B.length * s + s := by rw [Nat.add_mul, Nat.one_mul]
      omega
  obtain ⟨d, hd, hf⟩ := cnt_hit (Nat.lt_of_le_of_lt (hc B hB hne) hn)
  refine ⟨d, hd, fun b hb hz => ?_⟩
  have := List.any_eq_false.1 hf b hb
  rw [zro_iff, ev_psub] at this
  exact this hz.sub_zero
def DN (l : List (Int × List Int)) : Int → Int → Int := PR (l.map Prod.snd)
def NU : List (Int × List Int) → Int → Int → Int
  | [], _, _ => 0
  | x :: l, c, d => x.1 * DN l c d + (c + ev x.2 d) * NU l c d
theorem DN_nil (c d : Int) : DN [] c d = 1 := rfl
theorem DN_cons (x : Int × List Int) (l : List (Int × List Int)) (c d : Int) : DN (x :: l) c d = (c + ev x.2 d) * DN l c d := rfl
theorem W.ofDN {p s : Nat} {l : List (Int × List Int)} (h : ∀ x ∈ l, Deg p x.2 (s + 1)) : W p s l.length (DN l) := by
  have := W.ofPR (p := p) (s := s) (A := l.map Prod.snd) fun v hv => by
    obtain ⟨x, hx, rfl⟩ := List.mem_map.1 hv
    exact h x hx
  rwa [List.length_map] at this
theorem W.ofNU {p s : Nat} : ∀ {l : List (Int × List Int)}, (∀ x ∈ l, Deg p x.2 (s + 1)) → W p s (l.length - 1) (NU l)
  | [], _ => W.zero p s 0
  | [x], _ => ((W.one p s).mulc x.1).congr fun c d => Cg.of_eq (by simp [NU, DN_nil])
  | x :: y :: l, h => by
    have h2 : ∀ z ∈ y :: l, Deg p z.2 (s + 1) := fun z hz => h z (List.mem_cons_of_mem _ hz)
    have w1 := (W.ofDN h2).mulc x.1
    have w2 := (W.ofNU h2).mul (h x (List.mem_cons_self ..))
    exact w1.add w2
theorem NU_sum {p : Nat} {c d : Int} (iv : List Int → Int) : ∀ {l : List (Int × List Int)}, (∀ x ∈ l, Cg p (iv x.2 * (c + ev x.2 d)) 1) → Cg p (NU l c d) (DN l c d * (l.map fun x => x.1 * iv x.2).sum)
  | [], _ => by simp [NU]; exact Cg.refl _ _
  | x :: l, h => by
    have h1 := h x (List.mem_cons_self ..)
    have h2 := NU_sum iv fun z hz => h z (List.mem_cons_of_mem _ hz)
    simp only [NU, DN_cons, List.map_cons, List.sum_cons]
    have h3 := ((Cg.refl p (x.1 * DN l c d)).mul h1).symm
    exact ((Cg.of_eq (by simp)).trans (h3.add ((Cg.refl p (c + ev x.2 d)).mul h2))).trans (Cg.of_eq (by grind))
theorem NU_parts (c d : Int) (P : Int × List Int → Bool) : ∀ l : List (Int × List Int), DN l c d = DN (l.filter P) c d * DN (l.filter fun x => !P x) c d ∧ NU l c d = NU (l.filter P) c d * DN (l.filter fun x => !P x) c d + DN (l.filter P) c d * NU (l.filter fun x => !P x) c d
  | [] => by simp [DN_nil, NU]
  | x :: l => by
    obtain ⟨h1, h2⟩ := NU_parts c d P l
    cases e : P x <;> simp only [List.filter_cons, e, Bool.not_true, Bool.not_false, if_true, if_false, Bool.false_eq_true, DN_cons, NU] <;> rw [h1, h2] <;> constructor <;> grind
theorem NU_same (c d : Int) (a : List Int) : ∀ l : List (Int × List Int), (∀ x ∈ l, x.2 = a) → (c + ev a d) * NU l c d = (l.map Prod.fst).sum * DN l c d
  | [], _ => by simp [NU]
  | x :: l, h => by
    have h1 := NU_same c d a l fun z hz => h z (List.mem_cons_of_mem _ hz)
    have h2 := h x (List.mem_cons_self ..)
    simp only [NU, DN_cons, List.map_cons, List.sum_cons, h2]
    grind
theorem DN_pow {p : Nat} (hp : Pr p) {c d : Int} {l : List (Int × List Int)} (h : ∀ x ∈ l, ¬ Cg p (c + ev x.2 d) 0) : ¬ Cg p (DN l c d) 0 := PR_unit hp fun b hb => by
  obtain ⟨x, hx, rfl⟩ := List.mem_map.1 hb
  exact h x hx
theorem frac_zero {p s : Nat} (hp : Pr p) {l : List (Int × List Int)} (hd : ∀ x ∈ l, Deg p x.2 (s + 1)) (hU : ∀ x ∈ l, ∀ y ∈ l, EqP p x.2 y.2 → x.2 = y.2) (h1 : l.length * s < p) (h2 : l.length < p) (hz : ∀ c d, Cg p (NU l c d) 0)
    (z : Int × List Int) (hzl : z ∈ l) : Cg p (((l.filter fun x => x.2 == z.2).map Prod.fst).sum) 0 := by
  have hg : ∀ x ∈ l.filter (fun x => !(x.2 == z.2)), x ∈ l ∧ x.2 ≠ z.2 := fun x hx => by
    obtain ⟨h1, h2⟩ := List.mem_filter.1 hx
    exact ⟨h1, by simpa using h2⟩
  have hf : ∀ x ∈ l.filter (fun x => x.2 == z.2), x.2 = z.2 := fun x hx => by
    obtain ⟨_, h2⟩ := List.mem_filter.1 hx
    exact eq_of_beq h2
  have hgl : (l.filter fun x => !(x.2 == z.2)).length + 1 ≤ l.length := by
    have e1 : (l.filter fun x => !(x.2 == z.2)).length < l.length := by
      refine List.length_filter_lt_length_iff_exists.2 ⟨z, hzl, by simp⟩
    omega
  obtain ⟨d, _, hdd⟩ := place hp (hd z hzl) ((l.filter fun x => !(x.2 == z.2)).map Prod.snd) (fun b hb => by
    obtain ⟨x, hx, rfl⟩ := List.mem_map.1 hb
    exact hd x (hg x hx).1) (fun b hb e => by
    obtain ⟨x, hx, rfl⟩ := List.mem_map.1 hb
    exact (hg x hx).2 (hU x (hg x hx).1 z hzl e)) (by
    rw [List.length_map]
    exact Nat.lt_of_le_of_lt (Nat.mul_le_mul_right s (by omega)) h1)
  have w := W.ofNU (p := p) (s := s) (l := (((l.filter fun x => x.2 == z.2).map Prod.fst).sum, z.2) :: l.filter fun x => !(x.2 == z.2)) fun x hx => by
    rcases List.mem_cons.1 hx with rfl | hx
    · exact hd z hzl
    · exact hd x (hg x hx).1
  have hall := w.full hp (by simp only [List.length_cons]; omega) (a := ev z.2 d) (d := (d : Int)) (fun c hc => by
    have h3 := hz c d
    obtain ⟨e1, e2⟩ := NU_parts c d (fun x => x.2 == z.2) l
    have e3 := NU_same c d z.2 _ hf
    have h4 : Cg p (DN (l.filter fun x => x.2 == z.2) c d * NU ((((l.filter fun x => x.2 == z.2).map Prod.fst).sum, z.2) :: l.filter fun x => !(x.2 == z.2)) c d) 0 := by
      simp only [NU]
      refine (Cg.of_eq ?_).trans (((Cg.refl p (c + ev z.2 d)).mul h3).trans (Cg.of_eq (Int.mul_zero _)))
      rw [e2]
      generalize NU (l.filter fun x => x.2 == z.2) c d = X at e3 ⊢
      generalize ((l.filter fun x => x.2 == z.2).map Prod.fst).sum = E at e3 ⊢
      generalize DN (l.filter fun x => x.2 == z.2) c d = D at e3 ⊢
      generalize NU (l.filter fun x => !(x.2 == z.2)) c d = Y
      generalize DN (l.filter fun x => !(x.2 == z.2)) c d = G
      generalize ev z.2 (d : Int) = a at e3 ⊢
      have e4 : (c + a) * (X * G + D * Y) = ((c + a) * X) * G + D * ((c + a) * Y) := by grind
      rw [e4, e3]
      grind
    refine cg_or hp h4 (DN_pow hp fun x hx => ?_)
    rw [hf x hx]
    exact hc) (-ev z.2 d)
  have e : NU ((((l.filter fun x => x.2 == z.2).map Prod.fst).sum, z.2) :: l.filter fun x => !(x.2 == z.2)) (-ev z.2 d) d = DN (l.filter fun x => !(x.2 == z.2)) (-ev z.2 d) d * ((l.filter fun x => x.2 == z.2).map Prod.fst).sum := by
    simp only [NU]
    grind
  rw [e] at hall
  refine cg_or hp hall (DN_pow hp fun x hx hc => ?_)
  exact hdd x.2 (List.mem_map.2 ⟨x, hx, rfl⟩) (Cg.of_sub ((Cg.of_eq (by omega)).trans hc))
theorem frac_count {p s : Nat} (hp : Pr p) (hs : 1 ≤ s) {l : List (Int × List Int)} (hd : ∀ x ∈ l, Deg p x.2 (s + 1)) (hU : ∀ x ∈ l, ∀ y ∈ l, EqP p x.2 y.2 → x.2 = y.2) (h1 : l.length * s < p)
    (z : Int × List Int) (hzl : z ∈ l) (hn : ¬ Cg p (((l.filter fun x => x.2 == z.2).map Prod.fst).sum) 0) : cnt2 p p (fun c d => zro p (NU l c d)) ≤ (l.length - 1) * s * p :=
  ((W.ofNU hd).zeros hp hs).resolve_left fun hz => hn (frac_zero hp hd hU h1 (Nat.lt_of_le_of_lt (by have := Nat.mul_le_mul_left l.length hs; omega) h1) hz z hzl)
end Go.Proofs.YtbjeemlbjkmhiaaDoor.Pol
namespace Go.Proofs.YtbjeemlbjkmhiaaDoor.Pure
open Go.RowKit Go.Proofs.YtbjeemlbjkmhiaaDoor.Q Go.Proofs.YtbjeemlbjkmhiaaDoor.Num Go.Proofs.YtbjeemlbjkmhiaaDoor.Pol Go.Proofs.YtbjeemlbjkmhiaaDoorW.PrintWords Go.Proofs.YtbjeemlbjkmhiaaDoorW.PrintLast Go.Proofs.YtbjeemlbjkmhiaaDoorW.PrintMore

theorem cnt_succ (P : Nat → Bool) (n : Nat) : cnt (n + 1) P = cnt n P + if P n = true then 1 else 0 := rfl
theorem cnt_inc (P : Nat → Bool) {n : Nat} (hn : n < 1000000) {c : Prop} [Decidable c] (hc : c ↔ P n = true) : (if c then wrap64 (((cnt n P : Nat) : Int) + 1) else ((cnt n P : Nat) : Int)) = ((cnt (n + 1) P : Nat) : Int) := by
  have h1 := cnt_le P n
  rw [cnt_succ]
  by_cases h : c
  · rw [if_pos h, if_pos (hc.1 h), w64_succ (by omega)]
  · rw [if_neg h, if_neg (fun g => h (hc.2 g)), Nat.add_zero]
section good
variable {f : Int} {p : Nat} (h : FP f p)
include h
end good

theorem cnt_add (P : Nat → Bool) (a : Nat) : ∀ b, cnt (a + b) P = cnt a P + cnt b (fun x => P (a + x))
  | 0 => by simp [cnt]
  | b + 1 => by
    have := cnt_add P a b
    rw [← Nat.add_assoc, cnt_succ, cnt_succ, this, Nat.add_assoc]
theorem cnt_pairs {m : Nat} (hm : 0 < m) (P : Nat → Nat → Bool) : ∀ n, cnt (n * m) (fun t => P (t / m) (t % m)) = cnt2 n m P
  | 0 => by simp [cnt, cnt2]
  | n + 1 => by
    rw [Nat.add_mul, Nat.one_mul, cnt_add, cnt_pairs hm P n, cnt2]
    refine congrArg _ (cnt_congr fun x hx => ?_)
    rw [show (n * m + x) / m = n from by rw [Nat.mul_comm, Nat.mul_add_div hm, Nat.div_eq_of_lt hx, Nat.add_zero], show (n * m + x) % m = x from by rw [Nat.mul_comm, Nat.mul_add_mod, Nat.mod_eq_of_lt hx]]

def prl : List Int → Int
  | [] => 1
  | x :: l => x * prl l
def Rws (L : List (List Int)) : Prop := L.length ≤ 1000000 ∧ ∀ v ∈ L, UL v ∧ v.length ≤ 1000000
theorem Rws.nth {L : List (List Int)} (h : Rws L) {i : Nat} (hi : i < L.length) : UL (rd_L3 L (i : Int)) ∧ (rd_L3 L (i : Int)).length ≤ 1000000 := by
  refine h.2 _ ?_
  rw [rd_L3, Int.toNat_natCast, List.getD_eq_getElem?_getD, List.getElem?_eq_getElem hi, Option.getD_some]
  exact List.getElem_mem hi
def vls (p : Nat) (L : List (List Int)) (c d : Int) : List Int := L.map fun v => (c + ev v d) % p
section good
variable {f : Int} {p : Nat} (h : FP f p)
include h
theorem gval_l0 {L : List (List Int)} (hL : Rws L) {c d : Int} (hc : 0 ≤ c) (hd : 0 ≤ d) : ∀ (n i : Nat) (o : List Int), i + n = L.length → o.length = L.length → (∀ j, j < i → co o j = co (vls p L c d) j) →
    Ev (fun k => gap_values.l0 k f c d o L (L.length : Int) i) (vls p L c d)
  | 0, i, o, e, ho, hj => by
    obtain rfl : o = vls p L c d := ext_co (by rw [ho, vls, List.length_map]) fun j hj' => hj j (by omega)
    refine Ev.mks 0 fun k _ => ?_
    rw [gap_values.l0, if_neg (by omega)]
  | n + 1, i, o, e, ho, hj => by
    have hi : i < L.length := by omega
    have hv := hL.nth hi
    have s := s_Eval h.o hv.2 hv.1 hd
    have hm := h.mod (ev (rd_L3 L (i : Int)) d)
    have ih := gval_l0 hL hc hd n (i + 1) (o.set i ((c + ev (rd_L3 L (i : Int)) d) % p)) (by omega) (by rw [List.length_set]; exact ho) fun j hj' => by
      by_cases ej : j = i
      · subst ej
        rw [co_set_same (by omega), vls, co_lt (by rw [List.length_map]; exact hi), List.getElem_map, rd_L3, Int.toNat_natCast, List.getD_eq_getElem?_getD, List.getElem?_eq_getElem hi, Option.getD_some]
      · rw [co_set_ne (by omega) _ ej]
        exact hj j (by omega)
    obtain ⟨K1, k1⟩ := Ev.get s
    obtain ⟨K2, k2⟩ := Ev.get ih
    have hl := hL.1
    refine Ev.mks (K1 + K2) fun k hk => ?_
    rw [gap_values.l0, if_pos (by omega), if_pos (by omega), if_pos (by omega), k1 k (by omega), Option.bind_some, s_Add h hc hm.1, Option.bind_some, if_pos (by omega), w64_succ (by omega), Int.toNat_natCast, show (c + ev (rd_L3 L (i : Int)) d % p) % p = (c + ev (rd_L3 L (i : Int)) d) % p from Cg.mod_eq ((Cg.refl _ _).add (Cg.mod _ _))]
    exact k2 k (by omega)
theorem s_values {L : List (List Int)} (hL : Rws L) {c d : Int} (hc : 0 ≤ c) (hd : 0 ≤ d) : Ev (fun k => gap_values.f k f L c d) (vls p L c d) := by
  have hl := hL.1
  refine Ev.congr (fun k => ?_) (gval_l0 h hL hc hd L.length 0 (List.replicate L.length 0) (by omega) (by rw [List.length_replicate]) (fun j hj => by omega))
  rw [gap_values.f, if_pos (by omega), if_pos (by omega), Int.toNat_natCast]
  rfl
theorem prod_l0 {l : List Int} (hl : l.length ≤ 1000000) (hu : UL l) : ∀ (n i : Nat) (a : Int), i + n = l.length → 0 ≤ a → a < p →
    Ev (fun k => gap_product.l0 k f a l (l.length : Int) i) ((a * prl (l.drop i)) % p)
  | 0, i, a, e, h0, h1 => by
    refine Ev.mks 0 fun k _ => ?_
    rw [gap_product.l0, if_neg (by omega), List.drop_eq_nil_of_le (by omega), prl, Int.mul_one, Int.emod_eq_of_lt h0 h1]
  | n + 1, i, a, e, h0, h1 => by
    have hi : i < l.length := by omega
    have hx := U.co hu i
    have hm := h.mod (a * co l i)
    have ih := prod_l0 hl hu n (i + 1) ((a * co l i) % p) (by omega) hm.1 hm.2
    obtain ⟨K, hk⟩ := Ev.get ih
    refine Ev.mks K fun k g => ?_
    rw [gap_product.l0, if_pos (by omega), if_pos (by omega), if_pos (by omega), rd_nat, s_Mul h h0 hx.1, Option.bind_some, w64_succ (by omega), hk k g, List.drop_eq_getElem_cons hi, prl, ← co_lt hi]
    refine congrArg some (Cg.mod_eq (((Cg.mod _ _).mul (Cg.refl _ _)).trans (Cg.of_eq (by grind))))
theorem s_product {l : List Int} (hl : l.length ≤ 1000000) (hu : UL l) : Ev (fun k => gap_product.f k f l) (prl l % p) := by
  have := prod_l0 h hl hu l.length 0 1 (by omega) (by omega) h.one
  rw [List.drop_zero, Int.one_mul] at this
  exact this
omit h in
theorem prl_vls (L : List (List Int)) (c d : Int) : Cg p (prl (vls p L c d)) (PR L c d) := by
  induction L with
  | nil => exact Cg.refl _ _
  | cons v L ih => exact (Cg.mod _ _).mul ih
theorem vls_ok {L : List (List Int)} (hL : Rws L) (c d : Int) : (vls p L c d).length ≤ 1000000 ∧ UL (vls p L c d) := by
  refine ⟨by rw [vls, List.length_map]; exact hL.1, fun x hx => ?_⟩
  obtain ⟨v, _, rfl⟩ := List.mem_map.1 hx
  have := h.mod (c + ev v d)
  have := h.o.lei
  unfold U; omega
theorem s_pv {L : List (List Int)} (hL : Rws L) (c d : Int) : Ev (fun k => gap_product.f k f (vls p L c d)) (PR L c d % p) := by
  have hv := vls_ok h hL c d
  have := s_product h hv.1 hv.2
  rwa [Cg.mod_eq (prl_vls (p := p) L c d)] at this
end good
theorem tup_ok {w : Nat} (hw : 0 < w) : ∀ (L : List (List Int)) (wd : Int), (∀ v ∈ L, v.length = w) → (wd = 0 ∨ wd = w) → tup L wd = some (if L = [] then wd else (w : Int))
  | [], wd, _, _ => rfl
  | v :: L, wd, hv, h => by
    have h1 : v.length = w := hv v (List.mem_cons_self)
    have h2 : (if wd = 0 then (v.length : Int) else wd) = (w : Int) := by
      rcases h with rfl | rfl
      · rw [if_pos rfl, h1]
      · rw [if_neg (by omega)]
    rw [tup, h2, if_neg (by omega), if_pos (by omega), tup_ok hw L (w : Int) (fun x hx => hv x (List.mem_cons_of_mem _ hx)) (.inr rfl)]
    simp
theorem tuples_ok {w : Nat} (hw : 0 < w) (hw8 : w ≤ 8) {f : Int} (hf : 0 ≤ f ∧ f ≤ 1) {A B : List (List Int)} (hA : ∀ v ∈ A, v.length = w) (hB : ∀ v ∈ B, v.length = w) (nA : A.length ≤ 32) (nB : B.length ≤ 32) : gap_tuples.f f A B = some 0 := by
  have h1 := tup_ok hw A 0 hA (.inl rfl)
  obtain ⟨w1, e1, hw1⟩ : ∃ w1 : Int, (if A = [] then 0 else (w : Int)) = w1 ∧ (w1 = 0 ∨ w1 = w) := ⟨_, rfl, by split <;> simp⟩
  have h2 := tup_ok hw B w1 hB hw1
  rw [e1] at h1
  obtain ⟨w2, e2, hw2⟩ : ∃ w2 : Int, (if B = [] then w1 else (w : Int)) = w2 ∧ w2 ≤ 8 := ⟨_, rfl, by split <;> omega⟩
  rw [e2] at h2
  rw [gap_tuples.f, tups, h1, Option.bind_some, tups, h2, Option.bind_some, tups]
  show gap_tuples.g f A B w2 = some 0
  rw [gap_tuples.g, field_Valid.f, if_pos hf.1, decide_eq_true (by omega), Option.bind_some, if_pos rfl, if_neg (by omega), if_neg (by omega), if_neg (by omega), if_neg (by omega)]
end Go.Proofs.YtbjeemlbjkmhiaaDoor.Pure
namespace Go.Proofs.YtbjeemlbjkmhiaaDoor.Pure
open Go.RowKit Go.Proofs.YtbjeemlbjkmhiaaDoor.Q Go.Proofs.YtbjeemlbjkmhiaaDoor.Num Go.Proofs.YtbjeemlbjkmhiaaDoor.Pol Go.Proofs.YtbjeemlbjkmhiaaDoorW.PrintWords Go.Proofs.YtbjeemlbjkmhiaaDoorW.PrintLast Go.Proofs.YtbjeemlbjkmhiaaDoorW.PrintMore

def Rw (w : Nat) (v : List Int) : Prop := v.length = w ∧ ∀ x ∈ v, 0 ≤ x ∧ x < 97
def OkL (n w : Nat) (L : List (List Int)) : Prop := L.length = n ∧ ∀ v ∈ L, Rw w v
theorem Rw.set {w : Nat} {v : List Int} (h : Rw w v) {x : Int} (hx : 0 ≤ x ∧ x < 97) (i : Nat) : Rw w (v.set i x) := ⟨by rw [List.length_set]; exact h.1, fun y hy => by
  rcases List.mem_or_eq_of_mem_set hy with hy | rfl
  · exact h.2 _ hy
  · exact hx⟩
theorem Rw.zero (w : Nat) : Rw w (List.replicate w 0) := ⟨List.length_replicate, fun x hx => by rw [(List.mem_replicate.1 hx).2]; decide⟩
theorem OkL.nth {n w : Nat} {L : List (List Int)} (h : OkL n w L) {i : Nat} (hi : i < n) : ∃ h' : i < L.length, rd_L3 L (i : Int) = L[i] ∧ Rw w L[i] := by
  have h' : i < L.length := by rw [h.1]; exact hi
  refine ⟨h', ?_, h.2 _ (List.getElem_mem h')⟩
  rw [rd_L3, Int.toNat_natCast, List.getD_eq_getElem?_getD, List.getElem?_eq_getElem h', Option.getD_some]
theorem OkL.snoc {n w : Nat} {L : List (List Int)} (h : OkL n w L) {v : List Int} (hv : Rw w v) : OkL (n + 1) w (L ++ [v]) := ⟨by rw [List.length_append, h.1]; rfl, fun x hx => by
  rcases List.mem_append.1 hx with hx | hx
  · exact h.2 _ hx
  · rw [List.mem_singleton.1 hx]; exact hv⟩
theorem OkL.rws {n w : Nat} {L : List (List Int)} (h : OkL n w L) (hn : n ≤ 1000000) (hw : w ≤ 1000000) : Rws L := ⟨by rw [h.1]; exact hn, fun v hv => ⟨fun x hx => by have := (h.2 v hv).2 x hx; unfold U; omega, by rw [(h.2 v hv).1]; exact hw⟩⟩
def Evs {α : Type} (F : Nat → Option α) (P : α → Prop) : Prop := ∃ v, Ev F v ∧ P v
theorem list_l1 {l : List (List Int)} (hu : ∀ v ∈ l, UL v) {n w i : Nat} (hn : n ≤ 100) (hw : w ≤ 100) (hi : i < n) {L : List (List Int)} (hL : L.length = i) {P : List (List Int) → Prop}
    (hK : ∀ row, Rw w row → Evs (fun k => a11list.l0 k l n w (L ++ [row]) ((i + 1 : Nat) : Int)) P) : ∀ (d j : Nat) (row : List Int), j + d = w → Rw w row →
    Evs (fun k => a11list.l1 k l n w L i row j) P
  | 0, j, row, e, hr => by
    obtain ⟨v, h1, h2⟩ := hK row hr
    obtain ⟨K, hk⟩ := Ev.get h1
    refine ⟨v, Ev.mks K fun k g => ?_, h2⟩
    rw [a11list.l1, if_neg (by omega), if_pos (by omega), w64_succ (by omega)]
    exact hk k g
  | d + 1, j, row, e, hr => by
    obtain ⟨v, h1, h2⟩ := hK row hr
    obtain ⟨K, hk⟩ := Ev.get h1
    by_cases c1 : i < l.length
    · by_cases c2 : j < (rd_L3 l (i : Int)).length
      · have hul : UL (rd_L3 l (i : Int)) := hu _ (by
          rw [rd_L3, Int.toNat_natCast, List.getD_eq_getElem?_getD, List.getElem?_eq_getElem c1, Option.getD_some]
          exact List.getElem_mem c1)
        have hx := U.co hul j
        obtain ⟨v', g1, g2⟩ := list_l1 hu hn hw hi hL hK d (j + 1) (row.set j (co (rd_L3 l (i : Int)) j % 97)) (by omega) (hr.set ⟨by omega, by omega⟩ j)
        obtain ⟨K', hk'⟩ := Ev.get g1
        refine ⟨v', Ev.mks K' fun k g => ?_, g2⟩
        have hrl := hr.1
        rw [a11list.l1, if_pos (by omega), if_pos (by omega), if_pos (by omega), if_pos (by omega), if_pos (by omega), if_pos (by omega), rd_nat, tmod_nn hx.1, Int.toNat_natCast, w64_succ (by omega)]
        exact hk' k g
      · refine ⟨v, Ev.mks K fun k g => ?_, h2⟩
        rw [a11list.l1, if_pos (by omega), if_pos (by omega), if_pos (by omega), if_neg (by omega), if_pos (by omega), w64_succ (by omega)]
        exact hk k g
    · refine ⟨v, Ev.mks K fun k g => ?_, h2⟩
      rw [a11list.l1, if_pos (by omega), if_neg (by omega), if_pos (by omega), w64_succ (by omega)]
      exact hk k g
theorem list_l0 {l : List (List Int)} (hu : ∀ v ∈ l, UL v) {n w : Nat} (hn : n ≤ 100) (hw : w ≤ 100) : ∀ (d i : Nat) (L : List (List Int)), i + d = n → OkL i w L →
    Evs (fun k => a11list.l0 k l n w L i) (OkL n w)
  | 0, i, L, e, hL => by
    obtain rfl : i = n := by omega
    refine ⟨L, Ev.mks 0 fun k _ => ?_, hL⟩
    rw [a11list.l0, if_neg (by omega)]
  | d + 1, i, L, e, hL => by
    obtain ⟨v, h1, h2⟩ := list_l1 hu hn hw (i := i) (by omega) hL.1 (P := OkL n w) (fun row hr => list_l0 hu hn hw d (i + 1) (L ++ [row]) (by omega) (hL.snoc hr)) w 0 (List.replicate w 0) (by omega) (Rw.zero w)
    obtain ⟨K, hk⟩ := Ev.get h1
    refine ⟨v, Ev.mks K fun k g => ?_, h2⟩
    rw [a11list.l0, if_pos (by omega), if_pos (by omega), if_pos (by omega), Int.toNat_natCast]
    exact hk k g
theorem s_list {l : List (List Int)} (hu : ∀ v ∈ l, UL v) {n w : Nat} (hn : n ≤ 100) (hw : w ≤ 100) : ∃ L, Ev (fun k => a11list.f k l n w) L ∧ OkL n w L :=
  list_l0 hu hn hw n 0 [] (by omega) ⟨rfl, fun v hv => by simp at hv⟩
theorem equal_l0 {a b : List Int} (hl : a.length = b.length) (hn : a.length ≤ 1000000) : ∀ (d j : Nat), j + d = a.length → (∀ t, t < j → co a t = co b t) →
    Ev (fun k => a11equal.l0 k a b j) (decide (a = b))
  | 0, j, e, h => by
    refine Ev.mks 0 fun k _ => ?_
    rw [a11equal.l0, if_neg (by omega), decide_eq_true (ext_co hl fun t ht => h t (by omega))]
  | d + 1, j, e, h => by
    by_cases c : co a j = co b j
    · obtain ⟨K, hk⟩ := Ev.get (equal_l0 hl hn d (j + 1) (by omega) fun t ht => by
        by_cases et : t = j
        · subst et; exact c
        · exact h t (by omega))
      refine Ev.mks K fun k g => ?_
      rw [a11equal.l0, if_pos (by omega), if_pos (by omega), if_pos (by omega), rd_nat, rd_nat, if_pos c, w64_succ (by omega)]
      exact hk k g
    · refine Ev.mks 0 fun k _ => ?_
      rw [a11equal.l0, if_pos (by omega), if_pos (by omega), if_pos (by omega), rd_nat, rd_nat, if_neg c, decide_eq_false (fun e => c (by rw [e]))]
theorem s_equal {a b : List Int} (hl : a.length = b.length) (hn : a.length ≤ 1000000) : Ev (fun k => a11equal.f k a b) (decide (a = b)) :=
  Ev.congr (fun k => rfl) (equal_l0 hl hn a.length 0 (by omega) fun t ht => by omega)
theorem often_l0 {v : List Int} {w n : Nat} (hv : Rw w v) {L : List (List Int)} (hL : OkL n w L) (hn : n ≤ 1000) (hw : w ≤ 1000) : ∀ (d i a : Nat), i + d = n → a ≤ i →
    Ev (fun k => a11often.l0 k v L (a : Int) i) ((a + (L.drop i).count v : Nat) : Int)
  | 0, i, a, e, ha => by
    refine Ev.mks 0 fun k _ => ?_
    have := hL.1
    rw [a11often.l0, if_neg (by omega), List.drop_eq_nil_of_le (by omega), List.count_nil, Nat.add_zero]
  | d + 1, i, a, e, ha => by
    obtain ⟨hi, e1, hr⟩ := hL.nth (i := i) (by omega)
    obtain ⟨K1, k1⟩ := Ev.get (s_equal (a := v) (b := L[i]) (by rw [hv.1, hr.1]) (by rw [hv.1]; omega))
    rw [List.drop_eq_getElem_cons hi, List.count_cons]
    by_cases c : v = L[i]
    · obtain ⟨K2, k2⟩ := Ev.get (often_l0 hv hL hn hw d (i + 1) (a + 1) (by omega) (by omega))
      refine Ev.mks (K1 + K2) fun k g => ?_
      rw [a11often.l0, if_pos (by omega), if_pos (by omega), e1, k1 k (by omega), Option.bind_some, if_pos (decide_eq_true c), w64_succ (by omega), w64_succ (by omega), k2 k (by omega), if_pos (by rw [← c]; exact beq_self_eq_true v)]
      refine congrArg some ?_
      omega
    · obtain ⟨K2, k2⟩ := Ev.get (often_l0 hv hL hn hw d (i + 1) a (by omega) (by omega))
      refine Ev.mks (K1 + K2) fun k g => ?_
      rw [a11often.l0, if_pos (by omega), if_pos (by omega), e1, k1 k (by omega), Option.bind_some, if_neg (by rw [decide_eq_true_iff]; exact c), w64_succ (by omega), k2 k (by omega), if_neg (by rw [beq_iff_eq]; exact fun g => c g.symm)]
      rfl
theorem s_often {v : List Int} {w n : Nat} (hv : Rw w v) {L : List (List Int)} (hL : OkL n w L) (hn : n ≤ 1000) (hw : w ≤ 1000) : Ev (fun k => a11often.f k v L) ((L.count v : Nat) : Int) := by
  have := often_l0 hv hL hn hw n 0 0 (by omega) (by omega)
  rw [List.drop_zero, Nat.zero_add] at this
  exact this
theorem u64n {n : Nat} (h : n ≤ 1000000) : IntKind.u64.wrap (n : Int) = (n : Int) := wu64 (by omega) (by omega)
theorem s_part {n : Nat} {a b : Int} (G : Fr a b) (ha : a < Bp 2) (hb : b < Bp 2) (hn : n ≤ 9409) (h : (n : Int) * b ≤ a * 9409) : Ev (fun k => a11part.f k n 9409 (dg a) (dg b) 0) true := by
  obtain ⟨p, q, g, F, hg, q1, q2, hp, hq, o1, _⟩ := f_Of (x := (n : Int)) (y := 9409) (by unfold U; omega) (by unfold U; omega) (by omega)
  obtain ⟨r1, _⟩ := f_Order F G hp hq ha hb (by decide) (by decide)
  obtain ⟨K1, k1⟩ := Ev.get o1
  obtain ⟨K2, k2⟩ := Ev.get r1
  obtain ⟨K3, k3⟩ := Ev.get (n_Fr G (Int.lt_trans ha (by decide +kernel)) (Int.lt_trans hb (by decide +kernel)))
  have hc : cmpZ (p * b) (a * q) ≤ 0 := by
    have : p * b ≤ a * q := by
      refine Int.le_of_mul_le_mul_right (a := g) ?_ hg
      rw [q1, q2] at h
      have e1 : p * b * g = p * g * b := by grind
      have e2 : a * q * g = a * (q * g) := by grind
      rw [e1, e2]
      exact h
    unfold cmpZ
    by_cases c : p * b < a * q
    · rw [if_pos c]; decide
    · rw [if_neg c, if_neg (by omega)]; decide
  refine Ev.mk (K1 + K2 + K3) fun k hk => ?_
  rw [a11part.f, u64n (by omega), show IntKind.u64.wrap 9409 = 9409 from by decide, k1 k (by omega), Option.bind_some, if_pos rfl, if_pos rfl, k2 k (by omega), Option.bind_some, if_pos hc, k3 k (by omega), Option.bind_some]
end Go.Proofs.YtbjeemlbjkmhiaaDoor.Pure

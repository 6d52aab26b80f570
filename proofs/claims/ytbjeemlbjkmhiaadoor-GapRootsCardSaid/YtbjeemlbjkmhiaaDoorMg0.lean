/- Whole numbers modulo a prime, in plain words: congruence, Euclid's lemma, the four primes, Fermat's little theorem. No program in sight. -/
import Derived.Test.YtbjeemlbjkmhiaaDoorQ0
import Derived.Test.YtbjeemlbjkmhiaaDoorQ1
import Derived.Test.YtbjeemlbjkmhiaaDoorQ14
import Derived.Test.YtbjeemlbjkmhiaaDoorQ4
import Derived.Test.YtbjeemlbjkmhiaaDoorQ9
import Derived.Test.YtbjeemlbjkmhiaaDoorQ3
import Derived.Laws.BitsAllLaws
import Derived.Test.YtbjeemlbjkmhiaaDoorQ2
import Derived.Laws.Strings
import Derived.Lib.SplitLaws
import Derived.Lib.CountLaws
import Derived.Test.YtbjeemlbjkmhiaaDoorQ6
import Derived.Test.YtbjeemlbjkmhiaaDoorQ7
import Derived.Test.YtbjeemlbjkmhiaaDoorQ8
import Derived.Test.YtbjeemlbjkmhiaaDoorQ5
namespace Go.Proofs.YtbjeemlbjkmhiaaDoor.Num

def Cg (p a b : Int) : Prop := ∃ k, a = b + p * k

theorem Cg.refl (p a : Int) : Cg p a a := ⟨0, by simp⟩
theorem Cg.of_eq {p a b : Int} (h : a = b) : Cg p a b := ⟨0, by simp [h]⟩
theorem Cg.symm {p a b : Int} (h : Cg p a b) : Cg p b a := let ⟨k, e⟩ := h; ⟨-k, by rw [e]; grind⟩
theorem Cg.trans {p a b c : Int} (h : Cg p a b) (g : Cg p b c) : Cg p a c := let ⟨k, e⟩ := h; let ⟨l, f⟩ := g; ⟨k + l, by rw [e, f]; grind⟩
theorem Cg.add {p a b c d : Int} (h : Cg p a b) (g : Cg p c d) : Cg p (a + c) (b + d) := let ⟨k, e⟩ := h; let ⟨l, f⟩ := g; ⟨k + l, by rw [e, f]; grind⟩
theorem Cg.sub {p a b c d : Int} (h : Cg p a b) (g : Cg p c d) : Cg p (a - c) (b - d) := let ⟨k, e⟩ := h; let ⟨l, f⟩ := g; ⟨k - l, by rw [e, f]; grind⟩
theorem Cg.mul {p a b c d : Int} (h : Cg p a b) (g : Cg p c d) : Cg p (a * c) (b * d) := let ⟨k, e⟩ := h; let ⟨l, f⟩ := g; ⟨k * d + b * l + p * k * l, by rw [e, f]; grind⟩
theorem Cg.neg {p a b : Int} (h : Cg p a b) : Cg p (-a) (-b) := let ⟨k, e⟩ := h; ⟨-k, by rw [e]; grind⟩
theorem Cg.mod (p a : Int) : Cg p (a % p) a := ⟨-(a / p), by have := Int.emod_add_mul_ediv a p; grind⟩
theorem Cg.zero_of_dvd {p a : Int} (h : p ∣ a) : Cg p a 0 := let ⟨k, e⟩ := h; ⟨k, by rw [e]; grind⟩
theorem Cg.dvd {p a : Int} (h : Cg p a 0) : p ∣ a := let ⟨k, e⟩ := h; ⟨k, by rw [e]; grind⟩
theorem Cg.sub_zero {p a b : Int} (h : Cg p a b) : Cg p (a - b) 0 := let ⟨k, e⟩ := h; ⟨k, by rw [e]; grind⟩
theorem Cg.of_sub {p a b : Int} (h : Cg p (a - b) 0) : Cg p a b := let ⟨k, e⟩ := h; ⟨k, by grind⟩
theorem Cg.mod_eq {p a b : Int} (h : Cg p a b) : a % p = b % p := by
  obtain ⟨k, e⟩ := h
  rw [e, Int.add_mul_emod_self_left]
theorem Cg.uniq {p a b : Int} (h : Cg p a b) (ha : 0 ≤ a) (ha' : a < p) (hb : 0 ≤ b) (hb' : b < p) : a = b := by
  have := h.mod_eq
  rwa [Int.emod_eq_of_lt ha ha', Int.emod_eq_of_lt hb hb'] at this
theorem mod_nonneg {p : Int} (hp : 0 < p) (a : Int) : 0 ≤ a % p := Int.emod_nonneg _ (by omega)
theorem mod_lt {p : Int} (hp : 0 < p) (a : Int) : a % p < p := Int.emod_lt_of_pos _ hp
theorem mod_eq_zero {p a : Int} : a % p = 0 ↔ Cg p a 0 := ⟨fun h => Cg.zero_of_dvd (Int.dvd_of_emod_eq_zero h), fun h => Int.emod_eq_zero_of_dvd h.dvd⟩

structure Pr (p : Nat) : Prop where
  two : 2 ≤ p
  div : ∀ d, d ∣ p → d = 1 ∨ d = p

theorem Pr.nat {p : Nat} (h : Pr p) {a b : Nat} (hd : p ∣ a * b) : p ∣ a ∨ p ∣ b := by
  rcases h.div (Nat.gcd p a) (Nat.gcd_dvd_left p a) with e | e
  · exact Or.inr (Nat.Coprime.dvd_of_dvd_mul_left e hd)
  · exact Or.inl (e ▸ Nat.gcd_dvd_right p a)
theorem Pr.int {p : Nat} (h : Pr p) {a b : Int} (hd : Cg p (a * b) 0) : Cg p a 0 ∨ Cg p b 0 := by
  have h1 : p ∣ a.natAbs * b.natAbs := by
    rw [← Int.natAbs_mul]
    exact Int.ofNat_dvd_left.1 hd.dvd
  rcases h.nat h1 with e | e
  · exact Or.inl (Cg.zero_of_dvd (Int.ofNat_dvd_left.2 e))
  · exact Or.inr (Cg.zero_of_dvd (Int.ofNat_dvd_left.2 e))
theorem Pr.pos {p : Nat} (h : Pr p) : (0 : Int) < p := by have := h.two; omega

def noDiv (n : Nat) : Nat → Nat → Bool
  | 0, lo => n % lo != 0 || Nat.ble n lo || Nat.ble lo 1
  | f + 1, lo => noDiv n f lo && noDiv n f (lo + 2 ^ f)
theorem noDiv_spec {n : Nat} : ∀ (f lo : Nat), noDiv n f lo = true → ∀ d, lo ≤ d → d < lo + 2 ^ f → d ∣ n → d = 1 ∨ n ≤ d ∨ d = 0
  | 0, lo, h, d, h1, h2, hd => by
    obtain rfl : d = lo := by simp at h2; omega
    simp only [noDiv, Bool.or_eq_true, bne_iff_ne, ne_eq, Nat.ble_eq] at h
    rcases h with (h | h) | h
    · exact absurd (Nat.mod_eq_zero_of_dvd hd) h
    · exact Or.inr (Or.inl h)
    · omega
  | f + 1, lo, h, d, h1, h2, hd => by
    simp only [noDiv, Bool.and_eq_true] at h
    rw [Nat.pow_succ] at h2
    by_cases hlt : d < lo + 2 ^ f
    · exact noDiv_spec f lo h.1 d h1 hlt hd
    · exact noDiv_spec f _ h.2 d (by omega) (by omega) hd
theorem Pr.of_noDiv {n f : Nat} (h2 : 2 ≤ n) (hf : n < (2 ^ f) * (2 ^ f)) (h : noDiv n f 2 = true) : Pr n := by
  refine ⟨h2, fun d hd => ?_⟩
  obtain ⟨e, he⟩ := hd
  have hd0 : d ≠ 0 := by rintro rfl; simp at he; omega
  have he0 : e ≠ 0 := by rintro rfl; simp at he; omega
  rcases Nat.lt_or_ge d (2 ^ f) with hl | hl
  · by_cases h1 : d = 1
    · exact Or.inl h1
    · rcases noDiv_spec f 2 h d (by omega) (by omega) ⟨e, he⟩ with h3 | h3 | h3
      · exact Or.inl h3
      · have : d ≤ n := Nat.le_of_dvd (by omega) ⟨e, he⟩
        exact Or.inr (by omega)
      · exact absurd h3 hd0
  · rcases Nat.lt_or_ge e (2 ^ f) with hl' | hl'
    · by_cases h1 : e = 1
      · subst h1; exact Or.inr (by omega)
      · rcases noDiv_spec f 2 h e (by omega) (by omega) ⟨d, by rw [Nat.mul_comm]; exact he⟩ with h3 | h3 | h3
        · exact absurd h3 h1
        · have : e ≤ n := Nat.le_of_dvd (by omega) ⟨d, by rw [Nat.mul_comm]; exact he⟩
          have hen : e = n := by omega
          have hp : 0 < n := by omega
          rw [hen] at he
          have h4 : d * n = 1 * n := by omega
          exact Or.inl (Nat.eq_of_mul_eq_mul_right hp h4)
        · exact absurd h3 he0
    · have := Nat.mul_le_mul hl hl'
      omega
theorem pr97 : Pr 97 := Pr.of_noDiv (f := 4) (by decide) (by decide) (by decide +kernel)
theorem pr257 : Pr 257 := Pr.of_noDiv (f := 5) (by decide) (by decide) (by decide +kernel)
theorem pr12289 : Pr 12289 := Pr.of_noDiv (f := 7) (by decide) (by decide) (by decide +kernel)
theorem pr998244353 : Pr 998244353 := Pr.of_noDiv (f := 15) (by decide) (by decide) (by decide +kernel)

end Go.Proofs.YtbjeemlbjkmhiaaDoor.Num
namespace Go.Proofs.YtbjeemlbjkmhiaaDoor.Pol
open Num

def co (l : List Int) (i : Nat) : Int := l.getD i 0
def ev : List Int → Int → Int
  | [], _ => 0
  | c :: t, x => c + x * ev t x
def padd : List Int → List Int → List Int
  | [], b => b
  | x :: a, [] => x :: a
  | x :: a, y :: b => (x + y) :: padd a b
def psc (c : Int) (l : List Int) : List Int := l.map (c * ·)
def pmul : List Int → List Int → List Int
  | [], _ => []
  | c :: t, b => padd (psc c b) (0 :: pmul t b)
def psub (a b : List Int) : List Int := padd a (psc (-1) b)

@[simp] theorem co_nil (i : Nat) : co [] i = 0 := by simp [co]
@[simp] theorem co_cons_zero (c : Int) (t : List Int) : co (c :: t) 0 = c := by simp [co]
@[simp] theorem co_cons_succ (c : Int) (t : List Int) (i : Nat) : co (c :: t) (i + 1) = co t i := by simp [co]
theorem co_over {l : List Int} {i : Nat} (h : l.length ≤ i) : co l i = 0 := by simp [co, List.getD, List.getElem?_eq_none h]
theorem co_lt {l : List Int} {i : Nat} (h : i < l.length) : co l i = l[i] := by simp [co, List.getD, h]
theorem co_mem {l : List Int} {i : Nat} (h : i < l.length) : co l i ∈ l := by rw [co_lt h]; exact List.getElem_mem h
theorem co_padd : ∀ (a b : List Int) (i : Nat), co (padd a b) i = co a i + co b i
  | [], b, i => by simp [padd]
  | x :: a, [], i => by simp [padd]
  | x :: a, y :: b, 0 => by simp [padd]
  | x :: a, y :: b, i + 1 => by simp only [padd, co_cons_succ]; exact co_padd a b i
theorem co_psc (c : Int) : ∀ (l : List Int) (i : Nat), co (psc c l) i = c * co l i
  | [], i => by simp [psc]
  | x :: l, 0 => by simp [psc]
  | x :: l, i + 1 => by have := co_psc c l i; simp only [psc, List.map_cons, co_cons_succ] at this ⊢; exact this
theorem co_psub (a b : List Int) (i : Nat) : co (psub a b) i = co a i - co b i := by rw [psub, co_padd, co_psc]; omega
theorem co_pmul_zero' (c : Int) (t b : List Int) : co (pmul (c :: t) b) 0 = c * co b 0 := by simp [pmul, co_padd, co_psc]
theorem co_pmul_succ (c : Int) (t b : List Int) (i : Nat) : co (pmul (c :: t) b) (i + 1) = c * co b (i + 1) + co (pmul t b) i := by simp [pmul, co_padd, co_psc]
theorem ev_padd (x : Int) : ∀ a b : List Int, ev (padd a b) x = ev a x + ev b x
  | [], b => by simp [padd, ev]
  | c :: a, [] => by simp [padd, ev]
  | c :: a, d :: b => by simp only [padd, ev, ev_padd x a b]; grind
theorem ev_psc (x c : Int) : ∀ l : List Int, ev (psc c l) x = c * ev l x
  | [] => by simp [psc, ev]
  | d :: l => by
    have := ev_psc x c l
    simp only [psc, List.map_cons, ev] at this ⊢
    rw [this]; grind
theorem ev_pmul (x : Int) : ∀ a b : List Int, ev (pmul a b) x = ev a x * ev b x
  | [], b => by simp [pmul, ev]
  | c :: a, b => by
    rw [pmul, ev_padd, ev_psc, ev, ev, ev_pmul x a b]; grind
def EqP (p : Int) (a b : List Int) : Prop := ∀ i, Cg p (co a i) (co b i)
theorem EqP.refl (p : Int) (a : List Int) : EqP p a a := fun _ => Cg.refl _ _
theorem EqP.symm {p : Int} {a b : List Int} (h : EqP p a b) : EqP p b a := fun i => (h i).symm
theorem EqP.trans {p : Int} {a b c : List Int} (h : EqP p a b) (g : EqP p b c) : EqP p a c := fun i => (h i).trans (g i)
theorem EqP.padd {p : Int} {a b c d : List Int} (h : EqP p a b) (g : EqP p c d) : EqP p (padd a c) (padd b d) := fun i => by rw [co_padd, co_padd]; exact (h i).add (g i)
theorem EqP.psc {p : Int} {a b : List Int} {c d : Int} (g : Cg p c d) (h : EqP p a b) : EqP p (psc c a) (psc d b) := fun i => by rw [co_psc, co_psc]; exact g.mul (h i)
theorem EqP.psub {p : Int} {a b c d : List Int} (h : EqP p a b) (g : EqP p c d) : EqP p (psub a c) (psub b d) := fun i => by rw [co_psub, co_psub]; exact (h i).sub (g i)
theorem EqP.tail {p c d : Int} {a b : List Int} (h : EqP p (c :: a) (d :: b)) : EqP p a b := fun i => by simpa using h (i + 1)
theorem EqP.tail_nil {p c : Int} {a : List Int} (h : EqP p (c :: a) []) : EqP p a [] := fun i => by simpa using h (i + 1)
theorem ev_zero {p : Int} (x : Int) : ∀ {a : List Int}, EqP p a [] → Cg p (ev a x) 0
  | [], _ => Cg.refl _ _
  | c :: a, h => by
    have h0 : Cg p c 0 := by simpa using h 0
    have := h0.add ((Cg.refl p x).mul (ev_zero x h.tail_nil))
    simpa [ev] using this
theorem EqP.ev {p : Int} (x : Int) : ∀ {a b : List Int}, EqP p a b → Cg p (ev a x) (ev b x)
  | [], b, h => (ev_zero x h.symm).symm
  | c :: a, [], h => ev_zero x h
  | c :: a, d :: b, h => by
    have h0 : Cg p c d := by simpa using h 0
    exact h0.add ((Cg.refl p x).mul (EqP.ev x h.tail))
theorem pmul_zero_left {p : Int} {b : List Int} : ∀ {a : List Int}, EqP p a [] → EqP p (pmul a b) []
  | [], _ => EqP.refl _ _
  | c :: a, h => by
    have h0 : Cg p c 0 := by simpa using h 0
    intro i
    cases i with
    | zero => rw [co_pmul_zero']; simpa using h0.mul (Cg.refl p (co b 0))
    | succ i =>
      rw [co_pmul_succ]
      have := (h0.mul (Cg.refl p (co b (i + 1)))).add (pmul_zero_left (b := b) h.tail_nil i)
      simpa using this
theorem EqP.pmul_left {p : Int} {b : List Int} : ∀ {a c : List Int}, EqP p a c → EqP p (pmul a b) (pmul c b)
  | [], c, h => (pmul_zero_left h.symm).symm
  | x :: a, [], h => pmul_zero_left h
  | x :: a, y :: c, h => by
    have h0 : Cg p x y := by simpa using h 0
    intro i
    cases i with
    | zero => rw [co_pmul_zero', co_pmul_zero']; exact h0.mul (Cg.refl _ _)
    | succ i => rw [co_pmul_succ, co_pmul_succ]; exact (h0.mul (Cg.refl _ _)).add (EqP.pmul_left h.tail i)
theorem EqP.pmul_right {p : Int} {b d : List Int} (h : EqP p b d) : ∀ a : List Int, EqP p (pmul a b) (pmul a d)
  | [] => EqP.refl _ _
  | x :: a => by
    intro i
    cases i with
    | zero => rw [co_pmul_zero', co_pmul_zero']; exact (Cg.refl _ _).mul (h 0)
    | succ i => rw [co_pmul_succ, co_pmul_succ]; exact ((Cg.refl _ _).mul (h _)).add (EqP.pmul_right h a i)
theorem EqP.pmul {p : Int} {a b c d : List Int} (h : EqP p a c) (g : EqP p b d) : EqP p (pmul a b) (pmul c d) := (h.pmul_left).trans (g.pmul_right c)
def Deg (p : Int) (l : List Int) (n : Nat) : Prop := ∀ i, n ≤ i → Cg p (co l i) 0
theorem Deg.len (p : Int) (l : List Int) : Deg p l l.length := fun i h => by rw [co_over h]; exact Cg.refl _ _
theorem Deg.mono {p : Int} {l : List Int} {n m : Nat} (h : Deg p l n) (hn : n ≤ m) : Deg p l m := fun i hi => h i (Nat.le_trans hn hi)
theorem Deg.congr {p : Int} {a b : List Int} {n : Nat} (h : Deg p a n) (e : EqP p a b) : Deg p b n := fun i hi => (e i).symm.trans (h i hi)
theorem Deg.padd {p : Int} {a b : List Int} {n : Nat} (h : Deg p a n) (g : Deg p b n) : Deg p (padd a b) n := fun i hi => by
  rw [co_padd]; simpa using (h i hi).add (g i hi)
theorem Deg.psub {p : Int} {a b : List Int} {n : Nat} (h : Deg p a n) (g : Deg p b n) : Deg p (psub a b) n := fun i hi => by
  rw [co_psub]; simpa using (h i hi).sub (g i hi)
theorem Deg.psc {p c : Int} {a : List Int} {n : Nat} (h : Deg p a n) : Deg p (psc c a) n := fun i hi => by
  rw [co_psc]; simpa using (Cg.refl p c).mul (h i hi)
theorem Deg.tail {p c : Int} {a : List Int} {n : Nat} (h : Deg p (c :: a) (n + 1)) : Deg p a n := fun i hi => by simpa using h (i + 1) (by omega)
theorem Deg.nil {p : Int} {a : List Int} (h : Deg p a 0) : EqP p a [] := fun i => by simpa using h i (Nat.zero_le _)
theorem Deg.pmul {p : Int} {b : List Int} {n : Nat} (hb : Deg p b (n + 1)) : ∀ {a : List Int} {m : Nat}, Deg p a m → Deg p (pmul a b) (m + n)
  | [], m, _ => fun i _ => by simp [Pol.pmul]; exact Cg.refl _ _
  | c :: t, 0, ha => fun i _ => by simpa using pmul_zero_left (b := b) ha.nil i
  | c :: t, m + 1, ha => fun i hi => by
    obtain ⟨j, rfl⟩ : ∃ j, i = j + 1 := ⟨i - 1, by omega⟩
    rw [co_pmul_succ]
    have h1 := (Cg.refl p c).mul (hb (j + 1) (by omega))
    have := h1.add (Deg.pmul hb ha.tail j (by omega))
    simpa using this

def quo : List Int → Int → List Int
  | [], _ => []
  | _ :: t, r => ev t r :: quo t r
theorem quo_ev (x r : Int) : ∀ a : List Int, ev a x = ev a r + (x - r) * ev (quo a r) x
  | [] => by simp [ev, quo]
  | c :: t => by
    have h := quo_ev x r t
    simp only [ev, quo]
    rw [h]; grind
theorem quo_co (r : Int) : ∀ (a : List Int) (i : Nat), co (quo a r) i = ev (a.drop (i + 1)) r
  | [], i => by simp [quo, ev]
  | c :: t, 0 => by simp [quo]
  | c :: t, i + 1 => by simp only [quo, co_cons_succ, List.drop_succ_cons]; exact quo_co r t i
theorem co_drop (a : List Int) (k i : Nat) : co (a.drop k) i = co a (k + i) := by simp [co, List.getD]
theorem ev_step (r : Int) : ∀ (a : List Int) (i : Nat), ev (a.drop i) r = co a i + r * ev (a.drop (i + 1)) r
  | [], i => by simp [ev]
  | c :: t, 0 => by simp [ev]
  | c :: t, i + 1 => by simp only [List.drop_succ_cons, co_cons_succ]; exact ev_step r t i
theorem Deg.quo {p : Int} {a : List Int} {n : Nat} (h : Deg p a (n + 1)) (r : Int) : Deg p (quo a r) n := fun i hi => by
  rw [quo_co]
  refine ev_zero r fun j => ?_
  rw [co_drop]
  simpa using h (i + 1 + j) (by omega)
def Apart (p : Int) : List Int → Prop
  | [] => True
  | x :: l => (∀ y ∈ l, ¬ Cg p x y) ∧ Apart p l
theorem roots {p : Nat} (hp : Pr p) : ∀ (xs : List Int) (a : List Int), Apart p xs → Deg p a xs.length → (∀ x ∈ xs, Cg p (ev a x) 0) → EqP p a []
  | [], a, _, hd, _ => hd.nil
  | r :: xs, a, hx, hd, hr => by
    have h0 := hr r (List.mem_cons_self ..)
    have hq : EqP p (quo a r) [] := by
      refine roots hp xs (quo a r) hx.2 (hd.quo r) fun x hxm => ?_
      have h1 := hr x (List.mem_cons_of_mem _ hxm)
      rw [quo_ev x r a] at h1
      have h2 : Cg p ((x - r) * ev (quo a r) x) 0 := by
        have := h1.sub h0
        have e : ev a r + (x - r) * ev (quo a r) x - ev a r = (x - r) * ev (quo a r) x := by omega
        rw [e] at this
        simpa using this
      rcases hp.int h2 with h3 | h3
      · exact absurd (Cg.of_sub h3).symm (hx.1 x hxm)
      · exact h3
    intro i
    have h1 : ∀ i, Cg p (ev (a.drop (i + 1)) r) 0 := fun i => by
      have := hq i
      rwa [quo_co, co_nil] at this
    have h2 : Cg p (ev (a.drop i) r) 0 := by
      cases i with
      | zero => simpa using h0
      | succ i => exact h1 i
    have h3 := ev_step r a i
    have h4 := h2.sub ((Cg.refl p r).mul (h1 i))
    have e : ev (a.drop i) r - r * ev (a.drop (i + 1)) r = co a i := by omega
    rw [e] at h4
    simpa using h4
def trm : List Int → List Int
  | [] => []
  | c :: t => if trm t = [] ∧ c = 0 then [] else c :: trm t
def Lz (l : List Int) : Prop := ∀ n, l.length = n + 1 → co l n ≠ 0
theorem Lz.eq {a b : List Int} (ha : Lz a) (hb : Lz b) (h : ∀ i, co a i = co b i) : a = b := by
  have hl : a.length = b.length := by
    rcases Nat.lt_trichotomy a.length b.length with e | e | e
    · obtain ⟨n, hn⟩ : ∃ n, b.length = n + 1 := ⟨b.length - 1, by omega⟩
      exact absurd ((h n).symm.trans (co_over (by omega))) (hb n hn)
    · exact e
    · obtain ⟨n, hn⟩ : ∃ n, a.length = n + 1 := ⟨a.length - 1, by omega⟩
      exact absurd ((h n).trans (co_over (by omega))) (ha n hn)
  refine List.ext_getElem hl fun i h1 h2 => ?_
  have := h i
  rwa [co_lt h1, co_lt h2] at this
theorem trm_co : ∀ (l : List Int) (i : Nat), co (trm l) i = co l i
  | [], i => rfl
  | c :: t, i => by
    have ih := trm_co t
    unfold trm
    split
    · rename_i h
      cases i with
      | zero => simp [h.2]
      | succ i => have := ih i; rw [h.1] at this; simpa using this
    · cases i with
      | zero => simp
      | succ i => simpa using ih i
theorem trm_lz : ∀ l : List Int, Lz (trm l)
  | [] => fun n h => by simp [trm] at h
  | c :: t => by
    have ih := trm_lz t
    unfold trm
    split
    · intro n h; simp at h
    · rename_i hc
      intro n h
      cases n with
      | zero =>
        have : trm t = [] := by simpa using h
        intro h0
        exact hc ⟨this, by simpa using h0⟩
      | succ n => rw [co_cons_succ]; exact ih n (by simpa using h)
theorem trm_eq {l : List Int} {m : Nat} (hm : m ≤ l.length) (hz : ∀ i, m ≤ i → co l i = 0) (hl : ∀ n, m = n + 1 → co l n ≠ 0) : l.take m = trm l := by
  have hco : ∀ i, co (l.take m) i = co l i := fun i => by
    by_cases h : i < m
    · rw [co_lt (by simp; omega), co_lt (by omega)]; simp
    · rw [hz i (by omega), co_over (by simp; omega)]
  refine Lz.eq (fun n hn => ?_) (trm_lz l) (fun i => (hco i).trans (trm_co l i).symm)
  rw [hco]
  exact hl n (by simp at hn; omega)
theorem trm_length_le (l : List Int) : (trm l).length ≤ l.length := by
  induction l with
  | nil => simp [trm]
  | cons c t ih => unfold trm; split <;> simp; omega
def nrm (p : Int) (l : List Int) : List Int := trm (l.map (· % p))
theorem co_map_mod (p : Int) : ∀ (l : List Int) (i : Nat), co (l.map (· % p)) i = co l i % p
  | [], i => by simp
  | c :: t, 0 => by simp
  | c :: t, i + 1 => by simpa using co_map_mod p t i
theorem nrm_co (p : Int) (l : List Int) (i : Nat) : co (nrm p l) i = co l i % p := by rw [nrm, trm_co, co_map_mod]
theorem nrm_eqp (p : Int) (l : List Int) : EqP p (nrm p l) l := fun i => by rw [nrm_co]; exact Cg.mod _ _
structure Nf (p : Int) (l : List Int) : Prop where
  rng : ∀ i, 0 ≤ co l i ∧ co l i < p
  lz : Lz l
theorem nrm_nf {p : Int} (hp : 0 < p) (l : List Int) : Nf p (nrm p l) := ⟨fun i => by rw [nrm_co]; exact ⟨mod_nonneg hp _, mod_lt hp _⟩, trm_lz _⟩
theorem Nf.eq {p : Int} {a b : List Int} (ha : Nf p a) (hb : Nf p b) (h : EqP p a b) : a = b :=
  ha.lz.eq hb.lz fun i => (h i).uniq (ha.rng i).1 (ha.rng i).2 (hb.rng i).1 (hb.rng i).2
theorem nrm_congr {p : Int} {a b : List Int} (h : EqP p a b) : nrm p a = nrm p b :=
  (trm_lz _).eq (trm_lz _) fun i => by
    have e := (h i).mod_eq
    rw [← nrm_co, ← nrm_co] at e
    exact e
theorem nrm_nil (p : Int) : nrm p [] = [] := rfl
theorem nrm_length_le (p : Int) (l : List Int) : (nrm p l).length ≤ l.length := by have := trm_length_le (l.map (· % p)); simpa [nrm] using this
theorem nrm_deg {p : Int} (hp : 0 < p) {l : List Int} {n : Nat} (h : Deg p l n) : (nrm p l).length ≤ n := by
  rcases Nat.lt_or_ge n (nrm p l).length with e | e
  · obtain ⟨m, hm⟩ : ∃ m, (nrm p l).length = m + 1 := ⟨(nrm p l).length - 1, by omega⟩
    refine absurd ?_ ((nrm_nf hp l).lz m hm)
    rw [nrm_co]
    exact mod_eq_zero.2 (h m (by omega))
  · exact e
theorem Deg.of_nrm {p : Int} {l : List Int} : Deg p l (nrm p l).length := fun i hi => by
  have := nrm_eqp p l i
  rw [co_over hi] at this
  exact this.symm
theorem nrm_eq_nil {p : Int} {l : List Int} : nrm p l = [] ↔ EqP p l [] := by
  constructor
  · intro h
    have := nrm_eqp p l
    rw [h] at this
    exact this.symm
  · intro h; exact (nrm_congr h).trans (nrm_nil p)
def Mon (v : List Int) (n : Nat) : Prop := co v n = 1 ∧ ∀ i, n < i → co v i = 0
theorem Mon.one : Mon [1] 0 := ⟨by simp, fun i hi => co_over (by simp; omega)⟩
theorem Mon.deg {p : Int} {v : List Int} {n : Nat} (h : Mon v n) : Deg p v (n + 1) := fun i hi => by rw [h.2 i (by omega)]; exact Cg.refl _ _
theorem Mon.length {p : Int} (hp : 1 < p) {v : List Int} {n : Nat} (h : Mon v n) : (nrm p v).length = n + 1 := by
  have h1 := nrm_deg (by omega) (h.deg (p := p))
  rcases Nat.lt_or_ge n (nrm p v).length with e | e
  · omega
  · have := nrm_co p v n
    rw [co_over e, h.1, Int.emod_eq_of_lt (by omega) hp] at this
    omega
end Go.Proofs.YtbjeemlbjkmhiaaDoor.Pol
namespace Go.Proofs.YtbjeemlbjkmhiaaDoor.Pol
open Num

def cnt : Nat → (Nat → Bool) → Nat
  | 0, _ => 0
  | n + 1, P => cnt n P + if P n = true then 1 else 0
def lst : Nat → (Nat → Bool) → List Nat
  | 0, _ => []
  | n + 1, P => if P n = true then n :: lst n P else lst n P
theorem lst_length : ∀ (n : Nat) (P : Nat → Bool), (lst n P).length = cnt n P
  | 0, _ => rfl
  | n + 1, P => by
    have := lst_length n P
    simp only [lst, cnt]
    split <;> simp [this]
theorem lst_mem {x : Nat} : ∀ {n : Nat} {P : Nat → Bool}, x ∈ lst n P ↔ x < n ∧ P x = true
  | 0, _ => by simp [lst]
  | n + 1, P => by
    have ih := lst_mem (x := x) (n := n) (P := P)
    simp only [lst]
    split
    · rename_i h
      rw [List.mem_cons, ih]
      constructor
      · rintro (rfl | ⟨h1, h2⟩)
        · exact ⟨by omega, h⟩
        · exact ⟨by omega, h2⟩
      · rintro ⟨h1, h2⟩
        by_cases e : x = n
        · exact Or.inl e
        · exact Or.inr ⟨by omega, h2⟩
    · rename_i h
      rw [ih]
      constructor
      · rintro ⟨h1, h2⟩; exact ⟨by omega, h2⟩
      · rintro ⟨h1, h2⟩
        refine ⟨?_, h2⟩
        by_cases e : x = n
        · subst e; exact absurd h2 h
        · omega
theorem cnt_le (P : Nat → Bool) : ∀ n, cnt n P ≤ n
  | 0 => Nat.le_refl _
  | n + 1 => by have := cnt_le P n; simp only [cnt]; split <;> omega
theorem cnt_all {P : Nat → Bool} : ∀ {n : Nat}, (∀ x, x < n → P x = true) → cnt n P = n
  | 0, _ => rfl
  | n + 1, h => by simp only [cnt]; rw [cnt_all fun x hx => h x (by omega), if_pos (h n (by omega))]
theorem apart_lst {p : Nat} (P : Nat → Bool) : ∀ n, n ≤ p → Apart p ((lst n P).map fun x : Nat => (x : Int))
  | 0, _ => trivial
  | n + 1, h => by
    have ih := apart_lst (p := p) P n (by omega)
    simp only [lst]
    split
    · refine ⟨fun y hy => ?_, ih⟩
      obtain ⟨x, hx, rfl⟩ := List.mem_map.1 hy
      replace hx := (lst_mem.1 hx).1
      intro hc
      replace hc : Cg p (n : Int) (x : Int) := hc
      have := hc.uniq (by omega) (by omega) (by omega) (by omega)
      omega
    · exact ih
def zro (p : Nat) (x : Int) : Bool := x % (p : Int) == 0
theorem zro_iff {p : Nat} {x : Int} : zro p x = true ↔ Cg p x 0 := by rw [zro, beq_iff_eq]; exact mod_eq_zero
theorem cnt_roots {p : Nat} (hp : Pr p) {a : List Int} {n : Nat} (hd : Deg p a (n + 1)) (hne : ¬ EqP p a []) : cnt p (fun x => zro p (ev a x)) ≤ n := by
  rcases Nat.lt_or_ge n (cnt p (fun x => zro p (ev a x))) with hlt | hge
  · refine absurd (roots hp _ a (apart_lst (fun x => zro p (ev a x)) p (Nat.le_refl _)) ?_ ?_) hne
    · rw [List.length_map, lst_length]; exact hd.mono hlt
    · intro x hx
      obtain ⟨y, hy, rfl⟩ := List.mem_map.1 hx
      exact zro_iff.1 (lst_mem.1 hy).2
  · exact hge
def W (p s : Nat) : Nat → (Int → Int → Int) → Prop
  | 0, F => ∃ a, Deg p a 1 ∧ ∀ c d, Cg p (F c d) (ev a d)
  | n + 1, F => ∃ a G, Deg p a ((n + 1) * s + 1) ∧ W p s n G ∧ ∀ c d, Cg p (F c d) (ev a d + c * G c d)
theorem W.congr {p s : Nat} : ∀ {n : Nat} {F G : Int → Int → Int}, W p s n F → (∀ c d, Cg p (G c d) (F c d)) → W p s n G
  | 0, _, _, ⟨a, ha, h⟩, g => ⟨a, ha, fun c d => (g c d).trans (h c d)⟩
  | _ + 1, _, _, ⟨a, K, ha, hK, h⟩, g => ⟨a, K, ha, hK, fun c d => (g c d).trans (h c d)⟩
theorem W.zero (p s : Nat) : ∀ n, W p s n (fun _ _ => 0)
  | 0 => ⟨[], Deg.mono (Deg.len _ _) (Nat.zero_le _), fun _ _ => Cg.refl _ _⟩
  | n + 1 => ⟨[], fun _ _ => 0, Deg.mono (Deg.len _ _) (Nat.zero_le _), W.zero p s n, fun c d => by simp [ev]; exact Cg.refl _ _⟩
theorem W.one (p s : Nat) : W p s 0 (fun _ _ => 1) := ⟨[1], Deg.len _ _, fun c d => by simp [ev]; exact Cg.refl _ _⟩
theorem W.add {p s : Nat} : ∀ {n : Nat} {F G : Int → Int → Int}, W p s n F → W p s n G → W p s n (fun c d => F c d + G c d)
  | 0, _, _, ⟨a, ha, h⟩, ⟨b, hb, g⟩ => ⟨padd a b, ha.padd hb, fun c d => by rw [ev_padd]; exact (h c d).add (g c d)⟩
  | n + 1, _, _, ⟨a, K, ha, hK, h⟩, ⟨b, L, hb, hL, g⟩ => ⟨padd a b, fun c d => K c d + L c d, ha.padd hb, hK.add hL, fun c d => by
      rw [ev_padd]
      exact ((h c d).add (g c d)).trans (Cg.of_eq (by grind))⟩
theorem W.mulc {p s : Nat} (e : Int) : ∀ {n : Nat} {F : Int → Int → Int}, W p s n F → W p s n (fun c d => e * F c d)
  | 0, _, ⟨a, ha, h⟩ => ⟨Pol.psc e a, ha.psc, fun c d => by rw [ev_psc]; exact (Cg.refl _ _).mul (h c d)⟩
  | n + 1, _, ⟨a, K, ha, hK, h⟩ => ⟨Pol.psc e a, fun c d => e * K c d, ha.psc, hK.mulc e, fun c d => by
      rw [ev_psc]
      exact ((Cg.refl p e).mul (h c d)).trans (Cg.of_eq (by grind))⟩
theorem W.sub {p s n : Nat} {F G : Int → Int → Int} (h : W p s n F) (g : W p s n G) : W p s n (fun c d => F c d - G c d) :=
  (h.add (g.mulc (-1))).congr fun c d => Cg.of_eq (by omega)
theorem deg_pmul {p : Nat} {a b : List Int} {m n : Nat} (ha : Deg p a (m + 1)) (hb : Deg p b (n + 1)) : Deg p (pmul a b) (m + n + 1) := by
  have := Deg.pmul hb ha
  exact this.mono (by omega)
theorem W.mulv {p s : Nat} {v : List Int} (hv : Deg p v (s + 1)) : ∀ {n : Nat} {F : Int → Int → Int}, W p s n F → W p s (n + 1) (fun c d => ev v d * F c d)
  | 0, _, ⟨a, ha, h⟩ => ⟨pmul v a, fun _ _ => 0, (deg_pmul hv ha).mono (by simp), W.zero _ _ _, fun c d => by
      rw [ev_pmul]
      exact ((Cg.refl _ _).mul (h c d)).trans (Cg.of_eq (by grind))⟩
  | n + 1, _, ⟨a, K, ha, hK, h⟩ => ⟨pmul v a, fun c d => ev v d * K c d, (deg_pmul hv ha).mono (by grind), hK.mulv hv, fun c d => by
      rw [ev_pmul]
      exact ((Cg.refl p (ev v d)).mul (h c d)).trans (Cg.of_eq (by grind))⟩
theorem W.mulC {p s n : Nat} {F : Int → Int → Int} (h : W p s n F) : W p s (n + 1) (fun c d => c * F c d) :=
  ⟨[], F, Deg.mono (Deg.len _ _) (Nat.zero_le _), h, fun c d => by simp [ev]; exact Cg.refl _ _⟩
theorem W.mul {p s n : Nat} {v : List Int} (hv : Deg p v (s + 1)) {F : Int → Int → Int} (h : W p s n F) : W p s (n + 1) (fun c d => (c + ev v d) * F c d) :=
  (h.mulC.add (h.mulv hv)).congr fun c d => Cg.of_eq (by grind)
end Go.Proofs.YtbjeemlbjkmhiaaDoor.Pol
namespace Go.Proofs.YtbjeemlbjkmhiaaDoor.Pol
open Num

end Go.Proofs.YtbjeemlbjkmhiaaDoor.Pol
namespace Go.Proofs.YtbjeemlbjkmhiaaDoor.Pure
open Go.RowKit Go.Proofs.YtbjeemlbjkmhiaaDoor.Q Go.Proofs.YtbjeemlbjkmhiaaDoor.Num Go.Proofs.YtbjeemlbjkmhiaaDoor.Pol Go.Proofs.YtbjeemlbjkmhiaaDoorW.PrintWords Go.Proofs.YtbjeemlbjkmhiaaDoorW.PrintLast Go.Proofs.YtbjeemlbjkmhiaaDoorW.PrintMore

def Ev {α : Type} (F : Nat → Option α) (v : α) : Prop := ∃ K, ∀ k, K ≤ k → F k = some v
theorem Ev.all {α : Type} {F : Nat → Option α} {v : α} (h : ∀ k, F k = some v) : Ev F v := ⟨0, fun k _ => h k⟩
theorem Ev.mk {α : Type} {F : Nat → Option α} {v : α} (K : Nat) (h : ∀ k, K ≤ k → F k = some v) : Ev F v := ⟨K, h⟩
theorem Ev.mks {α : Type} {F : Nat → Option α} {v : α} (K : Nat) (h : ∀ k, K ≤ k → F (k + 1) = some v) : Ev F v := ⟨K + 1, fun k hk => by
  obtain ⟨k, rfl⟩ : ∃ k', k = k' + 1 := ⟨k - 1, by omega⟩
  exact h k (by omega)⟩
theorem Ev.get {α : Type} {F : Nat → Option α} {v : α} (h : Ev F v) : ∃ K, ∀ k, K ≤ k → F k = some v := h
theorem Ev.ex {α : Type} {F : Nat → Option α} {v : α} (h : Ev F v) : ∃ k, F k = some v := let ⟨K, hK⟩ := h; ⟨K, hK K (Nat.le_refl _)⟩
theorem Ev.succ {α : Type} {F G : Nat → Option α} {v : α} (h : ∀ k, G (k + 1) = F k) (hF : Ev F v) : Ev G v := by
  obtain ⟨K, hK⟩ := hF
  refine ⟨K + 1, fun k hk => ?_⟩
  obtain ⟨j, rfl⟩ : ∃ j, k = j + 1 := ⟨k - 1, by omega⟩
  rw [h]
  exact hK j (by omega)
theorem Ev.congr {α : Type} {F G : Nat → Option α} {v : α} (h : ∀ k, G k = F k) (hF : Ev F v) : Ev G v := by
  obtain ⟨K, hK⟩ := hF
  exact ⟨K, fun k hk => (h k).trans (hK k hk)⟩
theorem Ev.bind {α β : Type} {F : Nat → Option α} {G : Nat → α → Option β} {a : α} {b : β} (hF : Ev F a) (hG : Ev (fun k => G k a) b) : Ev (fun k => (F k).bind (G k)) b := by
  obtain ⟨K, hK⟩ := hF
  obtain ⟨L, hL⟩ := hG
  refine ⟨max K L, fun k hk => ?_⟩
  show (F k).bind (G k) = some b
  rw [hK k (by omega)]
  exact hL k (by omega)
theorem Ev.of_mono {α : Type} {F : Nat → Option α} {v : α} (hm : ∀ k, LeO (F k) (F (k + 1))) {K : Nat} (h : F K = some v) : Ev F v := by
  refine ⟨K, fun k hk => ?_⟩
  obtain ⟨d, rfl⟩ : ∃ d, k = K + d := ⟨k - K, by omega⟩
  clear hk
  induction d with
  | zero => exact h
  | succ d ih => exact hm _ _ ih
theorem Ev.uniq {α : Type} {F : Nat → Option α} {v w : α} (h : Ev F v) (g : Ev F w) : v = w := by
  obtain ⟨K, hK⟩ := h
  obtain ⟨L, hL⟩ := g
  exact Option.some.inj ((hK (max K L) (by omega)).symm.trans (hL (max K L) (by omega)))

def U (x : Int) : Prop := 0 ≤ x ∧ x < 18446744073709551616
def UL (l : List Int) : Prop := ∀ c ∈ l, U c
theorem U.zero : U 0 := by unfold U; omega
theorem U.of_wf {x : Int} (h : (Lit.int .u64 x).wf = true) : U x := by
  simp [Lit.wf, IntKind.min, IntKind.max, IntKind.bits, IntKind.signed] at h
  unfold U; omega
theorem U.co {l : List Int} (h : UL l) (i : Nat) : U (co l i) := by
  by_cases hi : i < l.length
  · exact h _ (co_mem hi)
  · rw [co_over (by omega)]; exact U.zero
theorem UL.nil : UL [] := fun _ h => by simp at h
theorem UL.cons {c : Int} {l : List Int} (h : U c) (g : UL l) : UL (c :: l) := fun x hx => (List.mem_cons.1 hx).elim (fun e => e ▸ h) (g x)
theorem UL.append {a b : List Int} (h : UL a) (g : UL b) : UL (a ++ b) := fun x hx => (List.mem_append.1 hx).elim (h x) (g x)
theorem UL.take {a : List Int} (h : UL a) (n : Nat) : UL (a.take n) := fun _ hx => h _ (List.mem_of_mem_take hx)
theorem UL.replicate (n : Nat) : UL (List.replicate n 0) := fun x hx => by rw [(List.mem_replicate.1 hx).2]; exact U.zero
theorem UL.set {a : List Int} (h : UL a) {x : Int} (hx : U x) (i : Nat) : UL (a.set i x) := fun y hy => by
  rcases List.mem_or_eq_of_mem_set hy with hy | rfl
  · exact h _ hy
  · exact hx
theorem UL.of_wf {l : List Int} (h : ∀ x ∈ l, (Lit.int .u64 x).wf = true) : UL l := fun x hx => U.of_wf (h x hx)

theorem w64 {n : Int} (h1 : -9223372036854775808 ≤ n) (h2 : n ≤ 9223372036854775807) : wrap64 n = n := by unfold wrap64; omega
theorem w64_succ {i : Nat} (h : i < 9223372036854775807) : wrap64 ((i : Int) + 1) = ((i + 1 : Nat) : Int) := by rw [w64 (by omega) (by omega)]; omega
theorem wu64 {n : Int} (h1 : 0 ≤ n) (h2 : n < 18446744073709551616) : IntKind.u64.wrap n = n := by rw [IntKind.wrap_u64]; omega
theorem rd_nat (l : List Int) (i : Nat) : rd l (i : Int) = co l i := by simp [rd, co]
theorem tmod_nn {a : Int} (h : 0 ≤ a) (p : Int) : Int.tmod a p = a % p := Int.tmod_eq_emod_of_nonneg h
theorem co_set {l : List Int} {i : Nat} (h : i < l.length) (x : Int) (j : Nat) : co (l.set i x) j = if j = i then x else co l j := by
  unfold co
  rw [List.getD_eq_getElem?_getD, List.getD_eq_getElem?_getD, List.getElem?_set]
  by_cases e : i = j
  · subst e; simp [h]
  · simp [e, Ne.symm e]
theorem co_replicate (n i : Nat) : co (List.replicate n 0) i = 0 := by
  by_cases h : i < n
  · rw [co_lt (by simpa using h)]; simp
  · exact co_over (by simpa using h)
theorem co_append (a b : List Int) (i : Nat) : co (a ++ b) i = if i < a.length then co a i else co b (i - a.length) := by
  unfold co
  rw [List.getD_eq_getElem?_getD, List.getElem?_append]
  split <;> simp
theorem co_take (a : List Int) (n i : Nat) : co (a.take n) i = if i < n then co a i else 0 := by
  unfold co
  rw [List.getD_eq_getElem?_getD, List.getElem?_take]
  split <;> simp
theorem ext_co {a b : List Int} (hl : a.length = b.length) (h : ∀ i, i < a.length → co a i = co b i) : a = b := by
  refine List.ext_getElem hl fun i h1 h2 => ?_
  have := h i h1
  rwa [co_lt h1, co_lt h2] at this
end Go.Proofs.YtbjeemlbjkmhiaaDoor.Pure
namespace Go.Proofs.YtbjeemlbjkmhiaaDoor.Pure
open Go.RowKit Go.Proofs.YtbjeemlbjkmhiaaDoor.Q Go.Proofs.YtbjeemlbjkmhiaaDoor.Num Go.Proofs.YtbjeemlbjkmhiaaDoor.Pol Go.Proofs.YtbjeemlbjkmhiaaDoorW.PrintWords Go.Proofs.YtbjeemlbjkmhiaaDoorW.PrintLast Go.Proofs.YtbjeemlbjkmhiaaDoorW.PrintMore

structure FP (f : Int) (p : Nat) : Prop where
  lo : 0 ≤ f
  hi : f < 4
  eq : pOf f = p
  pr : Pr p
  le : p ≤ 998244353
theorem fp_of {f : Int} (h0 : 0 ≤ f) (h1 : f < 4) : ∃ p, FP f p := by
  have : f = 0 ∨ f = 1 ∨ f = 2 ∨ f = 3 := by omega
  rcases this with rfl | rfl | rfl | rfl
  · exact ⟨97, by omega, by omega, rfl, pr97, by omega⟩
  · exact ⟨257, by omega, by omega, rfl, pr257, by omega⟩
  · exact ⟨12289, by omega, by omega, rfl, pr12289, by omega⟩
  · exact ⟨998244353, by omega, by omega, rfl, pr998244353, by omega⟩
theorem FP.pos {f : Int} {p : Nat} (h : FP f p) : (0 : Int) < p := h.pr.pos
theorem FP.one {f : Int} {p : Nat} (h : FP f p) : (1 : Int) < p := by have := h.pr.two; omega
theorem FP.lei {f : Int} {p : Nat} (h : FP f p) : (p : Int) ≤ 998244353 := by have := h.le; omega
theorem FP.mod {f : Int} {p : Nat} (h : FP f p) (a : Int) : 0 ≤ a % p ∧ a % p < p := ⟨mod_nonneg h.pos a, mod_lt h.pos a⟩
theorem FP.U {f : Int} {p : Nat} (h : FP f p) (a : Int) : U (a % p) := by have := h.mod a; have := h.lei; unfold Pure.U; omega
theorem pOf_bad {f : Int} (h : f < 0 ∨ 4 ≤ f) : pOf f = 0 := by
  unfold pOf
  rw [if_neg (by omega), if_neg (by omega), if_neg (by omega), if_neg (by omega)]

section good
variable {f : Int} {p : Nat} (h : FP f p)
include h
theorem s_Valid : field_Valid.f f = some true := by
  unfold field_Valid.f
  rw [if_pos h.lo, decide_eq_true h.hi]
theorem s_P : field_P.f f = some (p : Int) := by simp [field_P.f, h.eq]
theorem s_Reduce {x : Int} (hx : 0 ≤ x) : field_Reduce.f f x = some (x % p) := by
  have := h.pos
  simp only [field_Reduce.f, s_Valid h, s_P h, Option.bind_some, if_true]
  rw [if_neg (by omega), tmod_nn hx]
theorem s_Add {a b : Int} (ha : 0 ≤ a) (hb : 0 ≤ b) : field_Add.f f a b = some ((a + b) % p) := by
  have hp := h.pos
  have ma := h.mod a
  have mb := h.mod b
  have hl := h.lei
  simp only [field_Add.f, s_P h, Option.bind_some]
  rw [if_neg (by omega), tmod_nn ha, tmod_nn hb, wu64 (by omega) (by omega)]
  have e : (a + b) % p = (a % p + b % p) % p := by rw [← Int.add_emod]
  by_cases hc : a % p + b % p ≥ p
  · rw [if_pos hc, wu64 (by omega) (by omega), e]
    have : (a % p + b % p) % p = (a % p + b % p - p) % p := by rw [← Int.sub_emod_right]
    rw [this]
    exact congrArg some (Int.emod_eq_of_lt (by omega) (by omega)).symm
  · rw [if_neg hc, e]
    exact congrArg some (Int.emod_eq_of_lt (by omega) (by omega)).symm
theorem s_Neg {a : Int} (ha : 0 ≤ a) : field_Neg.f f a = some ((-a) % p) := by
  have hp := h.pos
  have ma := h.mod a
  have hl := h.lei
  simp only [field_Neg.f, s_P h, Option.bind_some]
  rw [if_neg (by omega), tmod_nn ha]
  have e : (-a) % p = (-(a % p)) % p := Cg.mod_eq (Cg.neg (Cg.mod p a).symm)
  by_cases h0 : a % p = 0
  · rw [if_pos h0, e, h0]; simp
  · rw [if_neg h0, wu64 (by omega) (by omega), e]
    have : (-(a % p)) % p = (p - a % p) % p := by
      have : (p : Int) - a % p = -(a % p) + p * 1 := by omega
      rw [this, Int.add_mul_emod_self_left]
    rw [this]
    exact congrArg some (Int.emod_eq_of_lt (by omega) (by omega)).symm
theorem s_Mul {a b : Int} (ha : 0 ≤ a) (hb : 0 ≤ b) : field_Mul.f f a b = some ((a * b) % p) := by
  have hp := h.pos
  have ma := h.mod a
  have mb := h.mod b
  have hl := h.lei
  have h1 : 0 ≤ (a % p) * (b % p) := Int.mul_nonneg ma.1 mb.1
  have h2 : (a % p) * (b % p) ≤ 998244353 * 998244353 := Int.mul_le_mul (by omega) (by omega) mb.1 (by omega)
  simp only [field_Mul.f, s_P h, Option.bind_some]
  rw [if_neg (by omega), tmod_nn ha, tmod_nn hb, wu64 h1 (by omega), tmod_nn h1]
  congr 1
  exact Cg.mod_eq ((Cg.mod p a).mul (Cg.mod p b))
end good

section good2
variable {f : Int} {p : Nat} (h : FP f p)
include h
end good2

section bad
variable {f : Int} (h : f < 0 ∨ 4 ≤ f)
include h
theorem b_Valid : field_Valid.f f = some false := by
  unfold field_Valid.f
  rcases h with h | h
  · rw [if_neg (by omega)]
  · rw [if_pos (by omega), decide_eq_false (by omega)]
theorem b_P : field_P.f f = some 0 := by simp [field_P.f, pOf_bad h]
theorem b_Reduce (x : Int) : field_Reduce.f f x = some 0 := by simp [field_Reduce.f, b_Valid h]
theorem b_Add (a b : Int) : field_Add.f f a b = some 0 := by simp [field_Add.f, b_P h]
theorem b_Neg (a : Int) : field_Neg.f f a = some 0 := by simp [field_Neg.f, b_P h]
theorem b_Mul (a b : Int) : field_Mul.f f a b = some 0 := by simp [field_Mul.f, b_P h]
end bad
structure FO (f : Int) (p : Nat) : Prop where
  pos : (0 : Int) < p
  lei : (p : Int) ≤ 998244353
  ok : FP f p ∨ ((f < 0 ∨ 4 ≤ f) ∧ p = 1)
theorem FP.o {f : Int} {p : Nat} (h : FP f p) : FO f p := ⟨h.pos, h.lei, Or.inl h⟩
theorem FO.mod {f : Int} {p : Nat} (h : FO f p) (a : Int) : 0 ≤ a % p ∧ a % p < p := ⟨mod_nonneg h.pos a, mod_lt h.pos a⟩
theorem FO.U {f : Int} {p : Nat} (h : FO f p) (a : Int) : U (a % p) := by have := h.mod a; have := h.lei; unfold Pure.U; omega
theorem mod_one (a : Int) : a % ((1 : Nat) : Int) = 0 := Int.emod_one a
theorem nrm_one_nil (l : List Int) : nrm ((1 : Nat) : Int) l = [] := nrm_eq_nil.2 fun _ => mod_eq_zero.1 (mod_one _)
section any
variable {f : Int} {p : Nat} (h : FO f p)
include h
theorem o_Reduce {x : Int} (hx : 0 ≤ x) : field_Reduce.f f x = some (x % p) := by
  rcases h.ok with g | ⟨g, rfl⟩
  · exact s_Reduce g hx
  · rw [b_Reduce g, mod_one]
theorem o_Add {a b : Int} (ha : 0 ≤ a) (hb : 0 ≤ b) : field_Add.f f a b = some ((a + b) % p) := by
  rcases h.ok with g | ⟨g, rfl⟩
  · exact s_Add g ha hb
  · rw [b_Add g, mod_one]
theorem o_Neg {a : Int} (ha : 0 ≤ a) : field_Neg.f f a = some ((-a) % p) := by
  rcases h.ok with g | ⟨g, rfl⟩
  · exact s_Neg g ha
  · rw [b_Neg g, mod_one]
theorem o_Mul {a b : Int} (ha : 0 ≤ a) (hb : 0 ≤ b) : field_Mul.f f a b = some ((a * b) % p) := by
  rcases h.ok with g | ⟨g, rfl⟩
  · exact s_Mul g ha hb
  · rw [b_Mul g, mod_one]
end any
end Go.Proofs.YtbjeemlbjkmhiaaDoor.Pure
namespace Go.Proofs.YtbjeemlbjkmhiaaDoor.Pure
open Go.RowKit Go.Proofs.YtbjeemlbjkmhiaaDoor.Q Go.Proofs.YtbjeemlbjkmhiaaDoor.Num Go.Proofs.YtbjeemlbjkmhiaaDoor.Pol Go.Proofs.YtbjeemlbjkmhiaaDoorW.PrintWords Go.Proofs.YtbjeemlbjkmhiaaDoorW.PrintLast Go.Proofs.YtbjeemlbjkmhiaaDoorW.PrintMore

theorem w64_pred {n : Nat} (h : n < 9223372036854775807) : wrap64 (((n + 1 : Nat) : Int) - 1) = (n : Int) := by rw [w64 (by omega) (by omega)]; omega
theorem trim_l0 {l : List Int} (hl : l.length ≤ 1000000) : ∀ n : Nat, n ≤ l.length → (∀ i, n ≤ i → co l i = 0) → Ev (fun k => poly_trim.l0 k l n) (trm l)
  | 0, hn, hz => by
    refine Ev.succ (F := fun _ => some (trm l)) (fun k => ?_) (Ev.all fun _ => rfl)
    rw [poly_trim.l0, if_neg (by omega), if_pos (by omega), if_pos (by omega)]
    exact congrArg some (trm_eq (m := 0) hn hz (fun n h => by omega))
  | n + 1, hn, hz => by
    by_cases h0 : co l n = 0
    · refine Ev.succ (fun k => ?_) (trim_l0 hl n (by omega) (fun i hi => ?_))
      · rw [poly_trim.l0, if_pos (by omega), w64_pred (by omega), if_pos (by omega), if_pos (by omega), rd_nat, if_pos h0]
      · rcases Nat.eq_or_lt_of_le hi with e | e
        · rw [← e]; exact h0
        · exact hz i e
    · refine Ev.succ (F := fun _ => some (trm l)) (fun k => ?_) (Ev.all fun _ => rfl)
      rw [poly_trim.l0, if_pos (by omega), w64_pred (by omega), if_pos (by omega), if_pos (by omega), rd_nat, if_neg h0, if_pos (by omega), if_pos (by omega)]
      refine congrArg some ?_
      rw [Int.toNat_natCast]
      exact trm_eq hn hz (fun m hm => by obtain rfl : m = n := by omega
                                         exact h0)
theorem s_trim {l : List Int} (hl : l.length ≤ 1000000) : Ev (fun k => poly_trim.f k l) (trm l) := trim_l0 hl _ (Nat.le_refl _) (fun _ h => co_over h)

theorem cpyAt_full (l : List Int) : cpyAt (List.replicate l.length 0) 0 l = l := by
  unfold cpyAt splice
  simp
theorem ev_take_succ (x : Int) : ∀ (l : List Int) (d : Nat), ev (l.take (d + 1)) x = ev (l.take d) x + co l d * x ^ d
  | [], d => by simp [ev]
  | c :: t, 0 => by simp [ev]
  | c :: t, d + 1 => by
    have := ev_take_succ x t d
    simp only [List.take_succ_cons, ev, co_cons_succ] at this ⊢
    rw [this, Int.pow_succ]; grind
section any
variable {f : Int} {p : Nat} (h : FO f p)
include h
theorem normal_l0 : ∀ (d i : Nat) (x y : List Int), i + d = x.length → x.length ≤ 1000000 → UL x → y.length = x.length → (∀ j, j < x.length → co y j = if i ≤ j then co x j % p else co x j) → Ev (fun k => poly_Normal.l0 k f x (x.length : Int) i) (trm y) := by
  intro d
  induction d with
  | zero =>
    intro i x y hi hl hu hyl hy
    have e : y = x := ext_co hyl fun j hj => by rw [hy j (by omega), if_neg (by omega)]
    subst e
    have key : Ev (fun k => (poly_trim.f k y).bind fun t125 => some t125) (trm y) := (s_trim hl).bind (Ev.all fun _ => rfl)
    refine Ev.succ (fun k => ?_) key
    rw [poly_Normal.l0, if_neg (by omega)]
  | succ d ih =>
    intro i x y hi hl hu hyl hy
    have hx := U.co hu i
    refine Ev.succ (fun k => ?_) (ih (i + 1) (x.set i (co x i % p)) y (by simp; omega) (by simpa using hl) (hu.set (h.U _) i) (by simpa using hyl) (fun j hj => ?_))
    · rw [poly_Normal.l0, if_pos (by omega), if_pos (by omega), if_pos (by omega), rd_nat, o_Reduce h hx.1, Option.bind_some, w64_succ (by omega), Int.toNat_natCast, List.length_set]
    · rw [List.length_set] at hj
      rw [hy j hj, co_set (by omega)]
      by_cases e : j = i
      · subst e; rw [if_pos (by omega), if_neg (by omega), if_pos rfl]
      · rw [if_neg e]
        by_cases e2 : i ≤ j
        · rw [if_pos e2, if_pos (by omega)]
        · rw [if_neg e2, if_neg (by omega)]
theorem s_Normal {l : List Int} (hl : l.length ≤ 1000000) (hu : UL l) : Ev (fun k => poly_Normal.f k f l) (nrm p l) := by
  rcases h.ok with g | ⟨g, rfl⟩
  · have key := normal_l0 h l.length 0 l (l.map (· % (p : Int))) (by omega) hl hu (by simp) (fun j hj => by rw [co_map_mod, if_pos (Nat.zero_le _)])
    refine Ev.congr (fun k => ?_) key
    rw [poly_Normal.f, s_Valid g, Option.bind_some, if_pos rfl, if_pos (by omega), if_pos (by omega), Option.bind_some, Int.toNat_natCast, cpyAt_full, List.length_replicate]
    rfl
  · rw [nrm_one_nil]
    refine Ev.all fun k => ?_
    rw [poly_Normal.f, b_Valid g, Option.bind_some, if_neg (by decide)]
theorem add_yes_l0 {s : List Int} (hs : UL s) : ∀ (d i : Nat) (x z : List Int), i + d = s.length → s.length ≤ x.length → x.length ≤ 1000000 → UL x → (∀ j, Cg p (co z j) (co x j + if i ≤ j then co s j else 0)) → Ev (fun k => poly_Add_yes.l0 k f x s (s.length : Int) i) (nrm p z) := by
  intro d
  induction d with
  | zero =>
    intro i x z hi hsx hl hu hz
    have e : EqP p z x := fun j => by
      have := hz j
      by_cases hj : i ≤ j
      · rw [if_pos hj, co_over (l := s) (by omega)] at this; simpa using this
      · rw [if_neg hj] at this; simpa using this
    rw [nrm_congr e]
    have key : Ev (fun k => (poly_Normal.f k f x).bind fun t => some t) (nrm p x) := (s_Normal h hl hu).bind (Ev.all fun _ => rfl)
    refine Ev.succ (fun k => ?_) key
    rw [poly_Add_yes.l0, if_neg (by omega)]
  | succ d ih =>
    intro i x z hi hsx hl hu hz
    refine Ev.succ (fun k => ?_) (ih (i + 1) (x.set i ((co x i + co s i) % p)) z (by omega) (by simpa using hsx) (by simpa using hl) (hu.set (h.U _) i) (fun j => ?_))
    · rw [poly_Add_yes.l0, if_pos (by omega), if_pos (by omega), if_pos (by omega), if_pos (by omega), rd_nat, rd_nat, o_Add h (U.co hu i).1 (U.co hs i).1, Option.bind_some, w64_succ (by omega), Int.toNat_natCast]
    · refine (hz j).trans ?_
      rw [co_set (by omega)]
      by_cases e : j = i
      · subst e; rw [if_pos (by omega), if_pos rfl, if_neg (by omega)]; simpa using (Cg.mod p _).symm
      · rw [if_neg e]
        by_cases e2 : i ≤ j
        · rw [if_pos e2, if_pos (by omega)]; exact Cg.refl _ _
        · rw [if_neg e2, if_neg (by omega)]; exact Cg.refl _ _
theorem add_no_l0 {s : List Int} (hs : UL s) : ∀ (d i : Nat) (x z : List Int), i + d = s.length → s.length ≤ x.length → x.length ≤ 1000000 → UL x → (∀ j, Cg p (co z j) (co x j + if i ≤ j then co s j else 0)) → Ev (fun k => poly_Add_no.l0 k f x s (s.length : Int) i) (nrm p z) := by
  intro d
  induction d with
  | zero =>
    intro i x z hi hsx hl hu hz
    have e : EqP p z x := fun j => by
      have := hz j
      by_cases hj : i ≤ j
      · rw [if_pos hj, co_over (l := s) (by omega)] at this; simpa using this
      · rw [if_neg hj] at this; simpa using this
    rw [nrm_congr e]
    have key : Ev (fun k => (poly_Normal.f k f x).bind fun t => some t) (nrm p x) := (s_Normal h hl hu).bind (Ev.all fun _ => rfl)
    refine Ev.succ (fun k => ?_) key
    rw [poly_Add_no.l0, if_neg (by omega)]
  | succ d ih =>
    intro i x z hi hsx hl hu hz
    refine Ev.succ (fun k => ?_) (ih (i + 1) (x.set i ((co x i + co s i) % p)) z (by omega) (by simpa using hsx) (by simpa using hl) (hu.set (h.U _) i) (fun j => ?_))
    · rw [poly_Add_no.l0, if_pos (by omega), if_pos (by omega), if_pos (by omega), if_pos (by omega), rd_nat, rd_nat, o_Add h (U.co hu i).1 (U.co hs i).1, Option.bind_some, w64_succ (by omega), Int.toNat_natCast]
    · refine (hz j).trans ?_
      rw [co_set (by omega)]
      by_cases e : j = i
      · subst e; rw [if_pos (by omega), if_pos rfl, if_neg (by omega)]; simpa using (Cg.mod p _).symm
      · rw [if_neg e]
        by_cases e2 : i ≤ j
        · rw [if_pos e2, if_pos (by omega)]; exact Cg.refl _ _
        · rw [if_neg e2, if_neg (by omega)]; exact Cg.refl _ _
theorem s_AddP {a b : List Int} (ha : a.length ≤ 1000000) (hb : b.length ≤ 1000000) (ua : UL a) (ub : UL b) : Ev (fun k => poly_Add.f k f a b) (nrm p (padd a b)) := by
  by_cases hc : (a.length : Int) < (b.length : Int)
  · refine Ev.congr (fun k => ?_) (add_yes_l0 h ua a.length 0 b (padd a b) (by omega) (by omega) hb ub (fun j => by rw [co_padd, if_pos (Nat.zero_le _)]; exact Cg.of_eq (by omega)))
    rw [poly_Add.f, if_pos hc, poly_Add_yes.f, if_pos (by omega), if_pos (by omega), Int.toNat_natCast, cpyAt_full]
    rfl
  · refine Ev.congr (fun k => ?_) (add_no_l0 h ub b.length 0 a (padd a b) (by omega) (by omega) ha ua (fun j => by rw [co_padd, if_pos (Nat.zero_le _)]; exact Cg.of_eq (by omega)))
    rw [poly_Add.f, if_neg hc, poly_Add_no.f, if_pos (by omega), if_pos (by omega), Int.toNat_natCast, cpyAt_full]
    rfl
theorem scale_l0 {l : List Int} (hl : l.length ≤ 1000000) (hu : UL l) {c : Int} (hc : 0 ≤ c) : ∀ (d i : Nat) (x y : List Int), i + d = l.length → x.length = l.length → y.length = l.length → (∀ j, j < l.length → co y j = if i ≤ j then (co l j * c) % p else co x j) → Ev (fun k => poly_Scale.l0 k f c x l (l.length : Int) i) (trm y) := by
  intro d
  induction d with
  | zero =>
    intro i x y hi hx hyl hy
    have e : y = x := ext_co (by omega) fun j hj => by rw [hy j (by omega), if_neg (by omega)]
    subst e
    have key : Ev (fun k => (poly_trim.f k y).bind fun t => some t) (trm y) := (s_trim (by omega)).bind (Ev.all fun _ => rfl)
    refine Ev.succ (fun k => ?_) key
    rw [poly_Scale.l0, if_neg (by omega)]
  | succ d ih =>
    intro i x y hi hx hyl hy
    refine Ev.succ (fun k => ?_) (ih (i + 1) (x.set i ((co l i * c) % p)) y (by omega) (by simpa using hx) hyl (fun j hj => ?_))
    · rw [poly_Scale.l0, if_pos (by omega), if_pos (by omega), if_pos (by omega), rd_nat, o_Mul h (U.co hu i).1 hc, Option.bind_some, if_pos (by omega), w64_succ (by omega), Int.toNat_natCast]
    · rw [hy j hj, co_set (by omega)]
      by_cases e : j = i
      · subst e; rw [if_pos (by omega), if_neg (by omega), if_pos rfl]
      · rw [if_neg e]
        by_cases e2 : i ≤ j
        · rw [if_pos e2, if_pos (by omega)]
        · rw [if_neg e2, if_neg (by omega)]
theorem s_Scale {l : List Int} (hl : l.length ≤ 1000000) (hu : UL l) {c : Int} (hc : 0 ≤ c) : Ev (fun k => poly_Scale.f k f l c) (nrm p (psc c l)) := by
  refine Ev.congr (fun k => ?_) (scale_l0 h hl hu hc l.length 0 (List.replicate l.length 0) ((psc c l).map (· % (p : Int))) (by omega) (by simp) (by simp [psc]) (fun j hj => by rw [co_map_mod, co_psc, if_pos (Nat.zero_le _), Int.mul_comm]))
  rw [poly_Scale.f, if_pos (by omega), if_pos (by omega), Int.toNat_natCast]
  rfl
theorem eval_l0 {l : List Int} (hl : l.length ≤ 1000000) (hu : UL l) {x : Int} (hx : 0 ≤ x) : ∀ (d : Nat) (acc : Int), d ≤ l.length → 0 ≤ acc → acc < p → Ev (fun k => poly_Eval.l0 k f l x acc (l.length : Int) ((l.length - d : Nat) : Int)) ((acc * x ^ d + ev (l.take d) x) % p) := by
  intro d
  induction d with
  | zero =>
    intro acc _ h0 h1
    refine Ev.succ (F := fun _ => some ((acc * x ^ 0 + ev (l.take 0) x) % p)) (fun k => ?_) (Ev.all fun _ => rfl)
    rw [poly_Eval.l0, if_neg (by omega)]
    have : acc * x ^ 0 + ev (l.take 0) x = acc := by simp [ev]
    rw [this, Int.emod_eq_of_lt h0 h1]
  | succ d ih =>
    intro acc hd h0 h1
    have e1 : wrap64 (wrap64 ((l.length : Int) - 1) - ((l.length - (d + 1) : Nat) : Int)) = (d : Int) := by
      rw [w64 (n := (l.length : Int) - 1) (by omega) (by omega), w64 (by omega) (by omega)]; omega
    have e2 : ((l.length - (d + 1) : Nat) : Int) + 1 = ((l.length - d : Nat) : Int) := by omega
    have key := ih ((acc * x % p + co l d) % p) (by omega) (mod_nonneg h.pos _) (mod_lt h.pos _)
    have e3 : ((acc * x % p + co l d) % p * x ^ d + ev (l.take d) x) % p = (acc * x ^ (d + 1) + ev (l.take (d + 1)) x) % p := by
      refine Cg.mod_eq ?_
      have c1 : Cg p ((acc * x % p + co l d) % p) (acc * x + co l d) := (Cg.mod _ _).trans ((Cg.mod _ _).add (Cg.refl _ _))
      refine ((c1.mul (Cg.refl _ (x ^ d))).add (Cg.refl _ _)).trans (Cg.of_eq ?_)
      rw [ev_take_succ x l d, Int.pow_succ]; grind
    rw [e3] at key
    refine Ev.succ (fun k => ?_) key
    rw [poly_Eval.l0, if_pos (by omega), o_Mul h h0 hx, Option.bind_some, e1, if_pos (by omega), if_pos (by omega), rd_nat, o_Add h (mod_nonneg h.pos _) (U.co hu d).1, Option.bind_some, e2, w64 (by omega) (by omega)]
theorem s_Eval {l : List Int} (hl : l.length ≤ 1000000) (hu : UL l) {x : Int} (hx : 0 ≤ x) : Ev (fun k => poly_Eval.f k f l x) (ev l x % p) := by
  have key := eval_l0 h hl hu hx l.length 0 (Nat.le_refl _) (Int.le_refl _) h.pos
  rw [List.take_length, Int.zero_mul, Int.zero_add, Nat.sub_self] at key
  exact key

end any
section good
variable {f : Int} {p : Nat} (h : FP f p)
include h
end good
end Go.Proofs.YtbjeemlbjkmhiaaDoor.Pure
namespace Go.Proofs.YtbjeemlbjkmhiaaDoor.Pure
open Go.RowKit Go.Proofs.YtbjeemlbjkmhiaaDoor.Q Go.Proofs.YtbjeemlbjkmhiaaDoor.Num Go.Proofs.YtbjeemlbjkmhiaaDoor.Pol Go.Proofs.YtbjeemlbjkmhiaaDoorW.PrintWords Go.Proofs.YtbjeemlbjkmhiaaDoorW.PrintLast Go.Proofs.YtbjeemlbjkmhiaaDoorW.PrintMore

def Rg (p : Int) (l : List Int) : Prop := ∀ i, 0 ≤ co l i ∧ co l i < p
theorem Rg.set {p : Int} {l : List Int} (h : Rg p l) {i : Nat} {x : Int} (hx : 0 ≤ x ∧ x < p) : Rg p (l.set i x) := fun j => by
  by_cases hi : i < l.length
  · rw [co_set hi]
    split
    · exact hx
    · exact h j
  · rw [List.set_eq_of_length_le (by omega)]; exact h j
theorem Rg.eq {p : Int} {a b : List Int} (ha : Rg p a) (hb : Rg p b) (hl : a.length = b.length) (h : ∀ i, i < a.length → Cg p (co a i) (co b i)) : a = b :=
  ext_co hl fun i hi => (h i hi).uniq (ha i).1 (ha i).2 (hb i).1 (hb i).2
theorem Rg.U {f : Int} {p : Nat} (h : FO f p) {l : List Int} (hr : Rg p l) : UL l := fun c hc => by
  obtain ⟨i, hi, rfl⟩ := List.getElem_of_mem hc
  have := hr i
  rw [co_lt hi] at this
  have := h.lei
  unfold Pure.U; omega
theorem nrm_rg {p : Int} (hp : 0 < p) (l : List Int) : Rg p (nrm p l) := (nrm_nf hp l).rng
theorem nrm_UL {f : Int} {p : Nat} (h : FO f p) (l : List Int) : UL (nrm p l) := (nrm_rg h.pos l).U h
theorem padd_length : ∀ a b : List Int, (padd a b).length = max a.length b.length
  | [], b => by simp [padd]
  | x :: a, [] => by simp [padd]
  | x :: a, y :: b => by simp [padd, padd_length a b]
def Interp (p : Nat) (xs ys R : List Int) : Prop := Deg p R xs.length ∧ ∀ i, i < xs.length → Cg p (ev R (co xs i)) (co ys i)

section good
variable {f : Int} {p : Nat} (h : FP f p)
include h
end good
end Go.Proofs.YtbjeemlbjkmhiaaDoor.Pure
namespace Go.Proofs.YtbjeemlbjkmhiaaDoor.Pure
open Go.RowKit Go.Proofs.YtbjeemlbjkmhiaaDoor.Q Go.Proofs.YtbjeemlbjkmhiaaDoor.Num Go.Proofs.YtbjeemlbjkmhiaaDoor.Pol Go.Proofs.YtbjeemlbjkmhiaaDoorW.PrintWords Go.Proofs.YtbjeemlbjkmhiaaDoorW.PrintLast Go.Proofs.YtbjeemlbjkmhiaaDoorW.PrintMore

section any
variable {f : Int} {p : Nat} (h : FO f p)
include h
theorem s_SubP {a b : List Int} (ha : a.length ≤ 1000000) (hb : b.length ≤ 1000000) (ua : UL a) (ub : UL b) : Ev (fun k => poly_Sub.f k f a b) (nrm p (psub a b)) := by
  have s1 := s_Scale h hb ub (h.mod (-1)).1
  have l1 := nrm_length_le p (psc ((-1) % p) b)
  have l2 : (psc ((-1) % p) b).length = b.length := by simp [psc]
  have s2 := s_AddP h (b := nrm p (psc ((-1) % p) b)) ha (by omega) ua (nrm_UL h _)
  have e : nrm p (padd a (nrm p (psc ((-1) % p) b))) = nrm p (psub a b) := nrm_congr ((EqP.refl _ a).padd ((nrm_eqp p _).trans (EqP.psc (Cg.mod _ _) (EqP.refl _ b))))
  rw [e] at s2
  obtain ⟨K1, h1⟩ := Ev.get (s1)
  obtain ⟨K2, h2⟩ := Ev.get (s2)
  refine ⟨K1 + K2, fun k hk => ?_⟩
  have := h1 k (by omega)
  have := h2 k (by omega)
  simp only [poly_Sub.f, o_Neg h (show (0 : Int) ≤ 1 by omega), Option.bind_some, *]
end any
end Go.Proofs.YtbjeemlbjkmhiaaDoor.Pure
namespace Go.Proofs.YtbjeemlbjkmhiaaDoor.Pure
open Go.RowKit Go.Proofs.YtbjeemlbjkmhiaaDoor.Q Go.Proofs.YtbjeemlbjkmhiaaDoor.Num Go.Proofs.YtbjeemlbjkmhiaaDoor.Pol Go.Proofs.YtbjeemlbjkmhiaaDoorW.PrintWords Go.Proofs.YtbjeemlbjkmhiaaDoorW.PrintLast Go.Proofs.YtbjeemlbjkmhiaaDoorW.PrintMore

theorem nrm_length_eq {p : Int} (hp : 0 < p) {l : List Int} {n : Nat} (hd : Deg p l (n + 1)) (ht : ¬ Cg p (co l n) 0) : (nrm p l).length = n + 1 := by
  have h1 := nrm_deg hp hd
  rcases Nat.lt_or_ge n (nrm p l).length with e | e
  · omega
  · exact absurd (Deg.of_nrm n e) ht
section any
variable {f : Int} {p : Nat} (h : FO f p)
include h
theorem degree_l0 {l : List Int} (hl : l.length ≤ 1000000) (hu : UL l) : ∀ n : Nat, n ≤ l.length → Deg p l n → Ev (fun k => poly_Degree.l0 k f l n) (((nrm p l).length : Int) - 1) := by
  intro n
  induction n with
  | zero =>
    intro _ hd
    have : nrm p l = [] := nrm_eq_nil.2 hd.nil
    rw [this]
    refine Ev.succ (F := fun _ => some (-1)) (fun k => ?_) (Ev.all fun _ => rfl)
    rw [poly_Degree.l0, if_neg (by omega)]
  | succ n ih =>
    intro hn hd
    by_cases h0 : co l n % p = 0
    · refine Ev.succ (fun k => ?_) (ih (by omega) (fun i hi => ?_))
      · rw [poly_Degree.l0, if_pos (by omega), w64_pred (by omega), if_pos (by omega), if_pos (by omega), rd_nat, o_Reduce h (U.co hu n).1, Option.bind_some, if_pos h0]
      · rcases Nat.eq_or_lt_of_le hi with e | e
        · rw [← e]; exact mod_eq_zero.1 h0
        · exact hd i e
    · have hlen := nrm_length_eq h.pos hd (fun c => h0 (mod_eq_zero.2 c))
      rw [hlen]
      refine Ev.succ (F := fun _ => some ((n : Int))) (fun k => ?_) (Ev.all fun _ => congrArg some (by omega))
      rw [poly_Degree.l0, if_pos (by omega), w64_pred (by omega), if_pos (by omega), if_pos (by omega), rd_nat, o_Reduce h (U.co hu n).1, Option.bind_some, if_neg h0]
theorem s_Degree {l : List Int} (hl : l.length ≤ 1000000) (hu : UL l) : Ev (fun k => poly_Degree.f k f l) (((nrm p l).length : Int) - 1) := degree_l0 h hl hu l.length (Nat.le_refl _) (Deg.len _ _)

end any
end Go.Proofs.YtbjeemlbjkmhiaaDoor.Pure
namespace Go.Proofs.YtbjeemlbjkmhiaaDoor.Pure
open Go.RowKit Go.Proofs.YtbjeemlbjkmhiaaDoor.Q Go.Proofs.YtbjeemlbjkmhiaaDoor.Num Go.Proofs.YtbjeemlbjkmhiaaDoor.Pol Go.Proofs.YtbjeemlbjkmhiaaDoorW.PrintWords Go.Proofs.YtbjeemlbjkmhiaaDoorW.PrintLast Go.Proofs.YtbjeemlbjkmhiaaDoorW.PrintMore

theorem cnt_succ (P : Nat → Bool) (n : Nat) : cnt (n + 1) P = cnt n P + if P n = true then 1 else 0 := rfl
theorem cnt_inc (P : Nat → Bool) {n : Nat} (hn : n < 1000000) {c : Prop} [Decidable c] (hc : c ↔ P n = true) : (if c then wrap64 (((cnt n P : Nat) : Int) + 1) else ((cnt n P : Nat) : Int)) = ((cnt (n + 1) P : Nat) : Int) := by
  have h1 := cnt_le P n
  rw [cnt_succ]
  by_cases h : c
  · rw [if_pos h, if_pos (hc.1 h), w64_succ (by omega)]
  · rw [if_neg h, if_neg (fun g => h (hc.2 g)), Nat.add_zero]
section good
variable {f : Int} {p : Nat} (h : FP f p)
include h
theorem groots_l0 {l : List Int} (hl : l.length ≤ 1000000) (hu : UL l) (hp : p ≤ 1000000) : ∀ d i, i + d = p →
    Ev (fun k => gap_Roots.l0 k f l (List.range' i d) ((cnt i fun x => zro p (ev l x) : Nat) : Int)) ((cnt p fun x => zro p (ev l x) : Nat) : Int)
  | 0, i, e => by
    obtain rfl : i = p := by omega
    exact Ev.all fun k => rfl
  | d + 1, i, e => by
    have ih := groots_l0 hl hu hp d (i + 1) (by omega)
    have s := s_Eval h.o hl hu (x := (i : Int)) (Int.natCast_nonneg i)
    refine s.bind (G := fun k t => gap_Roots.l0 k f l (List.range' (i + 1) d) (if t = 0 then wrap64 (((cnt i fun x => zro p (ev l x) : Nat) : Int) + 1) else ((cnt i fun x => zro p (ev l x) : Nat) : Int))) ?_
    refine Ev.congr (fun k => ?_) ih
    rw [cnt_inc (fun x => zro p (ev l x)) (n := i) (by omega) (by rw [zro_iff]; exact mod_eq_zero)]
theorem s_GRoots {l : List Int} (hl : l.length ≤ 1000000) (hu : UL l) (hp : p ≤ 1000000) (hf : f ≤ 1) : Ev (fun k => gap_Roots.f k f l) (((cnt p fun x => zro p (ev l x) : Nat) : Int), 0) := by
  obtain ⟨K, hk⟩ := Ev.get (groots_l0 h hl hu hp p 0 (by omega))
  refine Ev.mk K fun k g => ?_
  rw [gap_Roots.f, s_Valid h, Option.bind_some, if_pos rfl, if_neg (by omega), s_P h, Option.bind_some, Int.toNat_natCast, List.range_eq_range']
  have := hk k g
  rw [show ((cnt 0 fun x => zro p (ev l x) : Nat) : Int) = 0 from rfl] at this
  rw [this, Option.bind_some]
end good
end Go.Proofs.YtbjeemlbjkmhiaaDoor.Pure
namespace Go.Proofs.YtbjeemlbjkmhiaaDoor.Pure
open Go.RowKit Go.Proofs.YtbjeemlbjkmhiaaDoor.Q Go.Proofs.YtbjeemlbjkmhiaaDoor.Num Go.Proofs.YtbjeemlbjkmhiaaDoor.Pol

def vl : List Int → Int
  | [] => 0
  | x :: t => x + 4294967296 * vl t
def Lb (l : List Int) : Prop := ∀ i, 0 ≤ co l i ∧ co l i < 4294967296
def Bp (n : Nat) : Int := 4294967296 ^ n
theorem Bp_zero : Bp 0 = 1 := rfl
theorem Bp_succ (n : Nat) : Bp (n + 1) = 4294967296 * Bp n := by unfold Bp; rw [Int.pow_succ, Int.mul_comm]
theorem Bp_pos (n : Nat) : 0 < Bp n := by unfold Bp; exact Int.pow_pos (by omega)
theorem Bp_add (m n : Nat) : Bp (m + n) = Bp m * Bp n := by unfold Bp; exact Int.pow_add ..
theorem Lb.of_mem {l : List Int} (h : ∀ x ∈ l, 0 ≤ x ∧ x < 4294967296) : Lb l := fun i => by
  by_cases hi : i < l.length
  · exact h _ (co_mem hi)
  · rw [co_over (by omega)]; omega
theorem Lb.of_wf {l : List Int} (h : ∀ x ∈ l, (Lit.int .u32 x).wf = true) : Lb l := Lb.of_mem fun x hx => by
  have := h x hx
  simp [Lit.wf, IntKind.min, IntKind.max, IntKind.bits, IntKind.signed] at this
  omega
theorem Lb.nil : Lb [] := fun i => by simp [co]
theorem Lb.cons {x : Int} {l : List Int} (hx : 0 ≤ x ∧ x < 4294967296) (h : Lb l) : Lb (x :: l)
  | 0 => hx
  | i + 1 => h i
theorem Lb.tail {x : Int} {l : List Int} (h : Lb (x :: l)) : Lb l := fun i => h (i + 1)
theorem Lb.set {l : List Int} (h : Lb l) {x : Int} (hx : 0 ≤ x ∧ x < 4294967296) (i : Nat) : Lb (l.set i x) := fun j => by
  by_cases hi : i < l.length
  · rw [co_set hi]
    split
    · exact hx
    · exact h j
  · rw [List.set_eq_of_length_le (by omega)]; exact h j
theorem Lb.take {l : List Int} (h : Lb l) (n : Nat) : Lb (l.take n) := fun i => by
  rw [co_take]
  split
  · exact h i
  · omega
theorem co_drop (l : List Int) (n i : Nat) : co (l.drop n) i = co l (n + i) := by
  unfold co
  rw [List.getD_eq_getElem?_getD, List.getD_eq_getElem?_getD, List.getElem?_drop]
theorem Lb.drop {l : List Int} (h : Lb l) (n : Nat) : Lb (l.drop n) := fun i => by
  rw [co_drop]
  exact h _
theorem Lb.replicate (n : Nat) : Lb (List.replicate n 0) := fun i => by rw [co_replicate]; omega
theorem Lb.append {a b : List Int} (ha : Lb a) (hb : Lb b) : Lb (a ++ b) := fun i => by
  rw [co_append]
  split
  · exact ha i
  · exact hb _
theorem vl_nil : vl [] = 0 := rfl
theorem vl_cons (x : Int) (l : List Int) : vl (x :: l) = x + 4294967296 * vl l := rfl
theorem vl_range : ∀ {l : List Int}, Lb l → 0 ≤ vl l ∧ vl l < Bp l.length
  | [], _ => by simp [vl, Bp_zero]
  | x :: l, h => by
    have h1 := vl_range h.tail
    have h2 := h 0
    rw [show co (x :: l) 0 = x from rfl] at h2
    rw [vl_cons, List.length_cons, Bp_succ]
    omega
def Nf (l : List Int) : Prop := Lb l ∧ (l = [] ∨ co l (l.length - 1) ≠ 0)
theorem Nf.nil : Nf [] := ⟨Lb.nil, Or.inl rfl⟩
theorem Nf.tail {x : Int} {l : List Int} (h : Nf (x :: l)) : Nf l := ⟨h.1.tail, by
  cases l with
  | nil => exact Or.inl rfl
  | cons y l => exact Or.inr (h.2.resolve_left (by simp))⟩
theorem Nf.low : ∀ {l : List Int}, Nf l → l ≠ [] → Bp (l.length - 1) ≤ vl l
  | [], _, h => absurd rfl h
  | [x], h, _ => by
    have h1 := h.2.resolve_left (by simp)
    have h2 := h.1 0
    rw [show co [x] 0 = x from rfl] at h2
    rw [show co [x] ([x].length - 1) = x from rfl] at h1
    show Bp 0 ≤ _
    rw [Bp_zero, vl_cons, vl_nil]
    omega
  | x :: y :: l, h, _ => by
    have h1 := Nf.low h.tail (by simp)
    have h2 := h.1 0
    rw [show co (x :: y :: l) 0 = x from rfl] at h2
    rw [vl_cons]
    rw [show (y :: l).length - 1 = l.length from rfl] at h1
    rw [show (x :: y :: l).length - 1 = l.length + 1 from rfl, Bp_succ]
    omega
theorem Nf.pos {l : List Int} (h : Nf l) (hl : l ≠ []) : 0 < vl l := by
  have := h.low hl
  have := Bp_pos (l.length - 1)
  omega
def dgF : Nat → Int → List Int
  | 0, _ => []
  | k + 1, n => if n ≤ 0 then [] else n % 4294967296 :: dgF k (n / 4294967296)
def dg (n : Int) : List Int := dgF n.toNat n
theorem Nf.eq_dgF : ∀ {l : List Int} {k : Nat}, Nf l → vl l ≤ k → l = dgF k (vl l)
  | [], k, _, _ => by cases k <;> simp [dgF, vl]
  | x :: l, k, h, hk => by
    have hp := h.pos (by simp)
    have h2 := h.1 0
    rw [show co (x :: l) 0 = x from rfl] at h2
    have h3 := (vl_range h.1.tail).1
    rw [vl_cons] at hp hk ⊢
    cases k with
    | zero => omega
    | succ k =>
      rw [dgF, if_neg (by omega), show (x + 4294967296 * vl l) % 4294967296 = x by omega, show (x + 4294967296 * vl l) / 4294967296 = vl l by omega]
      rw [← Nf.eq_dgF (k := k) h.tail (by omega)]
theorem Nf.eq_dg {l : List Int} (h : Nf l) : l = dg (vl l) := h.eq_dgF (by have := (vl_range h.1).1; omega)
theorem Nf.uniq {a b : List Int} (ha : Nf a) (hb : Nf b) (e : vl a = vl b) : a = b := by rw [ha.eq_dg, hb.eq_dg, e]
theorem dgF_ok : ∀ (k : Nat) (n : Int), n ≤ k → Lb (dgF k n) ∧ (dgF k n = [] ∨ co (dgF k n) ((dgF k n).length - 1) ≠ 0) ∧ (0 ≤ n → vl (dgF k n) = n)
  | 0, n, h => ⟨Lb.nil, Or.inl rfl, fun h0 => by rw [dgF, vl]; omega⟩
  | k + 1, n, h => by
    rw [dgF]
    by_cases c : n ≤ 0
    · rw [if_pos c]
      exact ⟨Lb.nil, Or.inl rfl, fun h0 => by rw [vl]; omega⟩
    · rw [if_neg c]
      obtain ⟨h1, h2, h3⟩ := dgF_ok k (n / 4294967296) (by omega)
      have h3' := h3 (by omega)
      refine ⟨Lb.cons (by omega) h1, Or.inr ?_, fun _ => by rw [vl_cons, h3']; omega⟩
      rcases h2 with h2 | h2
      · rw [h2] at h3' ⊢
        rw [vl] at h3'
        show n % 4294967296 ≠ 0
        omega
      · cases hd : dgF k (n / 4294967296) with
        | nil =>
          rw [hd, vl] at h3'
          show n % 4294967296 ≠ 0
          omega
        | cons y t =>
          rw [hd] at h2
          exact h2
theorem dg_nf (n : Int) : Nf (dg n) := by
  obtain ⟨h1, h2, _⟩ := dgF_ok n.toNat n (by omega)
  exact ⟨h1, h2⟩
theorem vl_dg {n : Int} (h : 0 ≤ n) : vl (dg n) = n := (dgF_ok n.toNat n (by omega)).2.2 h
theorem Bp_le {m n : Nat} (h : m ≤ n) : Bp m ≤ Bp n := by
  obtain ⟨d, rfl⟩ : ∃ d, n = m + d := ⟨n - m, by omega⟩
  rw [Bp_add]
  have h1 := Bp_pos m
  have h2 := Bp_pos d
  have := Int.mul_le_mul_of_nonneg_left (show 1 ≤ Bp d by omega) (Int.le_of_lt h1)
  omega
theorem Nf.len_le {l : List Int} (h : Nf l) {n : Nat} : l.length ≤ n ↔ vl l < Bp n := by
  constructor
  · intro hl
    have h1 := vl_range h.1
    have h2 := Bp_le hl
    omega
  · intro hv
    by_cases hl : l = []
    · simp [hl]
    · have h1 := h.low hl
      by_cases c : l.length ≤ n
      · exact c
      · have := Bp_le (show n ≤ l.length - 1 by omega)
        omega
theorem dg_len {v : Int} (h : 0 ≤ v) {n : Nat} : (dg v).length ≤ n ↔ v < Bp n := by
  rw [(dg_nf v).len_le, vl_dg h]
end Go.Proofs.YtbjeemlbjkmhiaaDoor.Pure
namespace Go.Proofs.YtbjeemlbjkmhiaaDoor.Pure
open Go.RowKit Go.Proofs.YtbjeemlbjkmhiaaDoor.Q Go.Proofs.YtbjeemlbjkmhiaaDoor.Num Go.Proofs.YtbjeemlbjkmhiaaDoor.Pol Go.Proofs.YtbjeemlbjkmhiaaDoorW.PrintWords Go.Proofs.YtbjeemlbjkmhiaaDoorW.PrintLast Go.Proofs.YtbjeemlbjkmhiaaDoorW.PrintMore

def Vn (l : List Int) : Prop := l.length ≤ 64 ∧ Nf l
theorem Vn.dg {v : Int} (h0 : 0 ≤ v) (h : v < Bp 64) : Vn (dg v) := ⟨(dg_len h0).2 h, dg_nf v⟩
end Go.Proofs.YtbjeemlbjkmhiaaDoor.Pure
namespace Go.Proofs.YtbjeemlbjkmhiaaDoor.Pure
open Go.RowKit Go.Proofs.YtbjeemlbjkmhiaaDoor.Q Go.Proofs.YtbjeemlbjkmhiaaDoor.Num Go.Proofs.YtbjeemlbjkmhiaaDoor.Pol Go.Proofs.YtbjeemlbjkmhiaaDoorW.PrintWords Go.Proofs.YtbjeemlbjkmhiaaDoorW.PrintLast Go.Proofs.YtbjeemlbjkmhiaaDoorW.PrintMore

end Go.Proofs.YtbjeemlbjkmhiaaDoor.Pure
namespace Go.Proofs.YtbjeemlbjkmhiaaDoor.Pure
open Go.RowKit Go.Proofs.YtbjeemlbjkmhiaaDoor.Q Go.Proofs.YtbjeemlbjkmhiaaDoor.Num Go.Proofs.YtbjeemlbjkmhiaaDoor.Pol Go.Proofs.YtbjeemlbjkmhiaaDoorW.PrintWords Go.Proofs.YtbjeemlbjkmhiaaDoorW.PrintLast Go.Proofs.YtbjeemlbjkmhiaaDoorW.PrintMore

end Go.Proofs.YtbjeemlbjkmhiaaDoor.Pure
namespace Go.Proofs.YtbjeemlbjkmhiaaDoor.Pure
open Go.RowKit Go.Proofs.YtbjeemlbjkmhiaaDoor.Q Go.Proofs.YtbjeemlbjkmhiaaDoor.Num Go.Proofs.YtbjeemlbjkmhiaaDoor.Pol Go.Proofs.YtbjeemlbjkmhiaaDoorW.PrintWords Go.Proofs.YtbjeemlbjkmhiaaDoorW.PrintLast Go.Proofs.YtbjeemlbjkmhiaaDoorW.PrintMore

structure KD (U V q v1 v2 u2 top Q U3 V3 : Int) : Prop where
  hU : U = U3 + u2 * Q + top * (4294967296 * Q)
  hV : V = V3 + v2 * Q + v1 * (4294967296 * Q)
  hU3 : 0 ≤ U3 ∧ U3 < Q
  hV3 : 0 ≤ V3 ∧ V3 < Q
  hv1 : 2147483648 ≤ v1 ∧ v1 < 4294967296
  hv2 : 0 ≤ v2 ∧ v2 < 4294967296
  hu2 : 0 ≤ u2 ∧ u2 < 4294967296
  htop : 0 ≤ top ∧ top ≤ v1 * 4294967296 + 4294967295
  q0 : 0 ≤ q
  hq : q * V ≤ U
  hq2 : U < (q + 1) * V
section
variable {U V q v1 v2 u2 top Q U3 V3 : Int}
theorem KD.Qpos (h : KD U V q v1 v2 u2 top Q U3 V3) : 0 < Q := by have := h.hU3; omega
theorem KD.first (h : KD U V q v1 v2 u2 top Q U3 V3) : q ≤ top / v1 := by
  have hQ := h.Qpos
  have hv := h.hv1
  refine Int.le_ediv_of_mul_le (by omega) (Int.not_lt.1 fun hc => ?_)
  have e1 := Int.mul_le_mul_of_nonneg_right (show top + 1 ≤ q * v1 by omega) (show 0 ≤ 4294967296 * Q by omega)
  have e2 : q * V = q * V3 + q * v2 * Q + q * v1 * (4294967296 * Q) := by rw [h.hV]; grind
  have e3 := Int.mul_nonneg h.q0 h.hV3.1
  have e4 := Int.mul_nonneg (Int.mul_nonneg h.q0 h.hv2.1) (Int.le_of_lt hQ)
  have e5 := Int.mul_le_mul_of_nonneg_right (show u2 ≤ 4294967295 by have := h.hu2; omega) (Int.le_of_lt hQ)
  have e6 : (top + 1) * (4294967296 * Q) = top * (4294967296 * Q) + 4294967296 * Q := by grind
  have e7 := h.hq
  have e8 := h.hU
  have e9 := h.hU3.2
  omega
theorem KD.bound (h : KD U V q v1 v2 u2 top Q U3 V3) : top / v1 ≤ 4294967297 := by
  have hv := h.hv1
  have ht := h.htop
  refine Int.le_of_lt_add_one (Int.ediv_lt_of_lt_mul (by omega) ?_)
  omega
theorem KD.below (h : KD U V q v1 v2 u2 top Q U3 V3) {g rest : Int} (e : g * v1 + rest = top) (hr : 4294967296 ≤ rest) : g < 4294967296 := by
  refine Int.not_le.1 fun hc => ?_
  have h1 := Int.mul_le_mul_of_nonneg_right hc (show 0 ≤ v1 by have := h.hv1; omega)
  have ht := h.htop
  rw [Int.mul_comm 4294967296 v1] at h1
  omega
end
end Go.Proofs.YtbjeemlbjkmhiaaDoor.Pure
namespace Go.Proofs.YtbjeemlbjkmhiaaDoor.Pure
open Go.RowKit Go.Proofs.YtbjeemlbjkmhiaaDoor.Q Go.Proofs.YtbjeemlbjkmhiaaDoor.Num Go.Proofs.YtbjeemlbjkmhiaaDoor.Pol Go.Proofs.YtbjeemlbjkmhiaaDoorW.PrintWords Go.Proofs.YtbjeemlbjkmhiaaDoorW.PrintLast Go.Proofs.YtbjeemlbjkmhiaaDoorW.PrintMore

end Go.Proofs.YtbjeemlbjkmhiaaDoor.Pure
namespace Go.Proofs.YtbjeemlbjkmhiaaDoor.Pure
open Go.RowKit Go.Proofs.YtbjeemlbjkmhiaaDoor.Q Go.Proofs.YtbjeemlbjkmhiaaDoor.Num Go.Proofs.YtbjeemlbjkmhiaaDoor.Pol Go.Proofs.YtbjeemlbjkmhiaaDoorW.PrintWords Go.Proofs.YtbjeemlbjkmhiaaDoorW.PrintLast Go.Proofs.YtbjeemlbjkmhiaaDoorW.PrintMore

end Go.Proofs.YtbjeemlbjkmhiaaDoor.Pure
namespace Go.Proofs.YtbjeemlbjkmhiaaDoor.Pure
open Go.RowKit Go.Proofs.YtbjeemlbjkmhiaaDoor.Q Go.Proofs.YtbjeemlbjkmhiaaDoor.Num Go.Proofs.YtbjeemlbjkmhiaaDoor.Pol Go.Proofs.YtbjeemlbjkmhiaaDoorW.PrintWords Go.Proofs.YtbjeemlbjkmhiaaDoorW.PrintLast Go.Proofs.YtbjeemlbjkmhiaaDoorW.PrintMore

end Go.Proofs.YtbjeemlbjkmhiaaDoor.Pure
namespace Go.Proofs.YtbjeemlbjkmhiaaDoor.Pure
open Go.RowKit Go.Proofs.YtbjeemlbjkmhiaaDoor.Q Go.Proofs.YtbjeemlbjkmhiaaDoor.Num Go.Proofs.YtbjeemlbjkmhiaaDoor.Pol Go.Proofs.YtbjeemlbjkmhiaaDoorW.PrintWords Go.Proofs.YtbjeemlbjkmhiaaDoorW.PrintLast Go.Proofs.YtbjeemlbjkmhiaaDoorW.PrintMore

structure Fr (p q : Int) : Prop where
  p0 : 0 ≤ p
  q0 : 0 < q
  co : Int.gcd p q = 1
theorem Fr.gcd_mul {p q g : Int} (h : Fr p q) (hg : 0 < g) : ((Int.gcd (p * g) (q * g) : Nat) : Int) = g := by
  rw [Int.gcd_mul_right, h.co, Nat.one_mul]
  omega
theorem Fr.uniq {p q a b g z : Int} (h : Fr p q) (k : Fr a b) (hg : 0 < g) (hz : 0 < z) (e1 : p * g = a * z) (e2 : q * g = b * z) : p = a ∧ q = b := by
  have e : g = z := by rw [← h.gcd_mul hg, e1, e2, k.gcd_mul hz]
  rw [e] at e1 e2
  exact ⟨Int.eq_of_mul_eq_mul_right (by omega) e1, Int.eq_of_mul_eq_mul_right (by omega) e2⟩
section
variable {a b c d : Int} {n m : Nat} (F : Fr a b) (G : Fr c d) (ha : a < Bp n) (hb : b < Bp n) (hc : c < Bp m) (hd : d < Bp m)
include F G ha hb hc hd
end
end Go.Proofs.YtbjeemlbjkmhiaaDoor.Pure
namespace Go.Proofs.YtbjeemlbjkmhiaaDoor.Pure
open Go.RowKit Go.Proofs.YtbjeemlbjkmhiaaDoor.Q Go.Proofs.YtbjeemlbjkmhiaaDoor.Num Go.Proofs.YtbjeemlbjkmhiaaDoor.Pol Go.Proofs.YtbjeemlbjkmhiaaDoorW.PrintWords Go.Proofs.YtbjeemlbjkmhiaaDoorW.PrintLast Go.Proofs.YtbjeemlbjkmhiaaDoorW.PrintMore

def Dt (l : List Int) : Prop := ∀ x ∈ l, 48 ≤ x ∧ x ≤ 57
def rv : List Int → Int
  | [] => 0
  | x :: t => (x - 48) + 10 * rv t
def Cn (l : List Int) : Prop := l = [] ∨ l.getLast? ≠ some 48
theorem Cn.pos : ∀ {l : List Int}, Dt l → Cn l → l ≠ [] → 0 < rv l
  | [], _, _, h => absurd rfl h
  | [x], hd, hc, _ => by
    have h1 := hd x List.mem_cons_self
    have h2 := hc.resolve_left (by simp)
    have h3 : x ≠ 48 := fun e => h2 (by rw [e]; rfl)
    rw [rv, rv]
    omega
  | x :: y :: t, hd, hc, _ => by
    have h1 := hd x List.mem_cons_self
    have h2 := Cn.pos (l := y :: t) (fun z hz => hd z (List.mem_cons_of_mem _ hz)) (Or.inr (by have := hc.resolve_left (by simp); rwa [List.getLast?_cons_cons] at this)) (by simp)
    rw [rv]
    omega
end Go.Proofs.YtbjeemlbjkmhiaaDoor.Pure
namespace Go.Proofs.YtbjeemlbjkmhiaaDoor.Pure
open Go.RowKit Go.Proofs.YtbjeemlbjkmhiaaDoor.Q Go.Proofs.YtbjeemlbjkmhiaaDoor.Num Go.Proofs.YtbjeemlbjkmhiaaDoor.Pol Go.Proofs.YtbjeemlbjkmhiaaDoorW.PrintWords Go.Proofs.YtbjeemlbjkmhiaaDoorW.PrintLast Go.Proofs.YtbjeemlbjkmhiaaDoorW.PrintMore

def fin (l : List Int) : ByteArray := if (l.length : Int) = 0 then ⟨#[48]⟩ else strOfNums l.reverse
end Go.Proofs.YtbjeemlbjkmhiaaDoor.Pure
namespace Go.Proofs.YtbjeemlbjkmhiaaDoor.Pure
open Go.RowKit Go.Proofs.YtbjeemlbjkmhiaaDoor.Q Go.Proofs.YtbjeemlbjkmhiaaDoor.Num Go.Proofs.YtbjeemlbjkmhiaaDoor.Pol Go.Proofs.YtbjeemlbjkmhiaaDoorW.PrintWords Go.Proofs.YtbjeemlbjkmhiaaDoorW.PrintLast Go.Proofs.YtbjeemlbjkmhiaaDoorW.PrintMore

end Go.Proofs.YtbjeemlbjkmhiaaDoor.Pure
namespace Go.Proofs.YtbjeemlbjkmhiaaDoor.Pure
open Go.RowKit Go.Proofs.YtbjeemlbjkmhiaaDoor.Q Go.Proofs.YtbjeemlbjkmhiaaDoor.Num Go.Proofs.YtbjeemlbjkmhiaaDoor.Pol Go.Proofs.YtbjeemlbjkmhiaaDoorW.PrintWords Go.Proofs.YtbjeemlbjkmhiaaDoorW.PrintLast Go.Proofs.YtbjeemlbjkmhiaaDoorW.PrintMore

end Go.Proofs.YtbjeemlbjkmhiaaDoor.Pure
namespace Go.Proofs.YtbjeemlbjkmhiaaDoor.Pure
open Go.RowKit Go.Proofs.YtbjeemlbjkmhiaaDoor.Q Go.Proofs.YtbjeemlbjkmhiaaDoor.Num Go.Proofs.YtbjeemlbjkmhiaaDoor.Pol Go.Proofs.YtbjeemlbjkmhiaaDoorW.PrintWords Go.Proofs.YtbjeemlbjkmhiaaDoorW.PrintLast Go.Proofs.YtbjeemlbjkmhiaaDoorW.PrintMore

end Go.Proofs.YtbjeemlbjkmhiaaDoor.Pure
namespace Go.Proofs.YtbjeemlbjkmhiaaDoor.Pure
open Go.RowKit Go.Proofs.YtbjeemlbjkmhiaaDoor.Q Go.Proofs.YtbjeemlbjkmhiaaDoor.Num Go.Proofs.YtbjeemlbjkmhiaaDoor.Pol Go.Proofs.YtbjeemlbjkmhiaaDoorW.PrintWords Go.Proofs.YtbjeemlbjkmhiaaDoorW.PrintLast Go.Proofs.YtbjeemlbjkmhiaaDoorW.PrintMore

section
variable {n : Nat} (hn : n < 1000000)
include hn
end
section
variable {n : Nat} (hn : n < 1000000) {B : Nat} (hB : Bp n = (B : Int)) (hB2 : B = 2 ^ (32 * n))
include hn hB
include hB2
end
end Go.Proofs.YtbjeemlbjkmhiaaDoor.Pure
namespace Go.Proofs.YtbjeemlbjkmhiaaDoor.Pure
open Go.RowKit Go.Proofs.YtbjeemlbjkmhiaaDoor.Q Go.Proofs.YtbjeemlbjkmhiaaDoor.Num Go.Proofs.YtbjeemlbjkmhiaaDoor.Pol Go.Proofs.YtbjeemlbjkmhiaaDoorW.PrintWords Go.Proofs.YtbjeemlbjkmhiaaDoorW.PrintLast Go.Proofs.YtbjeemlbjkmhiaaDoorW.PrintMore

end Go.Proofs.YtbjeemlbjkmhiaaDoor.Pure
namespace Go.Proofs.YtbjeemlbjkmhiaaDoor.Pure
open Go.RowKit Go.Proofs.YtbjeemlbjkmhiaaDoor.Q Go.Proofs.YtbjeemlbjkmhiaaDoor.Num Go.Proofs.YtbjeemlbjkmhiaaDoor.Pol Go.Proofs.YtbjeemlbjkmhiaaDoorW.PrintWords Go.Proofs.YtbjeemlbjkmhiaaDoorW.PrintLast Go.Proofs.YtbjeemlbjkmhiaaDoorW.PrintMore

def By (l : List Int) : Prop := ∀ x ∈ l, 0 ≤ x ∧ x < 256
theorem Dt.by {l : List Int} (h : Dt l) : By l := fun x hx => by have := h x hx; omega
theorem By.take {l : List Int} (h : By l) (n : Nat) : By (l.take n) := fun _ hx => h _ (List.mem_of_mem_take hx)
theorem By.drop {l : List Int} (h : By l) (n : Nat) : By (l.drop n) := fun _ hx => h _ (List.mem_of_mem_drop hx)
section
variable {l : List Int} (hb : By l) (hn : l.length < 4611686018427387904)
include hb hn
end
section
variable {l : List Int} (hd : Dt l)
include hd
end
section
variable {l : List Int} (hb : By l) (hn : l.length ≤ 800)
include hb hn
end
end Go.Proofs.YtbjeemlbjkmhiaaDoor.Pure
namespace Go.Proofs.YtbjeemlbjkmhiaaDoor.Pure
open Go.RowKit Go.Proofs.YtbjeemlbjkmhiaaDoor.Q Go.Proofs.YtbjeemlbjkmhiaaDoor.Num Go.Proofs.YtbjeemlbjkmhiaaDoor.Pol Go.Proofs.YtbjeemlbjkmhiaaDoorW.PrintWords Go.Proofs.YtbjeemlbjkmhiaaDoorW.PrintLast Go.Proofs.YtbjeemlbjkmhiaaDoorW.PrintMore

end Go.Proofs.YtbjeemlbjkmhiaaDoor.Pure
namespace Go.Proofs.YtbjeemlbjkmhiaaDoor.Pure
open Go.RowKit Go.Proofs.YtbjeemlbjkmhiaaDoor.Q Go.Proofs.YtbjeemlbjkmhiaaDoor.Num Go.Proofs.YtbjeemlbjkmhiaaDoor.Pol Go.Proofs.YtbjeemlbjkmhiaaDoorW.PrintWords Go.Proofs.YtbjeemlbjkmhiaaDoorW.PrintLast Go.Proofs.YtbjeemlbjkmhiaaDoorW.PrintMore

section
variable {α : Type} {J : Nat → Bool → Option α} {G : Nat → Option α} {d v : α} {a b : List Int} (ha : Lb a) (hb : Lb b) (la : a.length < 1000000) (lb : b.length < 1000000)
include ha hb la lb
end
section
variable {a b : List Int} (ha : Lb a) (hb : Lb b) (la : a.length < 1000000) (lb : b.length < 1000000)
include ha hb la lb
end
section
variable {a : List Int} (ha : Lb a) (la : a.length < 1000000)
include ha la
end
end Go.Proofs.YtbjeemlbjkmhiaaDoor.Pure
namespace Go.Proofs.YtbjeemlbjkmhiaaDoor.Pure
open Go.RowKit Go.Proofs.YtbjeemlbjkmhiaaDoor.Q Go.Proofs.YtbjeemlbjkmhiaaDoor.Num Go.Proofs.YtbjeemlbjkmhiaaDoor.Pol Go.Proofs.YtbjeemlbjkmhiaaDoorW.PrintWords Go.Proofs.YtbjeemlbjkmhiaaDoorW.PrintLast Go.Proofs.YtbjeemlbjkmhiaaDoorW.PrintMore

section
variable {a b : List Int} (ha : Lb a) (hb : Lb b) (la : a.length < 1000000) (lb : b.length < 1000000)
include ha hb la lb
end
section
variable {a b c d : List Int} (ha : Lb a) (hb : Lb b) (la : a.length < 1000000) (lb : b.length < 1000000) (hc : Lb c) (hd : Lb d) (lc : c.length < 1000000) (ld : d.length < 1000000)
include ha hb la lb hc hd lc ld
end
section
variable {a b : List Int} (ha : Lb a) (hb : Lb b) (la : a.length < 1000000) (lb : b.length < 1000000)
include ha hb la lb
end
end Go.Proofs.YtbjeemlbjkmhiaaDoor.Pure
namespace Go.Proofs.YtbjeemlbjkmhiaaDoor.Pure
open Go.RowKit Go.Proofs.YtbjeemlbjkmhiaaDoor.Q Go.Proofs.YtbjeemlbjkmhiaaDoor.Num Go.Proofs.YtbjeemlbjkmhiaaDoor.Pol Go.Proofs.YtbjeemlbjkmhiaaDoorW.PrintWords Go.Proofs.YtbjeemlbjkmhiaaDoorW.PrintLast Go.Proofs.YtbjeemlbjkmhiaaDoorW.PrintMore

section
variable {a b c d : Int} {n m : Nat} (F : Fr a b) (G : Fr c d) (ha : a < Bp n) (hb : b < Bp n) (hc : c < Bp m) (hd : d < Bp m)
include F G ha hb hc hd
end
theorem gworks60 : attestorlaw11_works.f 200 = some true := by kernel_rfl
theorem g_works : Ev (fun k => attestorlaw11_works.f k) true := Ev.of_mono attestorlaw11_works.mono gworks60
end Go.Proofs.YtbjeemlbjkmhiaaDoor.Pure
namespace Go.Proofs.YtbjeemlbjkmhiaaDoor.Pure
open Go.RowKit Go.Proofs.YtbjeemlbjkmhiaaDoor.Q Go.Proofs.YtbjeemlbjkmhiaaDoor.Num Go.Proofs.YtbjeemlbjkmhiaaDoor.Pol Go.Proofs.YtbjeemlbjkmhiaaDoorW.PrintWords Go.Proofs.YtbjeemlbjkmhiaaDoorW.PrintLast Go.Proofs.YtbjeemlbjkmhiaaDoorW.PrintMore

theorem mn_bd (l : List Int) : 0 ≤ mn (l.length : Int) 30 ∧ mn (l.length : Int) 30 ≤ (l.length : Int) ∧ (mn (l.length : Int) 30).toNat ≤ 30 := by
  unfold mn
  split <;> refine ⟨?_, ?_, ?_⟩ <;> omega
theorem GapRoots : attestorlaw11_GapRoots.Pure := by
  intro x l1 l2 hx _ hy1 hw1 _ hy2 hw2
  obtain ⟨f, hf⟩ : ∃ f, f = wrap64 (Int.tmod x 2) := ⟨_, rfl⟩
  have hf2 : f = 0 ∨ f = 1 := by
    simp [Lit.wf, IntKind.min, IntKind.max, IntKind.bits, IntKind.signed] at hx
    rw [tmod_nn (by omega), w64 (by omega) (by omega)] at hf
    omega
  obtain ⟨p, h⟩ := fp_of (f := f) (by omega) (by omega)
  have hpp : bco [97, 257] f.toNat = (p : Int) ∧ p ≤ 257 := by
    have := h.eq
    rcases hf2 with rfl | rfl
    · have e : (97 : Int) = p := this.symm ▸ rfl
      exact ⟨e, by omega⟩
    · have e : (257 : Int) = p := this.symm ▸ rfl
      exact ⟨e, by omega⟩
  obtain ⟨b1, b2, b3⟩ := mn_bd l1
  obtain ⟨b4, b5, b6⟩ := mn_bd l2
  refine Ev.ex (F := fun k => attestorlaw11_GapRoots.f k x l1 l2) ?_
  generalize hm1 : mn (l1.length : Int) 30 = m1 at b1 b2 b3
  generalize hm2 : mn (l2.length : Int) 30 = m2 at b4 b5 b6
  have u1 : UL (l1.take m1.toNat) := (UL.of_wf hw1).take _
  have u2 : UL (l2.take m2.toNat) := (UL.of_wf hw2).take _
  have n1 : (l1.take m1.toNat).length ≤ 30 := by rw [List.length_take]; omega
  have n2 : (l2.take m2.toNat).length ≤ 30 := by rw [List.length_take]; omega
  have sS := s_SubP h.o (by omega) (by omega) u1 u2
  obtain ⟨D, hD⟩ : ∃ D, D = nrm p (psub (l1.take m1.toNat) (l2.take m2.toNat)) := ⟨_, rfl⟩
  have uD : UL D := by rw [hD]; exact nrm_UL h.o _
  have lD : D.length ≤ 1000000 := by
    rw [hD]
    refine Nat.le_trans (nrm_length_le _ _) ?_
    have h9 : (psub (l1.take m1.toNat) (l2.take m2.toNat)).length = max (l1.take m1.toNat).length (l2.take m2.toNat).length := by rw [psub, padd_length]; simp [psc]
    omega
  rw [← hD] at sS
  have sR := s_GRoots h lD uD (by omega) (by omega)
  have sD := s_Degree h.o lD uD
  obtain ⟨K1, k1⟩ := Ev.get sS
  obtain ⟨K2, k2⟩ := Ev.get sR
  obtain ⟨K3, k3⟩ := Ev.get sD
  obtain ⟨K4, k4⟩ := Ev.get g_works
  refine Ev.mks (K1 + K2 + K3 + K4) fun k hk => ?_
  rw [attestorlaw11_GapRoots.f, ← hf, hm1, hm2, if_pos b1, if_pos b2, if_pos b4, if_pos b5, k1 _ (by omega), Option.bind_some, k2 _ (by omega), Option.bind_some, if_pos rfl, attestorlaw11_GapRoots.j0, k3 _ (by omega), Option.bind_some]
  by_cases e : (nrm p D).length = 0
  · have hz : EqP p D [] := nrm_eq_nil.1 (List.eq_nil_of_length_eq_zero e)
    have hc : cnt p (fun x => zro p (ev D x)) = p := cnt_all fun x _ => zro_iff.2 ((EqP.ev (x : Int) hz).trans (Cg.of_eq rfl))
    rw [if_pos (by omega), if_pos (by omega), if_pos (by omega), if_pos (by rw [hpp.1, hc]), k4 _ (by omega), Option.bind_some]
  · have hne : ¬ EqP p D [] := fun hz => e (by rw [nrm_eq_nil.2 hz]; rfl)
    have hc := cnt_roots h.pr (a := D) (n := (nrm p D).length - 1) (by rw [Nat.sub_add_cancel (by omega)]; exact Deg.of_nrm) hne
    rw [if_neg (by omega), Option.bind_some, if_pos (by show ((cnt p fun x => zro p (ev D x) : Nat) : Int) ≤ _; omega), k4 _ (by omega), Option.bind_some]
end Go.Proofs.YtbjeemlbjkmhiaaDoor.Pure

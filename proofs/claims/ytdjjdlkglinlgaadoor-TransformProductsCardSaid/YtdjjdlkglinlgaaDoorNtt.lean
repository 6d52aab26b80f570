/- The transform: values at the powers of a root of 1, by halves, and back. No program in sight. -/
import Derived.Test.YtdjjdlkglinlgaaDoorPol
namespace Go.Proofs.YtdjjdlkglinlgaaDoor.Pol
open Num

/-! ### Sums -/
/-- The sum of the first n values. -/
def smn (g : Nat → Int) : Nat → Int
  | 0 => 0
  | n + 1 => smn g n + g n
theorem smn_cg {p : Int} {g g' : Nat → Int} : ∀ {n : Nat}, (∀ i, i < n → Cg p (g i) (g' i)) → Cg p (smn g n) (smn g' n)
  | 0, _ => Cg.refl _ _
  | n + 1, h => (smn_cg (n := n) fun i hi => h i (by omega)).add (h n (by omega))
theorem smn_congr {g g' : Nat → Int} : ∀ {n : Nat}, (∀ i, i < n → g i = g' i) → smn g n = smn g' n
  | 0, _ => rfl
  | n + 1, h => by rw [smn, smn, smn_congr (n := n) fun i hi => h i (by omega), h n (by omega)]
theorem smn_add (g g' : Nat → Int) : ∀ n : Nat, smn (fun i => g i + g' i) n = smn g n + smn g' n
  | 0 => rfl
  | n + 1 => by rw [smn, smn, smn, smn_add g g' n]; omega
theorem smn_mul (c : Int) (g : Nat → Int) : ∀ n : Nat, smn (fun i => c * g i) n = c * smn g n
  | 0 => by simp [smn]
  | n + 1 => by rw [smn, smn, smn_mul c g n, Int.mul_add]
theorem smn_zero : ∀ n : Nat, smn (fun _ => 0) n = 0
  | 0 => rfl
  | n + 1 => by rw [smn, smn_zero n]; rfl
theorem smn_one : ∀ n : Nat, smn (fun _ => 1) n = n
  | 0 => rfl
  | n + 1 => by rw [smn, smn_one n]; omega
theorem smn_swap (F : Nat → Nat → Int) (m : Nat) : ∀ n : Nat, smn (fun i => smn (fun l => F i l) m) n = smn (fun l => smn (fun i => F i l) n) m
  | 0 => by simp only [smn]; exact (smn_zero m).symm
  | n + 1 => by rw [smn, smn_swap F m n, ← smn_add]; rfl
theorem smn_pairs (g : Nat → Int) : ∀ n : Nat, smn g (2 * n) = smn (fun i => g (2 * i) + g (2 * i + 1)) n
  | 0 => rfl
  | n + 1 => by rw [show 2 * (n + 1) = 2 * n + 1 + 1 by omega, smn, smn, smn, smn_pairs g n]; omega
/-- All but one term vanish. -/
theorem smn_only {p : Int} {g : Nat → Int} {j : Nat} {v : Int} : ∀ {n : Nat}, j < n → (∀ i, i < n → i ≠ j → Cg p (g i) 0) → Cg p (g j) v → Cg p (smn g n) v
  | 0, h, _, _ => by omega
  | n + 1, hj, h0, h1 => by
    rw [smn]
    by_cases e : j = n
    · subst e
      have h2 : Cg p (smn g j) (smn (fun _ => 0) j) := smn_cg fun i hi => h0 i (by omega) (by omega)
      rw [smn_zero] at h2
      have := h2.add h1
      simpa using this
    · have h2 := smn_only (n := n) (by omega) (fun i hi hne => h0 i (by omega) hne) h1
      have := h2.add (h0 n (by omega) (by omega))
      simpa using this
theorem ev_smn (x : Int) : ∀ (l : List Int) (n : Nat), l.length ≤ n → ev l x = smn (fun t => co l t * x ^ t) n
  | [], n, _ => by
    have : smn (fun t => co [] t * x ^ t) n = smn (fun _ => 0) n := smn_congr fun i _ => by simp
    rw [this, smn_zero, ev]
  | c :: t, 0, h => by simp at h
  | c :: t, n + 1, h => by
    have e : ∀ m, smn (fun i => co (c :: t) i * x ^ i) (m + 1) = c + x * smn (fun i => co t i * x ^ i) m := fun m => by
      induction m with
      | zero => simp [smn]
      | succ m ih =>
        rw [smn, ih, smn, co_cons_succ, Int.pow_succ]; grind
    rw [e, ev, ev_smn x t n (by simpa using h)]

/-! ### Halves -/
def evn : List Int → List Int
  | [] => []
  | [c] => [c]
  | c :: _ :: t => c :: evn t
def odn : List Int → List Int
  | [] => []
  | [_] => []
  | _ :: d :: t => d :: odn t
theorem co_evn : ∀ (l : List Int) (i : Nat), co (evn l) i = co l (2 * i)
  | [], i => by simp [evn]
  | [c], 0 => by simp [evn]
  | [c], i + 1 => by rw [co_over (by simp [evn]), co_over (by simp; omega)]
  | c :: d :: t, 0 => by simp [evn]
  | c :: d :: t, i + 1 => by rw [evn, co_cons_succ, co_evn t i, show 2 * (i + 1) = (2 * i + 1) + 1 by omega, co_cons_succ, co_cons_succ]
theorem co_odn : ∀ (l : List Int) (i : Nat), co (odn l) i = co l (2 * i + 1)
  | [], i => by simp [odn]
  | [c], i => by rw [co_over (by simp [odn]), co_over (by simp)]
  | c :: d :: t, 0 => by simp [odn]
  | c :: d :: t, i + 1 => by rw [odn, co_cons_succ, co_odn t i, show 2 * (i + 1) + 1 = (2 * i + 1 + 1) + 1 by omega, co_cons_succ, co_cons_succ]
theorem ev_halves (x : Int) : ∀ l : List Int, ev l x = ev (evn l) (x * x) + x * ev (odn l) (x * x)
  | [] => by simp [ev, evn, odn]
  | [c] => by simp [ev, evn, odn]
  | c :: d :: t => by simp only [ev, evn, odn]; rw [ev_halves x t]; grind
/-- The number whose k bits are those of i from the other end. -/
def rev : Nat → Nat → Nat
  | 0, _ => 0
  | k + 1, i => 2 * rev k (i % 2 ^ k) + i / 2 ^ k
theorem rev_lt : ∀ (k i : Nat), i < 2 ^ k → rev k i < 2 ^ k
  | 0, _, _ => by simp [rev]
  | k + 1, i, h => by
    have hp : 0 < 2 ^ k := Nat.pow_pos (by omega)
    have h1 := rev_lt k (i % 2 ^ k) (Nat.mod_lt _ hp)
    have h2 : i / 2 ^ k < 2 := by rw [Nat.div_lt_iff_lt_mul hp]; rw [Nat.pow_succ] at h; omega
    rw [rev, Nat.pow_succ]; omega
theorem rev_low {k i : Nat} (h : i < 2 ^ k) : rev (k + 1) i = 2 * rev k i := by rw [rev, Nat.mod_eq_of_lt h, Nat.div_eq_of_lt h]; omega
theorem rev_high {k i : Nat} (h : i < 2 ^ k) : rev (k + 1) (2 ^ k + i) = 2 * rev k i + 1 := by
  have hp : 0 < 2 ^ k := Nat.pow_pos (by omega)
  rw [rev, Nat.add_mod_left, Nat.mod_eq_of_lt h, Nat.add_div_left _ hp, Nat.div_eq_of_lt h]
/-- The values at the first n powers of w. -/
def vals (p w : Int) (a : List Int) (n : Nat) : List Int := (List.range n).map fun i => ev a (w ^ i) % p
theorem vals_length (p w : Int) (a : List Int) (n : Nat) : (vals p w a n).length = n := by simp [vals]
theorem co_vals {p w : Int} {a : List Int} {n i : Nat} (h : i < n) : co (vals p w a n) i = ev a (w ^ i) % p := by
  rw [co_lt (by rw [vals_length]; exact h)]; simp [vals]
/-- w is a root whose power 2^k is 1 for the first time. -/
def Rt (p w : Int) (k : Nat) : Prop := ∀ j, k = j + 1 → Cg p (w ^ 2 ^ j) (-1)
theorem Rt.sq {p w : Int} {k : Nat} (h : Rt p w (k + 1)) : Rt p (w * w) k := fun j hj => by
  have e : (w * w) ^ 2 ^ j = w ^ 2 ^ k := by
    subst hj
    rw [Int.mul_pow, ← Int.pow_add, Nat.pow_succ, Nat.mul_two]
  rw [e]; exact h k rfl
theorem Rt.congr {p w v : Int} {k : Nat} (h : Rt p w k) (e : Cg p w v) : Rt p v k := fun j hj => (e.symm.pow _).trans (h j hj)
theorem neg_one_pow_odd (j : Nat) : (-1 : Int) ^ (2 * j + 1) = -1 := by
  rw [Int.pow_succ, Int.pow_mul, show ((-1 : Int) ^ 2) = 1 by rfl, Int.one_pow]
  rfl
/-- The sum of the powers of a root. -/
theorem geo {p : Int} : ∀ (k : Nat) (w : Int) (m : Nat), Rt p w k → ¬ 2 ^ k ∣ m → Cg p (smn (fun i => w ^ (i * m)) (2 ^ k)) 0
  | 0, w, m, _, hm => absurd (by rw [Nat.pow_zero]; exact Nat.one_dvd m) hm
  | k + 1, w, m, hw, hm => by
    have e : smn (fun i => w ^ (i * m)) (2 ^ (k + 1)) = (1 + w ^ m) * smn (fun i => (w * w) ^ (i * m)) (2 ^ k) := by
      rw [Nat.pow_succ, Nat.mul_comm, smn_pairs, ← smn_mul]
      refine smn_congr fun i _ => ?_
      have e1 : w ^ (2 * i * m) = (w * w) ^ (i * m) := by rw [Int.mul_pow, ← Int.pow_add]; congr 1; grind
      have e2 : w ^ ((2 * i + 1) * m) = (w * w) ^ (i * m) * w ^ m := by rw [← e1, ← Int.pow_add]; congr 1; grind
      rw [e1, e2]; grind
    rw [e]
    by_cases hd : 2 ^ k ∣ m
    · obtain ⟨j, rfl⟩ := hd
      have hj : j % 2 = 1 := by
        rcases Nat.mod_two_eq_zero_or_one j with q | q
        · exact absurd (by rw [Nat.pow_succ]; exact Nat.mul_dvd_mul_left _ (Nat.dvd_of_mod_eq_zero q)) hm
        · exact q
      obtain ⟨i, rfl⟩ : ∃ i, j = 2 * i + 1 := ⟨j / 2, by omega⟩
      have h1 : Cg p (w ^ (2 ^ k * (2 * i + 1))) (-1) := by
        rw [Int.pow_mul]
        have := (hw k rfl).pow (2 * i + 1)
        rwa [neg_one_pow_odd] at this
      have h2 := ((Cg.refl p 1).add h1).mul (Cg.refl p (smn (fun i_1 => (w * w) ^ (i_1 * (2 ^ k * (2 * i + 1)))) (2 ^ k)))
      simpa using h2
    · have := (Cg.refl p (1 + w ^ m)).mul (geo k (w * w) m hw.sq hd)
      simpa using this
theorem pow_pair {p w u : Int} (h : Cg p (w * u) 1) (a : Nat) : Cg p (w ^ a * u ^ a) 1 := by
  rw [← Int.mul_pow]
  have := h.pow a
  rwa [Int.one_pow] at this
theorem Rt.inv {p w u : Int} {k : Nat} (hw : Rt p w k) (h : Cg p (w * u) 1) : Rt p u k := fun j hj => by
  have h1 := pow_pair h (2 ^ j)
  have h2 := ((hw j hj).mul (Cg.refl p (u ^ 2 ^ j))).symm.trans h1
  have h3 : Cg p (-1 * (-1 * u ^ 2 ^ j)) (-1 * 1) := (Cg.refl p (-1)).mul h2
  exact (Cg.of_eq (by omega)).trans h3
/-- The values' values at the powers of the inverse. -/
theorem dft_inv {p w u : Int} {k : Nat} (hw : Rt p w k) (hu : Cg p (w * u) 1) {a : List Int} (ha : a.length ≤ 2 ^ k) {j : Nat} (hj : j < 2 ^ k) : Cg p (ev (vals p w a (2 ^ k)) (u ^ j)) (((2 ^ k : Nat) : Int) * co a j) := by
  have hu2 := hw.inv hu
  rw [ev_smn _ _ (2 ^ k) (by rw [vals_length]; exact Nat.le_refl _)]
  have h1 : Cg p (smn (fun i => co (vals p w a (2 ^ k)) i * (u ^ j) ^ i) (2 ^ k)) (smn (fun i => smn (fun l => co a l * (w ^ i) ^ l * (u ^ j) ^ i) (2 ^ k)) (2 ^ k)) := smn_cg fun i hi => by
    rw [co_vals hi]
    refine ((Cg.mod _ _).mul (Cg.refl _ _)).trans (Cg.of_eq ?_)
    rw [ev_smn _ a (2 ^ k) ha, Int.mul_comm, ← smn_mul]
    exact smn_congr fun l _ => by rw [Int.mul_comm]
  refine h1.trans ?_
  rw [smn_swap]
  refine smn_only (j := j) hj (fun l hl hne => ?_) ?_
  · have e : smn (fun i => co a l * (w ^ i) ^ l * (u ^ j) ^ i) (2 ^ k) = co a l * smn (fun i => (w ^ i) ^ l * (u ^ j) ^ i) (2 ^ k) := by
      rw [← smn_mul]; exact smn_congr fun i _ => by rw [Int.mul_assoc]
    rw [e]
    have h2 : Cg p (smn (fun i => (w ^ i) ^ l * (u ^ j) ^ i) (2 ^ k)) 0 := by
      rcases Nat.lt_or_ge l j with q | q
      · have h3 : Cg p (smn (fun i => (w ^ i) ^ l * (u ^ j) ^ i) (2 ^ k)) (smn (fun i => u ^ (i * (j - l))) (2 ^ k)) := smn_cg fun i _ => by
          have e1 : (u ^ j) ^ i = u ^ (i * l) * u ^ (i * (j - l)) := by rw [← Int.pow_mul, ← Int.pow_add]; congr 1; rw [← Nat.mul_add, Nat.mul_comm j i]; congr 1; omega
          rw [e1, ← Int.pow_mul, ← Int.mul_assoc]
          have := (pow_pair hu (i * l)).mul (Cg.refl p (u ^ (i * (j - l))))
          rwa [Int.one_mul] at this
        refine h3.trans (geo k u (j - l) hu2 fun hd => ?_)
        have := Nat.le_of_dvd (by omega) hd
        omega
      · have h3 : Cg p (smn (fun i => (w ^ i) ^ l * (u ^ j) ^ i) (2 ^ k)) (smn (fun i => w ^ (i * (l - j))) (2 ^ k)) := smn_cg fun i _ => by
          have e1 : (w ^ i) ^ l = w ^ (i * (l - j)) * w ^ (i * j) := by rw [← Int.pow_mul, ← Int.pow_add]; congr 1; rw [← Nat.mul_add]; congr 1; omega
          have e2 : (u ^ j) ^ i = u ^ (i * j) := by rw [← Int.pow_mul, Nat.mul_comm]
          rw [e1, e2, Int.mul_assoc]
          have := (Cg.refl p (w ^ (i * (l - j)))).mul (pow_pair hu (i * j))
          rwa [Int.mul_one] at this
        refine h3.trans (geo k w (l - j) hw fun hd => ?_)
        have := Nat.le_of_dvd (by omega) hd
        omega
    have := (Cg.refl p (co a l)).mul h2
    rwa [Int.mul_zero] at this
  · have h3 : Cg p (smn (fun i => co a j * (w ^ i) ^ j * (u ^ j) ^ i) (2 ^ k)) (smn (fun i => co a j * 1) (2 ^ k)) := smn_cg fun i _ => by
      have e1 : (w ^ i) ^ j = w ^ (i * j) := by rw [← Int.pow_mul]
      have e2 : (u ^ j) ^ i = u ^ (i * j) := by rw [← Int.pow_mul, Nat.mul_comm]
      rw [Int.mul_assoc, e1, e2]
      exact (Cg.refl p (co a j)).mul (pow_pair hu (i * j))
    refine h3.trans (Cg.of_eq ?_)
    rw [smn_mul, smn_one, Int.mul_comm]
end Go.Proofs.YtdjjdlkglinlgaaDoor.Pol

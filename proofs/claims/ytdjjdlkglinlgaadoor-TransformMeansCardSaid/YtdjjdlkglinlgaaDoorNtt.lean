/- The transform: values at the powers of a root of 1, by halves, and back. No program in sight. -/
import Derived.Test.YtdjjdlkglinlgaaDoorPol
namespace Go.Proofs.YtdjjdlkglinlgaaDoor.Pol
open Num

/-! ### Sums -/
/-! ### Halves -/
def evn : List Int → List Int
  | [] => []
  | [c] => [c]
  | c :: _ :: t => c :: evn t
def odn : List Int → List Int
  | [] => []
  | [_] => []
  | _ :: d :: t => d :: odn t
theorem co_evn : ∀ (l : List Int) (i : Nat), co (evn l) i = co l (2 * i)
  | [], i => by simp [evn]
  | [c], 0 => by simp [evn]
  | [c], i + 1 => by rw [co_over (by simp [evn]), co_over (by simp; omega)]
  | c :: d :: t, 0 => by simp [evn]
  | c :: d :: t, i + 1 => by rw [evn, co_cons_succ, co_evn t i, show 2 * (i + 1) = (2 * i + 1) + 1 by omega, co_cons_succ, co_cons_succ]
theorem co_odn : ∀ (l : List Int) (i : Nat), co (odn l) i = co l (2 * i + 1)
  | [], i => by simp [odn]
  | [c], i => by rw [co_over (by simp [odn]), co_over (by simp)]
  | c :: d :: t, 0 => by simp [odn]
  | c :: d :: t, i + 1 => by rw [odn, co_cons_succ, co_odn t i, show 2 * (i + 1) + 1 = (2 * i + 1 + 1) + 1 by omega, co_cons_succ, co_cons_succ]
theorem ev_halves (x : Int) : ∀ l : List Int, ev l x = ev (evn l) (x * x) + x * ev (odn l) (x * x)
  | [] => by simp [ev, evn, odn]
  | [c] => by simp [ev, evn, odn]
  | c :: d :: t => by simp only [ev, evn, odn]; rw [ev_halves x t]; grind
/-- The number whose k bits are those of i from the other end. -/
def rev : Nat → Nat → Nat
  | 0, _ => 0
  | k + 1, i => 2 * rev k (i % 2 ^ k) + i / 2 ^ k
theorem rev_lt : ∀ (k i : Nat), i < 2 ^ k → rev k i < 2 ^ k
  | 0, _, _ => by simp [rev]
  | k + 1, i, h => by
    have hp : 0 < 2 ^ k := Nat.pow_pos (by omega)
    have h1 := rev_lt k (i % 2 ^ k) (Nat.mod_lt _ hp)
    have h2 : i / 2 ^ k < 2 := by rw [Nat.div_lt_iff_lt_mul hp]; rw [Nat.pow_succ] at h; omega
    rw [rev, Nat.pow_succ]; omega
theorem rev_low {k i : Nat} (h : i < 2 ^ k) : rev (k + 1) i = 2 * rev k i := by rw [rev, Nat.mod_eq_of_lt h, Nat.div_eq_of_lt h]; omega
theorem rev_high {k i : Nat} (h : i < 2 ^ k) : rev (k + 1) (2 ^ k + i) = 2 * rev k i + 1 := by
  have hp : 0 < 2 ^ k := Nat.pow_pos (by omega)
  rw [rev, Nat.add_mod_left, Nat.mod_eq_of_lt h, Nat.add_div_left _ hp, Nat.div_eq_of_lt h]
/-- The values at the first n powers of w. -/
def vals (p w : Int) (a : List Int) (n : Nat) : List Int := (List.range n).map fun i => ev a (w ^ i) % p
theorem vals_length (p w : Int) (a : List Int) (n : Nat) : (vals p w a n).length = n := by simp [vals]
theorem co_vals {p w : Int} {a : List Int} {n i : Nat} (h : i < n) : co (vals p w a n) i = ev a (w ^ i) % p := by
  rw [co_lt (by rw [vals_length]; exact h)]; simp [vals]
/-- w is a root whose power 2^k is 1 for the first time. -/
def Rt (p w : Int) (k : Nat) : Prop := ∀ j, k = j + 1 → Cg p (w ^ 2 ^ j) (-1)
theorem Rt.sq {p w : Int} {k : Nat} (h : Rt p w (k + 1)) : Rt p (w * w) k := fun j hj => by
  have e : (w * w) ^ 2 ^ j = w ^ 2 ^ k := by
    subst hj
    rw [Int.mul_pow, ← Int.pow_add, Nat.pow_succ, Nat.mul_two]
  rw [e]; exact h k rfl
theorem Rt.congr {p w v : Int} {k : Nat} (h : Rt p w k) (e : Cg p w v) : Rt p v k := fun j hj => (e.symm.pow _).trans (h j hj)
theorem pow_pair {p w u : Int} (h : Cg p (w * u) 1) (a : Nat) : Cg p (w ^ a * u ^ a) 1 := by
  rw [← Int.mul_pow]
  have := h.pow a
  rwa [Int.one_pow] at this
theorem Rt.inv {p w u : Int} {k : Nat} (hw : Rt p w k) (h : Cg p (w * u) 1) : Rt p u k := fun j hj => by
  have h1 := pow_pair h (2 ^ j)
  have h2 := ((hw j hj).mul (Cg.refl p (u ^ 2 ^ j))).symm.trans h1
  have h3 : Cg p (-1 * (-1 * u ^ 2 ^ j)) (-1 * 1) := (Cg.refl p (-1)).mul h2
  exact (Cg.of_eq (by omega)).trans h3
end Go.Proofs.YtdjjdlkglinlgaaDoor.Pol

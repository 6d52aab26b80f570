/- Polynomials as lists of whole numbers, modulo a prime: values, normal forms, products, roots, division. No program in sight. -/
import Derived.Test.YthinfmfjpaikiaaDoorNum
namespace Go.Proofs.YthinfmfjpaikiaaDoor.Pol
open Num

def co (l : List Int) (i : Nat) : Int := l.getD i 0
@[simp] theorem co_nil (i : Nat) : co [] i = 0 := by simp [co]
@[simp] theorem co_cons_zero (c : Int) (t : List Int) : co (c :: t) 0 = c := by simp [co]
@[simp] theorem co_cons_succ (c : Int) (t : List Int) (i : Nat) : co (c :: t) (i + 1) = co t i := by simp [co]
theorem co_over {l : List Int} {i : Nat} (h : l.length ≤ i) : co l i = 0 := by simp [co, List.getD, List.getElem?_eq_none h]
theorem co_lt {l : List Int} {i : Nat} (h : i < l.length) : co l i = l[i] := by simp [co, List.getD, h]
theorem co_mem {l : List Int} {i : Nat} (h : i < l.length) : co l i ∈ l := by rw [co_lt h]; exact List.getElem_mem h
def EqP (p : Int) (a b : List Int) : Prop := ∀ i, Cg p (co a i) (co b i)
theorem EqP.refl (p : Int) (a : List Int) : EqP p a a := fun _ => Cg.refl _ _
theorem EqP.symm {p : Int} {a b : List Int} (h : EqP p a b) : EqP p b a := fun i => (h i).symm
theorem EqP.trans {p : Int} {a b c : List Int} (h : EqP p a b) (g : EqP p b c) : EqP p a c := fun i => (h i).trans (g i)
def Deg (p : Int) (l : List Int) (n : Nat) : Prop := ∀ i, n ≤ i → Cg p (co l i) 0
theorem Deg.mono {p : Int} {l : List Int} {n m : Nat} (h : Deg p l n) (hn : n ≤ m) : Deg p l m := fun i hi => h i (Nat.le_trans hn hi)
theorem Deg.congr {p : Int} {a b : List Int} {n : Nat} (h : Deg p a n) (e : EqP p a b) : Deg p b n := fun i hi => (e i).symm.trans (h i hi)
theorem Deg.nil {p : Int} {a : List Int} (h : Deg p a 0) : EqP p a [] := fun i => by simpa using h i (Nat.zero_le _)
def trm : List Int → List Int
  | [] => []
  | c :: t => if trm t = [] ∧ c = 0 then [] else c :: trm t
def Lz (l : List Int) : Prop := ∀ n, l.length = n + 1 → co l n ≠ 0
theorem trm_co : ∀ (l : List Int) (i : Nat), co (trm l) i = co l i
  | [], i => rfl
  | c :: t, i => by
    have ih := trm_co t
    unfold trm
    split
    · rename_i h
      cases i with
      | zero => simp [h.2]
      | succ i => have := ih i; rw [h.1] at this; simpa using this
    · cases i with
      | zero => simp
      | succ i => simpa using ih i
theorem trm_lz : ∀ l : List Int, Lz (trm l)
  | [] => fun n h => by simp [trm] at h
  | c :: t => by
    have ih := trm_lz t
    unfold trm
    split
    · intro n h; simp at h
    · rename_i hc
      intro n h
      cases n with
      | zero =>
        have : trm t = [] := by simpa using h
        intro h0
        exact hc ⟨this, by simpa using h0⟩
      | succ n => rw [co_cons_succ]; exact ih n (by simpa using h)
def nrm (p : Int) (l : List Int) : List Int := trm (l.map (· % p))
theorem co_map_mod (p : Int) : ∀ (l : List Int) (i : Nat), co (l.map (· % p)) i = co l i % p
  | [], i => by simp
  | c :: t, 0 => by simp
  | c :: t, i + 1 => by simpa using co_map_mod p t i
theorem nrm_co (p : Int) (l : List Int) (i : Nat) : co (nrm p l) i = co l i % p := by rw [nrm, trm_co, co_map_mod]
structure Nf (p : Int) (l : List Int) : Prop where
  rng : ∀ i, 0 ≤ co l i ∧ co l i < p
  lz : Lz l
theorem nrm_nf {p : Int} (hp : 0 < p) (l : List Int) : Nf p (nrm p l) := ⟨fun i => by rw [nrm_co]; exact ⟨mod_nonneg hp _, mod_lt hp _⟩, trm_lz _⟩
theorem nrm_deg {p : Int} (hp : 0 < p) {l : List Int} {n : Nat} (h : Deg p l n) : (nrm p l).length ≤ n := by
  rcases Nat.lt_or_ge n (nrm p l).length with e | e
  · obtain ⟨m, hm⟩ : ∃ m, (nrm p l).length = m + 1 := ⟨(nrm p l).length - 1, by omega⟩
    refine absurd ?_ ((nrm_nf hp l).lz m hm)
    rw [nrm_co]
    exact mod_eq_zero.2 (h m (by omega))
  · exact e
def Mon (v : List Int) (n : Nat) : Prop := co v n = 1 ∧ ∀ i, n < i → co v i = 0
theorem Mon.one : Mon [1] 0 := ⟨by simp, fun i hi => co_over (by simp; omega)⟩
theorem Mon.deg {p : Int} {v : List Int} {n : Nat} (h : Mon v n) : Deg p v (n + 1) := fun i hi => by rw [h.2 i (by omega)]; exact Cg.refl _ _
theorem Mon.length {p : Int} (hp : 1 < p) {v : List Int} {n : Nat} (h : Mon v n) : (nrm p v).length = n + 1 := by
  have h1 := nrm_deg (by omega) (h.deg (p := p))
  rcases Nat.lt_or_ge n (nrm p v).length with e | e
  · omega
  · have := nrm_co p v n
    rw [co_over e, h.1, Int.emod_eq_of_lt (by omega) hp] at this
    omega
end Go.Proofs.YthinfmfjpaikiaaDoor.Pol

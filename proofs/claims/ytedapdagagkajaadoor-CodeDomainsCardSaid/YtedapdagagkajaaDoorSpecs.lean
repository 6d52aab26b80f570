/- What the functions of the program and of the reference answer: plain arithmetic, no memory. -/
import Derived.Test.YtedapdagagkajaaDoorPol
import Derived.Test.YtedapdagagkajaaDoorQ0
import Derived.Test.YtedapdagagkajaaDoorQ2
import Derived.Test.YtedapdagagkajaaDoorQ3
import Derived.Test.YtedapdagagkajaaDoorQ4
import Derived.Laws.BitsLemmas
import Derived.KernelRfl
import Derived.Test.YtedapdagagkajaaDoorQ5
import Derived.Test.YtedapdagagkajaaDoorQ24
import Derived.Test.YtedapdagagkajaaDoorQ13
import Derived.Test.YtedapdagagkajaaDoorQ16
import Derived.Test.YtedapdagagkajaaDoorQ7
import Derived.Test.YtedapdagagkajaaDoorQ10
import Derived.Test.YtedapdagagkajaaDoorQ14
import Derived.Test.YtedapdagagkajaaDoorQ15
import Derived.Test.YtedapdagagkajaaDoorQ11
import Derived.Test.YtedapdagagkajaaDoorQ6
namespace Go.Proofs.YtedapdagagkajaaDoor.Pol
open Num

/-! ### Sums -/
/-- The sum of the first n values. -/
def smn (g : Nat → Int) : Nat → Int
  | 0 => 0
  | n + 1 => smn g n + g n
theorem smn_cg {p : Int} {g g' : Nat → Int} : ∀ {n : Nat}, (∀ i, i < n → Cg p (g i) (g' i)) → Cg p (smn g n) (smn g' n)
  | 0, _ => Cg.refl _ _
  | n + 1, h => (smn_cg (n := n) fun i hi => h i (by omega)).add (h n (by omega))
theorem smn_congr {g g' : Nat → Int} : ∀ {n : Nat}, (∀ i, i < n → g i = g' i) → smn g n = smn g' n
  | 0, _ => rfl
  | n + 1, h => by rw [smn, smn, smn_congr (n := n) fun i hi => h i (by omega), h n (by omega)]
theorem smn_mul (c : Int) (g : Nat → Int) : ∀ n : Nat, smn (fun i => c * g i) n = c * smn g n
  | 0 => by simp [smn]
  | n + 1 => by rw [smn, smn, smn_mul c g n, Int.mul_add]
theorem smn_one : ∀ n : Nat, smn (fun _ => 1) n = n
  | 0 => rfl
  | n + 1 => by rw [smn, smn_one n]; omega
theorem smn_pairs (g : Nat → Int) : ∀ n : Nat, smn g (2 * n) = smn (fun i => g (2 * i) + g (2 * i + 1)) n
  | 0 => rfl
  | n + 1 => by rw [show 2 * (n + 1) = 2 * n + 1 + 1 by omega, smn, smn, smn, smn_pairs g n]; omega
/-! ### Halves -/
/-- w is a root whose power 2^k is 1 for the first time. -/
def Rt (p w : Int) (k : Nat) : Prop := ∀ j, k = j + 1 → Cg p (w ^ 2 ^ j) (-1)
theorem Rt.sq {p w : Int} {k : Nat} (h : Rt p w (k + 1)) : Rt p (w * w) k := fun j hj => by
  have e : (w * w) ^ 2 ^ j = w ^ 2 ^ k := by
    subst hj
    rw [Int.mul_pow, ← Int.pow_add, Nat.pow_succ, Nat.mul_two]
  rw [e]; exact h k rfl
theorem Rt.congr {p w v : Int} {k : Nat} (h : Rt p w k) (e : Cg p w v) : Rt p v k := fun j hj => (e.symm.pow _).trans (h j hj)
theorem neg_one_pow_odd (j : Nat) : (-1 : Int) ^ (2 * j + 1) = -1 := by
  rw [Int.pow_succ, Int.pow_mul, show ((-1 : Int) ^ 2) = 1 by rfl, Int.one_pow]
  rfl
/-- The sum of the powers of a root. -/
theorem geo {p : Int} : ∀ (k : Nat) (w : Int) (m : Nat), Rt p w k → ¬ 2 ^ k ∣ m → Cg p (smn (fun i => w ^ (i * m)) (2 ^ k)) 0
  | 0, w, m, _, hm => absurd (by rw [Nat.pow_zero]; exact Nat.one_dvd m) hm
  | k + 1, w, m, hw, hm => by
    have e : smn (fun i => w ^ (i * m)) (2 ^ (k + 1)) = (1 + w ^ m) * smn (fun i => (w * w) ^ (i * m)) (2 ^ k) := by
      rw [Nat.pow_succ, Nat.mul_comm, smn_pairs, ← smn_mul]
      refine smn_congr fun i _ => ?_
      have e1 : w ^ (2 * i * m) = (w * w) ^ (i * m) := by rw [Int.mul_pow, ← Int.pow_add]; congr 1; grind
      have e2 : w ^ ((2 * i + 1) * m) = (w * w) ^ (i * m) * w ^ m := by rw [← e1, ← Int.pow_add]; congr 1; grind
      rw [e1, e2]; grind
    rw [e]
    by_cases hd : 2 ^ k ∣ m
    · obtain ⟨j, rfl⟩ := hd
      have hj : j % 2 = 1 := by
        rcases Nat.mod_two_eq_zero_or_one j with q | q
        · exact absurd (by rw [Nat.pow_succ]; exact Nat.mul_dvd_mul_left _ (Nat.dvd_of_mod_eq_zero q)) hm
        · exact q
      obtain ⟨i, rfl⟩ : ∃ i, j = 2 * i + 1 := ⟨j / 2, by omega⟩
      have h1 : Cg p (w ^ (2 ^ k * (2 * i + 1))) (-1) := by
        rw [Int.pow_mul]
        have := (hw k rfl).pow (2 * i + 1)
        rwa [neg_one_pow_odd] at this
      have h2 := ((Cg.refl p 1).add h1).mul (Cg.refl p (smn (fun i_1 => (w * w) ^ (i_1 * (2 ^ k * (2 * i + 1)))) (2 ^ k)))
      simpa using h2
    · have := (Cg.refl p (1 + w ^ m)).mul (geo k (w * w) m hw.sq hd)
      simpa using this
end Go.Proofs.YtedapdagagkajaaDoor.Pol
namespace Go.Proofs.YtedapdagagkajaaDoor.Pure
open Go.RowKit Go.Proofs.YtedapdagagkajaaDoor.Q Go.Proofs.YtedapdagagkajaaDoor.Num Go.Proofs.YtedapdagagkajaaDoor.Pol Go.Proofs.YtedapdagagkajaaDoorW.PrintWords Go.Proofs.YtedapdagagkajaaDoorW.PrintLast Go.Proofs.YtedapdagagkajaaDoorW.PrintMore

def Ev {α : Type} (F : Nat → Option α) (v : α) : Prop := ∃ K, ∀ k, K ≤ k → F k = some v
theorem Ev.all {α : Type} {F : Nat → Option α} {v : α} (h : ∀ k, F k = some v) : Ev F v := ⟨0, fun k _ => h k⟩
theorem Ev.mk {α : Type} {F : Nat → Option α} {v : α} (K : Nat) (h : ∀ k, K ≤ k → F k = some v) : Ev F v := ⟨K, h⟩
/-- The same, one round deeper. -/
theorem Ev.mks {α : Type} {F : Nat → Option α} {v : α} (K : Nat) (h : ∀ k, K ≤ k → F (k + 1) = some v) : Ev F v := ⟨K + 1, fun k hk => by
  obtain ⟨k, rfl⟩ : ∃ k', k = k' + 1 := ⟨k - 1, by omega⟩
  exact h k (by omega)⟩
theorem Ev.get {α : Type} {F : Nat → Option α} {v : α} (h : Ev F v) : ∃ K, ∀ k, K ≤ k → F k = some v := h
theorem Ev.ex {α : Type} {F : Nat → Option α} {v : α} (h : Ev F v) : ∃ k, F k = some v := let ⟨K, hK⟩ := h; ⟨K, hK K (Nat.le_refl _)⟩
theorem Ev.succ {α : Type} {F G : Nat → Option α} {v : α} (h : ∀ k, G (k + 1) = F k) (hF : Ev F v) : Ev G v := by
  obtain ⟨K, hK⟩ := hF
  refine ⟨K + 1, fun k hk => ?_⟩
  obtain ⟨j, rfl⟩ : ∃ j, k = j + 1 := ⟨k - 1, by omega⟩
  rw [h]
  exact hK j (by omega)
theorem Ev.congr {α : Type} {F G : Nat → Option α} {v : α} (h : ∀ k, G k = F k) (hF : Ev F v) : Ev G v := by
  obtain ⟨K, hK⟩ := hF
  exact ⟨K, fun k hk => (h k).trans (hK k hk)⟩
theorem Ev.bind {α β : Type} {F : Nat → Option α} {G : Nat → α → Option β} {a : α} {b : β} (hF : Ev F a) (hG : Ev (fun k => G k a) b) : Ev (fun k => (F k).bind (G k)) b := by
  obtain ⟨K, hK⟩ := hF
  obtain ⟨L, hL⟩ := hG
  refine ⟨max K L, fun k hk => ?_⟩
  show (F k).bind (G k) = some b
  rw [hK k (by omega)]
  exact hL k (by omega)
theorem Ev.of_mono {α : Type} {F : Nat → Option α} {v : α} (hm : ∀ k, LeO (F k) (F (k + 1))) {K : Nat} (h : F K = some v) : Ev F v := by
  refine ⟨K, fun k hk => ?_⟩
  obtain ⟨d, rfl⟩ : ∃ d, k = K + d := ⟨k - K, by omega⟩
  clear hk
  induction d with
  | zero => exact h
  | succ d ih => exact hm _ _ ih
theorem Ev.uniq {α : Type} {F : Nat → Option α} {v w : α} (h : Ev F v) (g : Ev F w) : v = w := by
  obtain ⟨K, hK⟩ := h
  obtain ⟨L, hL⟩ := g
  exact Option.some.inj ((hK (max K L) (by omega)).symm.trans (hL (max K L) (by omega)))

/-- A machine word without sign; a list of such. -/
def U (x : Int) : Prop := 0 ≤ x ∧ x < 18446744073709551616
def UL (l : List Int) : Prop := ∀ c ∈ l, U c
theorem U.zero : U 0 := by unfold U; omega
theorem U.co {l : List Int} (h : UL l) (i : Nat) : U (co l i) := by
  by_cases hi : i < l.length
  · exact h _ (co_mem hi)
  · rw [co_over (by omega)]; exact U.zero
theorem UL.nil : UL [] := fun _ h => by simp at h
theorem UL.cons {c : Int} {l : List Int} (h : U c) (g : UL l) : UL (c :: l) := fun x hx => (List.mem_cons.1 hx).elim (fun e => e ▸ h) (g x)
theorem UL.append {a b : List Int} (h : UL a) (g : UL b) : UL (a ++ b) := fun x hx => (List.mem_append.1 hx).elim (h x) (g x)
theorem UL.take {a : List Int} (h : UL a) (n : Nat) : UL (a.take n) := fun _ hx => h _ (List.mem_of_mem_take hx)
theorem UL.replicate (n : Nat) : UL (List.replicate n 0) := fun x hx => by rw [(List.mem_replicate.1 hx).2]; exact U.zero
theorem UL.set {a : List Int} (h : UL a) {x : Int} (hx : U x) (i : Nat) : UL (a.set i x) := fun y hy => by
  rcases List.mem_or_eq_of_mem_set hy with hy | rfl
  · exact h _ hy
  · exact hx
theorem w64 {n : Int} (h1 : -9223372036854775808 ≤ n) (h2 : n ≤ 9223372036854775807) : wrap64 n = n := by unfold wrap64; omega
theorem w64_succ {i : Nat} (h : i < 9223372036854775807) : wrap64 ((i : Int) + 1) = ((i + 1 : Nat) : Int) := by rw [w64 (by omega) (by omega)]; omega
theorem wu64 {n : Int} (h1 : 0 ≤ n) (h2 : n < 18446744073709551616) : IntKind.u64.wrap n = n := by rw [IntKind.wrap_u64]; omega
theorem tmod_nn {a : Int} (h : 0 ≤ a) (p : Int) : Int.tmod a p = a % p := Int.tmod_eq_emod_of_nonneg h
theorem co_set {l : List Int} {i : Nat} (h : i < l.length) (x : Int) (j : Nat) : co (l.set i x) j = if j = i then x else co l j := by
  unfold co
  rw [List.getD_eq_getElem?_getD, List.getD_eq_getElem?_getD, List.getElem?_set]
  by_cases e : i = j
  · subst e; simp [h]
  · simp [e, Ne.symm e]
theorem co_replicate (n i : Nat) : co (List.replicate n 0) i = 0 := by
  by_cases h : i < n
  · rw [co_lt (by simpa using h)]; simp
  · exact co_over (by simpa using h)
theorem co_append (a b : List Int) (i : Nat) : co (a ++ b) i = if i < a.length then co a i else co b (i - a.length) := by
  unfold co
  rw [List.getD_eq_getElem?_getD, List.getElem?_append]
  split <;> simp
theorem ext_co {a b : List Int} (hl : a.length = b.length) (h : ∀ i, i < a.length → co a i = co b i) : a = b := by
  refine List.ext_getElem hl fun i h1 h2 => ?_
  have := h i h1
  rwa [co_lt h1, co_lt h2] at this
end Go.Proofs.YtedapdagagkajaaDoor.Pure
namespace Go.Proofs.YtedapdagagkajaaDoor.Pure
open Go.RowKit Go.Proofs.YtedapdagagkajaaDoor.Q Go.Proofs.YtedapdagagkajaaDoor.Num Go.Proofs.YtedapdagagkajaaDoor.Pol Go.Proofs.YtedapdagagkajaaDoorW.PrintWords Go.Proofs.YtedapdagagkajaaDoorW.PrintLast Go.Proofs.YtedapdagagkajaaDoorW.PrintMore

/-- f is one of the four fields, p its prime. -/
structure FP (f : Int) (p : Nat) : Prop where
  lo : 0 ≤ f
  hi : f < 4
  eq : pOf f = p
  pr : Pr p
  le : p ≤ 998244353
theorem fp_of {f : Int} (h0 : 0 ≤ f) (h1 : f < 4) : ∃ p, FP f p := by
  have : f = 0 ∨ f = 1 ∨ f = 2 ∨ f = 3 := by omega
  rcases this with rfl | rfl | rfl | rfl
  · exact ⟨97, by omega, by omega, rfl, pr97, by omega⟩
  · exact ⟨257, by omega, by omega, rfl, pr257, by omega⟩
  · exact ⟨12289, by omega, by omega, rfl, pr12289, by omega⟩
  · exact ⟨998244353, by omega, by omega, rfl, pr998244353, by omega⟩
theorem fp_or (f : Int) : (∃ p, FP f p) ∨ (f < 0 ∨ 4 ≤ f) := by
  rcases Int.lt_or_le f 0 with h | h
  · exact Or.inr (Or.inl h)
  · rcases Int.lt_or_le f 4 with h' | h'
    · exact Or.inl (fp_of h h')
    · exact Or.inr (Or.inr h')
theorem FP.pos {f : Int} {p : Nat} (h : FP f p) : (0 : Int) < p := h.pr.pos
theorem FP.one {f : Int} {p : Nat} (h : FP f p) : (1 : Int) < p := by have := h.pr.two; omega
theorem FP.lei {f : Int} {p : Nat} (h : FP f p) : (p : Int) ≤ 998244353 := by have := h.le; omega
theorem FP.mod {f : Int} {p : Nat} (h : FP f p) (a : Int) : 0 ≤ a % p ∧ a % p < p := ⟨mod_nonneg h.pos a, mod_lt h.pos a⟩
theorem FP.U {f : Int} {p : Nat} (h : FP f p) (a : Int) : U (a % p) := by have := h.mod a; have := h.lei; unfold Pure.U; omega
theorem pOf_bad {f : Int} (h : f < 0 ∨ 4 ≤ f) : pOf f = 0 := by
  unfold pOf
  rw [if_neg (by omega), if_neg (by omega), if_neg (by omega), if_neg (by omega)]

section good
variable {f : Int} {p : Nat} (h : FP f p)
include h
theorem s_Valid : field_Valid.f f = some true := by
  unfold field_Valid.f
  rw [if_pos h.lo, decide_eq_true h.hi]
theorem s_P : field_P.f f = some (p : Int) := by simp [field_P.f, h.eq]
theorem s_Mul {a b : Int} (ha : 0 ≤ a) (hb : 0 ≤ b) : field_Mul.f f a b = some ((a * b) % p) := by
  have hp := h.pos
  have ma := h.mod a
  have mb := h.mod b
  have hl := h.lei
  have h1 : 0 ≤ (a % p) * (b % p) := Int.mul_nonneg ma.1 mb.1
  have h2 : (a % p) * (b % p) ≤ 998244353 * 998244353 := Int.mul_le_mul (by omega) (by omega) mb.1 (by omega)
  simp only [field_Mul.f, s_P h, Option.bind_some]
  rw [if_neg (by omega), tmod_nn ha, tmod_nn hb, wu64 h1 (by omega), tmod_nn h1]
  congr 1
  exact Cg.mod_eq ((Cg.mod p a).mul (Cg.mod p b))
end good

theorem FP.three {f : Int} {p : Nat} (h : FP f p) : 3 ≤ p := by
  have h0 := h.eq
  have h1 := h.lo
  have h2 := h.hi
  have : f = 0 ∨ f = 1 ∨ f = 2 ∨ f = 3 := by omega
  rcases this with rfl | rfl | rfl | rfl <;> (simp [pOf] at h0; omega)

/-! ### The inverse by Euclid's algorithm -/
section good2
variable {f : Int} {p : Nat} (h : FP f p)
include h
end good2

/-! ### No field -/
section bad
variable {f : Int} (h : f < 0 ∨ 4 ≤ f)
include h
theorem b_Valid : field_Valid.f f = some false := by
  unfold field_Valid.f
  rcases h with h | h
  · rw [if_neg (by omega)]
  · rw [if_pos (by omega), decide_eq_false (by omega)]
end bad
/-- The field of f as rings go: modulo p if f is a field, modulo 1 if it is none. -/
structure FO (f : Int) (p : Nat) : Prop where
  pos : (0 : Int) < p
  lei : (p : Int) ≤ 998244353
  ok : FP f p ∨ ((f < 0 ∨ 4 ≤ f) ∧ p = 1)
theorem FP.o {f : Int} {p : Nat} (h : FP f p) : FO f p := ⟨h.pos, h.lei, Or.inl h⟩
theorem FO.mod {f : Int} {p : Nat} (h : FO f p) (a : Int) : 0 ≤ a % p ∧ a % p < p := ⟨mod_nonneg h.pos a, mod_lt h.pos a⟩
theorem FO.U {f : Int} {p : Nat} (h : FO f p) (a : Int) : U (a % p) := by have := h.mod a; have := h.lei; unfold Pure.U; omega
section any
variable {f : Int} {p : Nat} (h : FO f p)
include h
end any
end Go.Proofs.YtedapdagagkajaaDoor.Pure
namespace Go.Proofs.YtedapdagagkajaaDoor.Pure
open Go.RowKit Go.Proofs.YtedapdagagkajaaDoor.Q Go.Proofs.YtedapdagagkajaaDoor.Num Go.Proofs.YtedapdagagkajaaDoor.Pol Go.Proofs.YtedapdagagkajaaDoorW.PrintWords Go.Proofs.YtedapdagagkajaaDoorW.PrintLast Go.Proofs.YtedapdagagkajaaDoorW.PrintMore

section any
variable {f : Int} {p : Nat} (h : FO f p)
include h
/-! ### Products of X - x -/
end any
section good
variable {f : Int} {p : Nat} (h : FP f p)
include h
end good
end Go.Proofs.YtedapdagagkajaaDoor.Pure
namespace Go.Proofs.YtedapdagagkajaaDoor.Pure
open Go.RowKit Go.Proofs.YtedapdagagkajaaDoor.Q Go.Proofs.YtedapdagagkajaaDoor.Num Go.Proofs.YtedapdagagkajaaDoor.Pol Go.Proofs.YtedapdagagkajaaDoorW.PrintWords Go.Proofs.YtedapdagagkajaaDoorW.PrintLast Go.Proofs.YtedapdagagkajaaDoorW.PrintMore

/-- All numbers below p. -/
def Rg (p : Int) (l : List Int) : Prop := ∀ i, 0 ≤ co l i ∧ co l i < p
theorem Rg.set {p : Int} {l : List Int} (h : Rg p l) {i : Nat} {x : Int} (hx : 0 ≤ x ∧ x < p) : Rg p (l.set i x) := fun j => by
  by_cases hi : i < l.length
  · rw [co_set hi]
    split
    · exact hx
    · exact h j
  · rw [List.set_eq_of_length_le (by omega)]; exact h j
theorem Rg.eq {p : Int} {a b : List Int} (ha : Rg p a) (hb : Rg p b) (hl : a.length = b.length) (h : ∀ i, i < a.length → Cg p (co a i) (co b i)) : a = b :=
  ext_co hl fun i hi => (h i hi).uniq (ha i).1 (ha i).2 (hb i).1 (hb i).2
theorem Rg.U {f : Int} {p : Nat} (h : FO f p) {l : List Int} (hr : Rg p l) : UL l := fun c hc => by
  obtain ⟨i, hi, rfl⟩ := List.getElem_of_mem hc
  have := hr i
  rw [co_lt hi] at this
  have := h.lei
  unfold Pure.U; omega
/-! ### Same -/
/-- The polynomial that both find. -/
def Interp (p : Nat) (xs ys R : List Int) : Prop := Deg p R xs.length ∧ ∀ i, i < xs.length → Cg p (ev R (co xs i)) (co ys i)

section good
variable {f : Int} {p : Nat} (h : FP f p)
include h
theorem one_not_zero : ¬ Cg p (1 : Int) 0 := fun c => by
  have := c.mod_eq
  rw [Int.emod_eq_of_lt (by omega) h.one] at this
  simp at this
/-! ### The program's -/
end good
end Go.Proofs.YtedapdagagkajaaDoor.Pure
namespace Go.Proofs.YtedapdagagkajaaDoor.Pure
open Go.RowKit Go.Proofs.YtedapdagagkajaaDoor.Num Go.Proofs.YtedapdagagkajaaDoor.Pol

end Go.Proofs.YtedapdagagkajaaDoor.Pure
namespace Go.Proofs.YtedapdagagkajaaDoor.Pure
open Go.RowKit Go.Proofs.YtedapdagagkajaaDoor.Q Go.Proofs.YtedapdagagkajaaDoor.Num Go.Proofs.YtedapdagagkajaaDoor.Pol Go.Proofs.YtedapdagagkajaaDoorW.PrintWords Go.Proofs.YtedapdagagkajaaDoorW.PrintLast Go.Proofs.YtedapdagagkajaaDoorW.PrintMore

theorem bits_odd {n : Int} (h0 : 0 ≤ n) (h1 : n < 18446744073709551616) : Go.bits .and .u64 n 1 = n % 2 := Go.bits_mask .u64 64 (by decide) (fun n h0 h1 => wu64 h0 h1) 1 (by decide) n h0 h1
section good
variable {f : Int} {p : Nat} (h : FP f p)
include h
theorem pow_l0 : ∀ (m e : Nat) (a acc v : Int), e ≤ m → (e : Int) < 18446744073709551616 → 0 ≤ a → 0 ≤ acc → acc < p → Cg p v (acc * a ^ e) → Ev (fun k => field_Pow.l0 k f a e acc) (v % p) := by
  intro m
  induction m with
  | zero =>
    intro e a acc v he _ ha h0 h1 hv
    obtain rfl : e = 0 := by omega
    refine Ev.succ (F := fun _ => some (v % p)) (fun k => ?_) (Ev.all fun _ => rfl)
    rw [field_Pow.l0, if_neg (by omega)]
    rw [Int.pow_zero, Int.mul_one] at hv
    rw [hv.mod_eq, Int.emod_eq_of_lt h0 h1]
  | succ m ih =>
    intro e a acc v he hlt ha h0 h1 hv
    rcases Nat.eq_zero_or_pos e with rfl | hpos
    · refine Ev.succ (F := fun _ => some (v % p)) (fun k => ?_) (Ev.all fun _ => rfl)
      rw [field_Pow.l0, if_neg (by omega)]
      rw [Int.pow_zero, Int.mul_one] at hv
      rw [hv.mod_eq, Int.emod_eq_of_lt h0 h1]
    · obtain ⟨n, hn⟩ : ∃ n, n = e / 2 := ⟨_, rfl⟩
      have e2 : (e : Int) / 2 = (n : Int) := by omega
      have hb := bits_odd (n := (e : Int)) (by omega) hlt
      have hsq : ∀ w : Int, Cg p v (w * a ^ (n + n)) → Cg p v (w * (a * a % p) ^ n) := fun w hw => by
        refine hw.trans ((Cg.refl _ w).mul ?_)
        rw [← Nat.two_mul, Int.pow_mul]
        refine Cg.pow ?_ n
        have : a ^ 2 = a * a := by rw [Int.pow_succ, Int.pow_succ, Int.pow_zero, Int.one_mul]
        rw [this]
        exact (Cg.mod _ _).symm
      by_cases ho : (e : Int) % 2 = 1
      · have key := ih n (a * a % p) (acc * a % p) v (by omega) (by omega) (h.mod _).1 (h.mod _).1 (h.mod _).2 (hsq _ (by
          have e3 : e = n + n + 1 := by omega
          rw [e3, Int.pow_succ] at hv
          refine hv.trans ((Cg.of_eq ?_).trans ((Cg.mod _ _).symm.mul (Cg.refl _ _)))
          rw [Int.mul_comm (a ^ (n + n)) a, Int.mul_assoc]))
        refine Ev.succ (fun k => ?_) key
        rw [field_Pow.l0, if_pos (by omega), hb, if_pos ho, s_Mul h h0 ha, Option.bind_some, s_Mul h ha ha, Option.bind_some, e2]
      · have key := ih n (a * a % p) acc v (by omega) (by omega) (h.mod _).1 h0 h1 (hsq _ (by
          have e3 : e = n + n := by omega
          rw [e3] at hv
          exact hv))
        refine Ev.succ (fun k => ?_) key
        rw [field_Pow.l0, if_pos (by omega), hb, if_neg ho, s_Mul h ha ha, Option.bind_some, e2]
theorem s_Pow {a : Int} (ha : 0 ≤ a) (e : Nat) (he : (e : Int) < 18446744073709551616) : Ev (fun k => field_Pow.f k f a e) (a ^ e % p) := by
  refine Ev.congr (fun k => ?_) (pow_l0 h e e a 1 (a ^ e) (Nat.le_refl _) he ha (by omega) h.one (Cg.of_eq (Int.one_mul _).symm))
  rw [field_Pow.f, s_Valid h, Option.bind_some, if_pos rfl]
end good
end Go.Proofs.YtedapdagagkajaaDoor.Pure
namespace Go.Proofs.YtedapdagagkajaaDoor.Pure
open Go.RowKit Go.Proofs.YtedapdagagkajaaDoor.Q Go.Proofs.YtedapdagagkajaaDoor.Num Go.Proofs.YtedapdagagkajaaDoor.Pol Go.Proofs.YtedapdagagkajaaDoorW.PrintWords Go.Proofs.YtedapdagagkajaaDoorW.PrintLast Go.Proofs.YtedapdagagkajaaDoorW.PrintMore

section good
variable {f : Int} {p : Nat} (h : FP f p)
include h
end good

/-! ### The order of the turned bits -/
section good
variable {f : Int} {p : Nat} (h : FP f p)
include h
end good
/-! ### The roots -/
theorem s_Twos (f : Int) : field_Twos.f f = some (tOf f) := rfl
/-- The root whose first power 1 is the 2^k-th. -/
def wr (f : Int) (p k : Nat) : Int := gOf f ^ ((p - 1) / 2 ^ k) % p
theorem half0 : field_Pow.f 12 0 5 ((48 : Nat) : Int) = some 96 := by decide +kernel
theorem half1 : field_Pow.f 12 1 3 ((128 : Nat) : Int) = some 256 := by decide +kernel
theorem half2 : field_Pow.f 20 2 11 ((6144 : Nat) : Int) = some 12288 := by decide +kernel
theorem half3 : field_Pow.f 40 3 3 ((499122176 : Nat) : Int) = some 998244352 := by decide +kernel
theorem half_of {f : Int} {p : Nat} (h : FP f p) {g : Int} (g0 : 0 ≤ g) {K e : Nat} (he : e < 1000000000) {v : Int} (hv : field_Pow.f K f g ((e : Nat) : Int) = some v) (hp : v = (p : Int) - 1) : Cg p (g ^ e) (-1) := by
  have e1 := (s_Pow h g0 e (by omega)).uniq (Ev.of_mono (fun k => field_Pow.mono _ _ _ k) hv)
  refine (Cg.mod (p : Int) (g ^ e)).symm.trans ?_
  rw [e1, hp]
  exact ⟨1, by omega⟩
theorem gOf_nn (f : Int) : 0 ≤ gOf f := by unfold gOf; split <;> (try split) <;> (try split) <;> (try split) <;> omega
theorem wr_half_aux {f : Int} {p : Nat} (h : FP f p) : ∃ t m : Nat, tOf f = t ∧ 1 ≤ t ∧ p - 1 = 2 ^ t * m ∧ Cg p (gOf f ^ ((p - 1) / 2)) (-1) := by
  have h0 := h.lo
  have h1 := h.hi
  have h2 := h.eq
  have : f = 0 ∨ f = 1 ∨ f = 2 ∨ f = 3 := by omega
  rcases this with rfl | rfl | rfl | rfl
  · obtain rfl : p = 97 := by simp [pOf] at h2; omega
    exact ⟨5, 3, rfl, by omega, rfl, half_of h (by decide) (by decide) half0 rfl⟩
  · obtain rfl : p = 257 := by simp [pOf] at h2; omega
    exact ⟨8, 1, rfl, by omega, rfl, half_of h (by decide) (by decide) half1 rfl⟩
  · obtain rfl : p = 12289 := by simp [pOf] at h2; omega
    exact ⟨12, 3, rfl, by omega, rfl, half_of h (by decide) (by decide) half2 rfl⟩
  · obtain rfl : p = 998244353 := by simp [pOf] at h2; omega
    exact ⟨23, 119, rfl, by omega, rfl, half_of h (by decide) (by decide) half3 rfl⟩
section good
variable {f : Int} {p : Nat} (h : FP f p)
include h
theorem wr_dvd {k : Nat} (hk : (k : Int) ≤ tOf f) : (p - 1) / 2 ^ k * 2 ^ k = p - 1 := by
  obtain ⟨t, m, e1, _, e3, _⟩ := wr_half_aux h
  rw [e3]
  refine Nat.div_mul_cancel (Nat.dvd_trans (Nat.pow_dvd_pow 2 (by omega)) (Nat.dvd_mul_right _ _))
theorem wr_rt {k : Nat} (hk : (k : Int) ≤ tOf f) : Rt p (wr f p k) k := fun j hj => by
  obtain ⟨t, m, e1, e2, e3, e4⟩ := wr_half_aux h
  have hd := wr_dvd h hk
  refine ((Cg.mod (p : Int) _).pow _).trans ?_
  rw [← Int.pow_mul]
  have e5 : (p - 1) / 2 ^ k * 2 ^ j = (p - 1) / 2 := by
    subst hj
    generalize (p - 1) / 2 ^ (j + 1) = u at hd ⊢
    rw [Nat.pow_succ, ← Nat.mul_assoc] at hd
    omega
  rw [e5]
  exact e4
theorem wr_nn (k : Nat) : 0 ≤ wr f p k := (h.mod _).1
theorem wr_unit {k : Nat} : ¬ Cg p (wr f p k) 0 := fun hc => by
  have g1 : Cg p (gOf f ^ ((p - 1) / 2 ^ k)) 0 := (Cg.mod _ _).symm.trans hc
  obtain ⟨t, m, e1, e2, e3, e4⟩ := wr_half_aux h
  have hg : Cg p (gOf f) 0 := by
    generalize (p - 1) / 2 ^ k = e at g1
    induction e with
    | zero => rw [Int.pow_zero] at g1; exact absurd g1 (one_not_zero h)
    | succ e ih =>
      rw [Int.pow_succ] at g1
      rcases h.pr.int g1 with q | q
      · exact ih q
      · exact q
  have e5 := hg.pow ((p - 1) / 2)
  have h3 := h.three
  rw [Int.zero_pow (by omega)] at e5
  have := (e5.symm.trans e4).neg
  rw [Int.neg_zero] at this
  exact one_not_zero h (this.symm)
theorem s_Root {k : Nat} (hk : (k : Int) ≤ tOf f) : Ev (fun K => field_Root.f K f (k : Int)) (wr f p k) := by
  have hp := h.pos
  have hl := h.lei
  obtain ⟨t, m, e1, _⟩ := wr_half_aux h
  have ht : t ≤ 64 := by
    have : tOf f ≤ 23 := by unfold tOf; split <;> (try split) <;> (try split) <;> (try split) <;> omega
    omega
  have e : IntKind.u64.wrap (pOf f - 1) / 2 ^ min (k : Int).toNat 64 = (((p - 1) / 2 ^ k : Nat) : Int) := by
    rw [h.eq, wu64 (by omega) (by omega), Int.toNat_natCast, Nat.min_eq_left (by omega), show (p : Int) - 1 = ((p - 1 : Nat) : Int) by omega, Int.natCast_ediv, Int.natCast_pow]
    rfl
  refine Ev.congr (fun K => ?_) (s_Pow h (gOf_nn f) ((p - 1) / 2 ^ k) (by have := Nat.div_le_self (p - 1) (2 ^ k); omega))
  rw [field_Root.f, if_neg (by rw [h.eq]; omega), if_neg (by omega), if_neg (by omega), e]
end good
end Go.Proofs.YtedapdagagkajaaDoor.Pure
namespace Go.Proofs.YtedapdagagkajaaDoor.Pure
open Go.RowKit Go.Proofs.YtedapdagagkajaaDoor.Q Go.Proofs.YtedapdagagkajaaDoor.Num Go.Proofs.YtedapdagagkajaaDoor.Pol Go.Proofs.YtedapdagagkajaaDoorW.PrintWords Go.Proofs.YtedapdagagkajaaDoorW.PrintLast Go.Proofs.YtedapdagagkajaaDoorW.PrintMore

section any
variable {f : Int} {p : Nat} (h : FO f p)
include h
end any
end Go.Proofs.YtedapdagagkajaaDoor.Pure
namespace Go.Proofs.YtedapdagagkajaaDoor.Pure
open Go.RowKit Go.Proofs.YtedapdagagkajaaDoor.Q Go.Proofs.YtedapdagagkajaaDoor.Num Go.Proofs.YtedapdagagkajaaDoor.Pol Go.Proofs.YtedapdagagkajaaDoorW.PrintWords Go.Proofs.YtedapdagagkajaaDoorW.PrintLast Go.Proofs.YtedapdagagkajaaDoorW.PrintMore

/-- The exponent of the greatest size. -/
def gr (f : Int) : Int := mn (tOf f) 18
theorem gr_le (f : Int) : 0 ≤ gr f ∧ gr f ≤ tOf f ∧ gr f ≤ 18 := by
  unfold gr mn tOf
  split <;> (repeat' split) <;> omega
theorem shl_tab : ((List.range 31).all fun k => shl .i64 1 ((k : Nat) : Int) == ((2 ^ k : Nat) : Int)) = true := by decide +kernel
theorem s_shl {k : Nat} (hk : k ≤ 30) : shl .i64 1 (k : Int) = ((2 ^ k : Nat) : Int) := by
  have := List.all_eq_true.1 shl_tab k (List.mem_range.2 (by omega))
  exact beq_iff_eq.1 this
section bad
variable {f : Int} (h : f < 0 ∨ 4 ≤ f)
include h
end bad
section good
variable {f : Int} {p : Nat} (h : FP f p)
include h
end good
end Go.Proofs.YtedapdagagkajaaDoor.Pure
namespace Go.Proofs.YtedapdagagkajaaDoor.Pure
open Go.RowKit Go.Proofs.YtedapdagagkajaaDoor.Q Go.Proofs.YtedapdagagkajaaDoor.Num Go.Proofs.YtedapdagagkajaaDoor.Pol Go.Proofs.YtedapdagagkajaaDoorW.PrintWords Go.Proofs.YtedapdagagkajaaDoorW.PrintLast Go.Proofs.YtedapdagagkajaaDoorW.PrintMore

/-- A valid domain. -/
structure Dm (f : Int) (p k : Nat) (s : Int) : Prop where
  h : FP f p
  hg : (k : Int) ≤ gr f
  s0 : 0 < s
  sp : s < p
theorem s_cgr (f : Int) : code_greatest.f f = some (gr f) := by rw [code_greatest.f, s_Twos, Option.bind_some]; rfl
/-- A point of a domain. -/
def pnt (f : Int) (p k : Nat) (s : Int) (i : Nat) : Int := s * (wr f p k ^ i % p) % p
section dom
variable {f : Int} {p k : Nat} {s : Int} (z : Dm f p k s)
include z
theorem Dm.unit : s % p ≠ 0 := by
  have h0 := z.s0
  have h1 := z.sp
  rw [Int.emod_eq_of_lt (by omega) h1]
  omega
theorem Dm.valid : code_Valid.f f k s = some true := by
  have h0 := z.s0
  have h1 := z.sp
  have h2 := z.hg
  rw [code_Valid.f, s_Valid z.h, Option.bind_some, if_pos rfl, if_pos (by omega), s_cgr, Option.bind_some, if_pos h2, if_pos h0, s_P z.h, Option.bind_some, decide_eq_true h1]
theorem Dm.k18 : k ≤ 18 := by have := gr_le f; have := z.hg; omega
theorem Dm.size : code_Size.f f k s = some ((2 ^ k : Nat) : Int) := by
  have := z.k18
  rw [code_Size.f, z.valid, Option.bind_some, if_pos rfl, if_pos (Int.natCast_nonneg _), s_shl (by omega)]
theorem Dm.p18 : 2 ^ k ≤ 262144 := Nat.pow_le_pow_right (n := 2) (by omega) z.k18
theorem Dm.Point {i : Nat} (hi : i < 2 ^ k) : Ev (fun K => code_Point.f K f k s i) (pnt f p k s i) := by
  have h18 := z.p18
  have hb := gr_le f
  have hg := z.hg
  obtain ⟨K1, k1⟩ := Ev.get (s_Root z.h (k := k) (by omega))
  obtain ⟨K2, k2⟩ := Ev.get (s_Pow z.h (wr_nn z.h k) i (by omega))
  refine Ev.mk (K1 + K2 + 1) fun K hK => ?_
  obtain ⟨K, rfl⟩ : ∃ K', K = K' + 1 := ⟨K - 1, by omega⟩
  have nge : ¬ ((i : Int) ≥ ((2 ^ k : Nat) : Int)) := fun c => by have := Int.ofNat_le.1 c; omega
  rw [code_Point.f, if_neg (by omega), z.size, Option.bind_some, decide_eq_false nge, code_Point.j0, if_neg (by decide), k1 K (by omega), Option.bind_some, wu64 (by omega) (by omega), k2 K (by omega), Option.bind_some, s_Mul z.h (by have := z.s0; omega) (z.h.mod _).1, Option.bind_some]
  rfl
theorem Dm.pnt_cg (i : Nat) : Cg p (pnt f p k s i) (s * wr f p k ^ i) := have _ := z; (Cg.mod _ _).trans ((Cg.refl _ s).mul (Cg.mod _ _))
end dom
end Go.Proofs.YtedapdagagkajaaDoor.Pure
namespace Go.Proofs.YtedapdagagkajaaDoor.Pure
open Go.RowKit Go.Proofs.YtedapdagagkajaaDoor.Q Go.Proofs.YtedapdagagkajaaDoor.Num Go.Proofs.YtedapdagagkajaaDoor.Pol Go.Proofs.YtedapdagagkajaaDoorW.PrintWords Go.Proofs.YtedapdagagkajaaDoorW.PrintLast Go.Proofs.YtedapdagagkajaaDoorW.PrintMore

/-- Row i of a list of lists. -/
def lc (x : List (List Int)) (i : Nat) : List Int := x.getD i []
theorem lc_over {x : List (List Int)} {i : Nat} (h : x.length ≤ i) : lc x i = [] := by simp [lc, List.getD, List.getElem?_eq_none h]
theorem lc_lt {x : List (List Int)} {i : Nat} (h : i < x.length) : lc x i = x[i] := by simp [lc, List.getD, h]
theorem lc_set {x : List (List Int)} {i : Nat} (h : i < x.length) (v : List Int) (j : Nat) : lc (x.set i v) j = if j = i then v else lc x j := by
  unfold lc
  by_cases e : j = i
  · subst e; simp [List.getD, h]
  · rw [if_neg e]; simp [List.getD, Ne.symm e]
/-- Part j of m. -/
def prt (m j : Nat) (l : List Int) : List Int := (List.range l.length).map fun i => co l (j + i * m)
theorem co_prt {m : Nat} (hm : 0 < m) (j : Nat) (l : List Int) (i : Nat) : co (prt m j l) i = co l (j + i * m) := by
  by_cases e : i < l.length
  · rw [co_lt (by simp [prt, e])]; simp [prt]
  · have : i ≤ i * m := Nat.le_mul_of_pos_right i hm
    rw [co_over (by simp [prt]; omega), co_over (by omega)]
/-- What Join puts at place t. -/
def jc (m : Nat) (x : List (List Int)) (t : Nat) : Int := co (lc x (t % m)) (t / m)
theorem idx_mod {i j m : Nat} (hj : j < m) : (i * m + j) % m = j := by rw [Nat.mul_comm, Nat.mul_add_mod]; exact Nat.mod_eq_of_lt hj
theorem idx_div {i j m : Nat} (hj : j < m) : (i * m + j) / m = i := by
  rw [Nat.add_comm, Nat.add_mul_div_right _ _ (by omega), Nat.div_eq_of_lt hj, Nat.zero_add]
theorem idx_of (t m : Nat) : t / m * m + t % m = t := by rw [Nat.mul_comm]; exact Nat.div_add_mod t m
/-- The rows as they stand when i numbers have been dealt out. -/
structure Dealt (p : Int) (m : Nat) (l : List Int) (i : Nat) (x : List (List Int)) : Prop where
  len : x.length = m
  row : ∀ r, r < m → (∀ t, t < (lc x r).length ↔ r + t * m < i) ∧ ∀ t, co (lc x r) t = if r + t * m < i then co l (r + t * m) % p else 0
theorem Dealt.le {p : Int} {m : Nat} {l : List Int} {i : Nat} {x : List (List Int)} (h : Dealt p m l i x) {r : Nat} (hr : r < m) : (lc x r).length ≤ i := by
  rcases Nat.lt_or_ge i (lc x r).length with q | q
  · have := ((h.row r hr).1 i).1 q
    have := Nat.le_mul_of_pos_right i (show 0 < m by omega)
    omega
  · exact q
theorem Dealt.step {p : Int} {m : Nat} {l : List Int} {i : Nat} {x : List (List Int)} (h : Dealt p m l i x) (hm : 0 < m) : Dealt p m l (i + 1) (x.set (i % m) (lc x (i % m) ++ [co l i % p])) := by
  have hr := Nat.mod_lt i hm
  have hi := idx_of i m
  have hlen : (lc x (i % m)).length = i / m := by
    have h1 := (h.row _ hr).1
    rcases Nat.lt_trichotomy (lc x (i % m)).length (i / m) with q | q | q
    · have e1 := Nat.mul_le_mul_right m (show (lc x (i % m)).length + 1 ≤ i / m from q)
      rw [Nat.add_mul] at e1
      have := (h1 (lc x (i % m)).length).2 (by omega)
      omega
    · exact q
    · have := (h1 (i / m)).1 q
      omega
  refine ⟨by rw [List.length_set]; exact h.len, fun r hrm => ?_⟩
  rw [lc_set (by rw [h.len]; exact hr)]
  by_cases e : r = i % m
  · subst e
    rw [if_pos rfl]
    have hh := h.row _ hr
    refine ⟨fun t => ?_, fun t => ?_⟩
    · rw [List.length_append, List.length_singleton, hlen]
      constructor
      · intro ht
        have := Nat.mul_le_mul_right m (show t ≤ i / m by omega)
        omega
      · intro ht
        rcases Nat.lt_or_ge t (i / m + 1) with q | q
        · exact q
        · have := Nat.mul_le_mul_right m q
          rw [Nat.add_mul] at this
          omega
    · rw [co_append]
      by_cases q : t < (lc x (i % m)).length
      · have := (hh.1 t).1 q
        rw [if_pos q, hh.2, if_pos this, if_pos (by omega)]
      · rw [if_neg q]
        rcases Nat.eq_or_lt_of_le (Nat.not_lt.1 q) with q2 | q2
        · rw [← q2, Nat.sub_self, hlen, if_pos (by omega), co_cons_zero, show i % m + i / m * m = i by omega]
        · have := Nat.mul_le_mul_right m (show i / m + 1 ≤ t by omega)
          rw [Nat.add_mul] at this
          rw [co_over (by simp; omega), if_neg (by omega)]
  · rw [if_neg e]
    have hh := h.row r hrm
    have ne : ∀ t, r + t * m ≠ i := fun t c => e (by rw [← c, Nat.add_mul_mod_self_right, Nat.mod_eq_of_lt hrm])
    refine ⟨fun t => ?_, fun t => ?_⟩
    · rw [hh.1 t]; have := ne t; omega
    · rw [hh.2 t]
      have := ne t
      by_cases q : r + t * m < i
      · rw [if_pos q, if_pos (by omega)]
      · rw [if_neg q, if_neg (by omega)]
theorem Dealt.zero (p : Int) (m : Nat) (l : List Int) : Dealt p m l 0 (List.replicate m []) := by
  refine ⟨by simp, fun r hr => ?_⟩
  have : lc (List.replicate m []) r = [] := by rw [lc_lt (by simp [hr])]; simp
  rw [this]
  exact ⟨fun t => by simp, fun t => by simp⟩
theorem Dealt.done {p : Int} (hp : 0 < p) {m : Nat} (hm : 0 < m) {l : List Int} {x : List (List Int)} (h : Dealt p m l l.length x) {r : Nat} (hr : r < m) : trm (lc x r) = nrm p (prt m r l) := by
  refine (trm_lz _).eq (nrm_nf hp _).lz fun t => ?_
  rw [trm_co, nrm_co, co_prt hm, (h.row r hr).2]
  by_cases q : r + t * m < l.length
  · rw [if_pos q]
  · rw [if_neg q, co_over (by omega)]; simp
section good
variable {f : Int} {p : Nat} (h : FP f p)
include h
end good
/-- The rows of a Join: short, of numbers of 64 bits. -/
structure Rows0 (x : List (List Int)) : Prop where
  m : x.length ≤ 64
  len : ∀ r, (lc x r).length ≤ 10000
  u : ∀ r, UL (lc x r)
/-- What has been put in place when the rows before j and i numbers of row j have been dealt with. -/
def Put (m : Nat) (x : List (List Int)) (j i : Nat) (y : List Int) : Prop := ∀ t, co y t = if t % m < j ∨ (t % m = j ∧ t / m < i) then jc m x t else 0
theorem Put.set {m : Nat} {x : List (List Int)} {j i : Nat} {y : List Int} (h : Put m x j i y) (hj : j < m) (hy : i * m + j < y.length) : Put m x j (i + 1) (y.set (i * m + j) (co (lc x j) i)) := fun t => by
  rw [co_set hy, h t]
  by_cases e : t = i * m + j
  · subst e
    rw [if_pos rfl, idx_mod hj, idx_div hj, if_pos (Or.inr ⟨rfl, by omega⟩), jc, idx_mod hj, idx_div hj]
  · rw [if_neg e]
    have ne : ¬ (t % m = j ∧ t / m = i) := fun ⟨a, b⟩ => e (by rw [← a, ← b]; exact (idx_of t m).symm)
    by_cases q : t % m < j ∨ (t % m = j ∧ t / m < i)
    · rw [if_pos q, if_pos (by omega)]
    · rw [if_neg q, if_neg (by omega)]
theorem Put.zero (m : Nat) (x : List (List Int)) (n : Nat) : Put m x 0 0 (List.replicate n 0) := fun t => by
  rw [co_replicate]
  generalize t % m = u
  generalize t / m = v
  rw [if_neg (by omega)]
theorem jc_nil {x : List (List Int)} (h : x.length = 0) (m t : Nat) : jc m x t = 0 := by rw [jc, lc_over (by omega)]; simp
theorem Put.end {x : List (List Int)} {y : List Int} (h : Put x.length x x.length 0 y) (t : Nat) : co y t = jc x.length x t := by
  rcases Nat.eq_zero_or_pos x.length with e | e
  · rw [h t, jc_nil e, ite_self]
  · rw [h t, if_pos (Or.inl (Nat.mod_lt _ e))]
theorem Put.u {m : Nat} {x : List (List Int)} (hx : Rows0 x) {j i : Nat} {y : List Int} (h : Put m x j i y) : UL y := fun c hc => by
  obtain ⟨t, ht, rfl⟩ := List.getElem_of_mem hc
  rw [← co_lt ht, h t]
  split
  · exact U.co (hx.u _) _
  · exact U.zero
section any
variable {f : Int} {p : Nat} (h : FO f p)
include h
end any
end Go.Proofs.YtedapdagagkajaaDoor.Pure
namespace Go.Proofs.YtedapdagagkajaaDoor.Pure
open Go.RowKit Go.Proofs.YtedapdagagkajaaDoor.Num Go.Proofs.YtedapdagagkajaaDoor.Pol

end Go.Proofs.YtedapdagagkajaaDoor.Pure
namespace Go.Proofs.YtedapdagagkajaaDoor.Pure
open Go.RowKit Go.Proofs.YtedapdagagkajaaDoor.Num Go.Proofs.YtedapdagagkajaaDoor.Pol

theorem two_unit {f : Int} {p : Nat} (h : FP f p) (k : Nat) : ¬ Cg p ((2 ^ k : Nat) : Int) 0 := fun c => by
  have h2 : ¬ Cg p (2 : Int) 0 := fun c => by
    have h3 := h.three
    have := mod_eq_zero.2 c
    rw [Int.emod_eq_of_lt (by omega) (by omega)] at this
    omega
  rw [Int.natCast_pow] at c
  induction k with
  | zero => rw [Int.pow_zero] at c; exact one_not_zero h c
  | succ k ih =>
    rw [Int.pow_succ] at c
    rcases h.pr.int c with c | c
    · exact ih c
    · exact h2 c
section dom
variable {f : Int} {p k : Nat} {s : Int} (z : Dm f p k s)
include z
end dom
end Go.Proofs.YtedapdagagkajaaDoor.Pure
namespace Go.Proofs.YtedapdagagkajaaDoor.Pure
open Go.RowKit Go.Proofs.YtedapdagagkajaaDoor.Q Go.Proofs.YtedapdagagkajaaDoor.Num Go.Proofs.YtedapdagagkajaaDoor.Pol Go.Proofs.YtedapdagagkajaaDoorW.PrintWords Go.Proofs.YtedapdagagkajaaDoorW.PrintLast Go.Proofs.YtedapdagagkajaaDoorW.PrintMore

section any
variable {f : Int} {p : Nat} (h : FO f p)
include h
end any
end Go.Proofs.YtedapdagagkajaaDoor.Pure
namespace Go.Proofs.YtedapdagagkajaaDoor.Pure
open Go.RowKit Go.Proofs.YtedapdagagkajaaDoor.Q Go.Proofs.YtedapdagagkajaaDoor.Num Go.Proofs.YtedapdagagkajaaDoor.Pol Go.Proofs.YtedapdagagkajaaDoorW.PrintWords Go.Proofs.YtedapdagagkajaaDoorW.PrintLast Go.Proofs.YtedapdagagkajaaDoorW.PrintMore

theorem take_co {l : List Int} {i : Nat} (h : i < l.length) : l.take i ++ [co l i] = l.take (i + 1) := by
  rw [co_lt h]; exact List.take_append_getElem h
theorem cg_cancel {p : Nat} (hp : Pr p) {c a b : Int} (hc : ¬ Cg p c 0) (h : Cg p (c * a) (c * b)) : Cg p a b := by
  have h1 := h.sub_zero
  rw [← Int.mul_sub] at h1
  rcases hp.int h1 with q | q
  · exact absurd q hc
  · exact q.of_sub
/-- The points. -/
def pts (f : Int) (p k : Nat) (s : Int) : List Int := (List.range (2 ^ k)).map fun i => pnt f p k s i
theorem pts_length (f : Int) (p k : Nat) (s : Int) : (pts f p k s).length = 2 ^ k := by simp [pts]
theorem co_pts {f : Int} {p k : Nat} {s : Int} {i : Nat} (h : i < 2 ^ k) : co (pts f p k s) i = pnt f p k s i := by
  rw [co_lt (by rw [pts_length]; exact h)]; simp [pts]
section dom
variable {f : Int} {p k : Nat} {s : Int} (z : Dm f p k s)
include z
theorem points_l0 : ∀ (d i : Nat) (x : List Int) (y : Int), i + d = 2 ^ k → x.length = 2 ^ k → 0 ≤ y → (i < 2 ^ k → y = pnt f p k s i) → (∀ j, j < 2 ^ k → co (pts f p k s) j = if i ≤ j then pnt f p k s j else co x j) → Ev (fun K => code_Points.l0 K x y (wr f p k) ((2 ^ k : Nat) : Int) i f k s) (pts f p k s) := by
  have h18 := z.p18
  intro d
  induction d with
  | zero =>
    intro i x y hi hx _ _ hc
    have e : pts f p k s = x := ext_co (by rw [pts_length, hx]) fun j hj => by rw [pts_length] at hj; rw [hc j hj, if_neg (by omega)]
    refine Ev.mks 0 fun K _ => ?_
    rw [code_Points.l0, if_neg (by omega), e]
  | succ d ih =>
    intro i x y hi hx y0 hy hc
    have hii : i < 2 ^ k := by omega
    have hy := hy hii
    refine Ev.succ (fun K => ?_) (ih (i + 1) (x.set i y) (y * wr f p k % p) (by omega) (by simpa using hx) (z.h.mod _).1 (fun _ => ?_) (fun j hj => ?_))
    · rw [code_Points.l0, if_pos (Int.ofNat_lt.2 hii), if_pos (Int.natCast_nonneg _), hx, if_pos (Int.ofNat_lt.2 hii), s_Mul z.h y0 (wr_nn z.h k), Option.bind_some, w64_succ (by omega), Int.toNat_natCast]
    · rw [hy]
      refine Cg.mod_eq (((z.pnt_cg i).mul (Cg.refl _ _)).trans (Cg.trans (Cg.of_eq ?_) ((Cg.refl _ s).mul (Cg.mod _ _).symm)))
      rw [Int.pow_succ, Int.mul_assoc]
    · rw [hc j hj, co_set (by omega)]
      by_cases q : j = i
      · subst q; rw [if_pos (Nat.le_refl _), if_neg (by omega), if_pos rfl, hy]
      · rw [if_neg q]
        by_cases q2 : i ≤ j
        · rw [if_pos q2, if_pos (by omega)]
        · rw [if_neg q2, if_neg (by omega)]
theorem Dm.Points : Ev (fun K => code_Points.f K f k s) (pts f p k s) := by
  have h18 := z.p18
  have hg := z.hg
  have hb := gr_le f
  have h0 := z.s0
  have h1 := z.sp
  have e0 : s = pnt f p k s 0 := by
    unfold pnt
    rw [Int.pow_zero, Int.emod_eq_of_lt (by omega) z.h.one, Int.mul_one, Int.emod_eq_of_lt (by omega) h1]
  obtain ⟨K1, k1⟩ := Ev.get (s_Root z.h (k := k) (by omega))
  obtain ⟨K2, k2⟩ := Ev.get (points_l0 z (2 ^ k) 0 (List.replicate (2 ^ k) 0) s (by omega) (by simp) (by omega) (fun _ => e0) (fun j hj => by rw [co_pts hj, if_pos (Nat.zero_le _)]))
  refine Ev.mk (K1 + K2) fun K hK => ?_
  rw [code_Points.f, z.size, Option.bind_some, if_pos (Int.natCast_nonneg _), Int.toNat_natCast, if_pos (by omega), Option.bind_some, k1 K (by omega), Option.bind_some, List.length_replicate]
  exact k2 K (by omega)
theorem pow_apart {a b : Nat} (hab : a < b) (hb : b < 2 ^ k) : ¬ Cg p (wr f p k ^ a) (wr f p k ^ b) := fun c => by
  obtain ⟨m, rfl⟩ : ∃ m, b = a + m := ⟨b - a, by omega⟩
  have hg := z.hg
  have ht := wr_rt z.h (k := k) (by have := gr_le f; omega)
  have hu : ¬ Cg p (wr f p k ^ a) 0 := fun q => by
    clear c ht
    clear hab hb
    induction a with
    | zero => rw [Int.pow_zero] at q; exact one_not_zero z.h q
    | succ a ih =>
      rw [Int.pow_succ] at q
      rcases z.h.pr.int q with q | q
      · exact ih q
      · exact wr_unit z.h q
  have c1 : Cg p (wr f p k ^ m) 1 := by
    refine cg_cancel z.h.pr hu ?_
    rw [← Int.pow_add, Int.mul_one]
    exact c.symm
  have nd : ¬ 2 ^ k ∣ m := fun d => by have := Nat.le_of_dvd (by omega) d; omega
  have g := geo k (wr f p k) m ht nd
  have g1 : Cg p (smn (fun i => wr f p k ^ (i * m)) (2 ^ k)) (smn (fun _ => 1) (2 ^ k)) := smn_cg fun i _ => by
    rw [Nat.mul_comm, Int.pow_mul]
    have := c1.pow i
    rwa [Int.one_pow] at this
  rw [smn_one] at g1
  exact two_unit z.h k (g1.symm.trans g)
theorem Dm.apart {a b : Nat} (hab : a < b) (hb : b < 2 ^ k) : ¬ Cg p (pnt f p k s a) (pnt f p k s b) := fun c => by
  refine pow_apart z hab hb (cg_cancel z.h.pr (c := s) (fun q => z.unit (mod_eq_zero.2 q)) ?_)
  exact ((z.pnt_cg a).symm.trans c).trans (z.pnt_cg b)
end dom
end Go.Proofs.YtedapdagagkajaaDoor.Pure
namespace Go.Proofs.YtedapdagagkajaaDoor.Pure
open Go.RowKit Go.Proofs.YtedapdagagkajaaDoor.Q Go.Proofs.YtedapdagagkajaaDoor.Num Go.Proofs.YtedapdagagkajaaDoor.Pol Go.Proofs.YtedapdagagkajaaDoorW.PrintWords Go.Proofs.YtedapdagagkajaaDoorW.PrintLast Go.Proofs.YtedapdagagkajaaDoorW.PrintMore

theorem FP.eqr {f : Int} {p : Nat} (h : FP f p) : attestorref01_P.f f = some (p : Int) := by
  have h0 := h.lo
  have h1 := h.hi
  have h2 := h.eq
  have : f = 0 ∨ f = 1 ∨ f = 2 ∨ f = 3 := by omega
  rcases this with rfl | rfl | rfl | rfl <;> (rw [← h2]; rfl)
section good
variable {f : Int} {p : Nat} (h : FP f p)
include h
theorem r_Valid : attestorref01_Valid.f f = some true := by
  unfold attestorref01_Valid.f
  rw [if_pos h.lo, decide_eq_true (by have := h.hi; omega)]
theorem r_Mul {a b : Int} (ha : 0 ≤ a) (hb : 0 ≤ b) : attestorref01_Mul.f f a b = some ((a * b) % p) := by
  have hp := h.pos
  have ma := h.mod a
  have mb := h.mod b
  have hl := h.lei
  have h1 : 0 ≤ (a % p) * (b % p) := Int.mul_nonneg ma.1 mb.1
  have h2 : (a % p) * (b % p) ≤ 998244353 * 998244353 := Int.mul_le_mul (by omega) (by omega) mb.1 (by omega)
  simp only [attestorref01_Mul.f, r_Valid h, h.eqr, Option.bind_some, if_true]
  rw [if_neg (by omega), tmod_nn ha, tmod_nn hb, wu64 h1 (by omega), tmod_nn h1]
  exact congrArg some (Cg.mod_eq ((Cg.mod p a).mul (Cg.mod p b)))
theorem r_Pow {a : Int} (ha : 0 ≤ a) : ∀ (n e : Nat), e ≤ n → (e : Int) < 18446744073709551616 → Ev (fun k => attestorref01_Pow.f k f a e) (a ^ e % p) := by
  have zero : Ev (fun k => attestorref01_Pow.f k f a ((0 : Nat) : Int)) (a ^ 0 % p) := by
    refine Ev.succ (F := fun _ => some (a ^ 0 % p)) (fun k => ?_) (Ev.all fun _ => rfl)
    rw [attestorref01_Pow.f, r_Valid h, Option.bind_some, if_pos rfl, if_pos (show ((0 : Nat) : Int) = 0 from rfl), Int.pow_zero, Int.emod_eq_of_lt (by omega) h.one]
  intro n
  induction n with
  | zero =>
    intro e he _
    obtain rfl : e = 0 := by omega
    exact zero
  | succ n ihn =>
    intro e1 hn hlt
    rcases e1 with _ | e
    · exact zero
    obtain ⟨m, hm⟩ : ∃ m, m = (e + 1) / 2 := ⟨_, rfl⟩
    have ih := ihn m (by omega) (by omega)
    have e1 : Int.tdiv ((e + 1 : Nat) : Int) 2 = (m : Int) := by rw [Int.tdiv_eq_ediv_of_nonneg (by omega)]; omega
    have mm := mod_nonneg h.pos (a ^ m)
    have key : Ev (fun k => (attestorref01_Pow.f k f a m).bind fun t260 => ((attestorref01_Mul.f f t260 t260).bind fun t261 => (if (Int.tmod ((e + 1 : Nat) : Int) 2) = 1 then ((attestorref01_Mul.f f t261 a).bind fun t262 => (some t262)) else (some t261)))) (a ^ (e + 1) % p) := by
      refine ih.bind (Ev.all fun k => ?_)
      rw [r_Mul h mm mm]
      simp only [Option.bind_some]
      have e2 : Cg p ((a ^ m % p) * (a ^ m % p)) (a ^ (m + m)) := by rw [Int.pow_add]; exact (Cg.mod _ _).mul (Cg.mod _ _)
      rw [tmod_nn (by omega)]
      by_cases ho : ((e + 1 : Nat) : Int) % 2 = 1
      · rw [if_pos ho, r_Mul h (mod_nonneg h.pos _) ha]
        simp only [Option.bind_some]
        refine congrArg some (Cg.mod_eq ?_)
        have e3 : e + 1 = m + m + 1 := by omega
        rw [e3, Int.pow_succ]
        exact ((Cg.mod _ _).trans e2).mul (Cg.refl _ _)
      · rw [if_neg ho]
        refine congrArg some (Cg.mod_eq ?_)
        have e3 : e + 1 = m + m := by omega
        rw [e3]
        exact e2
    refine Ev.succ (fun k => ?_) key
    rw [attestorref01_Pow.f, r_Valid h]
    simp only [Option.bind_some, if_true]
    rw [if_neg (by omega), e1, wu64 (by omega) (by omega)]
end good
section bad
variable {f : Int} (h : f < 0 ∨ 4 ≤ f)
include h
theorem br_Valid : attestorref01_Valid.f f = some false := by
  unfold attestorref01_Valid.f
  rcases h with h | h
  · rw [if_neg (by omega)]
  · rw [if_pos (by omega), decide_eq_false (by omega)]
end bad
section any
variable {f : Int} {p : Nat} (h : FO f p)
include h
end any
end Go.Proofs.YtedapdagagkajaaDoor.Pure
namespace Go.Proofs.YtedapdagagkajaaDoor.Pure
open Go.RowKit Go.Proofs.YtedapdagagkajaaDoor.Q Go.Proofs.YtedapdagagkajaaDoor.Num Go.Proofs.YtedapdagagkajaaDoor.Pol Go.Proofs.YtedapdagagkajaaDoorW.PrintWords Go.Proofs.YtedapdagagkajaaDoorW.PrintLast Go.Proofs.YtedapdagagkajaaDoorW.PrintMore

theorem same_l0 {l : List Int} (hl : l.length ≤ 1000000) : ∀ (d i : Nat), i + d = l.length → Ev (fun k => attestorref01_Same.l0 k l l i) true := by
  intro d
  induction d with
  | zero =>
    intro i hi
    refine Ev.succ (F := fun _ => some true) (fun k => ?_) (Ev.all fun _ => rfl)
    rw [attestorref01_Same.l0, if_neg (by omega)]
  | succ d ih =>
    intro i hi
    refine Ev.succ (fun k => ?_) (ih (i + 1) (by omega))
    rw [attestorref01_Same.l0, if_pos (by omega), if_pos (by omega), if_pos (by omega), if_pos rfl, w64_succ (by omega)]
theorem r_Same {l : List Int} (hl : l.length ≤ 1000000) : Ev (fun k => attestorref01_Same.f k l l) true := by
  refine Ev.congr (fun k => ?_) (same_l0 hl l.length 0 (by omega))
  rw [attestorref01_Same.f, if_pos rfl]
  rfl

section any
variable {f : Int} {p : Nat} (h : FO f p)
include h
end any
section good
variable {f : Int} {p : Nat} (h : FP f p)
include h
end good
end Go.Proofs.YtedapdagagkajaaDoor.Pure
namespace Go.Proofs.YtedapdagagkajaaDoor.Pure
open Go.RowKit Go.Proofs.YtedapdagagkajaaDoor.Q Go.Proofs.YtedapdagagkajaaDoor.Num Go.Proofs.YtedapdagagkajaaDoor.Pol Go.Proofs.YtedapdagagkajaaDoorW.PrintWords Go.Proofs.YtedapdagagkajaaDoorW.PrintLast Go.Proofs.YtedapdagagkajaaDoorW.PrintMore

theorem r_Twos (f : Int) : attestorref01_Twos.f f = some (tOf f) := by
  unfold attestorref01_Twos.f tOf
  by_cases h0 : f = 0
  · rw [if_pos h0, if_pos h0]
  · by_cases h1 : f = 1
    · rw [if_neg h0, if_neg h0, if_pos h1, if_pos h1]
    · by_cases h2 : f = 2
      · rw [if_neg h0, if_neg h0, if_neg h1, if_neg h1, if_pos h2, if_pos h2]
      · by_cases h3 : f = 3
        · rw [if_neg h0, if_neg h0, if_neg h1, if_neg h1, if_neg h2, if_neg h2, if_pos h3, if_pos h3]
        · rw [if_neg h0, if_neg h0, if_neg h1, if_neg h1, if_neg h2, if_neg h2, if_neg h3, if_neg h3]
theorem r_gr (f : Int) : attestorref04_Greatest.f f = some (gr f) := by rw [attestorref04_Greatest.f, r_Twos, Option.bind_some]; rfl
theorem rshl_tab : ((List.range 31).all fun k => shl .i64 1 (IntKind.u64.wrap ((k : Nat) : Int)) == ((2 ^ k : Nat) : Int)) = true := by decide +kernel
/-! ### The exponent of a power of two -/
section bad
variable {f : Int} (h : f < 0 ∨ 4 ≤ f)
include h
end bad
section good
variable {f : Int} {p : Nat} (h : FP f p)
include h
theorem r_Gen : Ev (fun K => attestorref01_Generator.f K f) (gOf f) := by
  have h0 := h.lo
  have h1 := h.hi
  have : f = 0 ∨ f = 1 ∨ f = 2 ∨ f = 3 := by omega
  refine Ev.mks 0 fun K _ => ?_
  rcases this with rfl | rfl | rfl | rfl <;> rfl
theorem rroot_l {k : Nat} (hk : (k : Int) ≤ tOf f) : ∀ (d i : Nat), i + d = k → Ev (fun K => attestorref01_Root.l0 K f k (((p - 1) / 2 ^ i : Nat) : Int) i) (wr f p k) := by
  have hl := h.lei
  have ht : tOf f ≤ 23 := by unfold tOf; (repeat' split) <;> omega
  have hb : ∀ i, (p - 1) / 2 ^ i ≤ 1000000000 := fun i => by have := Nat.div_le_self (p - 1) (2 ^ i); omega
  intro d
  induction d with
  | zero =>
    intro i hi
    obtain rfl : i = k := by omega
    obtain ⟨K1, k1⟩ := Ev.get (r_Gen h)
    obtain ⟨K2, k2⟩ := Ev.get (r_Pow h (gOf_nn f) ((p - 1) / 2 ^ i) ((p - 1) / 2 ^ i) (Nat.le_refl _) (by have := hb i; omega))
    refine Ev.mks (K1 + K2) fun K hK => ?_
    rw [attestorref01_Root.l0, if_neg (by omega), k1 K (by omega), Option.bind_some, k2 K (by omega), Option.bind_some]
    rfl
  | succ d ih =>
    intro i hi
    have e : Int.tdiv (((p - 1) / 2 ^ i : Nat) : Int) 2 = (((p - 1) / 2 ^ (i + 1) : Nat) : Int) := by
      rw [Int.tdiv_eq_ediv_of_nonneg (Int.natCast_nonneg _), Nat.pow_succ, ← Nat.div_div_eq_div_mul]
      omega
    refine Ev.succ (fun K => ?_) (ih (i + 1) (by omega))
    rw [attestorref01_Root.l0, if_pos (by omega), e, wu64 (Int.natCast_nonneg _) (by have := hb (i + 1); omega), w64_succ (by omega)]
theorem r_Root {k : Nat} (hk : (k : Int) ≤ tOf f) : Ev (fun K => attestorref01_Root.f K f k) (wr f p k) := by
  have hl := h.lei
  have hp := h.pos
  obtain ⟨K1, k1⟩ := Ev.get (rroot_l h hk k 0 (by omega))
  rw [Nat.pow_zero, Nat.div_one] at k1
  refine Ev.mk (K1 + 1) fun K hK => ?_
  obtain ⟨K, rfl⟩ : ∃ K', K = K' + 1 := ⟨K - 1, by omega⟩
  rw [attestorref01_Root.f, r_Valid h, Option.bind_some, if_pos rfl, if_neg (by omega), r_Twos, Option.bind_some, decide_eq_false (by omega), attestorref01_Root.j0, if_neg (by decide), h.eqr, Option.bind_some, wu64 (by omega) (by omega), show (p : Int) - 1 = ((p - 1 : Nat) : Int) by omega]
  exact k1 K (by omega)
theorem r_Point {k : Nat} (hk : (k : Int) ≤ tOf f) {s : Int} (hs : 0 ≤ s) {i : Nat} (hi : i < 1000000000) : Ev (fun K => attestorref04_Point.f K f k s i) (s * (wr f p k ^ i % p) % p) := by
  obtain ⟨K1, k1⟩ := Ev.get (r_Root h hk)
  obtain ⟨K2, k2⟩ := Ev.get (r_Pow h (wr_nn h k) i i (Nat.le_refl _) (by omega))
  refine Ev.mk (K1 + K2) fun K hK => ?_
  rw [attestorref04_Point.f, k1 K (by omega), Option.bind_some, wu64 (by omega) (by omega), k2 K (by omega), Option.bind_some, r_Mul h hs (h.mod _).1, Option.bind_some]
/-! ### Coefficients -/
/-! ### Widen -/
end good
end Go.Proofs.YtedapdagagkajaaDoor.Pure
namespace Go.Proofs.YtedapdagagkajaaDoor.Pure
open Go.RowKit Go.Proofs.YtedapdagagkajaaDoor.Q Go.Proofs.YtedapdagagkajaaDoor.Num Go.Proofs.YtedapdagagkajaaDoor.Pol Go.Proofs.YtedapdagagkajaaDoorW.PrintWords Go.Proofs.YtedapdagagkajaaDoorW.PrintLast Go.Proofs.YtedapdagagkajaaDoorW.PrintMore
theorem works60 : attestorlaw05_works.f 60 = some true := by decide +kernel
theorem s_works : Ev (fun k => attestorlaw05_works.f k) true := Ev.of_mono attestorlaw05_works.mono works60
end Go.Proofs.YtedapdagagkajaaDoor.Pure

/- Numbers as lists of limbs: values, canonical lists. No program in sight. -/
import Derived.Test.YtjjjoepnlhpjdaaDoorEv
namespace Go.Proofs.YtjjjoepnlhpjdaaDoor.Pure
open Go.RowKit Go.Proofs.YtjjjoepnlhpjdaaDoor.Q Go.Proofs.YtjjjoepnlhpjdaaDoor.Num Go.Proofs.YtjjjoepnlhpjdaaDoor.Pol

/-- The value of a list of limbs. -/
def vl : List Int → Int
  | [] => 0
  | x :: t => x + 4294967296 * vl t
/-- All limbs are limbs. -/
def Lb (l : List Int) : Prop := ∀ i, 0 ≤ co l i ∧ co l i < 4294967296
/-- Powers of the base. -/
def Bp (n : Nat) : Int := 4294967296 ^ n
theorem Bp_zero : Bp 0 = 1 := rfl
theorem Bp_succ (n : Nat) : Bp (n + 1) = 4294967296 * Bp n := by unfold Bp; rw [Int.pow_succ, Int.mul_comm]
theorem Bp_pos (n : Nat) : 0 < Bp n := by unfold Bp; exact Int.pow_pos (by omega)
theorem Bp_add (m n : Nat) : Bp (m + n) = Bp m * Bp n := by unfold Bp; exact Int.pow_add ..
theorem Lb.of_mem {l : List Int} (h : ∀ x ∈ l, 0 ≤ x ∧ x < 4294967296) : Lb l := fun i => by
  by_cases hi : i < l.length
  · exact h _ (co_mem hi)
  · rw [co_over (by omega)]; omega
theorem Lb.of_wf {l : List Int} (h : ∀ x ∈ l, (Lit.int .u32 x).wf = true) : Lb l := Lb.of_mem fun x hx => by
  have := h x hx
  simp [Lit.wf, IntKind.min, IntKind.max, IntKind.bits, IntKind.signed] at this
  omega
theorem Lb.nil : Lb [] := fun i => by simp [co]
theorem Lb.cons {x : Int} {l : List Int} (hx : 0 ≤ x ∧ x < 4294967296) (h : Lb l) : Lb (x :: l)
  | 0 => hx
  | i + 1 => h i
theorem Lb.tail {x : Int} {l : List Int} (h : Lb (x :: l)) : Lb l := fun i => h (i + 1)
theorem Lb.set {l : List Int} (h : Lb l) {x : Int} (hx : 0 ≤ x ∧ x < 4294967296) (i : Nat) : Lb (l.set i x) := fun j => by
  by_cases hi : i < l.length
  · rw [co_set hi]
    split
    · exact hx
    · exact h j
  · rw [List.set_eq_of_length_le (by omega)]; exact h j
theorem Lb.take {l : List Int} (h : Lb l) (n : Nat) : Lb (l.take n) := fun i => by
  rw [co_take]
  split
  · exact h i
  · omega
theorem co_drop (l : List Int) (n i : Nat) : co (l.drop n) i = co l (n + i) := by
  unfold co
  rw [List.getD_eq_getElem?_getD, List.getD_eq_getElem?_getD, List.getElem?_drop]
theorem Lb.drop {l : List Int} (h : Lb l) (n : Nat) : Lb (l.drop n) := fun i => by
  rw [co_drop]
  exact h _
theorem Lb.replicate (n : Nat) : Lb (List.replicate n 0) := fun i => by rw [co_replicate]; omega
theorem Lb.append {a b : List Int} (ha : Lb a) (hb : Lb b) : Lb (a ++ b) := fun i => by
  rw [co_append]
  split
  · exact ha i
  · exact hb _
theorem vl_nil : vl [] = 0 := rfl
theorem vl_cons (x : Int) (l : List Int) : vl (x :: l) = x + 4294967296 * vl l := rfl
theorem vl_append : ∀ (a b : List Int), vl (a ++ b) = vl a + Bp a.length * vl b
  | [], b => by simp [vl, Bp_zero]
  | x :: a, b => by
    rw [List.cons_append, vl_cons, vl_append a b, vl_cons, List.length_cons, Bp_succ]
    grind
theorem vl_replicate : ∀ n : Nat, vl (List.replicate n 0) = 0
  | 0 => rfl
  | n + 1 => by rw [List.replicate_succ, vl_cons, vl_replicate n]; rfl
theorem vl_range : ∀ {l : List Int}, Lb l → 0 ≤ vl l ∧ vl l < Bp l.length
  | [], _ => by simp [vl, Bp_zero]
  | x :: l, h => by
    have h1 := vl_range h.tail
    have h2 := h 0
    rw [show co (x :: l) 0 = x from rfl] at h2
    rw [vl_cons, List.length_cons, Bp_succ]
    omega
theorem take_succ_co {l : List Int} {i : Nat} (h : i < l.length) : l.take (i + 1) = l.take i ++ [co l i] := by
  rw [List.take_add_one, co_lt h, List.getElem?_eq_getElem h]
  rfl
theorem vl_take_succ {l : List Int} {i : Nat} (h : i < l.length) : vl (l.take (i + 1)) = vl (l.take i) + co l i * Bp i := by
  rw [take_succ_co h, vl_append, List.length_take, Nat.min_eq_left (by omega), vl_cons, vl_nil]
  grind
theorem vl_take_all {l : List Int} {n : Nat} (h : l.length ≤ n) : vl (l.take n) = vl l := by rw [List.take_of_length_le h]
theorem vl_split (l : List Int) (n : Nat) (h : n ≤ l.length) : vl l = vl (l.take n) + Bp n * vl (l.drop n) := by
  have := vl_append (l.take n) (l.drop n)
  rw [List.take_append_drop, List.length_take, Nat.min_eq_left h] at this
  exact this
theorem drop_succ_co {l : List Int} {i : Nat} (h : i < l.length) : vl (l.drop i) = co l i + 4294967296 * vl (l.drop (i + 1)) := by
  rw [List.drop_eq_getElem_cons h, vl_cons, co_lt h]
theorem vl_set {l : List Int} {i : Nat} (h : i < l.length) (x : Int) : vl (l.set i x) = vl l + (x - co l i) * Bp i := by
  induction l generalizing i with
  | nil => simp at h
  | cons y l ih =>
    cases i with
    | zero => rw [List.set_cons_zero, vl_cons, vl_cons, Bp_zero, show co (y :: l) 0 = y from rfl]; omega
    | succ i =>
      rw [List.set_cons_succ, vl_cons, vl_cons, ih (by simpa using h), Bp_succ, show co (y :: l) (i + 1) = co l i from rfl]
      grind
theorem take_set_succ {l : List Int} {i : Nat} (h : i < l.length) (x : Int) : vl ((l.set i x).take (i + 1)) = vl (l.take i) + x * Bp i := by
  have hs : i < (l.set i x).length := by rw [List.length_set]; exact h
  rw [vl_take_succ hs, co_set_same h, List.take_set_of_le (Nat.le_refl i)]
/-- A canonical list. -/
def Nf (l : List Int) : Prop := Lb l ∧ (l = [] ∨ co l (l.length - 1) ≠ 0)
theorem Nf.nil : Nf [] := ⟨Lb.nil, Or.inl rfl⟩
theorem Nf.tail {x : Int} {l : List Int} (h : Nf (x :: l)) : Nf l := ⟨h.1.tail, by
  cases l with
  | nil => exact Or.inl rfl
  | cons y l => exact Or.inr (h.2.resolve_left (by simp))⟩
theorem Nf.low : ∀ {l : List Int}, Nf l → l ≠ [] → Bp (l.length - 1) ≤ vl l
  | [], _, h => absurd rfl h
  | [x], h, _ => by
    have h1 := h.2.resolve_left (by simp)
    have h2 := h.1 0
    rw [show co [x] 0 = x from rfl] at h2
    rw [show co [x] ([x].length - 1) = x from rfl] at h1
    show Bp 0 ≤ _
    rw [Bp_zero, vl_cons, vl_nil]
    omega
  | x :: y :: l, h, _ => by
    have h1 := Nf.low h.tail (by simp)
    have h2 := h.1 0
    rw [show co (x :: y :: l) 0 = x from rfl] at h2
    rw [vl_cons]
    rw [show (y :: l).length - 1 = l.length from rfl] at h1
    rw [show (x :: y :: l).length - 1 = l.length + 1 from rfl, Bp_succ]
    omega
theorem Nf.pos {l : List Int} (h : Nf l) (hl : l ≠ []) : 0 < vl l := by
  have := h.low hl
  have := Bp_pos (l.length - 1)
  omega
/-- The digits of a number. -/
def dgF : Nat → Int → List Int
  | 0, _ => []
  | k + 1, n => if n ≤ 0 then [] else n % 4294967296 :: dgF k (n / 4294967296)
def dg (n : Int) : List Int := dgF n.toNat n
theorem Nf.eq_dgF : ∀ {l : List Int} {k : Nat}, Nf l → vl l ≤ k → l = dgF k (vl l)
  | [], k, _, _ => by cases k <;> simp [dgF, vl]
  | x :: l, k, h, hk => by
    have hp := h.pos (by simp)
    have h2 := h.1 0
    rw [show co (x :: l) 0 = x from rfl] at h2
    have h3 := (vl_range h.1.tail).1
    rw [vl_cons] at hp hk ⊢
    cases k with
    | zero => omega
    | succ k =>
      rw [dgF, if_neg (by omega), show (x + 4294967296 * vl l) % 4294967296 = x by omega, show (x + 4294967296 * vl l) / 4294967296 = vl l by omega]
      rw [← Nf.eq_dgF (k := k) h.tail (by omega)]
theorem Nf.eq_dg {l : List Int} (h : Nf l) : l = dg (vl l) := h.eq_dgF (by have := (vl_range h.1).1; omega)
theorem Nf.of_val {l : List Int} (h : Nf l) {n : Int} (e : vl l = n) : l = dg n := e ▸ h.eq_dg
theorem Nf.uniq {a b : List Int} (ha : Nf a) (hb : Nf b) (e : vl a = vl b) : a = b := by rw [ha.eq_dg, hb.eq_dg, e]
theorem dgF_ok : ∀ (k : Nat) (n : Int), n ≤ k → Lb (dgF k n) ∧ (dgF k n = [] ∨ co (dgF k n) ((dgF k n).length - 1) ≠ 0) ∧ (0 ≤ n → vl (dgF k n) = n)
  | 0, n, h => ⟨Lb.nil, Or.inl rfl, fun h0 => by rw [dgF, vl]; omega⟩
  | k + 1, n, h => by
    rw [dgF]
    by_cases c : n ≤ 0
    · rw [if_pos c]
      exact ⟨Lb.nil, Or.inl rfl, fun h0 => by rw [vl]; omega⟩
    · rw [if_neg c]
      obtain ⟨h1, h2, h3⟩ := dgF_ok k (n / 4294967296) (by omega)
      have h3' := h3 (by omega)
      refine ⟨Lb.cons (by omega) h1, Or.inr ?_, fun _ => by rw [vl_cons, h3']; omega⟩
      rcases h2 with h2 | h2
      · rw [h2] at h3' ⊢
        rw [vl] at h3'
        show n % 4294967296 ≠ 0
        omega
      · cases hd : dgF k (n / 4294967296) with
        | nil =>
          rw [hd, vl] at h3'
          show n % 4294967296 ≠ 0
          omega
        | cons y t =>
          rw [hd] at h2
          exact h2
theorem dg_nf (n : Int) : Nf (dg n) := by
  obtain ⟨h1, h2, _⟩ := dgF_ok n.toNat n (by omega)
  exact ⟨h1, h2⟩
theorem vl_dg {n : Int} (h : 0 ≤ n) : vl (dg n) = n := (dgF_ok n.toNat n (by omega)).2.2 h
theorem dg_lb (n : Int) : Lb (dg n) := (dg_nf n).1
theorem dg_zero : dg 0 = [] := rfl
theorem Bp_le {m n : Nat} (h : m ≤ n) : Bp m ≤ Bp n := by
  obtain ⟨d, rfl⟩ : ∃ d, n = m + d := ⟨n - m, by omega⟩
  rw [Bp_add]
  have h1 := Bp_pos m
  have h2 := Bp_pos d
  have := Int.mul_le_mul_of_nonneg_left (show 1 ≤ Bp d by omega) (Int.le_of_lt h1)
  omega
theorem Nf.len_le {l : List Int} (h : Nf l) {n : Nat} : l.length ≤ n ↔ vl l < Bp n := by
  constructor
  · intro hl
    have h1 := vl_range h.1
    have h2 := Bp_le hl
    omega
  · intro hv
    by_cases hl : l = []
    · simp [hl]
    · have h1 := h.low hl
      by_cases c : l.length ≤ n
      · exact c
      · have := Bp_le (show n ≤ l.length - 1 by omega)
        omega
theorem dg_len {v : Int} (h : 0 ≤ v) {n : Nat} : (dg v).length ≤ n ↔ v < Bp n := by
  rw [(dg_nf v).len_le, vl_dg h]
theorem Nf.len_pos {l : List Int} (h : Nf l) : 0 < l.length ↔ 0 < vl l := by
  constructor
  · intro hl
    exact h.pos (by intro e; simp [e] at hl)
  · intro hv
    cases l with
    | nil => rw [vl] at hv; omega
    | cons x l => simp
/-- -1, 0 or 1. -/
def cmpZ (x y : Int) : Int := if x < y then -1 else if y < x then 1 else 0
theorem Nf.len_lt {a b : List Int} (ha : Nf a) (hb : Nf b) (h : a.length < b.length) : vl a < vl b := by
  have h1 := (vl_range ha.1).2
  have h2 := hb.low (by intro e; simp [e] at h)
  have h3 := Bp_le (show a.length ≤ b.length - 1 by omega)
  omega
end Go.Proofs.YtjjjoepnlhpjdaaDoor.Pure

/- Decimal texts: Text prints, Parse reads. -/
import Derived.Test.YtjjjoepnlhpjdaaDoorNat8
import Derived.Test.YtjjjoepnlhpjdaaDoorQ1
import Derived.Test.YtjjjoepnlhpjdaaDoorQ2
import Derived.Test.YtjjjoepnlhpjdaaDoorQ3
namespace Go.Proofs.YtjjjoepnlhpjdaaDoor.Pure
open Go.RowKit Go.Proofs.YtjjjoepnlhpjdaaDoor.Q Go.Proofs.YtjjjoepnlhpjdaaDoor.Num Go.Proofs.YtjjjoepnlhpjdaaDoor.Pol Go.Proofs.YtjjjoepnlhpjdaaDoorW.PrintWords Go.Proofs.YtjjjoepnlhpjdaaDoorW.PrintLast Go.Proofs.YtjjjoepnlhpjdaaDoorW.PrintMore

/-- Digits' characters. -/
def Dt (l : List Int) : Prop := ∀ x ∈ l, 48 ≤ x ∧ x ≤ 57
/-- The number that a text tells. -/
def nv (a : Int) (l : List Int) : Int := l.foldl (fun a x => a * 10 + (x - 48)) a
/-- The decimal characters of a number, lowest first. -/
def tdF : Nat → Int → List Int
  | 0, _ => []
  | k + 1, n => if n ≤ 0 then [] else (48 + n % 10) :: tdF k (n / 10)
def td (n : Int) : List Int := tdF n.toNat n
def pad : Nat → Int → List Int
  | 0, _ => []
  | k + 1, n => (48 + n % 10) :: pad k (n / 10)
theorem tdF_more : ∀ (k j : Nat) (n : Int), n ≤ k → n ≤ j → tdF k n = tdF j n
  | 0, 0, _, _, _ => rfl
  | 0, j + 1, n, h, _ => by rw [tdF, tdF, if_pos (by omega)]
  | k + 1, 0, n, _, h => by rw [tdF, tdF, if_pos (by omega)]
  | k + 1, j + 1, n, h1, h2 => by
    rw [tdF, tdF]
    by_cases c : n ≤ 0
    · rw [if_pos c, if_pos c]
    · rw [if_neg c, if_neg c, tdF_more k j (n / 10) (by omega) (by omega)]
theorem td_zero : td 0 = [] := rfl
theorem td_pos {n : Int} (h : 0 < n) : td n = (48 + n % 10) :: td (n / 10) := by
  obtain ⟨k, hk⟩ : ∃ k, n.toNat = k + 1 := ⟨n.toNat - 1, by omega⟩
  unfold td
  rw [hk, tdF, if_neg (by omega), tdF_more k (n / 10).toNat (n / 10) (by omega) (by omega)]
theorem td_pad : ∀ (k : Nat) (n : Int), 0 < n / 10 ^ k → 0 ≤ n → td n = pad k n ++ td (n / 10 ^ k)
  | 0, n, _, _ => by simp [pad]
  | k + 1, n, h, h0 => by
    have e : n / 10 ^ (k + 1) = n / 10 / 10 ^ k := by rw [Int.pow_succ, Int.mul_comm, Int.ediv_ediv_of_nonneg (by omega)]
    have hp : 0 < n := Int.not_le.1 fun hc => by
      have : n = 0 := by omega
      rw [this, Int.zero_ediv] at h
      omega
    rw [e] at h ⊢
    rw [td_pos hp, pad, td_pad k (n / 10) h (by omega), List.cons_append]
theorem td_dt (n : Int) : Dt (td n) := by
  have key : ∀ (k : Nat) (n : Int), Dt (tdF k n) := by
    intro k
    induction k with
    | zero => intro n x hx; cases hx
    | succ k ih =>
      intro n x hx
      rw [tdF] at hx
      split at hx
      · cases hx
      · rcases List.mem_cons.1 hx with rfl | hx
        · omega
        · exact ih _ x hx
  exact key _ _
/-- The value, lowest first. -/
def rv : List Int → Int
  | [] => 0
  | x :: t => (x - 48) + 10 * rv t
theorem nv_append (a : Int) (l : List Int) (x : Int) : nv a (l ++ [x]) = nv a l * 10 + (x - 48) := by unfold nv; rw [List.foldl_append]; rfl
theorem nv_reverse : ∀ l : List Int, nv 0 l.reverse = rv l
  | [] => rfl
  | x :: t => by rw [List.reverse_cons, nv_append, nv_reverse t, rv]; omega
theorem rv_nonneg : ∀ {l : List Int}, Dt l → 0 ≤ rv l
  | [], _ => Int.le_refl 0
  | x :: t, h => by
    have h1 := rv_nonneg (l := t) fun y hy => h y (List.mem_cons_of_mem _ hy)
    have h2 := h x List.mem_cons_self
    rw [rv]
    omega
theorem rv_tdF : ∀ (k : Nat) (n : Int), 0 ≤ n → n ≤ k → rv (tdF k n) = n
  | 0, n, h0, h => by rw [tdF, rv]; omega
  | k + 1, n, h0, h => by
    rw [tdF]
    by_cases c : n ≤ 0
    · rw [if_pos c, rv]; omega
    · rw [if_neg c, rv, rv_tdF k (n / 10) (by omega) (by omega)]
      omega
theorem rv_td {n : Int} (h : 0 ≤ n) : rv (td n) = n := rv_tdF _ _ h (by omega)
/-- No leading nought, lowest first. -/
def Cn (l : List Int) : Prop := l = [] ∨ l.getLast? ≠ some 48
theorem Cn.pos : ∀ {l : List Int}, Dt l → Cn l → l ≠ [] → 0 < rv l
  | [], _, _, h => absurd rfl h
  | [x], hd, hc, _ => by
    have h1 := hd x List.mem_cons_self
    have h2 := hc.resolve_left (by simp)
    have h3 : x ≠ 48 := fun e => h2 (by rw [e]; rfl)
    rw [rv, rv]
    omega
  | x :: y :: t, hd, hc, _ => by
    have h1 := hd x List.mem_cons_self
    have h2 := Cn.pos (l := y :: t) (fun z hz => hd z (List.mem_cons_of_mem _ hz)) (Or.inr (by have := hc.resolve_left (by simp); rwa [List.getLast?_cons_cons] at this)) (by simp)
    rw [rv]
    omega
theorem td_rv : ∀ {l : List Int}, Dt l → Cn l → td (rv l) = l
  | [], _, _ => rfl
  | x :: t, hd, hc => by
    have hp := Cn.pos hd hc (by simp)
    have h1 := hd x List.mem_cons_self
    have ht : Cn t := by
      cases t with
      | nil => exact Or.inl rfl
      | cons y t => exact Or.inr (by have := hc.resolve_left (by simp); rwa [List.getLast?_cons_cons] at this)
    rw [rv] at hp ⊢
    rw [td_pos hp, show (x - 48 + 10 * rv t) % 10 = x - 48 by omega, show (x - 48 + 10 * rv t) / 10 = rv t by omega, td_rv (fun z hz => hd z (List.mem_cons_of_mem _ hz)) ht]
    congr 1
    omega
theorem td_cn : ∀ (k : Nat) (n : Int), n ≤ k → Cn (tdF k n)
  | 0, _, _ => Or.inl rfl
  | k + 1, n, h => by
    rw [tdF]
    by_cases c : n ≤ 0
    · rw [if_pos c]; exact Or.inl rfl
    · rw [if_neg c]
      refine Or.inr ?_
      rcases td_cn k (n / 10) (by omega) with h1 | h1
      · have h2 := rv_tdF k (n / 10) (by omega) (by omega)
        rw [h1, rv] at h2
        rw [h1]
        simp
        omega
      · cases ht : tdF k (n / 10) with
        | nil =>
          have h2 := rv_tdF k (n / 10) (by omega) (by omega)
          rw [ht, rv] at h2
          simp
          omega
        | cons y t =>
          rw [List.getLast?_cons_cons]
          rwa [ht] at h1
/-- The text of a number. -/
def tx (n : Int) : List Int := if n ≤ 0 then [48] else (td n).reverse
theorem tx_dt (n : Int) : Dt (tx n) := by
  unfold tx
  split
  · intro x hx; simp at hx; omega
  · intro x hx; exact td_dt n x (List.mem_reverse.1 hx)
theorem nv_tx {n : Int} (h : 0 ≤ n) : nv 0 (tx n) = n := by
  unfold tx
  split
  · show (0 : Int) * 10 + (48 - 48) = n; omega
  · rw [nv_reverse, rv_td h]
/-- A text without a leading nought. -/
def Ct (l : List Int) : Prop := l = [48] ∨ (l ≠ [] ∧ l.head? ≠ some 48)
theorem tx_ct {n : Int} (h : 0 ≤ n) : Ct (tx n) := by
  unfold tx
  split
  · exact Or.inl rfl
  · rename_i c
    have h1 : td n ≠ [] := by rw [td_pos (by omega)]; simp
    refine Or.inr ⟨by simpa using h1, ?_⟩
    rw [List.head?_reverse]
    exact (td_cn n.toNat n (by omega)).resolve_left h1
theorem tx_nv {l : List Int} (hd : Dt l) (hc : Ct l) : tx (nv 0 l) = l := by
  rcases hc with rfl | ⟨h1, h2⟩
  · rfl
  · have e : nv 0 l = rv l.reverse := by rw [← nv_reverse, List.reverse_reverse]
    have hd2 : Dt l.reverse := fun x hx => hd x (List.mem_reverse.1 hx)
    have hc2 : Cn l.reverse := Or.inr (by rw [List.getLast?_reverse]; exact h2)
    have hp := Cn.pos hd2 hc2 (by simpa using h1)
    unfold tx
    rw [e, if_neg (by omega), td_rv hd2 hc2, List.reverse_reverse]
theorem nv_bound : ∀ {l : List Int}, Dt l → rv l < 10 ^ l.length
  | [], _ => by simp [rv]
  | x :: t, h => by
    have h1 := nv_bound (l := t) fun y hy => h y (List.mem_cons_of_mem _ hy)
    have h2 := h x List.mem_cons_self
    rw [rv, List.length_cons, Int.pow_succ]
    omega
end Go.Proofs.YtjjjoepnlhpjdaaDoor.Pure

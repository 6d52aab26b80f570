/- Text and Parse of the program. -/
import Derived.Test.YtjjjoepnlhpjdaaDoorTxt
import Derived.Test.YtjjjoepnlhpjdaaDoorQ1
import Derived.Test.YtjjjoepnlhpjdaaDoorQ2
import Derived.Test.YtjjjoepnlhpjdaaDoorQ3
namespace Go.Proofs.YtjjjoepnlhpjdaaDoor.Pure
open Go.RowKit Go.Proofs.YtjjjoepnlhpjdaaDoor.Q Go.Proofs.YtjjjoepnlhpjdaaDoor.Num Go.Proofs.YtjjjoepnlhpjdaaDoor.Pol Go.Proofs.YtjjjoepnlhpjdaaDoorW.PrintWords Go.Proofs.YtjjjoepnlhpjdaaDoorW.PrintLast Go.Proofs.YtjjjoepnlhpjdaaDoorW.PrintMore

theorem rev_l {l : List Int} {n : Nat} (ln : l.length = n) (hn : n < 4611686018427387904) :
    ∀ (d i j : Nat) (x : List Int), d = j - i → i + j + 1 = n → x.length = n → (∀ t, t < n → co x t = if t < i ∨ j < t then co l (n - 1 - t) else co l t) → Ev (fun k => slices_Reverse_byte_byte.l0 k x (i : Int) (j : Int)) l.reverse := by
  intro d
  induction d using Nat.strongRecOn with
  | ind d ih =>
    intro i j x hd hij lx hx
    by_cases c : i < j
    · have h1 := w64_succ (i := i) (by omega)
      have h2 : wrap64 ((j : Int) - 1) = ((j - 1 : Nat) : Int) := by rw [w64 (by omega) (by omega)]; omega
      have q1 : (i : Int) < (j : Int) := by omega
      have q2 : (j : Int) < (x.length : Int) := by omega
      have q3 : (i : Int) < (x.length : Int) := by omega
      have q4 : i < x.length := by omega
      have q5 : j < (x.set i (co x j)).length := by rw [List.length_set]; omega
      refine Ev.succ (fun k => ?_) (ih (j - 1 - (i + 1)) (by omega) (i + 1) (j - 1) ((x.set i (co x j)).set j (co x i)) rfl (by omega) (by rw [List.length_set, List.length_set]; exact lx) (fun t ht => ?_))
      · rw [slices_Reverse_byte_byte.l0, if_pos q1, if_pos (Int.natCast_nonneg _), if_pos q2, if_pos (Int.natCast_nonneg _), if_pos q3, Int.toNat_natCast, Int.toNat_natCast, rd_nat, rd_nat, h1, h2]
      · rw [co_set q5, co_set q4, hx j (by omega), hx i (by omega), hx t ht]
        by_cases e1 : t = j
        · rw [if_pos e1, if_neg (show ¬ (i < i ∨ j < i) by omega), if_pos (show t < i + 1 ∨ j - 1 < t by omega)]
          congr 1
          omega
        · rw [if_neg e1]
          by_cases e2 : t = i
          · rw [if_pos e2, if_neg (show ¬ (j < i ∨ j < j) by omega), if_pos (show t < i + 1 ∨ j - 1 < t by omega)]
            congr 1
            omega
          · rw [if_neg e2]
            by_cases e3 : t < i ∨ j < t
            · rw [if_pos e3, if_pos (show t < i + 1 ∨ j - 1 < t by omega)]
            · rw [if_neg e3, if_neg (show ¬ (t < i + 1 ∨ j - 1 < t) by omega)]
    · refine Ev.succ (F := fun _ => some x) (fun k => ?_) (Ev.all fun _ => congrArg some ?_)
      · rw [slices_Reverse_byte_byte.l0, if_neg (by omega)]
      · refine ext_co (by rw [List.length_reverse, lx, ln]) (fun t ht => ?_)
        rw [lx] at ht
        have e : co l.reverse t = co l (n - 1 - t) := by
          rw [co_lt (by rw [List.length_reverse]; omega), co_lt (by omega), List.getElem_reverse]
          congr 1
          omega
        rw [hx t ht, e]
        split
        · rfl
        · congr 1
          omega
theorem s_Reverse {l : List Int} (hl : l ≠ []) (hn : l.length < 4611686018427387904) : Ev (fun k => slices_Reverse_byte_byte.f k l) l.reverse := by
  have hp : 0 < l.length := List.length_pos_iff.2 hl
  have h2 : wrap64 ((l.length : Int) - 1) = ((l.length - 1 : Nat) : Int) := by rw [w64 (by omega) (by omega)]; omega
  have s := rev_l (l := l) rfl hn (l.length - 1 - 0) 0 (l.length - 1) l rfl (by omega) rfl (fun t ht => by rw [if_neg (by omega)])
  refine Ev.congr (fun k => ?_) s
  rw [slices_Reverse_byte_byte.f, h2]
  rfl
theorem dig_ok {n : Int} (h : 0 ≤ n ∧ n < 4294967296) : (48 + Int.tmod n 10) % 256 = 48 + n % 10 ∧ Int.tdiv n 10 % 4294967296 = n / 10 := by
  rw [Int.tmod_eq_emod_of_nonneg h.1, Int.tdiv_eq_ediv_of_nonneg h.1]
  omega
theorem pow10 {m : Nat} (h : m ≤ 9) : (10 : Int) ^ m ≤ 1000000000 := by
  have key : ∀ m : Fin 10, (10 : Int) ^ m.val ≤ 1000000000 := by decide +kernel
  exact key ⟨m, by omega⟩
theorem text1_pad : ∀ (m : Nat) (n : Int) (l : List Int), m ≤ 9 → 0 ≤ n ∧ n < 10 ^ m → l.length + m < 140737488355328 → Ev (fun k => ratio_Text_1.l0 k n (m : Int) l) (l ++ pad m n) := by
  intro m
  induction m with
  | zero =>
    intro n l _ hn _
    have e : n = 0 := by simp at hn; omega
    refine Ev.succ (F := fun _ => some l) (fun k => ?_) (Ev.all fun _ => by rw [pad, List.append_nil])
    rw [ratio_Text_1.l0, if_neg (by omega)]
  | succ m ih =>
    intro n l hm hn hl
    have hb := pow10 hm
    have hs : (10 : Int) ^ (m + 1) = 10 ^ m * 10 := Int.pow_succ _ _
    obtain ⟨d1, d2⟩ := dig_ok (n := n) (by omega)
    have w : wrap64 (((m + 1 : Nat) : Int) - 1) = (m : Int) := by rw [w64 (by omega) (by omega)]; omega
    have s := ih (n / 10) (l ++ [48 + n % 10]) (by omega) ⟨by omega, Int.ediv_lt_of_lt_mul (by omega) (by omega)⟩ (by rw [List.length_append, List.length_singleton]; omega)
    rw [List.append_assoc] at s
    refine Ev.succ (fun k => ?_) s
    rw [ratio_Text_1.l0, if_pos (by omega), if_pos (by omega), d1, d2, w]
theorem text1_td : ∀ (N : Nat) (n : Int) (m : Int) (l : List Int), 0 ≤ n ∧ n < 10 ^ N → N ≤ 9 → m ≤ 1 ∧ -100 + N < m → (0 < n ∨ m ≤ 0) → l.length + N < 140737488355328 → Ev (fun k => ratio_Text_1.l0 k n m l) (l ++ td n) := by
  intro N
  induction N with
  | zero =>
    intro n m l hn _ hm hc _
    have e : n = 0 := by simp at hn; omega
    refine Ev.succ (F := fun _ => some l) (fun k => ?_) (Ev.all fun _ => by rw [e, td_zero, List.append_nil])
    rw [ratio_Text_1.l0, if_neg (by omega)]
  | succ N ih =>
    intro n m l hn hN hm hc hl
    have hb := pow10 hN
    have hs : (10 : Int) ^ (N + 1) = 10 ^ N * 10 := Int.pow_succ _ _
    by_cases c : n = 0
    · refine Ev.succ (F := fun _ => some l) (fun k => ?_) (Ev.all fun _ => by rw [c, td_zero, List.append_nil])
      rw [ratio_Text_1.l0, if_neg (by omega)]
    · obtain ⟨d1, d2⟩ := dig_ok (n := n) (by omega)
      have w : wrap64 (m - 1) = m - 1 := w64 (by omega) (by omega)
      have s := ih (n / 10) (m - 1) (l ++ [48 + n % 10]) ⟨by omega, Int.ediv_lt_of_lt_mul (by omega) (by omega)⟩ (by omega) (by omega) (by omega) (by rw [List.length_append, List.length_singleton]; omega)
      rw [List.append_assoc, List.singleton_append, ← td_pos (show 0 < n by omega)] at s
      refine Ev.succ (fun k => ?_) s
      rw [ratio_Text_1.l0, if_pos (by omega), if_pos (by omega), d1, d2, w]
theorem pad9 (v : Int) : pad 9 (v % 1000000000) = pad 9 v := by
  simp only [pad, List.cons.injEq, and_true]
  omega
theorem td_len : ∀ (k : Nat) (n : Int), 0 ≤ n → n < 10 ^ k → (td n).length ≤ k
  | 0, n, h0, h => by
    have e : n = 0 := by simp at h; omega
    rw [e]
    exact Nat.le_refl 0
  | k + 1, n, h0, h => by
    by_cases c : n = 0
    · rw [c]
      exact Nat.zero_le _
    · rw [td_pos (by omega), List.length_cons]
      rw [Int.pow_succ] at h
      have := td_len k (n / 10) (by omega) (Int.ediv_lt_of_lt_mul (by omega) h)
      omega
/-- What stands at the end. -/
def fin (l : List Int) : ByteArray := if (l.length : Int) = 0 then ⟨#[48]⟩ else strOfNums l.reverse
theorem text_l : ∀ (N : Nat) (v : Int) (l : List Int), 0 ≤ v ∧ v < Bp 64 → v < 1000000000 ^ N → l.length + 9 * N < 70368744177664 → Ev (fun k => ratio_Text.l0 k (dg v) l) (fin (l ++ td v)) := by
  have zero : ∀ l : List Int, l.length < 70368744177664 → Ev (fun k => ratio_Text.l0 k (dg 0) l) (fin (l ++ td 0)) := by
    intro l hl
    rw [td_zero, List.append_nil, dg_zero]
    by_cases c : l.length = 0
    · refine Ev.succ (F := fun _ => some (fin l)) (fun k => ?_) (Ev.all fun _ => rfl)
      rw [ratio_Text.l0, if_neg (by decide), if_pos (by omega), fin, if_pos (by omega)]
    · refine Ev.succ (fun k => ?_) ((s_Reverse (l := l) (by intro e; rw [e] at c; exact c rfl) (by omega)).bind (G := fun _ t => some (strOfNums t)) (Ev.all fun _ => by rw [fin, if_neg (by omega)]))
      rw [ratio_Text.l0, if_neg (by decide), if_neg (by omega)]
  intro N
  induction N with
  | zero =>
    intro v l hv h hl
    have e : v = 0 := by simp at h; omega
    rw [e]
    exact zero l (by omega)
  | succ N ih =>
    intro v l hv h hl
    by_cases c : v = 0
    · rw [c]
      exact zero l (by omega)
    · have l1 := dg_pos (x := v) (by omega)
      have l2 := dl hv
      have sm := s_small (b := 1000000000) (dg_lb v) (by omega) (by omega)
      rw [vl_dg hv.1] at sm
      have hb : v / 1000000000 < 1000000000 ^ N := by
        rw [Int.pow_succ] at h
        exact Int.ediv_lt_of_lt_mul (by omega) h
      refine Ev.succ (fun k => ?_) (sm.bind (G := fun k bt234 => if (bt234.1.length : Int) > 0 then ((ratio_Text_1.l0 k bt234.2 9 l).bind fun t238 => (ratio_Text.l0 k bt234.1 t238)) else ((ratio_Text_1.l0 k bt234.2 1 l).bind fun t241 => (ratio_Text.l0 k bt234.1 t241))) ?_)
      · rw [ratio_Text.l0, if_pos (by omega)]
      · by_cases c2 : v / 1000000000 = 0
        · have e : v % 1000000000 = v := by omega
          rw [e, c2]
          refine Ev.congr (fun k => if_neg (by show ¬ (((dg 0).length : Int) > 0); rw [dg_zero]; decide)) ?_
          refine (text1_td 9 v 1 l (by omega) (by omega) (by omega) (by omega) (by omega)).bind ?_
          have z := zero (l ++ td v) (by
            have : (td v).length ≤ 9 * 1 := ?_
            · rw [List.length_append]; omega
            · exact td_len 9 v hv.1 (by omega))
          rw [td_zero, List.append_nil] at z
          exact z
        · have l3 := dg_pos (x := v / 1000000000) (by omega)
          refine Ev.congr (fun k => if_pos (by show ((dg (v / 1000000000)).length : Int) > 0; omega)) ?_
          have t := text1_pad 9 (v % 1000000000) l (by omega) (by omega) (by omega)
          rw [pad9] at t
          refine t.bind ?_
          have r := ih (v / 1000000000) (l ++ pad 9 v) ⟨by omega, by omega⟩ hb (by rw [List.length_append]; show l.length + 9 + _ < _; omega)
          rw [List.append_assoc, show (1000000000 : Int) = 10 ^ 9 from rfl, ← td_pad 9 v (by show 0 < v / 1000000000; omega) hv.1] at r
          exact r
/-- Text. -/
theorem s_Text {v : Int} (hv : 0 ≤ v ∧ v < Bp 64) : Ev (fun k => ratio_Text.f k (dg v)) (strOfNums (tx v)) := by
  have b : Bp 64 ≤ 1000000000 ^ 69 := by decide +kernel
  have t := text_l 69 v [] hv (by omega) (by decide)
  have e : fin ([] ++ td v) = strOfNums (tx v) := by
    rw [List.nil_append, fin, tx]
    by_cases c : v ≤ 0
    · have e0 : v = 0 := by omega
      rw [e0]
      rfl
    · have := td_pos (show 0 < v by omega)
      rw [if_neg c, if_neg (by rw [this, List.length_cons]; omega)]
  rw [e] at t
  refine (n_Valid hv).bind ?_
  exact Ev.congr (fun k => if_pos rfl) t
end Go.Proofs.YtjjjoepnlhpjdaaDoor.Pure

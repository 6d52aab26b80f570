/- The digit of a quotient: Knuth's algorithm D. -/
import Derived.Test.YtjjjoepnlhpjdaaDoorNat3
import Derived.Test.YtjjjoepnlhpjdaaDoorQ2
namespace Go.Proofs.YtjjjoepnlhpjdaaDoor.Pure
open Go.RowKit Go.Proofs.YtjjjoepnlhpjdaaDoor.Q Go.Proofs.YtjjjoepnlhpjdaaDoor.Num Go.Proofs.YtjjjoepnlhpjdaaDoor.Pol Go.Proofs.YtjjjoepnlhpjdaaDoorW.PrintWords Go.Proofs.YtjjjoepnlhpjdaaDoorW.PrintLast Go.Proofs.YtjjjoepnlhpjdaaDoorW.PrintMore

/-- What is known of the numbers of a step. -/
structure KD (U V q v1 v2 u2 top Q U3 V3 : Int) : Prop where
  hU : U = U3 + u2 * Q + top * (4294967296 * Q)
  hV : V = V3 + v2 * Q + v1 * (4294967296 * Q)
  hU3 : 0 ≤ U3 ∧ U3 < Q
  hV3 : 0 ≤ V3 ∧ V3 < Q
  hv1 : 2147483648 ≤ v1 ∧ v1 < 4294967296
  hv2 : 0 ≤ v2 ∧ v2 < 4294967296
  hu2 : 0 ≤ u2 ∧ u2 < 4294967296
  htop : 0 ≤ top ∧ top ≤ v1 * 4294967296 + 4294967295
  q0 : 0 ≤ q
  hq : q * V ≤ U
  hq2 : U < (q + 1) * V
section
variable {U V q v1 v2 u2 top Q U3 V3 : Int}
theorem KD.Qpos (h : KD U V q v1 v2 u2 top Q U3 V3) : 0 < Q := by have := h.hU3; omega
theorem KD.Vlow (h : KD U V q v1 v2 u2 top Q U3 V3) : 4294967296 * Q ≤ V := by
  have h1 := h.Qpos
  have h2 := Int.mul_le_mul_of_nonneg_right (show 1 ≤ v1 by have := h.hv1; omega) (show 0 ≤ 4294967296 * Q by omega)
  have h3 := Int.mul_nonneg h.hv2.1 (Int.le_of_lt h1)
  have h4 := h.hV3
  rw [h.hV]
  omega
theorem KD.Vpos (h : KD U V q v1 v2 u2 top Q U3 V3) : 0 < V := by
  have := h.Vlow
  have := h.Qpos
  omega
theorem KD.exit (h : KD U V q v1 v2 u2 top Q U3 V3) {g rest : Int} (g0 : 0 ≤ g) (g1 : g < 4294967296) (e : g * v1 + rest = top) (t : g * v2 ≤ rest * 4294967296 + u2) : g ≤ q + 1 := by
  refine Int.not_lt.1 fun hc => ?_
  have hQ := h.Qpos
  have e2 := Int.mul_le_mul_of_nonneg_right t (Int.le_of_lt hQ)
  have e4 : g * V3 ≤ 4294967295 * Q := Int.mul_le_mul (by omega) (Int.le_of_lt h.hV3.2) h.hV3.1 (by omega)
  have e6 := Int.mul_le_mul_of_nonneg_right (show q + 1 ≤ g - 1 by omega) (Int.le_of_lt h.Vpos)
  have e7 := h.hq2
  have e8 := h.Vlow
  have e9 := h.hU3.1
  have e1 : g * V = g * V3 + g * v2 * Q + g * v1 * (4294967296 * Q) := by rw [h.hV]; grind
  have e3 : g * v1 * (4294967296 * Q) = top * (4294967296 * Q) - rest * (4294967296 * Q) := by rw [← e]; grind
  have e5 : (rest * 4294967296 + u2) * Q = rest * (4294967296 * Q) + u2 * Q := by grind
  have e10 : (g - 1) * V = g * V - V := by grind
  have e11 := h.hU
  omega
theorem KD.more (h : KD U V q v1 v2 u2 top Q U3 V3) {g rest : Int} (g0 : 0 ≤ g) (e : g * v1 + rest = top) (t : rest * 4294967296 + u2 < g * v2) : q < g := by
  refine Int.not_le.1 fun hc => ?_
  have hQ := h.Qpos
  have e2 := Int.mul_le_mul_of_nonneg_right (show rest * 4294967296 + u2 + 1 ≤ g * v2 by omega) (Int.le_of_lt hQ)
  have e4 := Int.mul_nonneg g0 h.hV3.1
  have e6 := Int.mul_le_mul_of_nonneg_right hc (Int.le_of_lt h.Vpos)
  have e7 := h.hq
  have e9 := h.hU3.2
  have e1 : g * V = g * V3 + g * v2 * Q + g * v1 * (4294967296 * Q) := by rw [h.hV]; grind
  have e3 : g * v1 * (4294967296 * Q) = top * (4294967296 * Q) - rest * (4294967296 * Q) := by rw [← e]; grind
  have e5 : (rest * 4294967296 + u2 + 1) * Q = rest * (4294967296 * Q) + u2 * Q + Q := by grind
  have e11 := h.hU
  omega
theorem KD.first (h : KD U V q v1 v2 u2 top Q U3 V3) : q ≤ top / v1 := by
  have hQ := h.Qpos
  have hv := h.hv1
  refine Int.le_ediv_of_mul_le (by omega) (Int.not_lt.1 fun hc => ?_)
  have e1 := Int.mul_le_mul_of_nonneg_right (show top + 1 ≤ q * v1 by omega) (show 0 ≤ 4294967296 * Q by omega)
  have e2 : q * V = q * V3 + q * v2 * Q + q * v1 * (4294967296 * Q) := by rw [h.hV]; grind
  have e3 := Int.mul_nonneg h.q0 h.hV3.1
  have e4 := Int.mul_nonneg (Int.mul_nonneg h.q0 h.hv2.1) (Int.le_of_lt hQ)
  have e5 := Int.mul_le_mul_of_nonneg_right (show u2 ≤ 4294967295 by have := h.hu2; omega) (Int.le_of_lt hQ)
  have e6 : (top + 1) * (4294967296 * Q) = top * (4294967296 * Q) + 4294967296 * Q := by grind
  have e7 := h.hq
  have e8 := h.hU
  have e9 := h.hU3.2
  omega
theorem KD.bound (h : KD U V q v1 v2 u2 top Q U3 V3) : top / v1 ≤ 4294967297 := by
  have hv := h.hv1
  have ht := h.htop
  refine Int.le_of_lt_add_one (Int.ediv_lt_of_lt_mul (by omega) ?_)
  omega
theorem KD.below (h : KD U V q v1 v2 u2 top Q U3 V3) {g rest : Int} (e : g * v1 + rest = top) (hr : 4294967296 ≤ rest) : g < 4294967296 := by
  refine Int.not_le.1 fun hc => ?_
  have h1 := Int.mul_le_mul_of_nonneg_right hc (show 0 ≤ v1 by have := h.hv1; omega)
  have ht := h.htop
  rw [Int.mul_comm 4294967296 v1] at h1
  omega
theorem KD.small (h : KD U V q v1 v2 u2 top Q U3 V3) {g rest : Int} (g0 : 0 ≤ g) (g1 : g < 4294967296) (hr : 4294967296 ≤ rest) : g * v2 ≤ rest * 4294967296 + u2 := by
  have h1 : g * v2 ≤ 4294967295 * 4294967295 := Int.mul_le_mul (by omega) (by have := h.hv2; omega) h.hv2.1 (by omega)
  have h2 := h.hu2.1
  omega
end
/-- The search of the guess. -/
theorem search_l {u v : List Int} {n : Nat} {U V q top Q U3 V3 : Int} (hu : Lb u) (hv : Lb v) (lu : u.length = n + 1) (lv : v.length = n) (hn : 2 ≤ n) (hl : n < 70368744177664) (h : Aside0 (KD U V q (co v (n - 1)) (co v (n - 2)) (co u (n - 2)) top Q U3 V3)) (hqB : q < 4294967296) {r : Int × List Int}
    (hK : ∀ g : Int, (g = q ∨ g = q + 1) → 0 ≤ g → g < 4294967296 → Ev (fun k => ratio_digit.j2 k u v (n : Int) g) r) :
    ∀ (m : Nat) (g rest : Int), g = q + m → g ≤ 4294967297 → 0 ≤ rest ∧ rest < 4294967296 → Aside0 (g * co v (n - 1) + rest = top) → Ev (fun k => ratio_digit.l0 k u v (n : Int) g rest) r := by
  intro m
  induction m with
  | zero =>
    intro g rest hg hg1 hr he
    have q0 := h.out.q0
    have g0 : 0 ≤ g := by omega
    have g1 : g < 4294967296 := by omega
    have i2 : wrap64 ((n : Int) - 2) = ((n - 2 : Nat) : Int) := by rw [w64 (by omega) (by omega)]; omega
    have v2 := hv (n - 2)
    have u2 := hu (n - 2)
    have t : ¬ (rest * 4294967296 + co u (n - 2) < g * co v (n - 2)) := fun t => by
      have := h.out.more g0 he.out t
      omega
    obtain ⟨b1, b2⟩ := mul_bd (x := g) (y := co v (n - 2)) (o := 0) (c := 0) ⟨g0, g1⟩ v2 (by omega) (by omega)
    have w1 : IntKind.u64.wrap (g * IntKind.u64.wrap (co v (n - 2))) = g * co v (n - 2) := by
      rw [wu64 (n := co v (n - 2)) (by omega) (by omega)]
      exact wu64 b1 (by omega)
    have w2 := or_join (x := rest) hr u2
    have d1 : g / 4294967296 = 0 := by omega
    have l1 : ((n - 2 : Nat) : Int) < (v.length : Int) := by omega
    have l2 : ((n - 2 : Nat) : Int) < (u.length : Int) := by omega
    refine Ev.succ (fun k => ?_) (Ev.succ (fun k => ?_) (hK g (Or.inl (by omega)) g0 g1) : Ev (fun k => ratio_digit.j1 k u v (n : Int) g rest false) r)
    · rw [ratio_digit.l0, if_pos d1, i2, if_pos (Int.natCast_nonneg _), if_pos l1, if_pos l2, rd_nat, rd_nat, w1, w2, decide_eq_false t]
    · rw [ratio_digit.j1, if_neg (by decide)]
  | succ m ih =>
    intro g rest hg hg1 hr he
    have q0 := h.out.q0
    have g0 : 0 ≤ g := by omega
    have i1 : wrap64 ((n : Int) - 1) = ((n - 1 : Nat) : Int) := by rw [w64 (by omega) (by omega)]; omega
    have i2 : wrap64 ((n : Int) - 2) = ((n - 2 : Nat) : Int) := by rw [w64 (by omega) (by omega)]; omega
    have v1 := hv (n - 1)
    have v2 := hv (n - 2)
    have u2 := hu (n - 2)
    have l1 : ((n - 2 : Nat) : Int) < (v.length : Int) := by omega
    have l2 : ((n - 2 : Nat) : Int) < (u.length : Int) := by omega
    have l3 : ((n - 1 : Nat) : Int) < (v.length : Int) := by omega
    have w3 : IntKind.u64.wrap (rest + IntKind.u64.wrap (co v (n - 1))) = rest + co v (n - 1) := by
      rw [wu64 (n := co v (n - 1)) (by omega) (by omega)]
      exact wu64 (by omega) (by omega)
    have w4 : IntKind.u64.wrap (g - 1) = g - 1 := wu64 (by omega) (by omega)
    have he2 : (g - 1) * co v (n - 1) + (rest + co v (n - 1)) = top := by
      rw [← he.out, Int.sub_mul, Int.one_mul]
      omega
    -- once more, or out
    have step : Ev (fun k => ratio_digit.j1 k u v (n : Int) g rest true) r := by
      by_cases c : (rest + co v (n - 1)) / 4294967296 = 0
      · refine Ev.succ (fun k => ?_) (ih (g - 1) (rest + co v (n - 1)) (by omega) (by omega) (by omega) ⟨he2⟩)
        rw [ratio_digit.j1, if_pos rfl, i1, if_pos (Int.natCast_nonneg _), if_pos l3, rd_nat, w3, if_pos c, w4]
      · have hr2 : 4294967296 ≤ rest + co v (n - 1) := by omega
        have g1 := h.out.below he2 hr2
        have g2 := h.out.exit (by omega) g1 he2 (h.out.small (by omega) g1 hr2)
        refine Ev.succ (fun k => ?_) (hK (g - 1) (by omega) (by omega) g1)
        rw [ratio_digit.j1, if_pos rfl, i1, if_pos (Int.natCast_nonneg _), if_pos l3, rd_nat, w3, if_neg c, w4]
    by_cases d1 : g / 4294967296 = 0
    · have g1 : g < 4294967296 := by omega
      obtain ⟨b1, b2⟩ := mul_bd (x := g) (y := co v (n - 2)) (o := 0) (c := 0) ⟨g0, g1⟩ v2 (by omega) (by omega)
      have w1 : IntKind.u64.wrap (g * IntKind.u64.wrap (co v (n - 2))) = g * co v (n - 2) := by
        rw [wu64 (n := co v (n - 2)) (by omega) (by omega)]
        exact wu64 b1 (by omega)
      have w2 := or_join (x := rest) hr u2
      by_cases t : rest * 4294967296 + co u (n - 2) < g * co v (n - 2)
      · refine Ev.succ (fun k => ?_) step
        rw [ratio_digit.l0, if_pos d1, i2, if_pos (Int.natCast_nonneg _), if_pos l1, if_pos l2, rd_nat, rd_nat, w1, w2, decide_eq_true t]
      · have g2 := h.out.exit g0 g1 he.out (Int.not_lt.1 t)
        refine Ev.succ (fun k => ?_) (Ev.succ (fun k => ?_) (hK g (by omega) g0 g1) : Ev (fun k => ratio_digit.j1 k u v (n : Int) g rest false) r)
        · rw [ratio_digit.l0, if_pos d1, i2, if_pos (Int.natCast_nonneg _), if_pos l1, if_pos l2, rd_nat, rd_nat, w1, w2, decide_eq_false t]
        · rw [ratio_digit.j1, if_neg (by decide)]
    · refine Ev.succ (fun k => ?_) step
      rw [ratio_digit.l0, if_neg d1]
end Go.Proofs.YtjjjoepnlhpjdaaDoor.Pure

/- What the functions of ratio answer: sub, mul, small, shifted. -/
import Derived.Test.YtjjjoepnlhpjdaaDoorNat1
import Derived.Test.YtjjjoepnlhpjdaaDoorQ1
import Derived.Test.YtjjjoepnlhpjdaaDoorQ9
namespace Go.Proofs.YtjjjoepnlhpjdaaDoor.Pure
open Go.RowKit Go.Proofs.YtjjjoepnlhpjdaaDoor.Q Go.Proofs.YtjjjoepnlhpjdaaDoor.Num Go.Proofs.YtjjjoepnlhpjdaaDoor.Pol Go.Proofs.YtjjjoepnlhpjdaaDoorW.PrintWords Go.Proofs.YtjjjoepnlhpjdaaDoorW.PrintLast Go.Proofs.YtjjjoepnlhpjdaaDoorW.PrintMore

theorem tb31 {n : Nat} (h : n < 4294967296) : n.testBit 31 = decide (2147483648 ≤ n) := by
  rw [Nat.testBit_eq_decide_div_mod_eq, decide_eq_decide]
  show n / 2147483648 % 2 = 1 ↔ _
  omega
theorem div31 {n : Nat} (h : n < 4294967296) : n / 2147483648 = (n.testBit 31).toNat := by
  rw [tb31 h]
  by_cases c : 2147483648 ≤ n
  · rw [decide_eq_true c, Bool.toNat_true]; omega
  · rw [decide_eq_false c, Bool.toNat_false]; omega
theorem sub32_top {a b d c : Nat} (ha : a < 4294967296) (hb : b < 4294967296) (hc : c ≤ 1) (hd : d = (4294967296 + a - b - c) % 4294967296 ∨ (b + c > 4294967296 + a ∧ d = 0)) :
    (((4294967295 ^^^ a) &&& b) ||| ((4294967295 ^^^ (a ^^^ b)) &&& d)) / 2147483648 = if a < b + c then 1 else 0 := by
  have hdl : d < 4294967296 := by omega
  have x1 : 4294967295 ^^^ a < 4294967296 := Nat.xor_lt_two_pow (n := 32) (by omega) ha
  have x2 : a ^^^ b < 4294967296 := Nat.xor_lt_two_pow (n := 32) ha hb
  have x3 : 4294967295 ^^^ (a ^^^ b) < 4294967296 := Nat.xor_lt_two_pow (n := 32) (by omega) x2
  have x4 : (4294967295 ^^^ a) &&& b < 4294967296 := Nat.and_lt_two_pow (n := 32) _ hb
  have x5 : (4294967295 ^^^ (a ^^^ b)) &&& d < 4294967296 := Nat.and_lt_two_pow (n := 32) _ hdl
  have x6 : (((4294967295 ^^^ a) &&& b) ||| ((4294967295 ^^^ (a ^^^ b)) &&& d)) < 4294967296 := Nat.or_lt_two_pow (n := 32) x4 x5
  rw [div31 x6, Nat.testBit_or, Nat.testBit_and, Nat.testBit_and, Nat.testBit_xor, Nat.testBit_xor, Nat.testBit_xor, tb31 ha, tb31 hb, tb31 hdl, show Nat.testBit 4294967295 31 = true from by decide]
  clear x1 x2 x3 x4 x5 x6
  by_cases ca : 2147483648 ≤ a <;> by_cases cb : 2147483648 ≤ b <;> by_cases cd : 2147483648 ≤ d <;> simp [ca, cb, cd] <;> (try split) <;> omega
theorem sub32 {a b c : Int} (ha : 0 ≤ a ∧ a < 4294967296) (hb : 0 ≤ b ∧ b < 4294967296) (hc : 0 ≤ c ∧ c ≤ 1) : bits_Sub32.f a b c = some ((a - b - c) % 4294967296, if a < b + c then 1 else 0) := by
  unfold bits_Sub32.f
  have e1 : ((a - b) % 4294967296 - c) % 4294967296 = (a - b - c) % 4294967296 := by omega
  rw [e1]
  obtain ⟨A, rfl⟩ : ∃ n : Nat, a = n := ⟨a.toNat, by omega⟩
  obtain ⟨B, rfl⟩ : ∃ n : Nat, b = n := ⟨b.toNat, by omega⟩
  obtain ⟨C, rfl⟩ : ∃ n : Nat, c = n := ⟨c.toNat, by omega⟩
  obtain ⟨D, hD⟩ : ∃ n : Nat, ((A : Int) - B - C) % 4294967296 = n := ⟨(((A : Int) - B - C) % 4294967296).toNat, by omega⟩
  rw [hD]
  have hA : A < 4294967296 := by omega
  have hB : B < 4294967296 := by omega
  have hDl : D < 4294967296 := by omega
  have x2 : A ^^^ B < 4294967296 := Nat.xor_lt_two_pow (n := 32) hA hB
  have x1 : 4294967295 ^^^ A < 4294967296 := Nat.xor_lt_two_pow (n := 32) (by omega) hA
  have x3 : 4294967295 ^^^ (A ^^^ B) < 4294967296 := Nat.xor_lt_two_pow (n := 32) (by omega) x2
  rw [show IntKind.u32.max = ((4294967295 : Nat) : Int) from rfl, u32_xor_nat _ _ (by omega) hA, u32_and_nat _ _ x1 hB, u32_xor_nat _ _ hA hB, u32_xor_nat _ _ (by omega) x2, u32_and_nat _ _ x3 hDl,
    u32_or_nat _ _ (Nat.and_lt_two_pow (n := 32) _ hB) (Nat.and_lt_two_pow (n := 32) _ hDl)]
  have k := sub32_top (a := A) (b := B) (d := D) (c := C) hA hB (by omega) (by omega)
  have k2 : ((((4294967295 ^^^ A) &&& B) ||| ((4294967295 ^^^ (A ^^^ B)) &&& D) : Nat) : Int) / 2147483648 = (((((4294967295 ^^^ A) &&& B) ||| ((4294967295 ^^^ (A ^^^ B)) &&& D)) / 2147483648 : Nat) : Int) := by
    rw [Int.natCast_ediv]; rfl
  rw [k2, k]
  congr 2
  by_cases q : A < B + C
  · rw [if_pos q, if_pos (by omega)]; rfl
  · rw [if_neg q, if_neg (by omega)]; rfl
theorem mul_alg {O V0 P Pi Pj T lo hi x y o c : Int} (hv : O + c * P = V0 + x * (Pi * T)) (hP : P = Pi * Pj) (hd : lo + 4294967296 * hi = x * y + o + c) : O + (lo - o) * P + hi * (4294967296 * P) = V0 + x * (Pi * (T + y * Pj)) := by
  have h := congrArg (fun t => t * P) hd
  subst hP
  grind
theorem mul_bd {x y o c : Int} (hx : 0 ≤ x ∧ x < 4294967296) (hy : 0 ≤ y ∧ y < 4294967296) (ho : 0 ≤ o ∧ o < 4294967296) (hc : 0 ≤ c ∧ c < 4294967296) : 0 ≤ x * y ∧ x * y + o + c < 18446744073709551616 := by
  have h1 := Int.mul_nonneg hx.1 hy.1
  have h2 := Int.mul_le_mul (show x ≤ 4294967295 by omega) (show y ≤ 4294967295 by omega) hy.1 (by omega)
  generalize x * y = z at *
  omega
theorem mul_in {a b : List Int} (ha : Lb a) (hb : Lb b) (hn : a.length + b.length < 70368744177664) {i : Nat} (hi : i < a.length) {R V0 : Int} {r : List Int} :
    ∀ (d j : Nat) (out : List Int) (c : Int), j + d = b.length → out.length = a.length + b.length → Lb out → 0 ≤ c ∧ c < 4294967296 → (∀ t, i + b.length ≤ t → co out t = 0) → Aside0 (vl out + c * Bp (i + j) = V0 + co a i * (Bp i * vl (b.take j))) →
    (∀ out' : List Int, out'.length = a.length + b.length → Lb out' → (∀ t, i + 1 + b.length ≤ t → co out' t = 0) → Aside0 (vl out' = V0 + co a i * (Bp i * vl b)) → Ev (fun k => ratio_mul.l0 k b out' a (a.length : Int) ((i + 1 : Nat) : Int)) r) →
    Ev (fun k => ratio_mul.l1 k b out (i : Int) (co a i) c a (a.length : Int) (i : Int) b (b.length : Int) (j : Int)) r := by
  intro d
  induction d with
  | zero =>
    intro j out c hj ho hout hc hz hv hK
    have q1 : ¬ ((j : Int) < (b.length : Int)) := by omega
    have q2 : wrap64 ((i : Int) + (b.length : Int)) = ((i + b.length : Nat) : Int) := by rw [w64 (by omega) (by omega)]; omega
    have q3 : i + b.length < out.length := by omega
    have q4 : c % 4294967296 = c := by omega
    have q5 := w64_succ (i := i) (by omega)
    have q6 : j = b.length := by omega
    have key := hK (out.set (i + b.length) c) (by rw [List.length_set]; exact ho) (hout.set hc _) (fun t ht => by
      rw [co_set_ne q3 _ (by omega)]
      exact hz t (by omega)) ⟨by
        have h := hv.out
        rw [q6, List.take_length] at h
        rw [vl_set q3, hz _ (Nat.le_refl _), ← h, Int.sub_zero]⟩
    refine Ev.succ (fun k => ?_) key
    rw [ratio_mul.l1, if_neg q1, q2, if_pos (Int.natCast_nonneg _), if_pos (Int.ofNat_lt.2 q3), Int.toNat_natCast, q4, q5]
  | succ d ih =>
    intro j out c hj ho hout hc hz hv hK
    have g1 : (j : Int) < (b.length : Int) := by omega
    have g2 : wrap64 ((i : Int) + (j : Int)) = ((i + j : Nat) : Int) := by rw [w64 (by omega) (by omega)]; omega
    have g3 : i + j < out.length := by omega
    have g4 : j < b.length := by omega
    have g5 := w64_succ (i := j) (by omega)
    have hx := ha i
    have hy := hb j
    have hoo := hout (i + j)
    obtain ⟨b1, b2⟩ := mul_bd hx hy hoo hc
    obtain ⟨z, hzz⟩ : ∃ z, z = co a i * co b j := ⟨_, rfl⟩
    have w1 : IntKind.u64.wrap (IntKind.u64.wrap (IntKind.u64.wrap (IntKind.u64.wrap (co a i) * IntKind.u64.wrap (co b j)) + IntKind.u64.wrap (co out (i + j))) + c) = z + co out (i + j) + c := by
      rw [← hzz] at b1 b2
      rw [wu64 (n := co a i) (by omega) (by omega), wu64 (n := co b j) (by omega) (by omega), ← hzz]
      clear hzz hz hv hK ih g1 g2 g3 g4 g5
      generalize co out (i + j) = o at *
      rw [wu64 (n := z) (by omega) (by omega), wu64 (n := o) (by omega) (by omega), wu64 (n := z + o) (by omega) (by omega), wu64 (by omega) (by omega)]
    have hd := Int.emod_add_mul_ediv (z + co out (i + j) + c) 4294967296
    have hr : 0 ≤ (z + co out (i + j) + c) % 4294967296 ∧ (z + co out (i + j) + c) % 4294967296 < 4294967296 := ⟨Int.emod_nonneg _ (by decide), Int.emod_lt_of_pos _ (by decide)⟩
    have hq : 0 ≤ (z + co out (i + j) + c) / 4294967296 ∧ (z + co out (i + j) + c) / 4294967296 < 4294967296 := by
      rw [← hzz] at b1 b2
      clear hd hr w1 hzz hz hv hK ih g1 g2 g3 g4 g5
      generalize co out (i + j) = o at *
      omega
    have key := ih (j + 1) (out.set (i + j) ((z + co out (i + j) + c) % 4294967296)) ((z + co out (i + j) + c) / 4294967296) (by omega) (by rw [List.length_set]; exact ho) (hout.set hr _) hq (fun t ht => by
      rw [co_set_ne g3 _ (by omega)]
      exact hz t ht) ⟨by
        rw [vl_set g3, show i + (j + 1) = i + j + 1 from rfl, Bp_succ, vl_take_succ g4]
        rw [hzz] at hd ⊢
        exact mul_alg hv.out (Bp_add i j) hd⟩ hK
    refine Ev.succ (fun k => ?_) key
    rw [ratio_mul.l1, if_pos g1, if_pos (Int.natCast_nonneg _), if_pos g1, g2, if_pos (Int.natCast_nonneg _), if_pos (Int.ofNat_lt.2 g3), Int.toNat_natCast, rd_nat, rd_nat, w1, g5]
theorem mul_l {a b : List Int} (ha : Lb a) (hb : Lb b) (hn : a.length + b.length < 70368744177664) :
    ∀ (d i : Nat) (out : List Int), i + d = a.length → out.length = a.length + b.length → Lb out → (∀ t, i + b.length ≤ t → co out t = 0) → Aside0 (vl out = vl (a.take i) * vl b) → Ev (fun k => ratio_mul.l0 k b out a (a.length : Int) (i : Int)) (dg (vl a * vl b)) := by
  intro d
  induction d with
  | zero =>
    intro i out hi ho hout hz hv
    have s := s_trim (l := out) hout (by omega)
    rw [hv.out, vl_take_all (show a.length ≤ i by omega)] at s
    refine Ev.succ (fun k => ?_) (s.bind (G := fun _ t => some t) (Ev.all fun _ => rfl))
    rw [ratio_mul.l0, if_neg (by omega)]
  | succ d ih =>
    intro i out hi ho hout hz hv
    have g1 : (i : Int) < (a.length : Int) := by omega
    have key := mul_in ha hb hn (i := i) (by omega) (R := 0) (V0 := vl (a.take i) * vl b) (r := dg (vl a * vl b)) b.length 0 out 0 (Nat.zero_add _) ho hout (by omega) hz ⟨by rw [hv.out]; simp [vl]⟩ (fun out' ho' hout' hz' hv' => by
      refine ih (i + 1) out' (by omega) ho' hout' hz' ⟨?_⟩
      rw [hv'.out, vl_take_succ (by omega), Int.add_mul, Int.mul_assoc])
    refine Ev.succ (fun k => ?_) key
    rw [ratio_mul.l0, if_pos g1, if_pos (Int.natCast_nonneg _), if_pos g1, rd_nat]
    rfl
theorem s_mul {a b : List Int} (ha : Lb a) (hb : Lb b) (hn : a.length + b.length < 70368744177664) : Ev (fun k => ratio_mul.f k a b) (dg (vl a * vl b)) := by
  have q2 : wrap64 ((a.length : Int) + (b.length : Int)) = ((a.length + b.length : Nat) : Int) := by rw [w64 (by omega) (by omega)]; omega
  refine Ev.congr (fun k => ?_) (mul_l ha hb hn a.length 0 (List.replicate (a.length + b.length) 0) (Nat.zero_add _) (by simp) (Lb.replicate _) (fun t _ => co_replicate _ _) ⟨by rw [vl_replicate]; simp [vl]⟩)
  rw [ratio_mul.f, q2, if_pos (Int.natCast_nonneg _), if_pos (by rw [Int.toNat_natCast]; omega), Int.toNat_natCast]
  rfl
end Go.Proofs.YtjjjoepnlhpjdaaDoor.Pure

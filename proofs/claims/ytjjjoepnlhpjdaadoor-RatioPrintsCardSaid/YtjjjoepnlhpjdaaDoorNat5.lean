/- The digit of a quotient: the product subtracted, and added back. -/
import Derived.Test.YtjjjoepnlhpjdaaDoorNat4
namespace Go.Proofs.YtjjjoepnlhpjdaaDoor.Pure
open Go.RowKit Go.Proofs.YtjjjoepnlhpjdaaDoor.Q Go.Proofs.YtjjjoepnlhpjdaaDoor.Num Go.Proofs.YtjjjoepnlhpjdaaDoor.Pol Go.Proofs.YtjjjoepnlhpjdaaDoorW.PrintWords Go.Proofs.YtjjjoepnlhpjdaaDoorW.PrintLast Go.Proofs.YtjjjoepnlhpjdaaDoorW.PrintMore

/-- The digits of a number, so many. -/
def dgN : Nat → Int → List Int
  | 0, _ => []
  | n + 1, x => x % 4294967296 :: dgN n (x / 4294967296)
theorem dgN_len : ∀ (n : Nat) (x : Int), (dgN n x).length = n
  | 0, _ => rfl
  | n + 1, x => by rw [dgN, List.length_cons, dgN_len]
theorem dgN_lb : ∀ (n : Nat) (x : Int), Lb (dgN n x)
  | 0, _ => Lb.nil
  | n + 1, x => Lb.cons (by omega) (dgN_lb n _)
theorem dgN_vl : ∀ {n : Nat} {x : Int}, 0 ≤ x → x < Bp n → vl (dgN n x) = x
  | 0, x, h0, h => by rw [Bp_zero] at h; rw [dgN, vl_nil]; omega
  | n + 1, x, h0, h => by rw [Bp_succ] at h; rw [dgN, vl_cons, dgN_vl (by omega) (by omega)]; omega
theorem lb_uniq : ∀ {a b : List Int}, Lb a → Lb b → a.length = b.length → vl a = vl b → a = b
  | [], [], _, _, _, _ => rfl
  | [], _ :: _, _, _, h, _ => by simp at h
  | _ :: _, [], _, _, h, _ => by simp at h
  | x :: a, y :: b, ha, hb, h, e => by
    have h1 := ha 0
    have h2 := hb 0
    rw [show co (x :: a) 0 = x from rfl] at h1
    rw [show co (y :: b) 0 = y from rfl] at h2
    rw [vl_cons, vl_cons] at e
    have e1 : x = y := by omega
    rw [e1, lb_uniq ha.tail hb.tail (by simpa using h) (by omega)]
theorem dsub_alg {X U g T P x y c b d b2 lo hi : Int} (hv : X + g * T = U + (c + b) * P) (hp : lo + 4294967296 * hi = g * y + c) (hd : d - 4294967296 * b2 = x - lo - b) : X + (d - x) * P + g * (T + y * P) = U + (hi + b2) * (4294967296 * P) := by
  have h1 := congrArg (fun t => t * P) hp
  have h2 := congrArg (fun t => t * P) hd
  grind
theorem dsub_end {X U gV P x c b d b2 : Int} (hv : X + gV = U + (c + b) * P) (hd : d - 4294967296 * b2 = x - c - b) : X + (d - x) * P = U - gV + b2 * (4294967296 * P) := by
  have h2 := congrArg (fun t => t * P) hd
  grind
theorem dadd_alg {X Y T P x y c s q : Int} (hv : X + c * P = Y + T) (hd : s + 4294967296 * q = x + y + c) : X + (s - x) * P + q * (4294967296 * P) = Y + (T + y * P) := by
  have h2 := congrArg (fun t => t * P) hd
  grind
/-- Adding back. -/
theorem dadd_l {v : List Int} {n : Nat} (hv : Lb v) (lv : v.length = n) (hl : n < 70368744177664) {Y g : Int} (hg : 1 ≤ g ∧ g < 4294967297) :
    ∀ (d i : Nat) (out : List Int) (c : Int), i + d = n → out.length = n + 1 → Lb out → 0 ≤ c ∧ c ≤ 1 → Aside0 (vl out + c * Bp i = Y + vl (v.take i)) →
    ∃ r : List Int, r.length = n + 1 ∧ Lb r ∧ (∃ t : Int, (t = 0 ∨ t = 1) ∧ vl r = Y + vl v - t * Bp (n + 1)) ∧ Ev (fun k => ratio_digit.l2 k out (n : Int) g c v (n : Int) (i : Int)) (g - 1, r) := by
  intro d
  induction d with
  | zero =>
    intro i out c hi ho hout hc hx
    have q1 : ¬ ((i : Int) < (n : Int)) := by omega
    have q2 : (n : Int) < (out.length : Int) := by omega
    have q3 : n < out.length := by omega
    have q4 : i = n := by omega
    have q5 : v.length ≤ i := by omega
    have q6 : IntKind.u64.wrap (g - 1) % 4294967296 = g - 1 := by rw [wu64 (by omega) (by omega)]; omega
    have hy := hout n
    have hs : 0 ≤ (co out n + c) % 4294967296 ∧ (co out n + c) % 4294967296 < 4294967296 := by omega
    have ht : (co out n + c) / 4294967296 = 0 ∨ (co out n + c) / 4294967296 = 1 := by omega
    have hd := Int.emod_add_mul_ediv (co out n + c) 4294967296
    refine ⟨out.set n ((co out n + c) % 4294967296), by rw [List.length_set]; exact ho, hout.set hs _, ⟨(co out n + c) / 4294967296, ht, ?_⟩, Ev.succ (F := fun _ => some (g - 1, out.set n ((co out n + c) % 4294967296))) (fun k => ?_) (Ev.all fun _ => rfl)⟩
    · rw [vl_set q3]
      have h := hx.out
      rw [q4, vl_take_all (by omega)] at h
      have h3 := dadd_alg (T := vl v) (y := 0) (x := co out n) h (hd.trans (by omega))
      rw [Int.zero_mul, Int.add_zero] at h3
      rw [Bp_succ]
      omega
    · rw [ratio_digit.l2, if_neg q1, if_pos (Int.natCast_nonneg _), if_pos q2, Int.toNat_natCast, rd_nat, q6]
  | succ d ih =>
    intro i out c hi ho hout hc hx
    have g1 : (i : Int) < (n : Int) := by omega
    have g2 : (i : Int) < (v.length : Int) := by omega
    have g3 : (i : Int) < (out.length : Int) := by omega
    have g4 : i < v.length := by omega
    have g5 : i < out.length := by omega
    have g6 := w64_succ (i := i) (by omega)
    have hxx := hout i
    have hy := hv i
    have hd := Int.emod_add_mul_ediv (co out i + co v i + c) 4294967296
    have hr : 0 ≤ (co out i + co v i + c) % 4294967296 ∧ (co out i + co v i + c) % 4294967296 < 4294967296 := ⟨Int.emod_nonneg _ (by decide), Int.emod_lt_of_pos _ (by decide)⟩
    have hq : 0 ≤ (co out i + co v i + c) / 4294967296 ∧ (co out i + co v i + c) / 4294967296 ≤ 1 := by
      clear hd hr g1 g2 g3 g4 g5 g6 hi ho
      generalize co out i = x at *
      generalize co v i = y at *
      omega
    obtain ⟨r, r1, r2, r3, r4⟩ := ih (i + 1) (out.set i ((co out i + co v i + c) % 4294967296)) ((co out i + co v i + c) / 4294967296) (by omega) (by rw [List.length_set]; exact ho) (hout.set hr _) hq ⟨by
      rw [vl_set g5, vl_take_succ g4, Bp_succ]
      exact dadd_alg hx.out hd⟩
    refine ⟨r, r1, r2, r3, Ev.succ (fun k => ?_) r4⟩
    rw [ratio_digit.l2, if_pos g1, if_pos (Int.natCast_nonneg _), if_pos g2, if_pos g3, rd_nat, rd_nat, add32 hxx hy hc, Option.bind_some, Int.toNat_natCast, g6]
theorem sub32_rel {x y b : Int} (hx : 0 ≤ x ∧ x < 4294967296) (hy : 0 ≤ y ∧ y < 4294967296) (hb : 0 ≤ b ∧ b ≤ 1) : ∃ d b2 : Int, bits_Sub32.f x y b = some (d, b2) ∧ (0 ≤ d ∧ d < 4294967296) ∧ (b2 = 0 ∨ b2 = 1) ∧ d - 4294967296 * b2 = x - y - b := by
  refine ⟨_, _, sub32 hx hy hb, by omega, ?_, ?_⟩
  · by_cases h : x < y + b
    · rw [if_pos h]; exact Or.inr rfl
    · rw [if_neg h]; exact Or.inl rfl
  · by_cases h : x < y + b
    · rw [if_pos h]; omega
    · rw [if_neg h]; omega
/-- The product subtracted. -/
theorem dsub_l {v : List Int} {n : Nat} (hv : Lb v) (lv : v.length = n) (hl : n < 70368744177664) {U g : Int} (hg : 0 ≤ g ∧ g < 4294967296) {r : Int × List Int}
    (hK : ∀ (y : List Int) (b : Int), y.length = n + 1 → Lb y → (b = 0 ∨ b = 1) → Aside0 (vl y = U - g * vl v + b * Bp (n + 1)) → Ev (fun k => if b = 0 then some (g % 4294967296, y) else ratio_digit.l2 k y (n : Int) g 0 v (n : Int) 0) r) :
    ∀ (d i : Nat) (out : List Int) (c b : Int), i + d = n → out.length = n + 1 → Lb out → 0 ≤ c ∧ c < 4294967296 → 0 ≤ b ∧ b ≤ 1 → Aside0 (vl out + g * vl (v.take i) = U + (c + b) * Bp i) →
    Ev (fun k => ratio_digit.l1 k out v (n : Int) g c b v (n : Int) (i : Int)) r := by
  intro d
  induction d with
  | zero =>
    intro i out c b hi ho hout hc hb hx
    have q1 : ¬ ((i : Int) < (n : Int)) := by omega
    have q2 : (n : Int) < (out.length : Int) := by omega
    have q3 : n < out.length := by omega
    have q4 : i = n := by omega
    have q5 : v.length ≤ n := by omega
    have q6 : c % 4294967296 = c := by omega
    obtain ⟨d, b2, e1, e2, e3, e4⟩ := sub32_rel (hout n) hc hb
    refine Ev.succ (fun k => ?_) (hK (out.set n d) b2 (by rw [List.length_set]; exact ho) (hout.set e2 _) e3 ⟨?_⟩)
    · rw [ratio_digit.l1, if_neg q1, if_pos (Int.natCast_nonneg _), if_pos q2, rd_nat, q6, e1, Option.bind_some, Option.bind_some, Int.toNat_natCast, lv]
    · have h := hx.out
      rw [q4, vl_take_all q5] at h
      rw [vl_set q3, Bp_succ]
      exact dsub_end h e4
  | succ d ih =>
    intro i out c b hi ho hout hc hb hx
    have g1 : (i : Int) < (n : Int) := by omega
    have g2 : (i : Int) < (v.length : Int) := by omega
    have g3 : (i : Int) < (out.length : Int) := by omega
    have g4 : i < v.length := by omega
    have g5 : i < out.length := by omega
    have g6 := w64_succ (i := i) (by omega)
    have hy := hv i
    obtain ⟨m1, m2⟩ := mul_bd (x := g) (y := co v i) (o := 0) (c := c) hg hy (by omega) hc
    have w0 : IntKind.u64.wrap (co v i) = co v i := wu64 (by omega) (by omega)
    have w1 : IntKind.u64.wrap (g * co v i) = g * co v i := wu64 m1 (by omega)
    have w2 : IntKind.u64.wrap (g * co v i + c) = g * co v i + c := wu64 (by omega) (by omega)
    have hr : 0 ≤ (g * co v i + c) % 4294967296 ∧ (g * co v i + c) % 4294967296 < 4294967296 := ⟨Int.emod_nonneg _ (by decide), Int.emod_lt_of_pos _ (by decide)⟩
    have hq : 0 ≤ (g * co v i + c) / 4294967296 ∧ (g * co v i + c) / 4294967296 < 4294967296 := by omega
    have hp := Int.emod_add_mul_ediv (g * co v i + c) 4294967296
    obtain ⟨d1, b2, e1, e2, e3, e4⟩ := sub32_rel (hout i) hr hb
    refine Ev.succ (fun k => ?_) (ih (i + 1) (out.set i d1) ((g * co v i + c) / 4294967296) b2 (by omega) (by rw [List.length_set]; exact ho) (hout.set e2 _) hq (by omega) ⟨?_⟩)
    · rw [ratio_digit.l1, if_pos g1, if_pos (Int.natCast_nonneg _), if_pos g2, if_pos g3, rd_nat, rd_nat, w0, w1, w2, e1, Option.bind_some, Int.toNat_natCast, g6]
    · rw [vl_set g5, vl_take_succ g4, Bp_succ]
      exact dsub_alg hx.out hp e4
theorem b_cases {U V q g bb : Int} {P : Int} (hq : q * V ≤ U) (hq2 : U < (q + 1) * V) (hg : g = q ∨ g = q + 1) {y : Int} (hy : 0 ≤ y ∧ y < P) (hb : bb = 0 ∨ bb = 1) (e : y = U - g * V + bb * P) : (bb = 0 ∧ g = q ∧ y = U - q * V) ∨ (bb = 1 ∧ g = q + 1 ∧ y = U - q * V - V + P) := by
  have h2 : (q + 1) * V = q * V + V := by grind
  rcases hg with rfl | rfl <;> rcases hb with rfl | rfl
  · left; refine ⟨rfl, rfl, ?_⟩; omega
  · omega
  · omega
  · right; refine ⟨rfl, rfl, ?_⟩; omega
/-- One digit of the quotient. -/
theorem s_digit {u v : List Int} {n : Nat} (hu : Lb u) (hv : Lb v) (lu : u.length = n + 1) (lv : v.length = n) (hn : 2 ≤ n) (hl : n < 70368744177664) (ht : 2147483648 ≤ co v (n - 1)) (hlt : vl u < vl v * 4294967296) :
    ∃ r : List Int, r.length = n + 1 ∧ Lb r ∧ vl r = vl u % vl v ∧ Ev (fun k => ratio_digit.f k u v) (vl u / vl v, r) := by
  have ru := vl_range hu
  have rv := vl_range hv
  have n1 : n - 1 = n - 2 + 1 := by omega
  have sv : vl v = vl (v.take (n - 2)) + co v (n - 2) * Bp (n - 2) + co v (n - 1) * (4294967296 * Bp (n - 2)) := by
    have h1 := vl_take_succ (l := v) (i := n - 2) (by omega)
    have h2 := vl_take_succ (l := v) (i := n - 1) (by omega)
    rw [vl_take_all (by omega), n1, h1, Bp_succ] at h2
    rw [n1]; exact h2
  have su : vl u = vl (u.take (n - 2)) + co u (n - 2) * Bp (n - 2) + (co u n * 4294967296 + co u (n - 1)) * (4294967296 * Bp (n - 2)) := by
    have h1 := vl_take_succ (l := u) (i := n - 2) (by omega)
    have h2 := vl_take_succ (l := u) (i := n - 1) (by omega)
    have h3 := vl_take_succ (l := u) (i := n) (by omega)
    have e : n = n - 2 + 1 + 1 := by omega
    rw [vl_take_all (by omega)] at h3
    rw [h3]
    have h4 : vl (u.take n) = vl (u.take (n - 1 + 1)) := by rw [show n - 1 + 1 = n by omega]
    rw [h4, h2, n1, h1, show Bp n = 4294967296 * (4294967296 * Bp (n - 2)) by rw [← Bp_succ, ← Bp_succ, ← e], Bp_succ]
    grind
  have hV : 0 < vl v := by
    have h1 := vl_range (hv.take (n - 2))
    have h2 := Int.mul_nonneg (hv (n - 2)).1 (Int.le_of_lt (Bp_pos (n - 2)))
    have h3 := Int.mul_le_mul_of_nonneg_right (show 1 ≤ co v (n - 1) by omega) (show 0 ≤ 4294967296 * Bp (n - 2) by have := Bp_pos (n - 2); omega)
    have h4 := Bp_pos (n - 2)
    omega
  have hq := ediv_lt hV ru.1 hlt
  have hdm := Int.emod_add_mul_ediv (vl u) (vl v)
  have hm0 := Int.emod_nonneg (vl u) (Int.ne_of_gt hV)
  have hm1 := Int.emod_lt_of_pos (vl u) hV
  have tv := hv (n - 1)
  have tu := hu n
  have tu1 := hu (n - 1)
  have hq1 : vl u / vl v * vl v ≤ vl u := by rw [Int.mul_comm]; omega
  have hq2 : vl u < (vl u / vl v + 1) * vl v := by rw [Int.add_mul, Int.mul_comm (vl u / vl v)]; omega
  have htop : co u n * 4294967296 + co u (n - 1) ≤ co v (n - 1) * 4294967296 + 4294967295 := by
    refine Int.not_lt.1 fun hc => ?_
    have hQ := Bp_pos (n - 2)
    have hc2 : (co v (n - 1) + 1) * 4294967296 ≤ co u n * 4294967296 + co u (n - 1) := by omega
    have h1 := Int.mul_le_mul_of_nonneg_right hc2 (show 0 ≤ 4294967296 * Bp (n - 2) by omega)
    have h2 := (vl_range (hu.take (n - 2))).1
    have h3 := Int.mul_nonneg (hu (n - 2)).1 (Int.le_of_lt hQ)
    have h4 := (vl_range (hv.take (n - 2))).2
    rw [List.length_take, Nat.min_eq_left (by omega)] at h4
    have h5 := Int.mul_le_mul_of_nonneg_right (show co v (n - 2) ≤ 4294967295 by have := hv (n - 2); omega) (Int.le_of_lt hQ)
    have h6 : (co v (n - 1) + 1) * 4294967296 * (4294967296 * Bp (n - 2)) = 4294967296 * (co v (n - 1) * (4294967296 * Bp (n - 2))) + 4294967296 * (4294967296 * Bp (n - 2)) := by grind
    omega
  have hr3 : (vl (u.take (n - 2))) < Bp (n - 2) := by
    have := (vl_range (hu.take (n - 2))).2
    rw [List.length_take, Nat.min_eq_left (by omega)] at this
    exact this
  have hr4 : (vl (v.take (n - 2))) < Bp (n - 2) := by
    have := (vl_range (hv.take (n - 2))).2
    rw [List.length_take, Nat.min_eq_left (by omega)] at this
    exact this
  have K : KD (vl u) (vl v) (vl u / vl v) (co v (n - 1)) (co v (n - 2)) (co u (n - 2)) (co u n * 4294967296 + co u (n - 1)) (Bp (n - 2)) (vl (u.take (n - 2))) (vl (v.take (n - 2))) := {
    hU := su
    hV := sv
    hU3 := ⟨(vl_range (hu.take _)).1, hr3⟩
    hV3 := ⟨(vl_range (hv.take _)).1, hr4⟩
    hv1 := ⟨ht, tv.2⟩
    hv2 := hv _
    hu2 := hu _
    htop := ⟨by omega, htop⟩
    q0 := hq.1
    hq := hq1
    hq2 := hq2 }
  have hres : vl u - vl u / vl v * vl v = vl u % vl v := by rw [Int.mul_comm]; omega
  have hVP : vl v < Bp (n + 1) := by
    have h1 := rv.2
    rw [lv] at h1
    rw [Bp_succ]
    omega
  -- the loops behind the guess
  have D : ∃ r : List Int, (r.length = n + 1 ∧ Lb r ∧ vl r = vl u % vl v) ∧ ∀ g : Int, (g = vl u / vl v ∨ g = vl u / vl v + 1) → 0 ≤ g → g < 4294967296 → Ev (fun k => ratio_digit.j2 k u v (n : Int) g) (vl u / vl v, r) := by
    refine ⟨dgN (n + 1) (vl u % vl v), ⟨dgN_len _ _, dgN_lb _ _, dgN_vl (by omega) (by omega)⟩, fun g hg g0 g1 => ?_⟩
    refine Ev.succ (F := fun k => ratio_digit.l1 k u v (n : Int) g 0 0 v (n : Int) ((0 : Nat) : Int)) (fun k => ?_) ?_
    · rw [ratio_digit.j2, lv]; rfl
    refine dsub_l (U := vl u) hv lv hl ⟨g0, g1⟩ (fun y b ly hy hb e => ?_) n 0 u 0 0 (by omega) lu hu (by omega) (by omega) ⟨by rw [List.take_zero, vl_nil]; grind⟩
    have ry := vl_range hy
    rw [ly] at ry
    rcases b_cases hq1 hq2 hg ry hb e.out with ⟨c1, c2, c3⟩ | ⟨c1, c2, c3⟩
    · subst c1
      refine Ev.all fun k => ?_
      rw [if_pos rfl, c2, Int.emod_eq_of_lt hq.1 hq.2]
      refine congrArg some (Prod.ext rfl ?_)
      exact lb_uniq hy (dgN_lb _ _) (by rw [ly, dgN_len]) (by rw [c3, dgN_vl (by omega) (by omega), hres])
    · subst c1
      obtain ⟨y2, l2, h2, ⟨t, ht1, ht2⟩, e2⟩ := dadd_l (Y := vl y) (g := g) hv lv hl (by omega) n 0 y 0 (by omega) ly hy (by omega) ⟨by rw [List.take_zero, vl_nil]; omega⟩
      have ry2 := vl_range h2
      rw [l2] at ry2
      have hy2 : y2 = dgN (n + 1) (vl u % vl v) := by
        refine lb_uniq h2 (dgN_lb _ _) (by rw [l2, dgN_len]) ?_
        rw [dgN_vl (by omega) (by omega)]
        rcases ht1 with rfl | rfl
        · omega
        · omega
      subst hy2
      refine Ev.congr (fun k => ?_) (show Ev _ (vl u / vl v, dgN (n + 1) (vl u % vl v)) from (show g - 1 = vl u / vl v by omega) ▸ e2)
      rw [if_neg (by decide)]
      rfl
  obtain ⟨r, ⟨r1, r2, r3⟩, hD⟩ := D
  refine ⟨r, r1, r2, r3, ?_⟩
  have hm := Int.emod_add_mul_ediv (co u n * 4294967296 + co u (n - 1)) (co v (n - 1))
  have hmr0 := Int.emod_nonneg (co u n * 4294967296 + co u (n - 1)) (show co v (n - 1) ≠ 0 by omega)
  have hmr1 := Int.emod_lt_of_pos (co u n * 4294967296 + co u (n - 1)) (show 0 < co v (n - 1) by omega)
  have hf := K.first
  have hb := K.bound
  have S := search_l hu hv lu lv hn hl ⟨K⟩ hq.2 hD ((co u n * 4294967296 + co u (n - 1)) / co v (n - 1) - vl u / vl v).toNat ((co u n * 4294967296 + co u (n - 1)) / co v (n - 1)) ((co u n * 4294967296 + co u (n - 1)) % co v (n - 1)) (by omega) hb (by omega) ⟨by rw [Int.mul_comm]; omega⟩
  refine S.congr fun k => ?_
  have i1 : wrap64 ((n : Int) - 1) = ((n - 1 : Nat) : Int) := by rw [w64 (by omega) (by omega)]; omega
  have p2 : ((n : Nat) : Int) < (u.length : Int) := by omega
  have p3 : ((n - 1 : Nat) : Int) < (u.length : Int) := by omega
  have p4 : ((n - 1 : Nat) : Int) < (n : Int) := by omega
  have p5 : IntKind.u64.wrap (co v (n - 1)) = co v (n - 1) := wu64 (by omega) (by omega)
  have p6 : IntKind.u64.wrap (co u n) = co u n := wu64 (by omega) (by omega)
  have p7 : ¬ (co v (n - 1) = 0) := by omega
  have p8 := or_join tu tu1
  have p9 : 0 ≤ co u n * 4294967296 + co u (n - 1) := by omega
  have pa : IntKind.u64.wrap ((co u n * 4294967296 + co u (n - 1)) / co v (n - 1)) = (co u n * 4294967296 + co u (n - 1)) / co v (n - 1) := wu64 (by omega) (by omega)
  rw [ratio_digit.f, lv, if_pos (Int.natCast_nonneg _), if_pos p2, i1, if_pos (Int.natCast_nonneg _), if_pos p3, if_pos p4, rd_nat, rd_nat, rd_nat, p5, if_neg p7, p6, p8, Int.tdiv_eq_ediv_of_nonneg p9, Int.tmod_eq_emod_of_nonneg p9, pa]
end Go.Proofs.YtjjjoepnlhpjdaaDoor.Pure

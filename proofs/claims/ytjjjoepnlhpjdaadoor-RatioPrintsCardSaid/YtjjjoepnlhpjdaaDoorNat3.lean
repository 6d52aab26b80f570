/- What the functions of ratio answer: small, shifted. -/
import Derived.Test.YtjjjoepnlhpjdaaDoorNat2
import Derived.Test.YtjjjoepnlhpjdaaDoorQ1
namespace Go.Proofs.YtjjjoepnlhpjdaaDoor.Pure
open Go.RowKit Go.Proofs.YtjjjoepnlhpjdaaDoor.Q Go.Proofs.YtjjjoepnlhpjdaaDoor.Num Go.Proofs.YtjjjoepnlhpjdaaDoor.Pol Go.Proofs.YtjjjoepnlhpjdaaDoorW.PrintWords Go.Proofs.YtjjjoepnlhpjdaaDoorW.PrintLast Go.Proofs.YtjjjoepnlhpjdaaDoorW.PrintMore

theorem or_join {x y : Int} (hx : 0 ≤ x ∧ x < 4294967296) (hy : 0 ≤ y ∧ y < 4294967296) : Go.bits .or .u64 (IntKind.u64.wrap (x * 4294967296)) (IntKind.u64.wrap y) = x * 4294967296 + y := by
  rw [wu64 (n := x * 4294967296) (by omega) (by omega), wu64 (n := y) (by omega) (by omega)]
  obtain ⟨X, rfl⟩ : ∃ n : Nat, x = n := ⟨x.toNat, by omega⟩
  obtain ⟨Y, rfl⟩ : ∃ n : Nat, y = n := ⟨y.toNat, by omega⟩
  rw [show (X : Int) * 4294967296 = ((X * 4294967296 : Nat) : Int) by omega, u64_or_nat _ _ (by omega) (by omega), nat_join 32 _ _ (by omega) (by omega)]
  omega
theorem ediv_lt {v b : Int} (hb : 0 < b) (h0 : 0 ≤ v) (h : v < b * 4294967296) : 0 ≤ v / b ∧ v / b < 4294967296 := ⟨Int.ediv_nonneg h0 (Int.le_of_lt hb), Int.ediv_lt_of_lt_mul hb (by rw [Int.mul_comm]; exact h)⟩
theorem div_uniq {v b q r : Int} (hr : 0 ≤ r ∧ r < b) (h : v = q * b + r) : v / b = q ∧ v % b = r := by
  have hb : 0 < b := by omega
  have h1 : v / b = q := by
    rw [h, Int.add_comm, Int.add_mul_ediv_right _ _ (by omega), Int.ediv_eq_zero_of_lt hr.1 hr.2, Int.zero_add]
  refine ⟨h1, ?_⟩
  rw [h, Int.add_comm, Int.add_mul_emod_self_right, Int.emod_eq_of_lt hr.1 hr.2]
theorem small_alg {D q b rest x v s t : Int} (hD : D = q * b + rest) (hv : v = rest * 4294967296 + x) (hd : t + b * s = v) : x + 4294967296 * D = (q * 4294967296 + s) * b + t := by
  subst hD
  grind
theorem small_l {a : List Int} {b : Int} (ha : Lb a) (hb : 0 < b ∧ b < 4294967296) (hn : a.length < 70368744177664) : ∀ (m : Nat) (out : List Int) (rest q : Int), m ≤ a.length → out.length = a.length → Lb out → 0 ≤ rest ∧ rest < b → (∀ t, t < m → co out t = 0) → Aside0 (vl out = q * Bp m) → Aside0 (vl (a.drop m) = q * b + rest) →
    Ev (fun k => ratio_small.l0 k a b out rest (a.length : Int) ((a.length - m : Nat) : Int)) (dg (vl a / b), vl a % b) := by
  intro m
  induction m with
  | zero =>
    intro out rest q hm ho hout hr hz hv hd
    have q1 : ¬ (((a.length - 0 : Nat) : Int) < (a.length : Int)) := by omega
    have q2 : out.length < 4611686018427387904 := by omega
    have q3 : rest % 4294967296 = rest := by omega
    obtain ⟨e1, e2⟩ := div_uniq (v := vl a) (q := q) hr hd.out
    have s := s_trim (l := out) hout q2
    rw [hv.out, Bp_zero, Int.mul_one] at s
    rw [e1, e2]
    refine Ev.succ (fun k => ?_) (s.bind (G := fun _ t => some (t, rest)) (Ev.all fun _ => rfl))
    rw [ratio_small.l0, if_neg q1, q3]
  | succ m ih =>
    intro out rest q hm ho hout hr hz hv hd
    have q1 : ((a.length - (m + 1) : Nat) : Int) < (a.length : Int) := by omega
    have q2 : wrap64 (wrap64 ((a.length : Int) - 1) - ((a.length - (m + 1) : Nat) : Int)) = (m : Int) := by rw [w64 (n := (a.length : Int) - 1) (by omega) (by omega), w64 (by omega) (by omega)]; omega
    have q3 : m < a.length := by omega
    have q4 : m < out.length := by omega
    have q5 : wrap64 (((a.length - (m + 1) : Nat) : Int) + 1) = ((a.length - m : Nat) : Int) := by rw [w64 (by omega) (by omega)]; omega
    have hx := ha m
    have q6 : IntKind.u64.wrap b = b := wu64 (by omega) (by omega)
    have q7 := or_join (x := rest) (y := co a m) (by omega) hx
    obtain ⟨v, hvv⟩ : ∃ v, v = rest * 4294967296 + co a m := ⟨_, rfl⟩
    have v0 : 0 ≤ v := by omega
    have v1 : v < b * 4294967296 := by omega
    obtain ⟨s0, s1⟩ := ediv_lt hb.1 v0 v1
    have s2 : v < 18446744073709551616 := by omega
    have q8 : v / b % 4294967296 = v / b := Int.emod_eq_of_lt s0 s1
    have q9 : IntKind.u64.wrap (Int.tdiv v b) = v / b := by
      rw [Int.tdiv_eq_ediv_of_nonneg v0]
      exact wu64 s0 (Int.lt_trans s1 (by decide))
    have t1 : 0 ≤ v % b ∧ v % b < b := ⟨Int.emod_nonneg _ (by omega), Int.emod_lt_of_pos _ hb.1⟩
    have q10 : Int.tmod v b = v % b := Int.tmod_eq_emod_of_nonneg v0
    have hde := Int.emod_add_mul_ediv v b
    have key := ih (out.set m (v / b)) (v % b) (q * 4294967296 + v / b) (by omega) (by rw [List.length_set]; exact ho) (hout.set ⟨s0, s1⟩ _) t1 (fun t ht => by
      rw [co_set_ne q4 _ (by omega)]
      exact hz t (by omega)) ⟨by
        rw [vl_set q4, hv.out, hz m (Nat.lt_succ_self m), Bp_succ, Int.sub_zero, Int.add_mul, Int.mul_assoc]⟩ ⟨by
        rw [drop_succ_co q3]
        exact small_alg hd.out hvv hde⟩
    refine Ev.succ (fun k => ?_) key
    rw [ratio_small.l0, if_pos q1, q2, if_pos (Int.natCast_nonneg _), if_pos (Int.ofNat_lt.2 q3), q6, if_neg (by omega), if_pos (Int.ofNat_lt.2 q4), Int.toNat_natCast, rd_nat, q7, ← hvv, q9, q8, q10, q5]
theorem s_small {a : List Int} {b : Int} (ha : Lb a) (hb : 0 < b ∧ b < 4294967296) (hn : a.length < 70368744177664) : Ev (fun k => ratio_small.f k a b) (dg (vl a / b), vl a % b) := by
  have s := small_l ha hb hn a.length (List.replicate a.length 0) 0 0 (Nat.le_refl _) (by simp) (Lb.replicate _) (by omega) (fun t _ => co_replicate _ _) ⟨by rw [vl_replicate]; simp⟩ ⟨by rw [List.drop_length]; simp [vl]⟩
  rw [Nat.sub_self] at s
  refine Ev.congr (fun k => ?_) s
  rw [ratio_small.f, if_pos (Int.natCast_nonneg _), if_pos (by rw [Int.toNat_natCast]; omega), Int.toNat_natCast]
  rfl
/-- The powers of two below 2^32. -/
theorem two_pow {n : Nat} (h : n < 32) : (0 : Int) < 2 ^ n ∧ (2 : Int) ^ n ≤ 2147483648 ∧ ∃ d : Int, 4294967296 = 2 ^ n * d := by
  have key : ∀ n : Fin 32, (0 : Int) < 2 ^ n.val ∧ (2 : Int) ^ n.val ≤ 2147483648 ∧ 4294967296 = (2 : Int) ^ n.val * 2 ^ (32 - n.val) := by decide +kernel
  obtain ⟨h1, h2, h3⟩ := key ⟨n, h⟩
  exact ⟨h1, h2, _, h3⟩
theorem low_mult {x S d : Int} (hS : 0 < S) (hd : 4294967296 = S * d) : (x * S) % 4294967296 % S = 0 := by
  rw [hd, Int.emod_emod_of_dvd _ (Int.dvd_mul_right S d), Int.mul_emod_left]
theorem or32_join {o lo S : Int} {n : Nat} (hS : S = 2 ^ n) (ho : 0 ≤ o ∧ o < S) (hl : 0 ≤ lo ∧ lo < 4294967296) (hm : lo % S = 0) (hSl : S ≤ 2147483648) : Go.bits .or .u32 o lo = o + lo := by
  obtain ⟨O, rfl⟩ : ∃ n : Nat, o = n := ⟨o.toNat, by omega⟩
  obtain ⟨L, rfl⟩ : ∃ n : Nat, lo = n := ⟨lo.toNat, by omega⟩
  have hS' : S = ((2 ^ n : Nat) : Int) := by rw [hS]; simp
  rw [u32_or_nat _ _ (by omega) (by omega), Nat.or_comm, nat_join n L O]
  · omega
  · rw [hS'] at hm
    exact_mod_cast hm
  · rw [hS'] at ho
    exact_mod_cast ho.2
theorem shifted_alg {T X S x o lo hi P : Int} (hv : T + o * P = X * S) (hd : lo + 4294967296 * hi = x * S) : T + (o + lo) * P + hi * (4294967296 * P) = (X + x * P) * S := by
  have h := congrArg (fun t => t * P) hd
  grind
theorem shifted_l {a : List Int} {n : Nat} (ha : Lb a) (hn : n < 32) (hl : a.length < 70368744177664) : ∀ (d i : Nat) (out : List Int), i + d = a.length → out.length = a.length + 1 → Lb out → co out i < 2 ^ n → Aside0 (vl (out.take (i + 1)) = vl (a.take i) * 2 ^ n) →
    ∃ r : List Int, r.length = a.length + 1 ∧ Lb r ∧ vl r = vl a * 2 ^ n ∧ Ev (fun k => ratio_shifted.l0 k (n : Int) out a (a.length : Int) (i : Int)) r := by
  intro d
  induction d with
  | zero =>
    intro i out hi ho hout hs hv
    have q1 : ¬ ((i : Int) < (a.length : Int)) := by omega
    have q2 : out.length ≤ i + 1 := by omega
    have q3 : a.length ≤ i := by omega
    refine ⟨out, ho, hout, ?_, Ev.succ (F := fun _ => some out) (fun k => ?_) (Ev.all fun _ => rfl)⟩
    · have := hv.out
      rwa [vl_take_all q2, vl_take_all q3] at this
    · rw [ratio_shifted.l0, if_neg q1]
  | succ d ih =>
    intro i out hi ho hout hs hv
    have g1 : (i : Int) < (a.length : Int) := by omega
    have g2 : i < a.length := by omega
    have g3 : i < out.length := by omega
    have g4 : i + 1 < out.length := by omega
    have g5 := w64_succ (i := i) (by omega)
    obtain ⟨p1, p2, p3, p4⟩ := two_pow hn
    have hmin : min ((n : Int)).toNat 64 = n := by omega
    obtain ⟨S, hS⟩ : ∃ S : Int, S = 2 ^ n := ⟨_, rfl⟩
    rw [← hS] at p1 p2 p4 hs
    have hx := ha i
    have hoo := hout i
    have b1 := Int.mul_nonneg hx.1 (Int.le_of_lt p1)
    have b2 := Int.mul_le_mul (show co a i ≤ 4294967295 by omega) p2 (Int.le_of_lt p1) (by omega)
    have e1 : shl .u64 (IntKind.u64.wrap (co a i)) (n : Int) = co a i * S := by
      rw [wu64 (n := co a i) (by omega) (by omega)]
      show IntKind.u64.wrap (co a i * 2 ^ min ((n : Int)).toNat 64) = _
      rw [hmin, ← hS]
      exact wu64 b1 (by omega)
    obtain ⟨z, hz⟩ : ∃ z, z = co a i * S := ⟨_, rfl⟩
    rw [← hz] at e1 b1 b2
    have lo1 : 0 ≤ z % 4294967296 ∧ z % 4294967296 < 4294967296 := by omega
    have hi1 : 0 ≤ z / 4294967296 ∧ z / 4294967296 < 4294967296 := by omega
    have hi2 : z / 4294967296 % 4294967296 = z / 4294967296 := by omega
    have lm := low_mult (x := co a i) p1 p4
    rw [← hz] at lm
    have e2 := or32_join (o := co out i) (lo := z % 4294967296) hS ⟨hoo.1, hs⟩ lo1 lm p2
    have hiS : z / 4294967296 < S := by
      refine Int.ediv_lt_of_lt_mul (by decide) ?_
      rw [hz, Int.mul_comm]
      exact Int.mul_lt_mul_of_pos_left hx.2 p1
    have slo : 0 ≤ co out i + z % 4294967296 ∧ co out i + z % 4294967296 < 4294967296 := by
      refine ⟨by omega, ?_⟩
      -- a multiple of S below 2^32, and less than S more
      obtain ⟨c, hc⟩ := Int.dvd_of_emod_eq_zero lm
      have h1 := lo1.2
      rw [hc, p4] at h1
      have h2 := Int.lt_of_mul_lt_mul_left h1 (Int.le_of_lt p1)
      have h3 := Int.mul_le_mul_of_nonneg_left (show c + 1 ≤ p3 by omega) (Int.le_of_lt p1)
      rw [Int.mul_add, Int.mul_one, ← p4, ← hc] at h3
      omega
    have hd := Int.emod_add_mul_ediv z 4294967296
    have l1 : i + 1 < (out.set i (co out i + z % 4294967296)).length := by rw [List.length_set]; exact g4
    have key := ih (i + 1) ((out.set i (co out i + z % 4294967296)).set (i + 1) (z / 4294967296)) (by omega) (by rw [List.length_set, List.length_set]; exact ho) ((hout.set slo _).set hi1 _) (by rw [co_set_same l1, ← hS]; exact hiS) ⟨by
      rw [take_set_succ l1, take_set_succ g3, vl_take_succ g2, Bp_succ]
      have h := hv.out
      rw [vl_take_succ g3] at h
      rw [← hS] at h ⊢
      exact shifted_alg h (hd.trans hz)⟩
    obtain ⟨r, h1, h2, h3, h4⟩ := key
    refine ⟨r, h1, h2, h3, Ev.succ (fun k => ?_) h4⟩
    rw [ratio_shifted.l0, if_pos g1, if_pos (Int.natCast_nonneg _), if_pos g1, if_pos (Int.natCast_nonneg _), if_pos (Int.ofNat_lt.2 g3), g5, if_pos (Int.natCast_nonneg _), if_pos (Int.ofNat_lt.2 g4), Int.toNat_natCast, Int.toNat_natCast, rd_nat, rd_nat, e1, e2, hi2]
theorem s_shifted {a : List Int} {n : Nat} (ha : Lb a) (hn : n < 32) (hl : a.length < 70368744177663) : ∃ r : List Int, r.length = a.length + 1 ∧ Lb r ∧ vl r = vl a * 2 ^ n ∧ Ev (fun k => ratio_shifted.f k a (n : Int)) r := by
  have q2 : wrap64 ((a.length : Int) + 1) = ((a.length + 1 : Nat) : Int) := by rw [w64 (by omega) (by omega)]; omega
  obtain ⟨r, h1, h2, h3, h4⟩ := shifted_l ha hn (by omega) a.length 0 (List.replicate (a.length + 1) 0) (Nat.zero_add _) (by simp) (Lb.replicate _) (by rw [co_replicate]; exact (two_pow hn).1) ⟨by rw [vl_take_succ (by simp), co_replicate]; simp [vl]⟩
  refine ⟨r, h1, h2, h3, Ev.congr (fun k => ?_) h4⟩
  rw [ratio_shifted.f, q2, if_pos (Int.natCast_nonneg _), if_pos (by rw [Int.toNat_natCast]; omega), Int.toNat_natCast]
  rfl
/-- What the table of bit lengths holds. -/
def lt8 : ByteArray := (⟨#[0, 1, 2, 2, 3, 3, 3, 3, 4, 4, 4, 4, 4, 4, 4, 4, 5, 5, 5, 5, 5, 5, 5, 5, 5, 5, 5, 5, 5, 5, 5, 5, 6, 6, 6, 6, 6, 6, 6, 6, 6, 6, 6, 6, 6, 6, 6, 6, 6, 6, 6, 6, 6, 6, 6, 6, 6, 6, 6, 6, 6, 6, 6, 6, 7, 7, 7, 7, 7, 7, 7, 7, 7, 7, 7, 7, 7, 7, 7, 7, 7, 7, 7, 7, 7, 7, 7, 7, 7, 7, 7, 7, 7, 7, 7, 7, 7, 7, 7, 7, 7, 7, 7, 7, 7, 7, 7, 7, 7, 7, 7, 7, 7, 7, 7, 7, 7, 7, 7, 7, 7, 7, 7, 7, 7, 7, 7, 7, 8, 8, 8, 8, 8, 8, 8, 8, 8, 8, 8, 8, 8, 8, 8, 8, 8, 8, 8, 8, 8, 8, 8, 8, 8, 8, 8, 8, 8, 8, 8, 8, 8, 8, 8, 8, 8, 8, 8, 8, 8, 8, 8, 8, 8, 8, 8, 8, 8, 8, 8, 8, 8, 8, 8, 8, 8, 8, 8, 8, 8, 8, 8, 8, 8, 8, 8, 8, 8, 8, 8, 8, 8, 8, 8, 8, 8, 8, 8, 8, 8, 8, 8, 8, 8, 8, 8, 8, 8, 8, 8, 8, 8, 8, 8, 8, 8, 8, 8, 8, 8, 8, 8, 8, 8, 8, 8, 8, 8, 8, 8, 8, 8, 8, 8, 8, 8, 8, 8, 8, 8, 8, 8, 8, 8, 8, 8, 8]⟩ : ByteArray)
theorem lt8_all : ∀ i : Fin 255, ∃ t : Fin 8, bt lt8 ((i.val : Int) + 1) = (t.val : Int) + 1 ∧ (2 : Int) ^ t.val ≤ (i.val : Int) + 1 ∧ (i.val : Int) + 1 < 2 * 2 ^ t.val := by decide +kernel
theorem lt8_ok {i : Int} (h : 1 ≤ i ∧ i < 256) : ∃ t : Nat, t < 8 ∧ bt lt8 i = (t : Int) + 1 ∧ (2 : Int) ^ t ≤ i ∧ i < 2 * 2 ^ t := by
  obtain ⟨t, h1, h2, h3⟩ := lt8_all ⟨(i - 1).toNat, by omega⟩
  have e : (((i - 1).toNat : Nat) : Int) + 1 = i := by omega
  rw [e] at h1 h2 h3
  exact ⟨t.val, t.isLt, h1, h2, h3⟩
theorem lz_fin {x L : Int} {s t : Nat} (hs : s = 0 ∨ s = 8 ∨ s = 16 ∨ s = 24) (ht : t < 8) (hL : L = s + (t + 1)) (h1 : (2 : Int) ^ t ≤ x / 2 ^ s) (h2 : x / 2 ^ s < 2 * 2 ^ t) : ∃ n : Nat, n < 32 ∧ wrap64 (32 - L) = n ∧ 2147483648 ≤ x * 2 ^ n ∧ x * 2 ^ n < 4294967296 := by
  refine ⟨31 - s - t, by omega, by rw [w64 (by omega) (by omega)]; omega, ?_⟩
  rcases hs with rfl | rfl | rfl | rfl <;> rcases (show t = 0 ∨ t = 1 ∨ t = 2 ∨ t = 3 ∨ t = 4 ∨ t = 5 ∨ t = 6 ∨ t = 7 by omega) with rfl | rfl | rfl | rfl | rfl | rfl | rfl | rfl <;> simp only [Int.reducePow, Nat.reduceSub] at h1 h2 ⊢ <;> omega
set_option maxRecDepth 100000 in
theorem s_lz {x : Int} (h : 1 ≤ x ∧ x < 4294967296) : ∃ n : Nat, n < 32 ∧ bits_LeadingZeros32.f x = some (n : Int) ∧ 2147483648 ≤ x * 2 ^ n ∧ x * 2 ^ n < 4294967296 := by
  have fin : ∀ (s : Nat) (L : Int), (s = 0 ∨ s = 8 ∨ s = 16 ∨ s = 24) → 1 ≤ x / 2 ^ s ∧ x / 2 ^ s < 256 → bits_Len32.f x = some (wrap64 (L + wrap64 (bt lt8 (x / 2 ^ s)))) → L = s → ∃ n : Nat, n < 32 ∧ bits_LeadingZeros32.f x = some (n : Int) ∧ 2147483648 ≤ x * 2 ^ n ∧ x * 2 ^ n < 4294967296 := by
    intro s L hs hi hf hL
    obtain ⟨t, t1, t2, t3, t4⟩ := lt8_ok hi
    rw [t2, w64 (n := (t : Int) + 1) (by omega) (by omega), w64 (n := L + ((t : Int) + 1)) (by omega) (by omega)] at hf
    obtain ⟨n, n1, n2, n3, n4⟩ := lz_fin (x := x) (L := L + ((t : Int) + 1)) hs t1 (by rw [hL]) t3 t4
    refine ⟨n, n1, ?_, n3, n4⟩
    rw [bits_LeadingZeros32.f, hf, Option.bind_some, n2]
  by_cases c1 : x ≥ 65536
  · by_cases c2 : x / 65536 ≥ 256
    · refine fin 24 (16 + 8) (by simp) (by simp only [Int.reducePow]; omega) ?_ (by rfl)
      rw [bits_Len32.f, if_pos c1, if_pos c2, if_pos (by omega), if_pos (by omega), show x / 65536 / 256 % 256 = x / 2 ^ 24 by simp only [Int.reducePow]; omega]
      kernel_rfl
    · refine fin 16 16 (by simp) (by simp only [Int.reducePow]; omega) ?_ (by rfl)
      rw [bits_Len32.f, if_pos c1, if_neg c2, if_pos (by omega), if_pos (by omega), show x / 65536 % 256 = x / 2 ^ 16 by simp only [Int.reducePow]; omega]
      rfl
  · by_cases c2 : x ≥ 256
    · refine fin 8 (0 + 8) (by simp) (by simp only [Int.reducePow]; omega) ?_ (by rfl)
      rw [bits_Len32.f, if_neg c1, if_pos c2, if_pos (by omega), if_pos (by omega), show x / 256 % 256 = x / 2 ^ 8 by simp only [Int.reducePow]; omega]
      kernel_rfl
    · refine fin 0 0 (by simp) (by simp only [Int.reducePow]; omega) ?_ (by rfl)
      rw [bits_Len32.f, if_neg c1, if_neg c2, if_pos (by omega), if_pos (by omega), show x % 256 = x / 2 ^ 0 by simp only [Int.reducePow]; omega]
      rfl
end Go.Proofs.YtjjjoepnlhpjdaaDoor.Pure

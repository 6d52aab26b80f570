/- Division with remainder, and Euclid. -/
import Derived.Test.YtjjjoepnlhpjdaaDoorNat5
import Derived.Test.YtjjjoepnlhpjdaaDoorQ1
import Derived.Test.YtjjjoepnlhpjdaaDoorQ2
namespace Go.Proofs.YtjjjoepnlhpjdaaDoor.Pure
open Go.RowKit Go.Proofs.YtjjjoepnlhpjdaaDoor.Q Go.Proofs.YtjjjoepnlhpjdaaDoor.Num Go.Proofs.YtjjjoepnlhpjdaaDoor.Pol Go.Proofs.YtjjjoepnlhpjdaaDoorW.PrintWords Go.Proofs.YtjjjoepnlhpjdaaDoorW.PrintLast Go.Proofs.YtjjjoepnlhpjdaaDoorW.PrintMore

theorem dw_alg {T P W R Q V : Int} (h : R + V * Q = W) : T + P * R + Q * P * V = T + P * W := by rw [← h]; grind
theorem dw_lt {b top S D P T : Int} (hb : b = T + top * P) (hT : T < P) (hP : 0 < P) (hS : 0 < S) (hD : 4294967296 = S * D) (h : top * S < 4294967296) : b * S < 4294967296 * P := by
  have h1 : top + 1 ≤ D := by
    refine Int.add_one_le_iff.2 (Int.lt_of_mul_lt_mul_left (a := S) ?_ (Int.le_of_lt hS))
    rw [← hD, Int.mul_comm]; exact h
  have h2 := Int.mul_le_mul_of_nonneg_right h1 (Int.le_of_lt hS)
  have h3 := Int.mul_le_mul_of_nonneg_right h2 (Int.le_of_lt hP)
  have h4 := Int.mul_lt_mul_of_pos_right hT hS
  rw [Int.mul_comm D S, ← hD] at h3
  rw [hb]
  grind
/-- A digit of the quotient, in a window. -/
theorem s_digw {u v : List Int} {n j : Nat} (hu : Lb u) (hv : Lb v) (lv : v.length = n) (lu : j + n + 1 ≤ u.length) (hn : 2 ≤ n) (hl : n < 70368744177664) (ht : 2147483648 ≤ co v (n - 1)) (hlt : vl (u.drop (j + 1)) < vl v) :
    ∃ (q : Int) (r : List Int), (0 ≤ q ∧ q < 4294967296) ∧ r.length = u.length ∧ Lb r ∧ vl r + q * Bp j * vl v = vl u ∧ vl (r.drop j) < vl v ∧ Ev (fun k => ratio_digw.f k u v (j : Int) (n : Int)) (q, r) := by
  have rv := vl_range hv
  rw [lv] at rv
  have hj := hu j
  have hV : 0 < vl v := by
    have := (vl_range (hu.drop (j + 1))).1
    omega
  have e1 : vl (u.drop j) = co u j + 4294967296 * vl (u.drop (j + 1)) := drop_succ_co (by omega)
  have e2 : vl (u.drop j) = vl ((u.drop j).take (n + 1)) + Bp (n + 1) * vl ((u.drop j).drop (n + 1)) := vl_split _ _ (by rw [List.length_drop]; omega)
  have lW : ((u.drop j).take (n + 1)).length = n + 1 := by rw [List.length_take, List.length_drop]; omega
  have hW := (hu.drop j).take (n + 1)
  have rW := vl_range hW
  have hz : vl ((u.drop j).drop (n + 1)) = 0 := by
    have h1 := (vl_range ((hu.drop j).drop (n + 1))).1
    by_cases c : vl ((u.drop j).drop (n + 1)) = 0
    · exact c
    · have h2 := Int.mul_le_mul_of_nonneg_left (show 1 ≤ vl ((u.drop j).drop (n + 1)) by omega) (Int.le_of_lt (Bp_pos (n + 1)))
      rw [Bp_succ] at h2
      rw [Bp_succ] at e2
      omega
  rw [hz, Int.mul_zero, Int.add_zero] at e2
  have hlt2 : vl ((u.drop j).take (n + 1)) < vl v * 4294967296 := by rw [← e2]; omega
  obtain ⟨r, r1, r2, r3, r4⟩ := s_digit hW hv lW lv hn hl ht hlt2
  have hq := ediv_lt hV rW.1 hlt2
  have hdm := Int.emod_add_mul_ediv (vl ((u.drop j).take (n + 1))) (vl v)
  have hm := Int.emod_lt_of_pos (vl ((u.drop j).take (n + 1))) hV
  have lT : (u.take j).length = j := by rw [List.length_take]; omega
  have eu := vl_split u j (by omega)
  have eD : (u.take j ++ (r ++ u.drop (j + (n + 1)))).drop j = r ++ u.drop (j + (n + 1)) := List.drop_left' lT
  have eR : vl (r ++ u.drop (j + (n + 1))) = vl r := by
    rw [vl_append, ← List.drop_drop, hz, Int.mul_zero, Int.add_zero]
  refine ⟨_, u.take j ++ (r ++ u.drop (j + (n + 1))), hq, ?_, (hu.take j).append (r2.append (hu.drop _)), ?_, ?_, ?_⟩
  · rw [List.length_append, List.length_append, List.length_drop, lT, r1]; omega
  · rw [vl_append, lT, eR, r3, eu, e2]
    exact dw_alg hdm
  · rw [eD, eR, r3]; exact hm
  · refine Ev.congr (fun k => ?_) (r4.bind (G := fun _ t => some (t.1, u.take j ++ (t.2 ++ u.drop (j + (n + 1))))) (Ev.all fun _ => rfl))
    rw [ratio_digw.f, if_pos ⟨Int.natCast_nonneg _, Int.natCast_nonneg _, by omega⟩, Int.toNat_natCast, Int.toNat_natCast]

theorem sh_alg {S D x y : Int} (hS : 0 < S) (hD : 4294967296 = S * D) (hx : 0 ≤ x ∧ x < 4294967296) : ((y * 4294967296 + x) / S % 4294967296) * S = (y % S) * 4294967296 + x - x % S := by
  have hDp : 0 < D := by
    refine Int.not_le.1 fun hc => ?_
    have := Int.mul_le_mul_of_nonneg_left hc (Int.le_of_lt hS)
    omega
  have e1 : y * 4294967296 + x = y * D * S + x := by rw [hD]; grind
  have e2 : (y * 4294967296 + x) / S = y * D + x / S := by
    rw [e1, Int.add_comm, Int.add_mul_ediv_right _ _ (Int.ne_of_gt hS), Int.add_comm]
  have h1 := Int.emod_add_mul_ediv x S
  have h2 := Int.emod_add_mul_ediv y S
  have b1 : 0 ≤ x / S ∧ x / S < D := ⟨Int.ediv_nonneg hx.1 (Int.le_of_lt hS), Int.ediv_lt_of_lt_mul hS (by rw [Int.mul_comm, ← hD]; exact hx.2)⟩
  have b2 := Int.emod_nonneg y (Int.ne_of_gt hS)
  have b3 := Int.emod_lt_of_pos y hS
  have e3 : y * D + x / S = (y % S * D + x / S) + 4294967296 * (y / S) := by
    have := congrArg (fun t => t * D) h2
    rw [hD]
    grind
  have b4 : 0 ≤ y % S * D + x / S := by
    have := Int.mul_nonneg b2 (Int.le_of_lt hDp)
    omega
  have b5 : y % S * D + x / S < 4294967296 := by
    have := Int.mul_le_mul_of_nonneg_right (show y % S + 1 ≤ S by omega) (Int.le_of_lt hDp)
    rw [Int.add_mul, Int.one_mul, ← hD] at this
    omega
  rw [e2, e3, Int.add_mul_emod_self_left, Int.emod_eq_of_lt b4 b5, Int.add_mul, Int.mul_assoc, Int.mul_comm D S, ← hD, Int.mul_comm (x / S)]
  omega
/-- The remainder shifted back. -/
theorem back_l {u out : List Int} {n s : Nat} {Rm : Int} (hu : Lb u) (ho : Lb out) (hs : s < 32) (lu : n + 1 ≤ u.length) (hl : u.length < 70368744177664) (lo : out.length < 70368744177664) (hz : co u n = 0) (hv : vl (u.take n) = Rm * 2 ^ s) :
    ∀ (d i : Nat) (rest : List Int), i + d = n → rest.length = n → Lb rest → Aside0 (vl (rest.take i) * 2 ^ s = vl (u.take i) + co u i % 2 ^ s * Bp i) →
    Ev (fun k => ratio_div.l1 k (s : Int) u out rest (n : Int) (i : Int)) (dg (vl out), dg Rm) := by
  obtain ⟨p1, p2, p3, p4⟩ := two_pow hs
  have hmin : min ((s : Int)).toNat 64 = s := by omega
  intro d
  induction d with
  | zero =>
    intro i rest hi hr hrest hx
    have q1 : ¬ ((i : Int) < (n : Int)) := by omega
    have q2 : i = n := by omega
    have q3 : rest.length ≤ n := by omega
    have e : vl rest = Rm := by
      have h := hx.out
      rw [q2, vl_take_all q3, hv, hz, Int.zero_emod, Int.zero_mul, Int.add_zero] at h
      exact Int.eq_of_mul_eq_mul_right (Int.ne_of_gt p1) h
    have s1 := s_trim ho (by omega)
    have s2 := s_trim hrest (by omega)
    rw [e] at s2
    refine Ev.succ (fun k => ?_) (s1.bind (G := fun k t => (ratio_trim.f k rest).bind fun t2 => some (t, t2)) (s2.bind (G := fun _ t2 => some (dg (vl out), t2)) (Ev.all fun _ => rfl)))
    rw [ratio_div.l1, if_neg q1]
  | succ d ih =>
    intro i rest hi hr hrest hx
    have g1 : (i : Int) < (n : Int) := by omega
    have g2 : ((i + 1 : Nat) : Int) < (u.length : Int) := by omega
    have g3 : (i : Int) < (u.length : Int) := by omega
    have g4 : i < u.length := by omega
    have g5 : i < rest.length := by omega
    have g6 := w64_succ (i := i) (by omega)
    have hy := hu i
    have hy1 := hu (i + 1)
    have w1 : shr .u64 (Go.bits .or .u64 (IntKind.u64.wrap (IntKind.u64.wrap (co u (i + 1)) * 4294967296)) (IntKind.u64.wrap (co u i))) (s : Int) = (co u (i + 1) * 4294967296 + co u i) / 2 ^ s := by
      rw [wu64 (n := co u (i + 1)) (by omega) (by omega), or_join hy1 hy]
      show _ / 2 ^ min ((s : Int)).toNat 64 = _
      rw [hmin]
    have hr1 : 0 ≤ (co u (i + 1) * 4294967296 + co u i) / 2 ^ s % 4294967296 ∧ (co u (i + 1) * 4294967296 + co u i) / 2 ^ s % 4294967296 < 4294967296 := ⟨Int.emod_nonneg _ (by decide), Int.emod_lt_of_pos _ (by decide)⟩
    have ha := sh_alg (y := co u (i + 1)) p1 p4 hy
    refine Ev.succ (fun k => ?_) (ih (i + 1) (rest.set i ((co u (i + 1) * 4294967296 + co u i) / 2 ^ s % 4294967296)) (by omega) (by rw [List.length_set]; exact hr) (hrest.set hr1 _) ⟨?_⟩)
    · rw [ratio_div.l1, if_pos g1, g6, if_pos (Int.natCast_nonneg _), if_pos g2, if_pos (Int.natCast_nonneg _), if_pos g3, if_pos (Int.natCast_nonneg _), if_pos (Int.ofNat_lt.2 g5), Int.toNat_natCast, rd_nat, rd_nat, w1]
    · rw [take_set_succ g5, vl_take_succ g4, Bp_succ, Int.add_mul, hx.out]
      have h := congrArg (fun t => t * Bp i) ha
      grind
/-- The loop over the digits. -/
theorem div_l {v : List Int} {n m s : Nat} {A a b : Int} (hv : Lb v) (lv : v.length = n) (hn : 2 ≤ n) (hl : m + n < 35184372088832) (hs : s < 32) (ht : 2147483648 ≤ co v (n - 1)) (hb : 0 < b) (hA : A = a * 2 ^ s) (hV : vl v = b * 2 ^ s) :
    ∀ (j i : Nat) (u out : List Int), i + j = m + 1 → u.length = m + n + 1 → out.length = m + 1 → Lb u → Lb out → (∀ t, t < j → co out t = 0) → vl (u.drop j) < vl v → Aside0 (vl u + vl out * vl v = A) →
    Ev (fun k => ratio_div.l0 k (n : Int) (s : Int) u v out ((m + 1 : Nat) : Int) (i : Int)) (dg (a / b), dg (a % b)) := by
  obtain ⟨p1, p2, p3, p4⟩ := two_pow hs
  intro j
  induction j with
  | zero =>
    intro i u out hi lu lo hu hout hz hd hx
    have q1 : ¬ ((i : Int) < ((m + 1 : Nat) : Int)) := by omega
    have ru := vl_range hu
    have rv := vl_range hv
    rw [lv] at rv
    rw [List.drop_zero] at hd
    have hx' := hx.out
    -- the top limb is nothing
    have e0 := vl_split u n (by omega)
    have e1 : vl (u.drop n) = 0 := by
      have h1 := (vl_range (hu.drop n)).1
      by_cases c : vl (u.drop n) = 0
      · exact c
      · have h2 := Int.mul_le_mul_of_nonneg_left (show 1 ≤ vl (u.drop n) by omega) (Int.le_of_lt (Bp_pos n))
        have h3 := (vl_range (hu.take n)).1
        omega
    have e2 : co u n = 0 := by
      have h1 : vl (u.drop n) = co u n + 4294967296 * vl (u.drop (n + 1)) := drop_succ_co (by omega)
      have h2 := (vl_range (hu.drop (n + 1))).1
      have h3 := (hu n).1
      omega
    rw [e1, Int.mul_zero, Int.add_zero] at e0
    have hb2 : 0 < vl v := by omega
    have e3 := div_uniq (v := A) (b := vl v) (q := vl out) (r := vl u) ⟨ru.1, hd⟩ (by omega)
    have e4 : A / vl v = a / b := by rw [hA, hV, Int.mul_ediv_mul_of_pos_left _ _ p1]
    have e5 : A % vl v = a % b * 2 ^ s := by
      rw [hA, hV, Int.mul_comm a, Int.mul_comm b, Int.mul_emod_mul_of_pos _ _ p1, Int.mul_comm]
    have key := back_l (Rm := a % b) hu hout hs (by omega) (by omega) (by omega) e2 (by rw [← e0, ← e3.2, e5]) n 0 (List.replicate n 0) (by omega) (by simp) (Lb.replicate _) ⟨by
      rw [List.take_zero, List.take_zero, vl_nil, Int.zero_mul, Int.zero_add, Bp_zero, Int.mul_one]
      -- the lowest limb is a multiple
      have h1 : vl u = co u 0 + 4294967296 * vl (u.drop 1) := drop_succ_co (l := u) (i := 0) (by omega)
      have h2 : vl u % 2 ^ s = 0 := by rw [← e3.2, e5, Int.mul_emod_left]
      have h4 : 4294967296 * vl (u.drop 1) = vl (u.drop 1) * p3 * 2 ^ s := by rw [p4]; grind
      rw [h1, h4, Int.add_mul_emod_self_right] at h2
      exact h2.symm⟩
    rw [← e3.1, e4] at key
    refine Ev.succ (fun k => ?_) key
    rw [ratio_div.l0, if_neg q1, if_pos (Int.natCast_nonneg _), if_pos (by rw [Int.toNat_natCast]; omega), Int.toNat_natCast]
    rfl
  | succ j ih =>
    intro i u out hi lu lo hu hout hz hd hx
    obtain ⟨q, r, h1, h2, h3, h4, h5, h6⟩ := s_digw (j := j) hu hv lv (by omega) hn (by omega) ht hd
    have g1 : (i : Int) < ((m + 1 : Nat) : Int) := by omega
    have g2 : j < out.length := by omega
    have g3 : wrap64 (wrap64 ((out.length : Int) - 1) - (i : Int)) = (j : Int) := by
      rw [w64 (n := (out.length : Int) - 1) (by omega) (by omega), w64 (by omega) (by omega)]
      omega
    have g4 := w64_succ (i := i) (by omega)
    have key := ih (i + 1) r (out.set j q) (by omega) (by omega) (by rw [List.length_set]; exact lo) h3 (hout.set h1 _) (fun t ht => by
      rw [co_set_ne g2 _ (by omega)]
      exact hz t (by omega)) h5 ⟨by
        rw [vl_set g2, hz j (by omega), Int.sub_zero, Int.add_mul]
        have := hx.out
        omega⟩
    refine Ev.succ (fun k => ?_) (h6.bind (G := fun k t => ratio_div.l0 k (n : Int) (s : Int) t.2 v (out.set j t.1) ((m + 1 : Nat) : Int) ((i + 1 : Nat) : Int)) key)
    rw [ratio_div.l0, if_pos g1, g3, g4, Int.toNat_natCast]
    simp only [if_pos (Int.natCast_nonneg j), if_pos (Int.ofNat_lt.2 g2)]
/-- Division with remainder. -/
theorem s_div {a b : List Int} (ha : Nf a) (hb : Nf b) (hb0 : b ≠ []) (la : a.length < 1000000) (lb : b.length < 1000000) : Ev (fun k => ratio_div.f k a b) (dg (vl a / vl b), dg (vl a % vl b)) := by
  have hbp := hb.pos hb0
  by_cases c1 : b.length = 1
  · obtain ⟨x, rfl⟩ : ∃ x, b = [x] := by
      cases b with
      | nil => simp at c1
      | cons x t => cases t with
        | nil => exact ⟨x, rfl⟩
        | cons y t => simp at c1
    have hx := hb.1 0
    rw [show co [x] 0 = x from rfl] at hx
    rw [vl_cons, vl_nil, Int.mul_zero, Int.add_zero] at hbp ⊢
    have s1 := s_small ha.1 ⟨hbp, hx.2⟩ (by omega)
    have hm0 := Int.emod_nonneg (vl a) (Int.ne_of_gt hbp)
    have hm1 := Int.emod_lt_of_pos (vl a) hbp
    have s2 := s_Nat (n := vl a % x) (by unfold U; omega)
    refine Ev.congr (fun k => ?_) (s1.bind (G := fun k bt => (ratio_Nat.f k (IntKind.u64.wrap bt.2)).bind fun t => some (bt.1, t)) ?_)
    · rw [ratio_div.f]
      rfl
    · refine Ev.congr (fun k => ?_) (s2.bind (G := fun _ t => some (dg (vl a / x), t)) (Ev.all fun _ => rfl))
      rw [show IntKind.u64.wrap (dg (vl a / x), vl a % x).2 = vl a % x from wu64 (by show 0 ≤ vl a % x; omega) (by show vl a % x < _; omega)]
  · have lb0 : 0 < b.length := hb.len_pos.2 hbp
    have n1 : ¬ ((b.length : Int) = 1) := by omega
    have sc := s_compare ha hb (by omega) (by omega)
    have ra := vl_range ha.1
    by_cases c2 : vl a < vl b
    · rw [cmpZ_lt c2] at sc
      rw [Int.ediv_eq_zero_of_lt ra.1 c2, Int.emod_eq_of_lt ra.1 c2, ← ha.eq_dg]
      obtain ⟨K, hK⟩ := sc.get
      refine Ev.mk K fun k hk => ?_
      rw [ratio_div.f, if_neg n1, hK k hk, Option.bind_some, if_pos (by decide), s_Clone (by omega), Option.bind_some]
      rfl
    · have cz : ¬ (cmpZ (vl a) (vl b) < 0) := by unfold cmpZ; rw [if_neg c2]; split <;> omega
      have hlen : b.length ≤ a.length := Int.ofNat_le.1 (by
        refine Int.not_lt.1 fun hc => c2 (ha.len_lt hb (by omega)))
      obtain ⟨n, hn⟩ : ∃ n, n = b.length := ⟨_, rfl⟩
      obtain ⟨m, hm⟩ : ∃ m, m + n = a.length := ⟨a.length - n, by omega⟩
      have t0 := hb.2.resolve_left hb0
      rw [← hn] at t0
      have tb := hb.1 (n - 1)
      obtain ⟨s, s1, s2, s3, s4⟩ := s_lz (x := co b (n - 1)) (by omega)
      obtain ⟨u, u1, u2, u3, u4⟩ := s_shifted ha.1 s1 (by omega)
      obtain ⟨w, w1, w2, w3, w4⟩ := s_shifted hb.1 s1 (by omega)
      obtain ⟨p1, p2, p3, p4⟩ := two_pow s1
      have e1 : vl b = vl (b.take (n - 1)) + co b (n - 1) * Bp (n - 1) := by
        have h := vl_take_succ (l := b) (i := n - 1) (by omega)
        rwa [vl_take_all (by omega)] at h
      have e2 : Bp n = 4294967296 * Bp (n - 1) := by rw [← Bp_succ, show n - 1 + 1 = n by omega]
      have rT := vl_range (hb.1.take (n - 1))
      rw [List.length_take, Nat.min_eq_left (by omega)] at rT
      have e3 : vl w < Bp n := by rw [w3, e2]; exact dw_lt e1 rT.2 (Bp_pos _) p1 p4 s4
      have e4 : vl (w.take n) = vl w := by
        have h := vl_split w n (by omega)
        have h1 := (vl_range (w2.drop n)).1
        have h2 := (vl_range (w2.take n)).1
        by_cases c : vl (w.drop n) = 0
        · rw [c] at h; omega
        · have h3 := Int.mul_le_mul_of_nonneg_left (show 1 ≤ vl (w.drop n) by omega) (Int.le_of_lt (Bp_pos n))
          omega
      have lv : (w.take n).length = n := by rw [List.length_take]; omega
      have e5 : 2147483648 ≤ co (w.take n) (n - 1) := by
        have h := vl_take_succ (l := w.take n) (i := n - 1) (by omega)
        rw [vl_take_all (by omega), e4, w3, e1] at h
        have h1 := (vl_range ((w2.take n).take (n - 1))).2
        rw [List.length_take, lv, Nat.min_eq_left (by omega)] at h1
        have h2 := Int.mul_le_mul_of_nonneg_right s3 (Int.le_of_lt (Bp_pos (n - 1)))
        have h3 := Int.mul_nonneg rT.1 (Int.le_of_lt p1)
        refine Int.not_lt.1 fun hc => ?_
        have h4 := Int.mul_le_mul_of_nonneg_right (show co (w.take n) (n - 1) ≤ 2147483647 by omega) (Int.le_of_lt (Bp_pos (n - 1)))
        have h5 : (vl (b.take (n - 1)) + co b (n - 1) * Bp (n - 1)) * 2 ^ s = vl (b.take (n - 1)) * 2 ^ s + co b (n - 1) * 2 ^ s * Bp (n - 1) := by grind
        omega
      have e6 : vl (u.drop (m + 1)) < vl (w.take n) := by
        rw [e4, w3]
        have h := vl_split u (m + 1) (by omega)
        have h1 := (vl_range (u2.take (m + 1))).1
        have h2 := ra.2
        have h3 := hb.low hb0
        rw [← hn] at h3
        have h4 := Int.mul_lt_mul_of_pos_right h2 p1
        rw [← u3, h, ← hm] at h4
        have h5 := Int.mul_le_mul_of_nonneg_right h3 (Int.le_of_lt p1)
        refine Int.lt_of_lt_of_le ?_ h5
        refine Int.lt_of_mul_lt_mul_left (a := Bp (m + 1)) ?_ (Int.le_of_lt (Bp_pos _))
        have h6 : Bp (m + n) = Bp (m + 1) * Bp (n - 1) := by rw [← Bp_add]; congr 1; omega
        rw [h6, Int.mul_assoc] at h4
        omega
      have key := div_l (m := m) (A := vl a * 2 ^ s) (a := vl a) (b := vl b) (w2.take n) lv (by omega) (by omega) s1 e5 hbp rfl (by rw [e4, w3]) (m + 1) 0 u (List.replicate (m + 1) 0) (by omega) (by omega) (by simp) u2 (Lb.replicate _) (fun t _ => co_replicate _ _) e6 ⟨by rw [vl_replicate, u3]; omega⟩
      obtain ⟨K1, hK1⟩ := sc.get
      obtain ⟨K2, hK2⟩ := u4.get
      obtain ⟨K3, hK3⟩ := w4.get
      obtain ⟨K4, hK4⟩ := key.get
      have i1 : wrap64 ((b.length : Int) - 1) = ((n - 1 : Nat) : Int) := by rw [w64 (by omega) (by omega)]; omega
      have i2 : wrap64 (wrap64 ((a.length : Int) - (b.length : Int)) + 1) = ((m + 1 : Nat) : Int) := by
        rw [w64 (n := (a.length : Int) - (b.length : Int)) (by omega) (by omega), w64 (by omega) (by omega)]
        omega
      have i3 : ((n - 1 : Nat) : Int) < (b.length : Int) := by omega
      have i4 : (b.length : Int) ≤ (w.length : Int) := by omega
      have i5 : m + 1 ≤ 70368744177664 := by omega
      refine Ev.mk (K1 + K2 + K3 + K4) fun k hk => ?_
      rw [ratio_div.f, if_neg n1, hK1 k (by omega), Option.bind_some, if_neg cz, i1, if_pos (Int.natCast_nonneg _), if_pos i3, rd_nat, s2, Option.bind_some, hK2 k (by omega), Option.bind_some, hK3 k (by omega), Option.bind_some, if_pos (Int.natCast_nonneg _), if_pos i4, i2, if_pos (Int.natCast_nonneg _), Int.toNat_natCast, if_pos i5, Option.bind_some, Int.toNat_natCast, List.length_replicate, ← hn]
      exact hK4 k (by omega)
/-- Euclid. -/
theorem gcd_l : ∀ (N : Nat) {a b : List Int}, vl b ≤ N → Nf a → Nf b → a.length < 1000000 → b.length < 1000000 → Ev (fun k => ratio_gcd.l0 k a b) (dg ((Int.gcd (vl a) (vl b) : Nat) : Int)) := by
  intro N
  induction N with
  | zero =>
    intro a b hN ha hb la lb
    have rb := (vl_range hb.1).1
    have ra := (vl_range ha.1).1
    have e : vl b = 0 := by omega
    have e2 : b.length = 0 := by
      have := hb.len_pos
      omega
    rw [e, Int.gcd_zero_right, Int.natAbs_of_nonneg ra, ← ha.eq_dg]
    refine Ev.succ (F := fun _ => some a) (fun k => ?_) (Ev.all fun _ => rfl)
    rw [ratio_gcd.l0, if_neg (by omega), s_Clone (by omega), Option.bind_some]
  | succ N ih =>
    intro a b hN ha hb la lb
    have rb := (vl_range hb.1).1
    by_cases c : vl b = 0
    · exact ih (by omega) ha hb la lb
    · have hp : 0 < b.length := hb.len_pos.2 (by omega)
      have hb0 : b ≠ [] := by intro e; simp [e] at hp
      have hm0 := Int.emod_nonneg (vl a) c
      have hm1 := Int.emod_lt_of_pos (vl a) (show 0 < vl b by omega)
      have ll : (dg (vl a % vl b)).length ≤ b.length := (dg_len hm0).2 (by have := (vl_range hb.1).2; omega)
      have key := ih (a := b) (b := dg (vl a % vl b)) (by rw [vl_dg hm0]; omega) hb (dg_nf _) lb (by omega)
      rw [vl_dg hm0] at key
      have e : Int.gcd (vl a) (vl b) = Int.gcd (vl b) (vl a % vl b) := by
        conv => lhs; rw [← Int.emod_add_mul_ediv (vl a) (vl b)]
        rw [Int.gcd_add_mul_left_left, Int.gcd_comm]
      rw [e]
      refine Ev.succ (fun k => ?_) ((s_div ha hb hb0 la lb).bind (G := fun k bt => ratio_gcd.l0 k b bt.2) key)
      rw [ratio_gcd.l0, if_pos (by omega)]
theorem s_gcd {a b : List Int} (ha : Nf a) (hb : Nf b) (la : a.length < 1000000) (lb : b.length < 1000000) : Ev (fun k => ratio_gcd.f k a b) (dg ((Int.gcd (vl a) (vl b) : Nat) : Int)) := gcd_l (vl b).toNat (by have := (vl_range hb.1).1; omega) ha hb la lb
end Go.Proofs.YtjjjoepnlhpjdaaDoor.Pure

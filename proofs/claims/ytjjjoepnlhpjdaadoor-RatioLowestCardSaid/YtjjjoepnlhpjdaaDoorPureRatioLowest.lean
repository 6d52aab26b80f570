/- Fractions stand in lowest terms; sum, product and order fit: for every pair. -/
import Derived.Test.YtjjjoepnlhpjdaaDoorNat8
import Derived.Test.YtjjjoepnlhpjdaaDoorRWorks
import Derived.Test.YtjjjoepnlhpjdaaDoorQ14
namespace Go.Proofs.YtjjjoepnlhpjdaaDoor.Pure
open Go.RowKit Go.Proofs.YtjjjoepnlhpjdaaDoor.Q Go.Proofs.YtjjjoepnlhpjdaaDoor.Num Go.Proofs.YtjjjoepnlhpjdaaDoor.Pol Go.Proofs.YtjjjoepnlhpjdaaDoorW.PrintWords Go.Proofs.YtjjjoepnlhpjdaaDoorW.PrintLast Go.Proofs.YtjjjoepnlhpjdaaDoorW.PrintMore

section
variable {a b c d : Int} (F : Fr a b) (G : Fr c d) (ha : a < Bp 10) (hb : b < Bp 10) (hc : c < Bp 10) (hd : d < Bp 10)
include F G ha hb hc hd
theorem low_j4 {p q g : Int} (ex : a * c = p * g) (ey : b * d = q * g) (hp : 0 ≤ p ∧ p < Bp 20) (hq : 0 ≤ q ∧ q < Bp 20) : Ev (fun k => attestorlaw02_RatioLowest.j4 k (dg (b * d)) (dg a) (dg b) (dg c) (dg d) (dg p) (dg q)) true := by
  have a0 := F.p0
  have b0 := F.q0
  have c0 := G.p0
  have d0 := G.q0
  have m1 := mul_Bp ⟨a0, ha⟩ ⟨c0, hc⟩ (show 10 + 10 ≤ 20 by decide)
  have m2 := mul_Bp ⟨Int.le_of_lt b0, hb⟩ ⟨Int.le_of_lt d0, hd⟩ (show 10 + 10 ≤ 20 by decide)
  have m3 := mul_Bp hp m2 (show 20 + 20 ≤ 64 by decide)
  have m4 := mul_Bp hq m1 (show 20 + 20 ≤ 64 by decide)
  have u1 := up_Bp ⟨a0, ha⟩ (show 10 ≤ 64 by decide)
  have u2 := up_Bp ⟨c0, hc⟩ (show 10 ≤ 64 by decide)
  have u3 := up_Bp m1 (show 20 ≤ 64 by decide)
  have u4 := up_Bp m2 (show 20 ≤ 64 by decide)
  have u5 := up_Bp hp (show 20 ≤ 64 by decide)
  have u6 := up_Bp hq (show 20 ≤ 64 by decide)
  have e : q * (a * c) = p * (b * d) := by rw [ex, ey]; grind
  have p1 := n_Product u1 u2 u3.2
  have p2 := n_Product u5 u4 m3.2
  have p3 := n_Product u6 u3 m4.2
  rw [e] at p3
  refine Ev.succ (fun k => by show attestorlaw02_RatioLowest.j4 (k + 1) (dg (b * d)) (dg a) (dg b) (dg c) (dg d) (dg p) (dg q) = _; rw [attestorlaw02_RatioLowest.j4]) ?_
  refine p1.bind ?_
  refine p2.bind ?_
  refine p3.bind ?_
  refine Ev.congr (fun k => if_pos rfl) ?_
  refine Ev.congr (fun k => if_pos rfl) ?_
  refine Ev.congr (fun k => if_pos rfl) ?_
  refine (n_same _ m3).bind ?_
  refine Ev.congr (fun k => if_pos rfl) ?_
  exact s_works.bind (Ev.all fun _ => rfl)
theorem low_j3 {p q g p2 q2 g2 : Int} (ex : a * d + c * b = p * g) (ey : b * d = q * g) (hp : 0 ≤ p ∧ p < Bp 21) (hq : 0 ≤ q ∧ q < Bp 21) (ex2 : a * c = p2 * g2) (ey2 : b * d = q2 * g2) (hp2 : 0 ≤ p2 ∧ p2 < Bp 20) (hq2 : 0 ≤ q2 ∧ q2 < Bp 20) :
    Ev (fun k => attestorlaw02_RatioLowest.j3 k (dg a) (dg b) (dg c) (dg d) (dg p) (dg q) (dg p2) (dg q2)) true := by
  have a0 := F.p0
  have b0 := F.q0
  have c0 := G.p0
  have d0 := G.q0
  have m1 := mul_Bp ⟨a0, ha⟩ ⟨Int.le_of_lt d0, hd⟩ (show 10 + 10 ≤ 20 by decide)
  have m2 := mul_Bp ⟨c0, hc⟩ ⟨Int.le_of_lt b0, hb⟩ (show 10 + 10 ≤ 20 by decide)
  have m3 := mul_Bp ⟨Int.le_of_lt b0, hb⟩ ⟨Int.le_of_lt d0, hd⟩ (show 10 + 10 ≤ 20 by decide)
  have m4 := add_Bp m1 m2 (show 20 + 1 ≤ 21 by decide)
  have m5 := mul_Bp hp m3 (show 21 + 20 ≤ 64 by decide)
  have m6 := mul_Bp hq m4 (show 21 + 21 ≤ 64 by decide)
  have u1 := up_Bp ⟨a0, ha⟩ (show 10 ≤ 64 by decide)
  have u2 := up_Bp ⟨Int.le_of_lt b0, hb⟩ (show 10 ≤ 64 by decide)
  have u3 := up_Bp ⟨c0, hc⟩ (show 10 ≤ 64 by decide)
  have u4 := up_Bp ⟨Int.le_of_lt d0, hd⟩ (show 10 ≤ 64 by decide)
  have v1 := up_Bp m1 (show 20 ≤ 64 by decide)
  have v2 := up_Bp m2 (show 20 ≤ 64 by decide)
  have v3 := up_Bp m3 (show 20 ≤ 64 by decide)
  have v4 := up_Bp m4 (show 21 ≤ 64 by decide)
  have v5 := up_Bp hp (show 21 ≤ 64 by decide)
  have v6 := up_Bp hq (show 21 ≤ 64 by decide)
  have e : q * (a * d + c * b) = p * (b * d) := by rw [ex, ey]; grind
  have p1 := n_Product u1 u4 v1.2
  have p2' := n_Product u3 u2 v2.2
  have p3 := n_Sum v1 v2 v4.2
  have p4 := n_Product u2 u4 v3.2
  have p5 := n_Product v5 v3 m5.2
  have p6 := n_Product v6 v4 m6.2
  rw [e] at p6
  refine Ev.succ (fun k => by show attestorlaw02_RatioLowest.j3 (k + 1) (dg a) (dg b) (dg c) (dg d) (dg p) (dg q) (dg p2) (dg q2) = _; rw [attestorlaw02_RatioLowest.j3]) ?_
  refine p1.bind ?_
  refine p2'.bind ?_
  refine p3.bind ?_
  refine p4.bind ?_
  refine p5.bind ?_
  refine p6.bind ?_
  refine Ev.congr (fun k => if_pos rfl) ?_
  refine Ev.congr (fun k => if_pos rfl) ?_
  refine Ev.congr (fun k => if_pos rfl) ?_
  refine Ev.congr (fun k => if_pos rfl) ?_
  refine Ev.congr (fun k => if_pos rfl) ?_
  refine Ev.congr (fun k => if_pos rfl) ?_
  refine (n_same _ m5).bind ?_
  refine Ev.congr (fun k => if_pos rfl) ?_
  exact low_j4 F G ha hb hc hd ex2 ey2 hp2 hq2
theorem low_j2 : Ev (fun k => attestorlaw02_RatioLowest.j2 k (dg a) (dg b) (dg c) (dg d)) true := by
  have a0 := F.p0
  have b0 := F.q0
  have c0 := G.p0
  have d0 := G.q0
  obtain ⟨p, q, g, S, g0, ex, ey, hp, hq, e1⟩ := n_Add F G ha hb hc hd (by decide)
  obtain ⟨p2, q2, g2, _, g20, ex2, ey2, hp2, hq2, e2⟩ := n_Mul F G ha hb hc hd (by decide)
  have o1 := n_Order F S ha hb hp.2 hq.2 (by decide) (by decide)
  have o2 := n_Order S F hp.2 hq.2 ha hb (by decide) (by decide)
  -- the first addend is not above the sum
  have le : a * q ≤ p * b := by
    have h1 : (a * q) * (g * d) ≤ (p * b) * (g * d) := by
      have i1 : (a * q) * (g * d) = (a * d) * (q * g) := by grind
      have i2 : (p * b) * (g * d) = (p * g) * (b * d) := by grind
      have i3 : (a * d + c * b) * (b * d) = (a * d) * (b * d) + (c * b) * (b * d) := by grind
      have i4 := Int.mul_nonneg (Int.mul_nonneg c0 (Int.le_of_lt b0)) (Int.le_of_lt (Int.mul_pos b0 d0))
      rw [i1, i2, ← ex, ← ey, i3]
      omega
    exact Int.le_of_mul_le_mul_right h1 (Int.mul_pos g0 d0)
  have n1 : ¬ (cmpZ (a * q) (p * b) > 0) := by
    unfold cmpZ
    split
    · omega
    · rw [if_neg (by omega)]; omega
  have n2 : ¬ (cmpZ (p * b) (a * q) < 0) := by
    unfold cmpZ
    rw [if_neg (by omega)]
    split <;> omega
  refine Ev.succ (fun k => by show attestorlaw02_RatioLowest.j2 (k + 1) (dg a) (dg b) (dg c) (dg d) = _; rw [attestorlaw02_RatioLowest.j2]) ?_
  refine e1.bind ?_
  refine e2.bind ?_
  refine Ev.congr (fun k => if_pos rfl) ?_
  refine Ev.congr (fun k => if_pos rfl) ?_
  refine o1.bind ?_
  refine Ev.congr (fun k => if_neg n1) ?_
  refine o2.bind ?_
  refine Ev.congr (fun k => if_neg n2) ?_
  exact low_j3 F G ha hb hc hd ex ey hp hq ex2 ey2 hp2 hq2
theorem low_j1 {z : Int} (hz : 0 < z ∧ z < Bp 10) : Ev (fun k => attestorlaw02_RatioLowest.j1 k (dg z) (dg a) (dg b) (dg c) (dg d)) true := by
  have a0 := F.p0
  have b0 := F.q0
  have m1 := mul_Bp ⟨a0, ha⟩ (show 0 ≤ z ∧ z < Bp 10 by omega) (show 10 + 10 ≤ 20 by decide)
  have m2 := mul_Bp ⟨Int.le_of_lt b0, hb⟩ (show 0 ≤ z ∧ z < Bp 10 by omega) (show 10 + 10 ≤ 20 by decide)
  have u1 := up_Bp ⟨a0, ha⟩ (show 10 ≤ 64 by decide)
  have u2 := up_Bp ⟨Int.le_of_lt b0, hb⟩ (show 10 ≤ 64 by decide)
  have u3 := up_Bp (x := z) (m := 10) (p := 64) (by omega) (by decide)
  have v1 := up_Bp m1 (show 20 ≤ 64 by decide)
  have v2 := up_Bp m2 (show 20 ≤ 64 by decide)
  obtain ⟨p, q, g, P, g0, ex, ey, _, _, e⟩ := n_New m1 ⟨Int.mul_pos b0 hz.1, m2.2⟩ (by decide)
  obtain ⟨rfl, rfl⟩ := P.uniq F g0 hz.1 ex.symm ey.symm
  refine Ev.succ (fun k => by show attestorlaw02_RatioLowest.j1 (k + 1) (dg z) (dg p) (dg q) (dg c) (dg d) = _; rw [attestorlaw02_RatioLowest.j1]) ?_
  refine (n_Product u1 u3 v1.2).bind ?_
  refine (n_Product u2 u3 v2.2).bind ?_
  refine e.bind ?_
  refine Ev.congr (fun k => if_pos rfl) ?_
  refine Ev.congr (fun k => if_pos rfl) ?_
  refine Ev.congr (fun k => if_pos rfl) ?_
  refine (n_same _ u1).bind ?_
  refine Ev.congr (fun k => if_pos rfl) ?_
  refine (n_same _ u2).bind ?_
  refine Ev.congr (fun k => if_pos rfl) ?_
  exact low_j2 F G ha hb hc hd
end
theorem RatioLowest : attestorlaw02_RatioLowest.Pure := by
  intro l0 l1 l2 l3 _ h0 w0 _ h1 w1 _ h2 w2 _ h3 w3
  obtain ⟨a, b, F, ha, hb, e1⟩ := n_fraction w0 h0 w1 h1 (show 10 ≤ 64 by decide) (by decide)
  obtain ⟨c, d, G, hc, hd, e2⟩ := n_fraction w2 h2 w3 h3 (show 10 ≤ 64 by decide) (by decide)
  obtain ⟨z, hz, ez⟩ := s_nat w2 h2 10
  have u1 := up_Bp ⟨F.p0, ha⟩ (show 10 ≤ 64 by decide)
  have u2 := up_Bp ⟨Int.le_of_lt F.q0, hb⟩ (show 10 ≤ 64 by decide)
  have u3 := up_Bp ⟨G.p0, hc⟩ (show 10 ≤ 64 by decide)
  have u4 := up_Bp ⟨Int.le_of_lt G.q0, hd⟩ (show 10 ≤ 64 by decide)
  have eg := n_Gcd u1 u2
  rw [F.co] at eg
  refine Ev.ex ?_
  refine e1.bind ?_
  refine e2.bind ?_
  refine Ev.congr (fun k => if_pos rfl) ?_
  refine Ev.congr (fun k => if_pos rfl) ?_
  refine (n_Fr F u1.2 u2.2).bind ?_
  refine Ev.congr (fun k => if_pos rfl) ?_
  refine (n_Fr G u3.2 u4.2).bind ?_
  refine Ev.congr (fun k => if_pos rfl) ?_
  refine eg.bind ?_
  refine (n_same 1 (by decide +kernel)).bind ?_
  refine Ev.congr (fun k => if_pos rfl) ?_
  refine Ev.succ (fun k => by show attestorlaw02_RatioLowest.j0 (k + 1) l2 (dg a) (dg b) (dg c) (dg d) = _; rw [attestorlaw02_RatioLowest.j0]) ?_
  refine ez.bind ?_
  by_cases k0 : z = 0
  · refine Ev.congr (fun k => if_pos (by rw [k0]; rfl)) ?_
    exact low_j1 (z := 3) F G ha hb hc hd (by decide +kernel)
  · have := dg_pos (x := z) (by omega)
    refine Ev.congr (fun k => if_neg (by omega)) ?_
    exact low_j1 F G ha hb hc hd (by omega)
end Go.Proofs.YtjjjoepnlhpjdaaDoor.Pure

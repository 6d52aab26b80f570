/- Fractions: lowest terms, New, Valid, Add, Mul, Order, told by numbers. -/
import Derived.Test.YtjjjoepnlhpjdaaDoorNat7
import Derived.Test.YtjjjoepnlhpjdaaDoorQ11
import Derived.Test.YtjjjoepnlhpjdaaDoorQ12
import Derived.Test.YtjjjoepnlhpjdaaDoorQ13
import Derived.Test.YtjjjoepnlhpjdaaDoorQ2
import Derived.Test.YtjjjoepnlhpjdaaDoorQ3
namespace Go.Proofs.YtjjjoepnlhpjdaaDoor.Pure
open Go.RowKit Go.Proofs.YtjjjoepnlhpjdaaDoor.Q Go.Proofs.YtjjjoepnlhpjdaaDoor.Num Go.Proofs.YtjjjoepnlhpjdaaDoor.Pol Go.Proofs.YtjjjoepnlhpjdaaDoorW.PrintWords Go.Proofs.YtjjjoepnlhpjdaaDoorW.PrintLast Go.Proofs.YtjjjoepnlhpjdaaDoorW.PrintMore

/-- A fraction in lowest terms. -/
structure Fr (p q : Int) : Prop where
  p0 : 0 ≤ p
  q0 : 0 < q
  co : Int.gcd p q = 1
theorem gz_data {x y : Int} (hx : 0 ≤ x) (hy : 0 < y) : ∃ g p q : Int, ((Int.gcd x y : Nat) : Int) = g ∧ 0 < g ∧ x = p * g ∧ y = q * g ∧ p ≤ x ∧ q ≤ y ∧ Fr p q := by
  have hg : 0 < Int.gcd x y := Nat.pos_of_ne_zero fun h => by
    have := (Int.gcd_eq_zero_iff.1 h).2
    omega
  obtain ⟨p, hp⟩ := Int.gcd_dvd_left (a := x) (b := y)
  obtain ⟨q, hq⟩ := Int.gcd_dvd_right (a := x) (b := y)
  obtain ⟨g, hgd⟩ : ∃ g : Int, g = ((Int.gcd x y : Nat) : Int) := ⟨_, rfl⟩
  have hc : Int.gcd x y = g.natAbs * Int.gcd p q := by
    rw [← Int.gcd_mul_left, hgd, ← hp, ← hq]
  rw [← hgd] at hp hq
  have g0 : 0 < g := by omega
  have e1 : Int.gcd p q = 1 := by
    have e2 : g.natAbs = Int.gcd x y := by omega
    rw [e2] at hc
    exact Nat.eq_of_mul_eq_mul_left hg (by omega)
  have p0 : 0 ≤ p := Int.not_lt.1 fun h => by
    have := Int.mul_le_mul_of_nonneg_left (show p ≤ -1 by omega) (Int.le_of_lt g0)
    omega
  have q0 : 0 < q := Int.not_le.1 fun h => by
    have := Int.mul_le_mul_of_nonneg_left h (Int.le_of_lt g0)
    omega
  have px := Int.mul_le_mul_of_nonneg_right (show 1 ≤ g by omega) p0
  have qx := Int.mul_le_mul_of_nonneg_right (show 1 ≤ g by omega) (Int.le_of_lt q0)
  exact ⟨g, p, q, hgd.symm, g0, by rw [hp, Int.mul_comm], by rw [hq, Int.mul_comm], by omega, by omega, p0, q0, e1⟩
theorem Fr.gcd_mul {p q g : Int} (h : Fr p q) (hg : 0 < g) : ((Int.gcd (p * g) (q * g) : Nat) : Int) = g := by
  rw [Int.gcd_mul_right, h.co, Nat.one_mul]
  omega
theorem Fr.uniq {p q a b g z : Int} (h : Fr p q) (k : Fr a b) (hg : 0 < g) (hz : 0 < z) (e1 : p * g = a * z) (e2 : q * g = b * z) : p = a ∧ q = b := by
  have e : g = z := by rw [← h.gcd_mul hg, e1, e2, k.gcd_mul hz]
  rw [e] at e1 e2
  exact ⟨Int.eq_of_mul_eq_mul_right (by omega) e1, Int.eq_of_mul_eq_mul_right (by omega) e2⟩
theorem n_gcd {x y : Int} {n : Nat} (hx : 0 ≤ x ∧ x < Bp n) (hy : 0 ≤ y ∧ y < Bp n) (hn : n < 1000000) : Ev (fun k => ratio_gcd.f k (dg x) (dg y)) (dg ((Int.gcd x y : Nat) : Int)) := by
  have lx : (dg x).length ≤ n := (dg_len hx.1).2 hx.2
  have ly : (dg y).length ≤ n := (dg_len hy.1).2 hy.2
  have h := s_gcd (dg_nf x) (dg_nf y) (by omega) (by omega)
  rwa [vl_dg hx.1, vl_dg hy.1] at h
theorem n_div {x y : Int} {n : Nat} (hx : 0 ≤ x ∧ x < Bp n) (hy : 0 < y ∧ y < Bp n) (hn : n < 1000000) : Ev (fun k => ratio_div.f k (dg x) (dg y)) (dg (x / y), dg (x % y)) := by
  have hl := dg_pos hy.1
  have lx : (dg x).length ≤ n := (dg_len hx.1).2 hx.2
  have ly : (dg y).length ≤ n := (dg_len (by omega)).2 hy.2
  have s := s_div (dg_nf x) (dg_nf y) (by intro e; rw [e] at hl; exact absurd hl (by decide)) (by omega) (by omega)
  rwa [vl_dg hx.1, vl_dg (by omega)] at s
theorem n_lowest {x y : Int} {n : Nat} (hx : 0 ≤ x ∧ x < Bp n) (hy : 0 < y ∧ y < Bp n) (hn : n ≤ 64) : ∃ p q g : Int, Fr p q ∧ 0 < g ∧ x = p * g ∧ y = q * g ∧ (0 ≤ p ∧ p < Bp n) ∧ (0 ≤ q ∧ q < Bp n) ∧ Ev (fun k => ratio_lowest.f k (dg x) (dg y)) (dg p, dg q, 0) := by
  obtain ⟨g, p, q, hg, g0, ex, ey, px, qy, F⟩ := gz_data hx.1 hy.1
  have e1 := n_gcd hx (show 0 ≤ y ∧ y < Bp n by omega) (by omega)
  rw [hg] at e1
  have F2 := F.q0
  have F1 := F.p0
  have hgy : g < Bp n := by
    have := Int.mul_le_mul_of_nonneg_right (show 1 ≤ q by omega) (Int.le_of_lt g0)
    omega
  have e2 := n_div hx ⟨g0, hgy⟩ (by omega)
  have e3 := n_div (x := y) (by omega) ⟨g0, hgy⟩ (by omega)
  rw [show x / g = p by rw [ex, Int.mul_ediv_cancel _ (by omega)]] at e2
  rw [show y / g = q by rw [ey, Int.mul_ediv_cancel _ (by omega)]] at e3
  have u1 := up_Bp (x := p) (m := n) (p := 64) (by omega) hn
  have u2 := up_Bp (x := q) (m := n) (p := 64) (by omega) hn
  have l1 := dl u1
  have l2 := dl u2
  refine ⟨p, q, g, F, g0, ex, ey, by omega, by omega, ?_⟩
  refine e1.bind ?_
  refine e2.bind ?_
  refine e3.bind ?_
  refine Ev.congr (fun k => if_neg (by show ¬ (((dg p).length : Int) > 64); omega)) ?_
  refine Ev.congr (fun k => if_neg (by show ¬ (((dg q).length : Int) > 64); omega)) ?_
  exact Ev.all fun _ => rfl
theorem n_New {x y : Int} {n : Nat} (hx : 0 ≤ x ∧ x < Bp n) (hy : 0 < y ∧ y < Bp n) (hn : n ≤ 64) : ∃ p q g : Int, Fr p q ∧ 0 < g ∧ x = p * g ∧ y = q * g ∧ (0 ≤ p ∧ p < Bp n) ∧ (0 ≤ q ∧ q < Bp n) ∧ Ev (fun k => ratio_New.f k (dg x) (dg y)) (dg p, dg q, 0) := by
  obtain ⟨p, q, g, F, g0, ex, ey, hp, hq, e⟩ := n_lowest hx hy hn
  have u1 := up_Bp hx hn
  have u2 := up_Bp (x := y) (m := n) (p := 64) (by omega) hn
  have l2 := dg_pos hy.1
  refine ⟨p, q, g, F, g0, ex, ey, hp, hq, ?_⟩
  refine (n_Valid u1).bind ?_
  refine Ev.congr (fun k => if_pos rfl) ?_
  refine (n_Valid u2).bind ?_
  refine Ev.succ (fun k => ?_) (e.bind (G := fun _ bt => some (bt.1, bt.2.1, bt.2.2)) (Ev.all fun _ => rfl))
  rw [ratio_New.j0, if_neg (by decide), if_neg (by omega)]
theorem n_Fr {p q : Int} (F : Fr p q) (hp : p < Bp 64) (hq : q < Bp 64) : Ev (fun k => ratio_Valid.f k (dg p) (dg q)) true := by
  have F2 := F.q0
  have F1 := F.p0
  have l2 := dg_pos F2
  have e := n_gcd (n := 64) ⟨F1, hp⟩ (show 0 ≤ q ∧ q < Bp 64 by omega) (by omega)
  rw [F.co] at e
  refine (n_Valid ⟨F1, hp⟩).bind ?_
  refine Ev.congr (fun k => if_pos rfl) ?_
  refine (n_Valid (x := q) (by omega)).bind ?_
  refine Ev.congr (fun k => if_pos rfl) ?_
  refine Ev.congr (fun k => if_pos (by omega)) ?_
  refine e.bind ?_
  exact Ev.all fun _ => rfl
theorem n_mul {x y : Int} {n : Nat} (hx : 0 ≤ x ∧ x < Bp n) (hy : 0 ≤ y ∧ y < Bp n) (hn : n < 1000000) : Ev (fun k => ratio_mul.f k (dg x) (dg y)) (dg (x * y)) := by
  have lx : (dg x).length ≤ n := (dg_len hx.1).2 hx.2
  have ly : (dg y).length ≤ n := (dg_len hy.1).2 hy.2
  have s := s_mul (dg_lb x) (dg_lb y) (by omega)
  rwa [vl_dg hx.1, vl_dg hy.1] at s
theorem n_add {x y : Int} {n : Nat} (hx : 0 ≤ x ∧ x < Bp n) (hy : 0 ≤ y ∧ y < Bp n) (hn : n < 1000000) : Ev (fun k => ratio_add.f k (dg x) (dg y)) (dg (x + y)) := by
  have lx : (dg x).length ≤ n := (dg_len hx.1).2 hx.2
  have ly : (dg y).length ≤ n := (dg_len hy.1).2 hy.2
  have s := s_add (dg_lb x) (dg_lb y) (by omega) (by omega)
  rwa [vl_dg hx.1, vl_dg hy.1] at s
section
variable {a b c d : Int} {n m : Nat} (F : Fr a b) (G : Fr c d) (ha : a < Bp n) (hb : b < Bp n) (hc : c < Bp m) (hd : d < Bp m)
include F G ha hb hc hd
end
/-- The law's own fraction. -/
theorem n_fraction {l0 l1 : List Int} (w0 : ∀ x ∈ l0, (Lit.int .u32 x).wf = true) (h0 : l0.length * 4 ≤ 140737488351232) (w1 : ∀ x ∈ l1, (Lit.int .u32 x).wf = true) (h1 : l1.length * 4 ≤ 140737488351232) {n : Nat} (hn : n ≤ 64) (n1 : 1 ≤ n) : ∃ p q : Int, Fr p q ∧ p < Bp n ∧ q < Bp n ∧ Ev (fun k => attestorlaw02_fraction.f k l0 l1 (n : Int)) (dg p, dg q, true) := by
  obtain ⟨x, hx, ex⟩ := s_nat w0 h0 n
  obtain ⟨y, hy, ey⟩ := s_nat w1 h1 n
  by_cases c : y = 0
  · have b1 := Bp_le n1
    rw [Bp_succ, Bp_zero] at b1
    obtain ⟨p, q, g, F, _, _, _, hp, hq, e⟩ := n_New (y := 1) hx (by omega) hn
    refine ⟨p, q, F, hp.2, hq.2, ?_⟩
    refine ey.bind ?_
    refine Ev.congr (fun k => if_pos (by rw [c]; rfl)) ?_
    refine ex.bind ?_
    exact e.bind (Ev.all fun _ => rfl)
  · obtain ⟨p, q, g, F, _, _, _, hp, hq, e⟩ := n_New (y := y) hx (by omega) hn
    have l2 := dg_pos (x := y) (by omega)
    refine ⟨p, q, F, hp.2, hq.2, ?_⟩
    refine ey.bind ?_
    refine Ev.congr (fun k => if_neg (by omega)) ?_
    refine ex.bind ?_
    exact e.bind (Ev.all fun _ => rfl)
end Go.Proofs.YtjjjoepnlhpjdaaDoor.Pure

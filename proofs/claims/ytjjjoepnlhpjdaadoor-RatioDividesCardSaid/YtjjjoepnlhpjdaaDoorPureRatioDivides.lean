/- Quotient and remainder make the number again: for every pair. -/
import Derived.Test.YtjjjoepnlhpjdaaDoorNat7
import Derived.Test.YtjjjoepnlhpjdaaDoorRWorks
import Derived.Test.YtjjjoepnlhpjdaaDoorQ8
namespace Go.Proofs.YtjjjoepnlhpjdaaDoor.Pure
open Go.RowKit Go.Proofs.YtjjjoepnlhpjdaaDoor.Q Go.Proofs.YtjjjoepnlhpjdaaDoor.Num Go.Proofs.YtjjjoepnlhpjdaaDoor.Pol Go.Proofs.YtjjjoepnlhpjdaaDoorW.PrintWords Go.Proofs.YtjjjoepnlhpjdaaDoorW.PrintLast Go.Proofs.YtjjjoepnlhpjdaaDoorW.PrintMore

theorem div_j {x y : Int} (hx : 0 ≤ x ∧ x < Bp 64) (hy : 0 ≤ y ∧ y < Bp 64) (h : 0 < y) : Ev (fun k => attestorlaw02_RatioDivides.j0 k (dg x) (dg y)) true := by
  have hm0 := Int.emod_nonneg x (Int.ne_of_gt h)
  have hm1 := Int.emod_lt_of_pos x h
  have hd := Int.emod_add_mul_ediv x y
  have hq0 := Int.ediv_nonneg hx.1 (Int.le_of_lt h)
  have hq1 := Int.ediv_le_self y hx.1
  have hr : 0 ≤ x % y ∧ x % y < Bp 64 := by omega
  have hq : 0 ≤ x / y ∧ x / y < Bp 64 := by omega
  rw [Int.mul_comm] at hd
  have hp0 := Int.mul_nonneg hq0 (Int.le_of_lt h)
  have hp : 0 ≤ x / y * y ∧ x / y * y < Bp 64 := by omega
  have hc := n_Compare hr hy
  rw [cmpZ_lt hm1] at hc
  have hs := n_Sum hp hr (by omega)
  rw [show x / y * y + x % y = x by omega] at hs
  refine Ev.succ (F := fun k => (ratio_Quotient.f k (dg x) (dg y)).bind fun bt => if bt.2.2 = 0 then ((ratio_Compare.f k bt.2.1 (dg y)).bind fun t430 => if t430 = -1 then ((ratio_ValidNat.f k bt.1).bind fun t431 => if t431 = true then ((ratio_ValidNat.f k bt.2.1).bind fun t432 => if t432 = true then attestorlaw02_RatioDivides.j1 k (dg x) (dg y) bt.1 bt.2.1 else none) else none) else none) else none) (fun k => by rw [attestorlaw02_RatioDivides.j0]) ?_
  refine (n_Quotient hx hy h).bind ?_
  refine Ev.congr (fun k => if_pos rfl) ?_
  refine hc.bind ?_
  refine Ev.congr (fun k => if_pos rfl) ?_
  refine (n_Valid hq).bind ?_
  refine Ev.congr (fun k => if_pos rfl) ?_
  refine (n_Valid hr).bind ?_
  refine Ev.congr (fun k => if_pos rfl) ?_
  refine Ev.succ (fun k => by show attestorlaw02_RatioDivides.j1 (k + 1) (dg x) (dg y) (dg (x / y)) (dg (x % y)) = _; rw [attestorlaw02_RatioDivides.j1]) ?_
  refine (n_Product hq hy hp.2).bind ?_
  refine hs.bind ?_
  refine Ev.congr (fun k => if_pos rfl) ?_
  refine Ev.congr (fun k => if_pos rfl) ?_
  refine (n_same x hx).bind ?_
  refine Ev.congr (fun k => if_pos rfl) ?_
  exact s_works.bind (Ev.all fun _ => rfl)
theorem RatioDivides : attestorlaw02_RatioDivides.Pure := by
  intro l0 l1 _ h0 w0 _ h1 w1
  obtain ⟨x, hx, ex⟩ := s_nat w0 h0 64
  obtain ⟨y, hy, ey⟩ := s_nat w1 h1 64
  refine Ev.ex ?_
  refine ex.bind ?_
  refine ey.bind ?_
  by_cases c : y = 0
  · refine Ev.congr (fun k => if_pos (by rw [c]; rfl)) ?_
    exact div_j (y := 1) hx (by decide +kernel) (by decide)
  · refine Ev.congr (fun k => if_neg (by have := dg_pos (x := y) (by omega); omega)) ?_
    exact div_j hx hy (by omega)
end Go.Proofs.YtjjjoepnlhpjdaaDoor.Pure

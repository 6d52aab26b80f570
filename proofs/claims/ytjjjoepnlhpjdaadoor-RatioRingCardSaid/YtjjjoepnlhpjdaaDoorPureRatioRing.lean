/- The laws of a ring: for every triple. -/
import Derived.Test.YtjjjoepnlhpjdaaDoorNat7
import Derived.Test.YtjjjoepnlhpjdaaDoorRWorks
import Derived.Test.YtjjjoepnlhpjdaaDoorQ10
namespace Go.Proofs.YtjjjoepnlhpjdaaDoor.Pure
open Go.RowKit Go.Proofs.YtjjjoepnlhpjdaaDoor.Q Go.Proofs.YtjjjoepnlhpjdaaDoor.Num Go.Proofs.YtjjjoepnlhpjdaaDoor.Pol Go.Proofs.YtjjjoepnlhpjdaaDoorW.PrintWords Go.Proofs.YtjjjoepnlhpjdaaDoorW.PrintLast Go.Proofs.YtjjjoepnlhpjdaaDoorW.PrintMore

theorem ring_j2 {x y : Int} (hx : 0 ≤ x ∧ x < Bp 20) (hy : 0 ≤ y ∧ y < Bp 20) : Ev (fun k => attestorlaw02_RatioRing.j2 k (dg x) (dg y) (dg (x * y))) true := by
  have hxy := mul_Bp hx hy (show 20 + 20 ≤ 64 by decide)
  have hx' := up_Bp hx (show 20 ≤ 64 by decide)
  have hy' := up_Bp hy (show 20 ≤ 64 by decide)
  by_cases c : y = 0
  · refine Ev.succ (fun k => ?_) s_works
    rw [attestorlaw02_RatioRing.j2, if_pos (by rw [c]; rfl)]
    cases attestorlaw02_works.f k <;> rfl
  · have hl := dg_pos (x := y) (by omega)
    have hq := n_Quotient hxy hy' (by omega)
    rw [Int.mul_ediv_cancel _ c, Int.mul_emod_left] at hq
    refine Ev.succ (fun k => ?_) (hq.bind (G := fun k bt514 => if bt514.2.2 = 0 then ((attestorlaw02_same.f k bt514.1 (dg x)).bind fun t521 => (if t521 = true then (if (bt514.2.1.length : Int) = 0 then ((attestorlaw02_works.f k).bind fun t522 => (some t522)) else (none)) else (none))) else (none)) ?_)
    · rw [attestorlaw02_RatioRing.j2, if_neg (by omega)]
    · refine Ev.congr (fun k => if_pos rfl) ?_
      refine (n_same x hx').bind ?_
      refine Ev.congr (fun k => if_pos rfl) ?_
      refine Ev.congr (fun k => if_pos rfl) ?_
      exact s_works.bind (Ev.all fun _ => rfl)
theorem ring_j1 {x y z : Int} (hx : 0 ≤ x ∧ x < Bp 20) (hy : 0 ≤ y ∧ y < Bp 20) (hz : 0 ≤ z ∧ z < Bp 20) : Ev (fun k => attestorlaw02_RatioRing.j1 k (dg x) (dg y) (dg z) (dg (x + y)) (dg (x * y))) true := by
  have hs := add_Bp hx hy (show 20 + 1 ≤ 21 by decide)
  have hsz := mul_Bp hs hz (show 21 + 20 ≤ 64 by decide)
  have hxz := mul_Bp hx hz (show 20 + 20 ≤ 40 by decide)
  have hyz := mul_Bp hy hz (show 20 + 20 ≤ 40 by decide)
  have e : x * z + y * z = (x + y) * z := by rw [Int.add_mul]
  have u1 := up_Bp hx (show 20 ≤ 64 by decide)
  have u2 := up_Bp hy (show 20 ≤ 64 by decide)
  have u3 := up_Bp hz (show 20 ≤ 64 by decide)
  have u4 := up_Bp hs (show 21 ≤ 64 by decide)
  have u5 := up_Bp hxz (show 40 ≤ 64 by decide)
  have u6 := up_Bp hyz (show 40 ≤ 64 by decide)
  have p1 := n_Product u4 u3 hsz.2
  have p2 := n_Product u1 u3 u5.2
  have p3 := n_Product u2 u3 u6.2
  have p4 := n_Sum u5 u6 (by rw [e]; exact hsz.2)
  rw [e] at p4
  refine Ev.succ (fun k => by show attestorlaw02_RatioRing.j1 (k + 1) (dg x) (dg y) (dg z) (dg (x + y)) (dg (x * y)) = _; rw [attestorlaw02_RatioRing.j1]) ?_
  refine p1.bind ?_
  refine p2.bind ?_
  refine p3.bind ?_
  refine p4.bind ?_
  refine Ev.congr (fun k => if_pos rfl) ?_
  refine Ev.congr (fun k => if_pos rfl) ?_
  refine Ev.congr (fun k => if_pos rfl) ?_
  refine Ev.congr (fun k => if_pos rfl) ?_
  refine (n_same _ hsz).bind ?_
  refine Ev.congr (fun k => if_pos rfl) ?_
  exact ring_j2 hx hy
theorem RatioRing : attestorlaw02_RatioRing.Pure := by
  intro l0 l1 l2 _ h0 w0 _ h1 w1 _ h2 w2
  obtain ⟨x, hx, ex⟩ := s_nat w0 h0 20
  obtain ⟨y, hy, ey⟩ := s_nat w1 h1 20
  obtain ⟨z, hz, ez⟩ := s_nat w2 h2 20
  have hs := add_Bp hx hy (show 20 + 1 ≤ 64 by decide)
  have hxy := mul_Bp hx hy (show 20 + 20 ≤ 64 by decide)
  have u1 := up_Bp hx (show 20 ≤ 64 by decide)
  have u2 := up_Bp hy (show 20 ≤ 64 by decide)
  have p1 := n_Sum u1 u2 hs.2
  have p2 := n_Sum u2 u1 (by omega)
  rw [Int.add_comm y x] at p2
  have p3 := n_Diff hs u2 (by omega)
  rw [show x + y - y = x by omega] at p3
  have p4 := n_Product u1 u2 hxy.2
  have p5 := n_Product u2 u1 (by rw [Int.mul_comm]; exact hxy.2)
  rw [Int.mul_comm y x] at p5
  refine Ev.ex ?_
  refine ex.bind ?_
  refine ey.bind ?_
  refine ez.bind ?_
  refine p1.bind ?_
  refine p2.bind ?_
  refine p3.bind ?_
  refine Ev.congr (fun k => if_pos rfl) ?_
  refine Ev.congr (fun k => if_pos rfl) ?_
  refine Ev.congr (fun k => if_pos rfl) ?_
  refine (n_same _ hs).bind ?_
  refine Ev.congr (fun k => if_pos rfl) ?_
  refine (n_same _ u1).bind ?_
  refine Ev.congr (fun k => if_pos rfl) ?_
  refine Ev.succ (fun k => by show attestorlaw02_RatioRing.j0 (k + 1) (dg x) (dg y) (dg z) (dg (x + y)) = _; rw [attestorlaw02_RatioRing.j0]) ?_
  refine p4.bind ?_
  refine p5.bind ?_
  refine Ev.congr (fun k => if_pos rfl) ?_
  refine Ev.congr (fun k => if_pos rfl) ?_
  refine (n_same _ hxy).bind ?_
  refine Ev.congr (fun k => if_pos rfl) ?_
  exact ring_j1 hx hy hz
end Go.Proofs.YtjjjoepnlhpjdaaDoor.Pure

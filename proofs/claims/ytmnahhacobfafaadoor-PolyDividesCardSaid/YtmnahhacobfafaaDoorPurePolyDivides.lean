/- The division theorem: a is q times b plus r, and the degree of r is less than that of b, for every input. -/
import Derived.Test.YtmnahhacobfafaaDoorSpecD
import Derived.Test.YtmnahhacobfafaaDoorSpecW
import Derived.Test.YtmnahhacobfafaaDoorQ8
namespace Go.Proofs.YtmnahhacobfafaaDoor.Pure
open Go.RowKit Go.Proofs.YtmnahhacobfafaaDoor.Q Go.Proofs.YtmnahhacobfafaaDoor.Num Go.Proofs.YtmnahhacobfafaaDoor.Pol Go.Proofs.YtmnahhacobfafaaDoorW.PrintWords Go.Proofs.YtmnahhacobfafaaDoorW.PrintLast Go.Proofs.YtmnahhacobfafaaDoorW.PrintMore

theorem field4 {x : Int} (h : (Lit.int .u8 x).wf = true) : 0 ≤ wrap64 (Int.tmod x 4) ∧ wrap64 (Int.tmod x 4) < 4 := by
  simp [Lit.wf, IntKind.min, IntKind.max, IntKind.bits, IntKind.signed] at h
  rw [tmod_nn (by omega), w64 (by omega) (by omega)]
  omega
set_option maxHeartbeats 2000000 in
theorem divides_j0 {f : Int} {p : Nat} (h : FP f p) {a b : List Int} (ha : a.length ≤ 80) (hb : b.length ≤ 80) (ua : UL a) (ub : UL b) {n : Nat} (hn : (nrm p b).length = n + 1) : Ev (fun k => attestorlaw03_PolyDivides.j0 k a b f) true := by
  obtain ⟨Q, R, h1, h2, h3⟩ := s_Divide h (a := a) (b := b) (by omega) (by omega) ua ub hn
  have lQ := nrm_length_le p Q
  have lb := nrm_length_le p b
  have lR := nrm_deg h.pos h2.deg
  have sM := s_MulP h (a := nrm p Q) (b := b) (by omega) (by omega) (nrm_UL h Q) ub (by rw [nrm_nrm]; omega)
  have eM : nrm p (pmul (nrm p Q) b) = nrm p (pmul Q b) := nrm_congr (nrm_eqp p Q).pmul_left
  rw [eM] at sM
  have sD1 := s_Degree h (l := nrm p R) (by omega) (nrm_UL h R)
  rw [nrm_nrm] at sD1
  have sD2 := s_Degree h (l := b) (by omega) ub
  have lM : (nrm p (pmul Q b)).length ≤ 1000 := nrm_deg h.pos ((Deg.pmul (n := n) (hn ▸ Deg.of_nrm) (Deg.len p Q)).mono (by omega))
  have sA := s_AddP h (a := nrm p (pmul Q b)) (b := nrm p R) (by omega) (by omega) (nrm_UL h _) (nrm_UL h _)
  have eA : nrm p (padd (nrm p (pmul Q b)) (nrm p R)) = nrm p a := nrm_congr (((nrm_eqp p _).padd (nrm_eqp p R)).trans h2.eq)
  rw [eA] at sA
  have sN := s_Normal h (l := a) (by omega) ua
  have lA := nrm_length_le p a
  have w0 := s_works.bind (G := fun _ t485 => some t485) (Ev.all fun _ => rfl)
  have w1 := (s_same (l := nrm p a) (by omega)).bind (G := fun k t484 => (if t484 = true then ((attestorlaw03_works.f k).bind fun t485 => (some t485)) else (none))) (Ev.congr (fun k => if_pos rfl) w0)
  have w2 := sN.bind (G := fun k t481 => (attestorlaw03_same.f k (nrm p a) t481).bind fun t484 => (if t484 = true then ((attestorlaw03_works.f k).bind fun t485 => (some t485)) else (none))) w1
  have w3 := sA.bind (G := fun k t478 => (poly_Normal.f k f a).bind fun t481 => (attestorlaw03_same.f k t478 t481).bind fun t484 => (if t484 = true then ((attestorlaw03_works.f k).bind fun t485 => (some t485)) else (none))) w2
  have w4 := sD2.bind (G := fun k t477 => (if (((nrm p R).length : Int) - 1) < t477 then ((poly_Add.f k f (nrm p (pmul Q b)) (nrm p R)).bind fun t478 => ((poly_Normal.f k f a).bind fun t481 => ((attestorlaw03_same.f k t478 t481).bind fun t484 => (if t484 = true then ((attestorlaw03_works.f k).bind fun t485 => (some t485)) else (none))))) else (none))) (Ev.congr (fun k => if_pos (by omega)) w3)
  have w5 := sD1.bind (G := fun k t476 => (poly_Degree.f k f b).bind fun t477 => (if t476 < t477 then ((poly_Add.f k f (nrm p (pmul Q b)) (nrm p R)).bind fun t478 => ((poly_Normal.f k f a).bind fun t481 => ((attestorlaw03_same.f k t478 t481).bind fun t484 => (if t484 = true then ((attestorlaw03_works.f k).bind fun t485 => (some t485)) else (none))))) else (none))) w4
  have w6 := sM.bind (G := fun k bt472 => (if (0 : Int) = 0 then (if bt472.2 = 0 then ((poly_Degree.f k f (nrm p R)).bind fun t476 => ((poly_Degree.f k f b).bind fun t477 => (if t476 < t477 then ((poly_Add.f k f bt472.1 (nrm p R)).bind fun t478 => ((poly_Normal.f k f a).bind fun t481 => ((attestorlaw03_same.f k t478 t481).bind fun t484 => (if t484 = true then ((attestorlaw03_works.f k).bind fun t485 => (some t485)) else (none))))) else (none)))) else (none)) else (none))) (Ev.congr (fun k => by rw [if_pos rfl, if_pos rfl]) w5)
  have w7 := h1.bind (G := fun k bt465 => (poly_Mul.f k f bt465.1 b).bind fun bt472 => (if bt465.2.2 = 0 then (if bt472.2 = 0 then ((poly_Degree.f k f bt465.2.1).bind fun t476 => ((poly_Degree.f k f b).bind fun t477 => (if t476 < t477 then ((poly_Add.f k f bt472.1 bt465.2.1).bind fun t478 => ((poly_Normal.f k f a).bind fun t481 => ((attestorlaw03_same.f k t478 t481).bind fun t484 => (if t484 = true then ((attestorlaw03_works.f k).bind fun t485 => (some t485)) else (none))))) else (none)))) else (none)) else (none))) w6
  refine Ev.succ (fun k => ?_) w7
  rw [attestorlaw03_PolyDivides.j0]

theorem PolyDivides : attestorlaw03_PolyDivides.Pure := by
  intro x l1 l2 hx _ hy1 hw1 _ hy2 hw2
  obtain ⟨f, hf⟩ : ∃ f, f = wrap64 (Int.tmod x 4) := ⟨_, rfl⟩
  have hf4 := field4 hx
  rw [← hf] at hf4
  obtain ⟨p, h⟩ := fp_of hf4.1 hf4.2
  have u1 : UL (l1.take 80) := (UL.of_wf hw1).take 80
  have u2 : UL (l2.take 80) := (UL.of_wf hw2).take 80
  have n1 : (l1.take 80).length ≤ 80 := by rw [List.length_take]; omega
  have n2 : (l2.take 80).length ≤ 80 := by rw [List.length_take]; omega
  have o1 := s_own hy1 80
  have o2 := s_own hy2 80
  refine Ev.ex (F := fun k => attestorlaw03_PolyDivides.f k x l1 l2) ?_
  have sD := s_Degree h (l := l2.take 80) (by omega) u2
  have key := sD.bind (G := fun k t461 => (if t461 < 0 then (attestorlaw03_PolyDivides.j0 k (l1.take 80) (([1] : List Int)) f) else (attestorlaw03_PolyDivides.j0 k (l1.take 80) (l2.take 80) f))) (b := true) (by
    by_cases hz : (nrm p (l2.take 80)).length = 0
    · have u3 : UL [1] := UL.cons (by unfold U; omega) UL.nil
      have e3 : (nrm p [1]).length = 0 + 1 := by rw [nrm_one h]; rfl
      exact Ev.congr (fun k => if_pos (by omega)) (divides_j0 h n1 (by simp) u1 u3 e3)
    · obtain ⟨n, hn⟩ : ∃ n, (nrm p (l2.take 80)).length = n + 1 := ⟨_, (Nat.succ_pred_eq_of_ne_zero hz).symm⟩
      exact Ev.congr (fun k => if_neg (by omega)) (divides_j0 h n1 n2 u1 u2 hn))
  refine Ev.congr (fun k => ?_) key
  rw [attestorlaw03_PolyDivides.f, show (80 : Int) = ((80 : Nat) : Int) from rfl, o1, Option.bind_some, o2, Option.bind_some, ← hf]
end Go.Proofs.YtmnahhacobfafaaDoor.Pure

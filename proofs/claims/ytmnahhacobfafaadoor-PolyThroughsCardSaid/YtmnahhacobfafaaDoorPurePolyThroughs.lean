/- Through and Vanish return what the chapter specifies: the program's answers are the reference's, for every input. -/
import Derived.Test.YtmnahhacobfafaaDoorSpecT
import Derived.Test.YtmnahhacobfafaaDoorSpecW
import Derived.Test.YtmnahhacobfafaaDoorQ7
namespace Go.Proofs.YtmnahhacobfafaaDoor.Pure
open Go.RowKit Go.Proofs.YtmnahhacobfafaaDoor.Q Go.Proofs.YtmnahhacobfafaaDoor.Num Go.Proofs.YtmnahhacobfafaaDoor.Pol Go.Proofs.YtmnahhacobfafaaDoorW.PrintWords Go.Proofs.YtmnahhacobfafaaDoorW.PrintLast Go.Proofs.YtmnahhacobfafaaDoorW.PrintMore

theorem both_through (f : Int) {xs ys : List Int} (ux : UL xs) (uy : UL ys) (hx : xs.length ≤ 1024) : ∃ (r : List Int) (e : Int), r.length ≤ 1024 ∧ Ev (fun k => poly_Through.f k f xs ys) (r, e) ∧ Ev (fun k => attestorref03_Through.f k f xs ys) (r, e) := by
  rcases fp_or f with ⟨p, h⟩ | h
  · by_cases hl : xs.length = ys.length
    · by_cases ha : Apart p xs
      · obtain ⟨R, h1, h2⟩ := s_Through h ux uy hl hx ha
        obtain ⟨R', h3, h4⟩ := r_Through h ux uy hl hx ha
        rw [interp_same h ha h4 h2] at h3
        exact ⟨nrm p R, 0, by have := nrm_deg h.pos h2.1; omega, h1, h3⟩
      · exact ⟨[], 6, by simp, s_Through_dup h ux hl hx ha, r_Through_dup h ux hl hx ha⟩
    · refine ⟨[], 1, by simp, Ev.all fun k => ?_, Ev.succ (F := fun _ => some ([], 1)) (fun k => ?_) (Ev.all fun _ => rfl)⟩
      · rw [poly_Through.f, s_Valid h, Option.bind_some, if_neg (by simp [hl])]
      · have e : ((xs.length : Int) != (ys.length : Int)) = true := by simp; omega
        rw [attestorref03_Through.f, r_Valid h, Option.bind_some, if_pos rfl, e, attestorref03_Through.j0, if_pos rfl]
  · refine ⟨[], 1, by simp, Ev.all fun k => ?_, Ev.succ (F := fun _ => some ([], 1)) (fun k => ?_) (Ev.all fun _ => rfl)⟩
    · rw [poly_Through.f, b_Valid h, Option.bind_some, if_neg (by simp)]
    · rw [attestorref03_Through.f, br_Valid h, Option.bind_some, if_neg (by simp), attestorref03_Through.j0, if_pos rfl]
theorem both_vanish (f : Int) {xs : List Int} (ux : UL xs) (hx : xs.length ≤ 1024) : ∃ (r : List Int) (e : Int), r.length ≤ 1025 ∧ Ev (fun k => poly_Vanish.f k f xs) (r, e) ∧ Ev (fun k => attestorref03_Vanish.f k f xs) (r, e) := by
  rcases fp_or f with ⟨p, h⟩ | h
  · refine ⟨_, 0, ?_, s_Vanish h hx ux, r_Vanish h hx ux⟩
    have := (Mon.one.van xs).length (p := p) h.one
    omega
  · refine ⟨[], 1, by simp, Ev.all fun k => ?_, Ev.all fun k => ?_⟩
    · rw [poly_Vanish.f, b_Valid h, Option.bind_some, if_neg (by simp)]
    · rw [attestorref03_Vanish.f, br_Valid h, Option.bind_some, if_neg (by simp)]

theorem PolyThroughs : attestorlaw03_PolyThroughs.Pure := by
  intro f l1 l2 _ _ hy1 hw1 _ hy2 hw2
  have u1 : UL (l1.take 24) := (UL.of_wf hw1).take 24
  have u2 : UL (l2.take 24) := (UL.of_wf hw2).take 24
  have n1 : (l1.take 24).length ≤ 24 := by rw [List.length_take]; omega
  obtain ⟨r, e, hr, h1, h2⟩ := both_through f u1 u2 (by omega)
  obtain ⟨v, g, hv, h3, h4⟩ := both_vanish f u1 (by omega)
  have o1 := s_own hy1 24
  have o2 := s_own hy2 24
  refine Ev.ex (F := fun k => attestorlaw03_PolyThroughs.f k f l1 l2) ?_
  have w0 := s_works.bind (G := fun _ t454 => some t454) (Ev.all fun _ => rfl)
  have w1 := (r_Same (l := v) (by omega)).bind (G := fun k t453 => (if t453 = true then ((attestorlaw03_works.f k).bind fun t454 => (some t454)) else (none))) (Ev.congr (fun k => if_pos rfl) w0)
  have w2 := (r_Same (l := r) (by omega)).bind (G := fun k t452 => (if t452 = true then (if g = g then ((attestorref01_Same.f k v v).bind fun t453 => (if t453 = true then ((attestorlaw03_works.f k).bind fun t454 => (some t454)) else (none))) else (none)) else (none))) (Ev.congr (fun k => by rw [if_pos rfl, if_pos rfl]) w1)
  have w3 := h4.bind (G := fun k bt448 => (if e = e then ((attestorref01_Same.f k r r).bind fun t452 => (if t452 = true then (if g = bt448.2 then ((attestorref01_Same.f k v bt448.1).bind fun t453 => (if t453 = true then ((attestorlaw03_works.f k).bind fun t454 => (some t454)) else (none))) else (none)) else (none))) else (none))) (Ev.congr (fun k => if_pos rfl) w2)
  have w4 := h3.bind (G := fun k bt444 => (attestorref03_Vanish.f k f (l1.take 24)).bind fun bt448 => (if e = e then ((attestorref01_Same.f k r r).bind fun t452 => (if t452 = true then (if bt444.2 = bt448.2 then ((attestorref01_Same.f k bt444.1 bt448.1).bind fun t453 => (if t453 = true then ((attestorlaw03_works.f k).bind fun t454 => (some t454)) else (none))) else (none)) else (none))) else (none))) w3
  have w5 := h2.bind (G := fun k bt440 => (poly_Vanish.f k f (l1.take 24)).bind fun bt444 => (attestorref03_Vanish.f k f (l1.take 24)).bind fun bt448 => (if e = bt440.2 then ((attestorref01_Same.f k r bt440.1).bind fun t452 => (if t452 = true then (if bt444.2 = bt448.2 then ((attestorref01_Same.f k bt444.1 bt448.1).bind fun t453 => (if t453 = true then ((attestorlaw03_works.f k).bind fun t454 => (some t454)) else (none))) else (none)) else (none))) else (none))) w4
  have w6 := h1.bind (G := fun k bt436 => (attestorref03_Through.f k f (l1.take 24) (l2.take 24)).bind fun bt440 => (poly_Vanish.f k f (l1.take 24)).bind fun bt444 => (attestorref03_Vanish.f k f (l1.take 24)).bind fun bt448 => (if bt436.2 = bt440.2 then ((attestorref01_Same.f k bt436.1 bt440.1).bind fun t452 => (if t452 = true then (if bt444.2 = bt448.2 then ((attestorref01_Same.f k bt444.1 bt448.1).bind fun t453 => (if t453 = true then ((attestorlaw03_works.f k).bind fun t454 => (some t454)) else (none))) else (none)) else (none))) else (none))) w5
  refine Ev.congr (fun k => ?_) w6
  rw [attestorlaw03_PolyThroughs.f, show (24 : Int) = ((24 : Nat) : Int) from rfl, o1, Option.bind_some, o2, Option.bind_some]
end Go.Proofs.YtmnahhacobfafaaDoor.Pure

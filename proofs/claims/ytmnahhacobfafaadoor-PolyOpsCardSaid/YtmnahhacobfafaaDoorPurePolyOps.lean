/- The operations on polynomials return what the chapter specifies: the program's answers are the reference's, for every input. -/
import Derived.Test.YtmnahhacobfafaaDoorSpecD
import Derived.Test.YtmnahhacobfafaaDoorSpecU
import Derived.Test.YtmnahhacobfafaaDoorSpecUR
import Derived.Test.YtmnahhacobfafaaDoorSpecW
import Derived.Test.YtmnahhacobfafaaDoorQ12
namespace Go.Proofs.YtmnahhacobfafaaDoor.Pure
open Go.RowKit Go.Proofs.YtmnahhacobfafaaDoor.Q Go.Proofs.YtmnahhacobfafaaDoor.Num Go.Proofs.YtmnahhacobfafaaDoor.Pol Go.Proofs.YtmnahhacobfafaaDoorW.PrintWords Go.Proofs.YtmnahhacobfafaaDoorW.PrintLast Go.Proofs.YtmnahhacobfafaaDoorW.PrintMore

theorem both_mul (f : Int) {a b : List Int} (ua : UL a) (ub : UL b) (ha : a.length ≤ 60) (hb : b.length ≤ 60) : ∃ (r : List Int) (e : Int), r.length ≤ 1000 ∧ Ev (fun k => poly_Mul.f k f a b) (r, e) ∧ Ev (fun k => attestorref03_Mul.f k f a b) (r, e) := by
  rcases fp_or f with ⟨p, h⟩ | h
  · have la := nrm_length_le p a
    have lb := nrm_length_le p b
    refine ⟨_, _, ?_, s_MulP h (a := a) (b := b) (by omega) (by omega) ua ub (by omega), r_MulP h (a := a) (b := b) (by omega) (by omega) ua ub (by omega)⟩
    have := nrm_deg h.pos ((Deg.pmul (n := b.length) ((Deg.len p b).mono (by omega)) (Deg.len p a)))
    omega
  · refine ⟨[], 1, by simp, Ev.all fun k => ?_, Ev.all fun k => ?_⟩
    · rw [poly_Mul.f, b_Valid h, Option.bind_some, if_neg (by decide)]
    · rw [attestorref03_Mul.f, br_Valid h, Option.bind_some, if_neg (by decide)]
theorem both_divide (f : Int) {a b : List Int} (ua : UL a) (ub : UL b) (ha : a.length ≤ 60) (hb : b.length ≤ 60) : ∃ (q r : List Int) (e : Int), q.length ≤ 1000 ∧ r.length ≤ 1000 ∧ Ev (fun k => poly_Divide.f k f a b) (q, r, e) ∧ Ev (fun k => attestorref03_Divide.f k f a b) (q, r, e) := by
  rcases fp_or f with ⟨p, h⟩ | h
  · have lb := nrm_length_le p b
    by_cases hz : (nrm p b).length = 0
    · obtain ⟨K1, h1⟩ := Ev.get (s_Normal h.o (l := b) (by omega) ub)
      obtain ⟨K2, h2⟩ := Ev.get (r_Normal h.o (l := b) (by omega) ub)
      have hz' : ((nrm p b).length : Int) = 0 := by omega
      refine ⟨[], [], 2, by simp, by simp, Ev.mk K1 fun k hk => ?_, Ev.mk K2 fun k hk => ?_⟩
      · rw [poly_Divide.f, s_Valid h, Option.bind_some, if_pos rfl, h1 k hk, Option.bind_some, if_pos hz']
      · rw [attestorref03_Divide.f, r_Valid h, Option.bind_some, if_pos rfl, h2 k hk, Option.bind_some, if_pos hz']
    · obtain ⟨n, hn⟩ : ∃ n, (nrm p b).length = n + 1 := ⟨_, (Nat.succ_pred_eq_of_ne_zero hz).symm⟩
      obtain ⟨Q, R, h1, h2, h3⟩ := s_Divide h (a := a) (b := b) (by omega) (by omega) ua ub hn
      obtain ⟨Q', R', g1, g2, g3⟩ := r_Divide h (a := a) (b := b) (by omega) (by omega) ua ub hn
      have hlead : ¬ Cg p (co b n) 0 := fun c => by
        have c2 : Cg p (co (nrm p b) n) 0 := (nrm_eqp p b n).trans c
        have r2 := nrm_rg h.pos b n
        exact (nrm_nf h.pos b).lz n hn (c2.uniq r2.1 r2.2 (Int.le_refl _) h.pos)
      have hdb : Deg p b (n + 1) := by have := (Deg.of_nrm (p := (p : Int)) (l := b)); rw [hn] at this; exact this
      obtain ⟨e1, e2⟩ := div_uniq h.pr hdb hlead g2.deg h2.deg (g2.eq.trans h2.eq.symm)
      rw [nrm_congr e1, nrm_congr e2] at g1
      have lQ := nrm_length_le p Q
      have lR := nrm_deg h.pos h2.deg
      exact ⟨_, _, _, by omega, by omega, h1, g1⟩
  · refine ⟨[], [], 1, by simp, by simp, Ev.all fun k => ?_, Ev.all fun k => ?_⟩
    · rw [poly_Divide.f, b_Valid h, Option.bind_some, if_neg (by decide)]
    · rw [attestorref03_Divide.f, br_Valid h, Option.bind_some, if_neg (by decide)]
theorem fo_of (f : Int) : ∃ p, FO f p := by
  rcases fp_or f with ⟨p, h⟩ | h
  · exact ⟨p, h.o⟩
  · exact ⟨1, bad_o h⟩

set_option maxHeartbeats 1000000 in
theorem PolyOps (f : Int) (l1 l2 : List Int) (s x : Int) (hy1 : l1.length * 8 ≤ 140737488351232) (hw1 : ∀ x ∈ l1, (Lit.int .u64 x).wf = true) (hy2 : l2.length * 8 ≤ 140737488351232) (hw2 : ∀ x ∈ l2, (Lit.int .u64 x).wf = true) (hs : (Lit.int .u64 s).wf = true) (hx : (Lit.int .u64 x).wf = true) :
    ∃ k, attestorlaw03_PolyOps.f k f l1 l2 s x = some true := by
  have hs := (U.of_wf hs).1
  have hx := (U.of_wf hx).1
  obtain ⟨a, ha⟩ : ∃ a, a = l1.take 60 := ⟨_, rfl⟩
  obtain ⟨b, hb⟩ : ∃ b, b = l2.take 60 := ⟨_, rfl⟩
  have ua : UL a := ha ▸ (UL.of_wf hw1).take 60
  have ub : UL b := hb ▸ (UL.of_wf hw2).take 60
  have na : a.length ≤ 60 := by rw [ha, List.length_take]; omega
  have nb : b.length ≤ 60 := by rw [hb, List.length_take]; omega
  have o1 := s_own hy1 60
  have o2 := s_own hy2 60
  rw [← ha] at o1
  rw [← hb] at o2
  obtain ⟨p, h⟩ := fo_of f
  have n1 := nrm_length_le p a
  have n2 := nrm_length_le p (padd a b)
  have n3 := nrm_length_le p (psub a b)
  have n4 := nrm_length_le p (psc s a)
  have n5 := nrm_length_le p (shf s a)
  rw [padd_length] at n2
  rw [psub, padd_length, psc, List.length_map, ← psc, ← psub] at n3
  rw [psc, List.length_map, ← psc] at n4
  rw [shf_length] at n5
  obtain ⟨mr, me, nm, m1, m2⟩ := both_mul f ua ub na nb
  obtain ⟨dq, dr, de, nq, nr, d1, d2⟩ := both_divide f ua ub na nb
  obtain ⟨K1, k1⟩ := Ev.get (s_Normal h (l := a) (by omega) ua)
  obtain ⟨K2, k2⟩ := Ev.get (r_Normal h (l := a) (by omega) ua)
  obtain ⟨K3, k3⟩ := Ev.get (r_Same (l := nrm p a) (by omega))
  obtain ⟨K4, k4⟩ := Ev.get (s_Degree h (l := a) (by omega) ua)
  obtain ⟨K5, k5⟩ := Ev.get (r_Degree h (l := a) (by omega) ua)
  obtain ⟨K6, k6⟩ := Ev.get (s_AddP h (a := a) (b := b) (by omega) (by omega) ua ub)
  obtain ⟨K7, k7⟩ := Ev.get (r_AddP h (a := a) (b := b) (by omega) (by omega) ua ub)
  obtain ⟨K8, k8⟩ := Ev.get (r_Same (l := nrm p (padd a b)) (by omega))
  obtain ⟨K9, k9⟩ := Ev.get (s_SubP h (a := a) (b := b) (by omega) (by omega) ua ub)
  obtain ⟨L1, j1⟩ := Ev.get (r_SubP h (a := a) (b := b) (by omega) (by omega) ua ub)
  obtain ⟨L2, j2⟩ := Ev.get (r_Same (l := nrm p (psub a b)) (by omega))
  obtain ⟨L3, j3⟩ := Ev.get (s_Scale h (l := a) (by omega) ua hs)
  obtain ⟨L4, j4⟩ := Ev.get (r_Scale h (l := a) (by omega) ua hs)
  obtain ⟨L5, j5⟩ := Ev.get (r_Same (l := nrm p (psc s a)) (by omega))
  obtain ⟨L6, j6⟩ := Ev.get (s_Eval h (l := a) (by omega) ua hx)
  obtain ⟨L7, j7⟩ := Ev.get (r_Eval h (l := a) (by omega) ua hx)
  obtain ⟨L8, j8⟩ := Ev.get (s_Shift h (l := a) (by omega) ua hs)
  obtain ⟨L9, j9⟩ := Ev.get (r_Shift h (l := a) (by omega) ua hs)
  obtain ⟨M1, i1⟩ := Ev.get (r_Same (l := nrm p (shf s a)) (by omega))
  obtain ⟨M2, i2⟩ := Ev.get m1
  obtain ⟨M3, i3⟩ := Ev.get m2
  obtain ⟨M4, i4⟩ := Ev.get (r_Same (l := mr) (by omega))
  obtain ⟨M5, i5⟩ := Ev.get d1
  obtain ⟨M6, i6⟩ := Ev.get d2
  obtain ⟨M7, i7⟩ := Ev.get (r_Same (l := dq) (by omega))
  obtain ⟨M8, i8⟩ := Ev.get (r_Same (l := dr) (by omega))
  obtain ⟨M9, i9⟩ := Ev.get (r_Same (l := a) (by omega))
  obtain ⟨N1, g1⟩ := Ev.get (r_Same (l := b) (by omega))
  obtain ⟨N2, g2⟩ := Ev.get s_works
  have J2 : Ev (fun k => attestorlaw03_PolyOps.j2 k a b a b f l1 l2 s x) true := by
    refine Ev.mks (M5 + M6 + M7 + M8 + M9 + N1 + N2) fun k hk => ?_
    rw [attestorlaw03_PolyOps.j2, i5 k (by omega), Option.bind_some, i6 k (by omega), Option.bind_some, if_pos rfl, i7 k (by omega), Option.bind_some, if_pos rfl, i8 k (by omega), Option.bind_some, if_pos rfl, i9 k (by omega), Option.bind_some, if_pos rfl, g1 k (by omega), Option.bind_some, if_pos rfl, g2 k (by omega), Option.bind_some]
  obtain ⟨N3, g3⟩ := Ev.get J2
  have J1 : Ev (fun k => attestorlaw03_PolyOps.j1 k a b a b f l1 l2 s x) true := by
    refine Ev.mks (M2 + M3 + M4 + N3) fun k hk => ?_
    rw [attestorlaw03_PolyOps.j1, i2 k (by omega), Option.bind_some, i3 k (by omega), Option.bind_some, if_pos rfl, i4 k (by omega), Option.bind_some, if_pos rfl, g3 k (by omega)]
  obtain ⟨N4, g4⟩ := Ev.get J1
  have J0 : Ev (fun k => attestorlaw03_PolyOps.j0 k a b a b f l1 l2 s x) true := by
    refine Ev.mks (L3 + L4 + L5 + L6 + L7 + L8 + L9 + M1 + N4) fun k hk => ?_
    rw [attestorlaw03_PolyOps.j0, j3 k (by omega), Option.bind_some, j4 k (by omega), Option.bind_some, j5 k (by omega), Option.bind_some, if_pos rfl, j6 k (by omega), Option.bind_some, j7 k (by omega), Option.bind_some, if_pos rfl, j8 k (by omega), Option.bind_some, j9 k (by omega), Option.bind_some, i1 k (by omega), Option.bind_some, if_pos rfl, g4 k (by omega)]
  obtain ⟨N5, g5⟩ := Ev.get J0
  refine Ev.ex (F := fun k => attestorlaw03_PolyOps.f k f l1 l2 s x) (Ev.mk (K1 + K2 + K3 + K4 + K5 + K6 + K7 + K8 + K9 + L1 + L2 + N5) fun k hk => ?_)
  rw [attestorlaw03_PolyOps.f, show (60 : Int) = ((60 : Nat) : Int) from rfl, o1, Option.bind_some, o2, Option.bind_some, Option.bind_some, Option.bind_some, k1 k (by omega), Option.bind_some, k2 k (by omega), Option.bind_some, k3 k (by omega), Option.bind_some, if_pos rfl, k4 k (by omega), Option.bind_some, k5 k (by omega), Option.bind_some, if_pos rfl, k6 k (by omega), Option.bind_some, k7 k (by omega), Option.bind_some, k8 k (by omega), Option.bind_some, if_pos rfl, k9 k (by omega), Option.bind_some, j1 k (by omega), Option.bind_some, j2 k (by omega), Option.bind_some, if_pos rfl, g5 k (by omega)]
end Go.Proofs.YtmnahhacobfafaaDoor.Pure

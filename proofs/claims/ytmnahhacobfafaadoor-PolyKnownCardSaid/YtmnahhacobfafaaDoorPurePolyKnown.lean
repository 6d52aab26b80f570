/- The examples and limits of the chapter. -/
import Derived.Test.YtmnahhacobfafaaDoorSpecs
import Derived.KernelRfl
import Derived.Test.YtmnahhacobfafaaDoorQ3
namespace Go.Proofs.YtmnahhacobfafaaDoor.Pure
open Go.RowKit Go.Proofs.YtmnahhacobfafaaDoor.Q Go.Proofs.YtmnahhacobfafaaDoor.Num Go.Proofs.YtmnahhacobfafaaDoor.Pol Go.Proofs.YtmnahhacobfafaaDoorW.PrintWords Go.Proofs.YtmnahhacobfafaaDoorW.PrintLast Go.Proofs.YtmnahhacobfafaaDoorW.PrintMore

theorem long_co (N : Nat) (hN : 0 < N) : co ((List.replicate N 0).set (N - 1) 1) (N - 1) = 1 := co_set_same (by rw [List.length_replicate]; omega) 1
theorem long_top {p : Nat} {N : Nat} (hN : 0 < N) (h5 : (5 : Int) < p) : co (nrm p (pmul ((List.replicate N 0).set (N - 1) 1) [5, 0])) (N - 1) = 5 := by
  have hd : Deg p ((List.replicate N 0).set (N - 1) 1) (N - 1 + 1) := (Deg.len p _).mono (by rw [List.length_set, List.length_replicate]; omega)
  have hb : Deg p [5, 0] (0 + 1) := fun i hi => by
    rcases i with _ | _ | i
    · omega
    · exact Cg.refl _ _
    · rw [co_over (by simp)]; exact Cg.refl _ _
  have c := co_pmul_top hb hd
  rw [Nat.add_zero, long_co N hN] at c
  rw [nrm_co]
  have e : (1 : Int) * co [5, 0] 0 = 5 := rfl
  rw [e] at c
  rw [c.mod_eq]
  exact Int.emod_eq_of_lt (by omega) h5
section good
variable {f : Int} {p : Nat} (h : FP f p)
include h
theorem s_Mul_limit {a b : List Int} (ha : a.length ≤ 1000000) (hb : b.length ≤ 1000000) (ua : UL a) (ub : UL b) (h1 : 0 < (nrm p a).length) (h2 : 0 < (nrm p b).length) (hlim : 32769 < (nrm p a).length + (nrm p b).length) : Ev (fun k => poly_Mul.f k f a b) ([], 3) := by
  have n1 := nrm_length_le p a
  have n2 := nrm_length_le p b
  obtain ⟨K1, k1⟩ := Ev.get (s_Normal h.o ha ua)
  obtain ⟨K2, k2⟩ := Ev.get (s_Normal h.o hb ub)
  have e : wrap64 (wrap64 (((nrm p a).length : Int) + ((nrm p b).length : Int)) - 1) > 32768 := by
    rw [w64 (n := ((nrm p a).length : Int) + ((nrm p b).length : Int)) (by omega) (by omega), w64 (by omega) (by omega)]; omega
  have e2 : (((nrm p b).length : Int) == 0) = false := beq_eq_false_iff_ne.mpr (by omega)
  refine Ev.mk (K1 + K2 + 1) fun k hk => ?_
  rw [poly_Mul.f, s_Valid h, Option.bind_some, if_pos rfl, k1 k (by omega), Option.bind_some, k2 k (by omega), Option.bind_some, if_neg (by omega), e2]
  obtain ⟨k, rfl⟩ : ∃ k', k = k' + 1 := ⟨k - 1, by omega⟩
  rw [poly_Mul.j0, if_neg (by decide), if_pos e]
theorem long_len {N : Nat} (hN : 0 < N) : (nrm p ((List.replicate N 0).set (N - 1) 1)).length = N := by
  have hd : Deg p ((List.replicate N 0).set (N - 1) 1) (N - 1 + 1) := (Deg.len p _).mono (by rw [List.length_set, List.length_replicate]; omega)
  have := nrm_length_eq h.pos hd (by rw [long_co N hN]; exact one_not_zero h)
  omega
theorem five_len (h5 : (5 : Int) < p) : (nrm p [5, 0]).length = 0 + 1 := by
  refine nrm_length_eq h.pos (n := 0) (fun i hi => ?_) (fun c => ?_)
  · rcases i with _ | _ | i
    · omega
    · exact Cg.refl _ _
    · rw [co_over (by simp)]; exact Cg.refl _ _
  · have := Cg.uniq (a := 5) (b := 0) c (by omega) h5 (by omega) h.pos
    omega
theorem zero_one_len : (nrm p [0, 1]).length = 1 + 1 := by
  refine nrm_length_eq h.pos (n := 1) (fun i hi => ?_) (fun c => one_not_zero h c)
  rw [co_over (by simpa using hi)]; exact Cg.refl _ _
end good
theorem long_ul (N : Nat) : UL ((List.replicate N 0).set (N - 1) 1) := (UL.replicate N).set (by unfold U; omega) _
theorem ul2 {a b : Int} (ha : U a) (hb : U b) : UL [a, b] := UL.cons ha (UL.cons hb UL.nil)

theorem known_j1 : Ev (fun k => attestorlaw03_PolyKnown.j1 k) true := by
  obtain ⟨p, h⟩ := fp_of (f := 3) (by omega) (by omega)
  have hp : (998244353 : Int) = p := h.eq
  obtain ⟨N, hN⟩ : ∃ N : Nat, N = 32768 := ⟨_, rfl⟩
  obtain ⟨y, hy⟩ : ∃ y, y = (List.replicate N (0 : Int)).set (N - 1) 1 := ⟨_, rfl⟩
  have ly : y.length = N := by rw [hy, List.length_set, List.length_replicate]
  have uy : UL y := hy ▸ long_ul N
  have ny : (nrm p y).length = N := by rw [hy]; exact long_len h (by omega)
  have n5 := five_len h (by omega)
  have n01 := zero_one_len h
  have nm : (nrm p (pmul y [5, 0])).length = N := by
    have := nrm_pmul_length h.pr (m := N - 1) (n := 0) (a := y) (b := [5, 0]) (by omega) n5
    omega
  have tm : co (nrm p (pmul y [5, 0])) (N - 1) = 5 := by rw [hy]; exact long_top (by omega) (by omega)
  obtain ⟨K1, k1⟩ := Ev.get (s_Mul_limit h (a := y) (b := [0, 1]) (by omega) (by simp) uy (ul2 U.zero (by unfold U; omega)) (by omega) (by omega) (by omega))
  obtain ⟨K2, k2⟩ := Ev.get (s_MulP h (a := y) (b := [5, 0]) (by omega) (by simp) uy (ul2 (by unfold U; omega) U.zero) (by omega))
  obtain ⟨K3, k3⟩ := Ev.get (Ev.of_mono (F := fun k => poly_Split.f k 0 [] 65) (poly_Split.mono _ _ _) (K := 80) (v := []) (by decide +kernel))
  obtain ⟨K4, k4⟩ := Ev.get (Ev.of_mono (F := fun k => poly_Split.f k 0 [] 0) (poly_Split.mono _ _ _) (K := 80) (v := []) (by decide +kernel))
  obtain ⟨K5, k5⟩ := Ev.get (Ev.of_mono (F := fun k => poly_Split.f k 0 [] 64) (poly_Split.mono _ _ _) (K := 80) (v := List.replicate 64 []) (by decide +kernel))
  obtain ⟨K6, k6⟩ := Ev.get (Ev.of_mono (F := fun k => poly_Join.f k 0 (List.replicate 65 [])) (poly_Join.mono _ _) (K := 80) (v := []) (by decide +kernel))
  obtain ⟨K7, k7⟩ := Ev.get (Ev.of_mono (F := fun k => poly_Degree.f k 9 [1]) (poly_Degree.mono _ _) (K := 80) (v := -1) (by decide +kernel))
  obtain ⟨K8, k8⟩ := Ev.get (Ev.of_mono (F := fun k => poly_Eval.f k 9 [1] 1) (poly_Eval.mono _ _ _) (K := 80) (v := 0) (by decide +kernel))
  obtain ⟨K9, k9⟩ := Ev.get s_works
  refine Ev.mks (K1 + K2 + K3 + K4 + K5 + K6 + K7 + K8 + K9) fun k hk => ?_
  have e1 : (32767 : Int).toNat = N - 1 := by rw [hN]; rfl
  have g1 : (32767 : Int) < ((List.replicate 32768 (0 : Int)).length : Int) := by rw [List.length_replicate]; decide
  have g2 : ((nrm p (pmul y [5, 0])).length : Int) = 32768 := by omega
  have g3 : (32767 : Int) < ((nrm p (pmul y [5, 0])).length : Int) := by omega
  have g4 : rd (nrm p (pmul y [5, 0])) 32767 = 5 := by
    rw [show (32767 : Int) = ((N - 1 : Nat) : Int) by omega, rd_nat, tm]
  rw [attestorlaw03_PolyKnown.j1s, if_pos (by decide), Option.bind_some, if_pos g1, Option.bind_some, e1, ← hN, ← hy, k1 k (by omega), Option.bind_some, k2 k (by omega), Option.bind_some, if_pos rfl, if_pos rfl, if_pos g2, if_pos g3, if_pos g4, k3 k (by omega), Option.bind_some, if_pos (by decide), k4 k (by omega), Option.bind_some, if_pos (by decide), k5 k (by omega), Option.bind_some, List.length_replicate, if_pos (by decide), if_pos (by decide), k6 k (by omega), Option.bind_some, if_pos (by decide), k7 k (by omega), Option.bind_some, if_pos rfl, k8 k (by omega), Option.bind_some, if_pos rfl, k9 k (by omega), Option.bind_some]
theorem known_j0 : Ev (fun k => attestorlaw03_PolyKnown.j0 k) true := by
  obtain ⟨p, h⟩ := fp_of (f := 3) (by omega) (by omega)
  obtain ⟨K1, k1⟩ := Ev.get (Ev.of_mono (F := fun k => poly_Through.f k 0 [1, 98] [1, 1]) (poly_Through.mono _ _ _) (K := 80) (v := ([], 6)) (by decide +kernel))
  obtain ⟨K2, k2⟩ := Ev.get (Ev.of_mono (F := fun k => poly_Vanish.f k 0 []) (poly_Vanish.mono _ _) (K := 80) (v := ([1], 0)) (by decide +kernel))
  obtain ⟨K3, k3⟩ := Ev.get (Ev.of_mono (F := fun k => poly_Divide.f k 0 [1] []) (poly_Divide.mono _ _ _) (K := 80) (v := ([], [], 2)) (by decide +kernel))
  obtain ⟨K4, k4⟩ := Ev.get (Ev.of_mono (F := fun k => poly_Mul.f k 4 [] []) (poly_Mul.mono _ _ _) (K := 80) (v := ([], 1)) (by decide +kernel))
  obtain ⟨K5, k5⟩ := Ev.get (Ev.of_mono (F := fun k => poly_Through.f k 0 [1] []) (poly_Through.mono _ _ _) (K := 80) (v := ([], 1)) (by decide +kernel))
  obtain ⟨K6, k6⟩ := Ev.get (s_same (l := [1]) (by simp))
  obtain ⟨K7, k7⟩ := Ev.get known_j1
  have g : ((List.replicate 1025 (0 : Int)).length : Int) > 1024 := by rw [List.length_replicate]; decide
  have g' : ¬ (List.replicate 1025 (0 : Int)).length ≤ 1024 := by rw [List.length_replicate]; decide
  have v1 : ∀ k, poly_Vanish.f k 3 (List.replicate 1025 0) = some ([], 3) := fun k => by
    rw [poly_Vanish.f, s_Valid h, Option.bind_some, if_pos rfl, if_pos g]
  have v2 : ∀ k, poly_Through.f k 3 (List.replicate 1025 0) (List.replicate 1025 0) = some ([], 3) := fun k => by
    rw [poly_Through.f, s_Valid h, Option.bind_some, if_pos ⟨rfl, rfl⟩, if_neg g']
  refine Ev.mks (K1 + K2 + K3 + K4 + K5 + K6 + K7) fun k hk => ?_
  rw [attestorlaw03_PolyKnown.j0, k1 k (by omega), Option.bind_some, k2 k (by omega), Option.bind_some, k3 k (by omega), Option.bind_some, k4 k (by omega), Option.bind_some, k5 k (by omega), Option.bind_some, if_pos (by decide), v1, Option.bind_some, v2, Option.bind_some, if_pos rfl, if_pos rfl, k6 k (by omega), Option.bind_some, if_pos rfl, if_pos rfl, if_pos rfl, if_pos rfl, if_pos rfl, if_pos rfl]
  exact k7 k (by omega)
theorem PolyKnown : attestorlaw03_PolyKnown.Pure := by
  obtain ⟨K1, k1⟩ := Ev.get (Ev.of_mono (F := fun k => poly_Split.f k 0 [1, 2, 3, 4, 5] 2) (poly_Split.mono _ _ _) (K := 80) (v := [[1, 3, 5], [2, 4]]) (by decide +kernel))
  obtain ⟨K2, k2⟩ := Ev.get (s_same (l := [1, 3, 5]) (by simp))
  obtain ⟨K3, k3⟩ := Ev.get (s_same (l := [2, 4]) (by simp))
  obtain ⟨K4, k4⟩ := Ev.get (Ev.of_mono (F := fun k => poly_Join.f k 0 [[1, 3, 5], [2, 4]]) (poly_Join.mono _ _) (K := 80) (v := [1, 2, 3, 4, 5]) (by decide +kernel))
  obtain ⟨K5, k5⟩ := Ev.get (s_same (l := [1, 2, 3, 4, 5]) (by simp))
  obtain ⟨K6, k6⟩ := Ev.get (Ev.of_mono (F := fun k => poly_Normal.f k 0 [98, 0, 97]) (poly_Normal.mono _ _) (K := 80) (v := [1]) (by decide +kernel))
  obtain ⟨K7, k7⟩ := Ev.get (s_same (l := [1]) (by simp))
  obtain ⟨K8, k8⟩ := Ev.get (Ev.of_mono (F := fun k => poly_Degree.f k 0 [5]) (poly_Degree.mono _ _) (K := 80) (v := 0) (by decide +kernel))
  obtain ⟨K9, k9⟩ := Ev.get known_j0
  refine Ev.ex (F := fun k => attestorlaw03_PolyKnown.f k) (Ev.mk (K1 + K2 + K3 + K4 + K5 + K6 + K7 + K8 + K9) fun k hk => ?_)
  have r0 : rd_L1 [[1, 3, 5], [2, 4]] 0 = [1, 3, 5] := rfl
  have r1 : rd_L1 [[1, 3, 5], [2, 4]] 1 = [2, 4] := rfl
  rw [attestorlaw03_PolyKnown.f, k1 k (by omega), Option.bind_some, if_pos (by decide), if_pos (by decide), r0, k2 k (by omega), Option.bind_some, if_pos rfl, if_pos (by decide), r1, k3 k (by omega), Option.bind_some, if_pos rfl, k4 k (by omega), Option.bind_some, k5 k (by omega), Option.bind_some, if_pos rfl, k6 k (by omega), Option.bind_some, k7 k (by omega), Option.bind_some, if_pos rfl, k8 k (by omega), Option.bind_some, if_pos rfl]
  exact k9 k (by omega)
end Go.Proofs.YtmnahhacobfafaaDoor.Pure

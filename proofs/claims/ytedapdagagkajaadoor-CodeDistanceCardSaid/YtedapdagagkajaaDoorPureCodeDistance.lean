/- Two words of different polynomials agree in fewer places than the greater number of coefficients: for every input. -/
import Derived.Test.YtedapdagagkajaaDoorSpecs
import Derived.Test.YtedapdagagkajaaDoorQ19
namespace Go.Proofs.YtedapdagagkajaaDoor.Pure
open Go.RowKit Go.Proofs.YtedapdagagkajaaDoor.Q Go.Proofs.YtedapdagagkajaaDoor.Num Go.Proofs.YtedapdagagkajaaDoor.Pol Go.Proofs.YtedapdagagkajaaDoorW.PrintWords Go.Proofs.YtedapdagagkajaaDoorW.PrintLast Go.Proofs.YtedapdagagkajaaDoorW.PrintMore

theorem mx_nat (a b : Nat) : mx (a : Int) (b : Int) = ((max a b : Nat) : Int) := by unfold mx; split <;> omega
section dom
variable {f : Int} {p k : Nat} {s : Int} (z : Dm f p k s)
include z
theorem dist_end {P Q : List Int} (hk : k ≤ 5) (hP : nrm p P = P) (hQ : nrm p Q = Q) (lP : P.length ≤ 2 ^ k) (lQ : Q.length ≤ 2 ^ k) :
    ∃ b : Nat, Ev (fun K => code_Differ.f K f (wop f p k s P) (wop f p k s Q)) (b : Int) ∧ (P = Q → b = 0) ∧ (P ≠ Q → wrap64 (((2 ^ k : Nat) : Int) - (b : Int)) < ((max P.length Q.length : Nat) : Int)) := by
  have h32 : 2 ^ k ≤ 2 ^ 5 := Nat.pow_le_pow_right (by omega) hk
  have sD := s_Differ z.h (x := wop f p k s P) (y := wop f p k s Q) (by rw [wop_length, wop_length]) (by rw [wop_length]; omega) (wop_UL z P) (wop_UL z Q)
  rw [wop_length] at sD
  refine ⟨_, sD, fun e => ?_, fun ne => ?_⟩
  · rw [e]; exact dfc_self _ _ _ _
  · have hl := agl_length p (wop f p k s P) (wop f p k s Q) (2 ^ k) 0
    have key := z.agree (P := P) (Q := Q) (n := max P.length Q.length) ((Deg.len p P).mono (by omega)) ((Deg.len p Q).mono (by omega)) (fun e => ne (by rw [← hP, ← hQ]; exact nrm_congr e)) (agl p (wop f p k s P) (wop f p k s Q) 0 (2 ^ k)) (agl_lt _ _ _ _ _) (fun i hi => by have := agl_mem _ _ _ _ _ i hi; omega) (fun i hi => by
      have hm := agl_mem _ _ _ _ _ i hi
      have hi2 : i < 2 ^ k := by omega
      have := hm.2.2
      rw [co_wop hi2, co_wop hi2] at this ⊢
      have c := mod_eq_zero.1 this
      have c2 := (c.of_sub).mod_eq
      rwa [Int.emod_emod, Int.emod_emod] at c2)
    rw [w64 (by omega) (by omega)]
    omega
end dom
theorem CodeDistance : attestorlaw05_CodeDistance.Pure := by
  intro a0 a1 a2 l3 l4 w0 w1 w2 _ hy3 wu3 _ hy4 wu4
  obtain ⟨f, p, k, s, e, z, h5⟩ := s_domain0 w0 w1 w2
  have h32 : 2 ^ k ≤ 2 ^ 5 := Nat.pow_le_pow_right (by omega) h5
  have es := beq_iff_eq.1 (List.all_eq_true.1 shl5_tab k (List.mem_range.2 (by omega)))
  have o3 := s_own hy3 (2 ^ k)
  have o4 := s_own hy4 (2 ^ k)
  have u3 : UL (l3.take (2 ^ k)) := (UL.of_wf wu3).take _
  have u4 : UL (l4.take (2 ^ k)) := (UL.of_wf wu4).take _
  have n3 : (l3.take (2 ^ k)).length ≤ 2 ^ k := by rw [List.length_take]; omega
  have n4 : (l4.take (2 ^ k)).length ≤ 2 ^ k := by rw [List.length_take]; omega
  obtain ⟨K1, k1⟩ := Ev.get (s_Normal z.h.o (l := l3.take (2 ^ k)) (by omega) u3)
  obtain ⟨K2, k2⟩ := Ev.get (s_Normal z.h.o (l := l4.take (2 ^ k)) (by omega) u4)
  have m3 := nrm_length_le p (l3.take (2 ^ k))
  have m4 := nrm_length_le p (l4.take (2 ^ k))
  have r3 := nrm_nrm (p : Int) (l3.take (2 ^ k))
  have r4 := nrm_nrm (p : Int) (l4.take (2 ^ k))
  have uP := nrm_UL z.h.o (l3.take (2 ^ k))
  have uQ := nrm_UL z.h.o (l4.take (2 ^ k))
  generalize l3.take (2 ^ k) = L3 at *
  generalize l4.take (2 ^ k) = L4 at *
  generalize nrm p L3 = P at *
  generalize nrm p L4 = Q at *
  obtain ⟨K3, k3⟩ := Ev.get (z.word (P := P) (by omega) uP)
  obtain ⟨K4, k4⟩ := Ev.get (z.word (P := Q) (by omega) uQ)
  have I1 := z.IsWordD (by omega) (q := P) (n := max P.length Q.length) (by rw [r3]; omega) (by omega)
  rw [r3, decide_eq_true (by omega)] at I1
  have I2 := z.IsWordD (by omega) (q := Q) (n := max P.length Q.length) (by rw [r4]; omega) (by omega)
  rw [r4, decide_eq_true (by omega)] at I2
  obtain ⟨K5, k5⟩ := Ev.get I1
  obtain ⟨K6, k6⟩ := Ev.get I2
  have I3 := z.IsWordD (by omega) (q := P) (n := P.length - 1) (by rw [r3]; omega) (by omega)
  rw [r3] at I3
  obtain ⟨K7, k7⟩ := Ev.get I3
  obtain ⟨b, sD, b0, b1⟩ := dist_end z h5 r3 r4 (by omega) (by omega)
  obtain ⟨K8, k8⟩ := Ev.get sD
  obtain ⟨K9, k9⟩ := Ev.get (s_sameD (a := P) (b := Q) (by omega))
  obtain ⟨K0, k0⟩ := Ev.get s_works
  refine Ev.ex (F := fun K => attestorlaw05_CodeDistance.f K a0 a1 a2 l3 l4) (Ev.mk (K1 + K2 + K3 + K4 + K5 + K6 + K7 + K8 + K9 + K0 + 1) fun K hK => ?_)
  obtain ⟨K, rfl⟩ : ∃ K', K = K' + 1 := ⟨K - 1, by omega⟩
  have tail : ((code_Differ.f K f (wop f p k s P) (wop f p k s Q)).bind fun t => ((attestorlaw05_same.f K P Q).bind fun u => (if u = true then (if t = 0 then ((attestorlaw05_works.f K).bind fun v => (some v)) else (none)) else (if (wrap64 (((2 ^ k : Nat) : Int) - t)) < ((max P.length Q.length : Nat) : Int) then ((attestorlaw05_works.f K).bind fun v => (some v)) else (none))))) = some true := by
    rw [k8 K (by omega), Option.bind_some, k9 K (by omega), Option.bind_some, k0 K (by omega)]
    by_cases c : P = Q
    · rw [decide_eq_true c, if_pos rfl, b0 c, if_pos (show ((0 : Nat) : Int) = 0 from rfl), Option.bind_some]
    · rw [decide_eq_false c, if_neg (by decide), if_pos (b1 c), Option.bind_some]
  rw [attestorlaw05_CodeDistance.f, e, Option.bind_some]
  dsimp only
  have e1 : ((wop f p k s P).length : Int) = ((2 ^ k : Nat) : Int) := by rw [wop_length]
  have e2 : ((wop f p k s Q).length : Int) = ((2 ^ k : Nat) : Int) := by rw [wop_length]
  rw [es, if_pos (by rw [wu64 (by omega) (by omega)]; omega), o3, Option.bind_some, k1 _ (by omega), Option.bind_some, o4, Option.bind_some, k2 _ (by omega), Option.bind_some, k3 _ (by omega), Option.bind_some, k4 _ (by omega), Option.bind_some, if_pos e1, if_pos e2, mx_nat, k5 _ (by omega), Option.bind_some, if_pos rfl, k6 _ (by omega), Option.bind_some, if_pos rfl]
  by_cases c : P.length = 0
  · rw [if_neg (by omega), attestorlaw05_CodeDistance.j1]
    exact tail
  · have ew : wrap64 ((P.length : Int) - 1) = ((P.length - 1 : Nat) : Int) := by rw [w64 (by omega) (by omega)]; omega
    rw [if_pos (by omega), ew, k7 _ (by omega), Option.bind_some, decide_eq_false (by omega), if_neg (by decide), attestorlaw05_CodeDistance.j0]
    exact tail
end Go.Proofs.YtedapdagagkajaaDoor.Pure

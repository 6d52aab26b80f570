/- Values returns what the chapter specifies: for every input. -/
import Derived.Test.YtdjjdlkglinlgaaDoorSpecVR
import Derived.Test.YtdjjdlkglinlgaaDoorSpecW
import Derived.Test.YtdjjdlkglinlgaaDoorQ6
namespace Go.Proofs.YtdjjdlkglinlgaaDoor.Pure
open Go.RowKit Go.Proofs.YtdjjdlkglinlgaaDoor.Q Go.Proofs.YtdjjdlkglinlgaaDoor.Num Go.Proofs.YtdjjdlkglinlgaaDoor.Pol Go.Proofs.YtdjjdlkglinlgaaDoorW.PrintWords Go.Proofs.YtdjjdlkglinlgaaDoorW.PrintLast Go.Proofs.YtdjjdlkglinlgaaDoorW.PrintMore

/-- Program and reference answer the same. -/
theorem both_Values {f k s : Int} (hs : 0 ≤ s) {l : List Int} (hl : l.length ≤ 1000) (hu : UL l) (hk : k ≤ 10 ∨ k > gr f) : ∃ r : List Int × Int, Ev (fun K => transform_Values.f K f k s l) r ∧ Ev (fun K => attestorref04_Values.f K f k s l) r ∧ r.1.length ≤ 1024 := by
  rcases fp_or f with ⟨p, h⟩ | h
  · by_cases h0 : s % p = 0
    · exact ⟨_, Values_zero h hs h0 k l, rValues_zero h hs h0 k l, by simp⟩
    · by_cases hr : k < 0 ∨ k > gr f
      · exact ⟨_, Values_range h hs h0 hr l, rValues_range h hs h0 hr l, by simp⟩
      · obtain ⟨m, rfl⟩ : ∃ m : Nat, k = m := ⟨k.toNat, by omega⟩
        have hm : m ≤ 10 := by omega
        have hg : (m : Int) ≤ gr f := by omega
        by_cases hn : (nrm p l).length ≤ 2 ^ m
        · exact ⟨_, s_Values h hm hg hs h0 (by omega) hu hn, r_Values h hm hg hs h0 (by omega) hu hn, by rw [vals_length]; exact pow10 hm⟩
        · exact ⟨_, Values_long h hg hs h0 (by omega) hu (by omega), rValues_long h hg hs h0 (by omega) hu (by omega), by simp⟩
  · exact ⟨_, b_Values h k s l, br_Values h k s l, by simp⟩
theorem TransformValues : attestorlaw04_TransformValues.Pure := by
  intro f k s l hf hk hs _ hy hw
  have hs := (U.of_wf hs).1
  obtain ⟨a, ha⟩ : ∃ a, a = l.take 80 := ⟨_, rfl⟩
  have ua : UL a := ha ▸ (UL.of_wf hw).take 80
  have na : a.length ≤ 80 := by rw [ha, List.length_take]; omega
  have o1 := s_own hy 80
  have o2 := s_own (l := a) (by omega) 80
  rw [← ha] at o1
  rw [List.take_of_length_le na] at o2
  obtain ⟨L1, l1⟩ := Ev.get (r_Same (l := a) (by omega))
  obtain ⟨L2, l2⟩ := Ev.get s_works
  have J0 : ∀ k, k ≤ 10 ∨ k > gr f → Ev (fun K => attestorlaw04_TransformValues.j0 K f k s l) true := fun k hk => by
    obtain ⟨r, e1, e2, e3⟩ := both_Values (f := f) hs (l := a) (by omega) ua hk
    obtain ⟨K1, k1⟩ := Ev.get e1
    obtain ⟨K2, k2⟩ := Ev.get e2
    obtain ⟨K3, k3⟩ := Ev.get (r_Same (l := r.1) (by omega))
    refine Ev.mks (K1 + K2 + K3 + L1 + L2) fun K hK => ?_
    rw [attestorlaw04_TransformValues.j0, show (80 : Int) = ((80 : Nat) : Int) from rfl, o1, Option.bind_some, o2, Option.bind_some, k1 K (by omega), Option.bind_some, k2 K (by omega), Option.bind_some, if_pos rfl, k3 K (by omega), Option.bind_some, if_pos rfl, l1 K (by omega), Option.bind_some, if_pos rfl, l2 K (by omega), Option.bind_some]
  have J1 : ∀ k, k ≤ 10 ∨ k > gr f → Ev (fun K => attestorlaw04_TransformValues.j1 K f k s l) true := fun k hk => by
    obtain ⟨r, e1, e2, e3⟩ := both_Values (f := f) hs (l := a) (by omega) ua hk
    obtain ⟨K1, k1⟩ := Ev.get e1
    obtain ⟨K2, k2⟩ := Ev.get e2
    obtain ⟨K3, k3⟩ := Ev.get (r_Same (l := r.1) (by omega))
    refine Ev.mks (K1 + K2 + K3 + L1 + L2) fun K hK => ?_
    rw [attestorlaw04_TransformValues.j1, show (80 : Int) = ((80 : Nat) : Int) from rfl, o1, Option.bind_some, o2, Option.bind_some, k1 K (by omega), Option.bind_some, k2 K (by omega), Option.bind_some, if_pos rfl, k3 K (by omega), Option.bind_some, if_pos rfl, l1 K (by omega), Option.bind_some, if_pos rfl, l2 K (by omega), Option.bind_some]
  by_cases q : k > 6
  · by_cases q2 : k ≤ gr f
    · obtain ⟨K, e⟩ := Ev.ex (J0 (Int.tmod k 7) (Or.inl (by rw [tmod_nn (by omega)]; omega)))
      exact ⟨K, by rw [attestorlaw04_TransformValues.f, if_pos q, r_gr, Option.bind_some, if_pos q2, e]⟩
    · obtain ⟨K, e⟩ := Ev.ex (J0 k (Or.inr (by omega)))
      exact ⟨K, by rw [attestorlaw04_TransformValues.f, if_pos q, r_gr, Option.bind_some, if_neg q2, e]⟩
  · obtain ⟨K, e⟩ := Ev.ex (J1 k (Or.inl (by omega)))
    exact ⟨K, by rw [attestorlaw04_TransformValues.f, if_neg q, e]⟩
end Go.Proofs.YtdjjdlkglinlgaaDoor.Pure

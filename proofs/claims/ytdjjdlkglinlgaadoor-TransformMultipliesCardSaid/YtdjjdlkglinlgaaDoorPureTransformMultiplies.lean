/- Multiply returns what the chapter specifies: for every input. -/
import Derived.Test.YtdjjdlkglinlgaaDoorSpecMu
import Derived.Test.YtdjjdlkglinlgaaDoorSpecW
import Derived.Test.YtdjjdlkglinlgaaDoorQ8
namespace Go.Proofs.YtdjjdlkglinlgaaDoor.Pure
open Go.RowKit Go.Proofs.YtdjjdlkglinlgaaDoor.Q Go.Proofs.YtdjjdlkglinlgaaDoor.Num Go.Proofs.YtdjjdlkglinlgaaDoor.Pol Go.Proofs.YtdjjdlkglinlgaaDoorW.PrintWords Go.Proofs.YtdjjdlkglinlgaaDoorW.PrintLast Go.Proofs.YtdjjdlkglinlgaaDoorW.PrintMore

theorem TransformMultiplies : attestorlaw04_TransformMultiplies.Pure := by
  intro f l1 l2 hf _ hy1 hw1 _ hy2 hw2
  obtain ⟨a, ha⟩ : ∃ a, a = l1.take 300 := ⟨_, rfl⟩
  obtain ⟨b, hb⟩ : ∃ b, b = l2.take 300 := ⟨_, rfl⟩
  have ua : UL a := ha ▸ (UL.of_wf hw1).take 300
  have ub : UL b := hb ▸ (UL.of_wf hw2).take 300
  have na : a.length ≤ 300 := by rw [ha, List.length_take]; omega
  have nb : b.length ≤ 300 := by rw [hb, List.length_take]; omega
  have o1 := s_own hy1 300
  have o2 := s_own hy2 300
  have o3 := s_own (l := a) (by omega) 300
  have o4 := s_own (l := b) (by omega) 300
  rw [← ha] at o1
  rw [← hb] at o2
  rw [List.take_of_length_le na] at o3
  rw [List.take_of_length_le nb] at o4
  obtain ⟨r, e1, e2, e3⟩ := both_Multiply (f := f) na nb ua ub
  obtain ⟨K1, k1⟩ := Ev.get e1
  obtain ⟨K2, k2⟩ := Ev.get e2
  obtain ⟨K3, k3⟩ := Ev.get (r_Same (l := r.1) (by omega))
  obtain ⟨L1, l1⟩ := Ev.get (r_Same (l := a) (by omega))
  obtain ⟨L2, l2⟩ := Ev.get (r_Same (l := b) (by omega))
  obtain ⟨L3, l3⟩ := Ev.get s_works
  refine Ev.ex (F := fun K => attestorlaw04_TransformMultiplies.f K f _ _) (Ev.mk (K1 + K2 + K3 + L1 + L2 + L3) fun K hK => ?_)
  rw [attestorlaw04_TransformMultiplies.f, show (300 : Int) = ((300 : Nat) : Int) from rfl, o1, Option.bind_some, o2, Option.bind_some, o3, Option.bind_some, o4, Option.bind_some, k1 K (by omega), Option.bind_some, k2 K (by omega), Option.bind_some, if_pos rfl, k3 K (by omega), Option.bind_some, if_pos rfl, l1 K (by omega), Option.bind_some, if_pos rfl, l2 K (by omega), Option.bind_some, if_pos rfl, l3 K (by omega), Option.bind_some]
end Go.Proofs.YtdjjdlkglinlgaaDoor.Pure

/- The chapter's examples and the cut of a list: what every law of the polynomials leans on. -/
import Derived.Test.YtdjjdlkglinlgaaDoorEv
import Derived.KernelRfl
import Derived.Test.YtdjjdlkglinlgaaDoorQ2
import Derived.Test.YtdjjdlkglinlgaaDoorQ4
namespace Go.Proofs.YtdjjdlkglinlgaaDoor.Pure
open Go.RowKit Go.Proofs.YtdjjdlkglinlgaaDoor.Q Go.Proofs.YtdjjdlkglinlgaaDoor.Num Go.Proofs.YtdjjdlkglinlgaaDoor.Pol Go.Proofs.YtdjjdlkglinlgaaDoorW.PrintWords Go.Proofs.YtdjjdlkglinlgaaDoorW.PrintLast Go.Proofs.YtdjjdlkglinlgaaDoorW.PrintMore
theorem works60 : attestorlaw04_works.f 60 = some true := by decide +kernel
theorem s_works : Ev (fun k => attestorlaw04_works.f k) true := Ev.of_mono attestorlaw04_works.mono works60
theorem s_own {l : List Int} (hl : l.length * 8 ≤ 140737488351232) (n : Nat) : attestorlaw04_own.f l (n : Int) = some (l.take n) := by
  have e : (mn (l.length : Int) (n : Int)).toNat = min l.length n := by unfold mn; split <;> omega
  have e1 : 0 ≤ mn (l.length : Int) (n : Int) := by unfold mn; split <;> omega
  have e2 : mn (l.length : Int) (n : Int) ≤ (l.length : Int) := by unfold mn; split <;> omega
  rw [attestorlaw04_own.f, if_pos e1, if_pos e2, e, if_pos (by rw [List.length_nil, List.length_take]; omega), List.nil_append]
  refine congrArg some ?_
  rcases Nat.le_total l.length n with h | h
  · rw [Nat.min_eq_left h, List.take_of_length_le (Nat.le_refl _), List.take_of_length_le h]
  · rw [Nat.min_eq_right h]
end Go.Proofs.YtdjjdlkglinlgaaDoor.Pure

/- The chapter's examples and the cut of a list: what every law of the polynomials leans on. -/
import Derived.Test.YtmnahhacobfafaaDoorEv
import Derived.KernelRfl
import Derived.Test.YtmnahhacobfafaaDoorQ1
import Derived.Test.YtmnahhacobfafaaDoorQ4
namespace Go.Proofs.YtmnahhacobfafaaDoor.Pure
open Go.RowKit Go.Proofs.YtmnahhacobfafaaDoor.Q Go.Proofs.YtmnahhacobfafaaDoor.Num Go.Proofs.YtmnahhacobfafaaDoor.Pol Go.Proofs.YtmnahhacobfafaaDoorW.PrintWords Go.Proofs.YtmnahhacobfafaaDoorW.PrintLast Go.Proofs.YtmnahhacobfafaaDoorW.PrintMore
theorem works60 : attestorlaw03_works.f 60 = some true := by decide +kernel
theorem s_works : Ev (fun k => attestorlaw03_works.f k) true := Ev.of_mono attestorlaw03_works.mono works60
theorem s_own {l : List Int} (hl : l.length * 8 ≤ 140737488351232) (n : Nat) : attestorlaw03_own.f l (n : Int) = some (l.take n) := by
  have e : (mn (l.length : Int) (n : Int)).toNat = min l.length n := by unfold mn; split <;> omega
  have e1 : 0 ≤ mn (l.length : Int) (n : Int) := by unfold mn; split <;> omega
  have e2 : mn (l.length : Int) (n : Int) ≤ (l.length : Int) := by unfold mn; split <;> omega
  rw [attestorlaw03_own.f, if_pos e1, if_pos e2, e, if_pos (by rw [List.length_nil, List.length_take]; omega), List.nil_append]
  refine congrArg some ?_
  rcases Nat.le_total l.length n with h | h
  · rw [Nat.min_eq_left h, List.take_of_length_le (Nat.le_refl _), List.take_of_length_le h]
  · rw [Nat.min_eq_right h]
end Go.Proofs.YtmnahhacobfafaaDoor.Pure

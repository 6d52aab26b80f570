/- What the functions of the polynomials answer. -/
import Derived.Test.YtdjjdlkglinlgaaDoorSpecF
import Derived.Test.YtdjjdlkglinlgaaDoorQ12
import Derived.Test.YtdjjdlkglinlgaaDoorQ13
import Derived.Test.YtdjjdlkglinlgaaDoorQ3
import Derived.Test.YtdjjdlkglinlgaaDoorQ4
namespace Go.Proofs.YtdjjdlkglinlgaaDoor.Pure
open Go.RowKit Go.Proofs.YtdjjdlkglinlgaaDoor.Q Go.Proofs.YtdjjdlkglinlgaaDoor.Num Go.Proofs.YtdjjdlkglinlgaaDoor.Pol Go.Proofs.YtdjjdlkglinlgaaDoorW.PrintWords Go.Proofs.YtdjjdlkglinlgaaDoorW.PrintLast Go.Proofs.YtdjjdlkglinlgaaDoorW.PrintMore

theorem w64_pred {n : Nat} (h : n < 9223372036854775807) : wrap64 (((n + 1 : Nat) : Int) - 1) = (n : Int) := by rw [w64 (by omega) (by omega)]; omega
theorem trim_l0 {l : List Int} (hl : l.length ≤ 1000000) : ∀ n : Nat, n ≤ l.length → (∀ i, n ≤ i → co l i = 0) → Ev (fun k => poly_trim.l0 k l n) (trm l)
  | 0, hn, hz => by
    refine Ev.succ (F := fun _ => some (trm l)) (fun k => ?_) (Ev.all fun _ => rfl)
    rw [poly_trim.l0, if_neg (by omega), if_pos (by omega), if_pos (by omega)]
    exact congrArg some (trm_eq (m := 0) hn hz (fun n h => by omega))
  | n + 1, hn, hz => by
    by_cases h0 : co l n = 0
    · refine Ev.succ (fun k => ?_) (trim_l0 hl n (by omega) (fun i hi => ?_))
      · rw [poly_trim.l0, if_pos (by omega), w64_pred (by omega), if_pos (by omega), if_pos (by omega), rd_nat, if_pos h0]
      · rcases Nat.eq_or_lt_of_le hi with e | e
        · rw [← e]; exact h0
        · exact hz i e
    · refine Ev.succ (F := fun _ => some (trm l)) (fun k => ?_) (Ev.all fun _ => rfl)
      rw [poly_trim.l0, if_pos (by omega), w64_pred (by omega), if_pos (by omega), if_pos (by omega), rd_nat, if_neg h0, if_pos (by omega), if_pos (by omega)]
      refine congrArg some ?_
      rw [Int.toNat_natCast]
      exact trm_eq hn hz (fun m hm => by obtain rfl : m = n := by omega
                                         exact h0)
theorem s_trim {l : List Int} (hl : l.length ≤ 1000000) : Ev (fun k => poly_trim.f k l) (trm l) := trim_l0 hl _ (Nat.le_refl _) (fun _ h => co_over h)

section any
variable {f : Int} {p : Nat} (h : FO f p)
include h
/-! ### Products of X - x -/
end any
section good
variable {f : Int} {p : Nat} (h : FP f p)
include h
end good
end Go.Proofs.YtdjjdlkglinlgaaDoor.Pure

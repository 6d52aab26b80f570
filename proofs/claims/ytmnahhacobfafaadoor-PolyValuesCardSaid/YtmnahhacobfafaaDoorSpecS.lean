/- The law's comparison of lists, what the program's Degree answers, the four fields' numbers. -/
import Derived.Test.YtmnahhacobfafaaDoorSpecL
import Derived.Test.YtmnahhacobfafaaDoorQ3
namespace Go.Proofs.YtmnahhacobfafaaDoor.Pure
open Go.RowKit Go.Proofs.YtmnahhacobfafaaDoor.Q Go.Proofs.YtmnahhacobfafaaDoor.Num Go.Proofs.YtmnahhacobfafaaDoor.Pol Go.Proofs.YtmnahhacobfafaaDoorW.PrintWords Go.Proofs.YtmnahhacobfafaaDoorW.PrintLast Go.Proofs.YtmnahhacobfafaaDoorW.PrintMore

theorem field4 {x : Int} (h : (Lit.int .u8 x).wf = true) : 0 ≤ wrap64 (Int.tmod x 4) ∧ wrap64 (Int.tmod x 4) < 4 := by
  simp [Lit.wf, IntKind.min, IntKind.max, IntKind.bits, IntKind.signed] at h
  rw [tmod_nn (by omega), w64 (by omega) (by omega)]
  omega
theorem lsame_l0 {l : List Int} (hl : l.length ≤ 1000000) : ∀ (d i : Nat), i + d = l.length → Ev (fun k => attestorlaw03_same.l0 k l l i) true := by
  intro d
  induction d with
  | zero =>
    intro i hi
    refine Ev.succ (F := fun _ => some true) (fun k => ?_) (Ev.all fun _ => rfl)
    rw [attestorlaw03_same.l0, if_neg (by omega)]
  | succ d ih =>
    intro i hi
    refine Ev.succ (fun k => ?_) (ih (i + 1) (by omega))
    rw [attestorlaw03_same.l0, if_pos (by omega), if_pos (by omega), if_pos (by omega), if_pos rfl, w64_succ (by omega)]
theorem s_same {l : List Int} (hl : l.length ≤ 1000000) : Ev (fun k => attestorlaw03_same.f k l l) true := by
  refine Ev.congr (fun k => ?_) (lsame_l0 hl l.length 0 (by omega))
  rw [attestorlaw03_same.f, if_pos rfl]
  rfl
section any
variable {f : Int} {p : Nat} (h : FO f p)
include h
end any
end Go.Proofs.YtmnahhacobfafaaDoor.Pure

/- The law's comparison of lists, what the program's Degree answers, the four fields' numbers. -/
import Derived.Test.YtdjjdlkglinlgaaDoorSpecL
import Derived.Test.YtdjjdlkglinlgaaDoorQ3
import Derived.Test.YtdjjdlkglinlgaaDoorQ4
namespace Go.Proofs.YtdjjdlkglinlgaaDoor.Pure
open Go.RowKit Go.Proofs.YtdjjdlkglinlgaaDoor.Q Go.Proofs.YtdjjdlkglinlgaaDoor.Num Go.Proofs.YtdjjdlkglinlgaaDoor.Pol Go.Proofs.YtdjjdlkglinlgaaDoorW.PrintWords Go.Proofs.YtdjjdlkglinlgaaDoorW.PrintLast Go.Proofs.YtdjjdlkglinlgaaDoorW.PrintMore

theorem field4 {x : Int} (h : (Lit.int .u8 x).wf = true) : 0 ≤ wrap64 (Int.tmod x 4) ∧ wrap64 (Int.tmod x 4) < 4 := by
  simp [Lit.wf, IntKind.min, IntKind.max, IntKind.bits, IntKind.signed] at h
  rw [tmod_nn (by omega), w64 (by omega) (by omega)]
  omega
theorem lsame_l0 {l : List Int} (hl : l.length ≤ 1000000) : ∀ (d i : Nat), i + d = l.length → Ev (fun k => attestorlaw04_same.l0 k l l i) true := by
  intro d
  induction d with
  | zero =>
    intro i hi
    refine Ev.succ (F := fun _ => some true) (fun k => ?_) (Ev.all fun _ => rfl)
    rw [attestorlaw04_same.l0, if_neg (by omega)]
  | succ d ih =>
    intro i hi
    refine Ev.succ (fun k => ?_) (ih (i + 1) (by omega))
    rw [attestorlaw04_same.l0, if_pos (by omega), if_pos (by omega), if_pos (by omega), if_pos rfl, w64_succ (by omega)]
theorem s_same {l : List Int} (hl : l.length ≤ 1000000) : Ev (fun k => attestorlaw04_same.f k l l) true := by
  refine Ev.congr (fun k => ?_) (lsame_l0 hl l.length 0 (by omega))
  rw [attestorlaw04_same.f, if_pos rfl]
  rfl
section any
variable {f : Int} {p : Nat} (h : FO f p)
include h
end any
end Go.Proofs.YtdjjdlkglinlgaaDoor.Pure

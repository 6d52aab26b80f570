/- The law's comparison of lists, what the program's Degree answers, the four fields' numbers. -/
import Derived.Test.YtdjjdlkglinlgaaDoorSpecL
import Derived.Test.YtdjjdlkglinlgaaDoorQ3
import Derived.Test.YtdjjdlkglinlgaaDoorQ4
namespace Go.Proofs.YtdjjdlkglinlgaaDoor.Pure
open Go.RowKit Go.Proofs.YtdjjdlkglinlgaaDoor.Q Go.Proofs.YtdjjdlkglinlgaaDoor.Num Go.Proofs.YtdjjdlkglinlgaaDoor.Pol Go.Proofs.YtdjjdlkglinlgaaDoorW.PrintWords Go.Proofs.YtdjjdlkglinlgaaDoorW.PrintLast Go.Proofs.YtdjjdlkglinlgaaDoorW.PrintMore

theorem field4 {x : Int} (h : (Lit.int .u8 x).wf = true) : 0 ≤ wrap64 (Int.tmod x 4) ∧ wrap64 (Int.tmod x 4) < 4 := by
  simp [Lit.wf, IntKind.min, IntKind.max, IntKind.bits, IntKind.signed] at h
  rw [tmod_nn (by omega), w64 (by omega) (by omega)]
  omega
theorem lsame_l0 {l : List Int} (hl : l.length ≤ 1000000) : ∀ (d i : Nat), i + d = l.length → Ev (fun k => attestorlaw04_same.l0 k l l i) true := by
  intro d
  induction d with
  | zero =>
    intro i hi
    refine Ev.succ (F := fun _ => some true) (fun k => ?_) (Ev.all fun _ => rfl)
    rw [attestorlaw04_same.l0, if_neg (by omega)]
  | succ d ih =>
    intro i hi
    refine Ev.succ (fun k => ?_) (ih (i + 1) (by omega))
    rw [attestorlaw04_same.l0, if_pos (by omega), if_pos (by omega), if_pos (by omega), if_pos rfl, w64_succ (by omega)]
theorem s_same {l : List Int} (hl : l.length ≤ 1000000) : Ev (fun k => attestorlaw04_same.f k l l) true := by
  refine Ev.congr (fun k => ?_) (lsame_l0 hl l.length 0 (by omega))
  rw [attestorlaw04_same.f, if_pos rfl]
  rfl
/-- Where a normal form ends. -/
theorem nrm_length_eq {p : Int} (hp : 0 < p) {l : List Int} {n : Nat} (hd : Deg p l (n + 1)) (ht : ¬ Cg p (co l n) 0) : (nrm p l).length = n + 1 := by
  have h1 := nrm_deg hp hd
  rcases Nat.lt_or_ge n (nrm p l).length with e | e
  · omega
  · exact absurd (Deg.of_nrm n e) ht
section any
variable {f : Int} {p : Nat} (h : FO f p)
include h
theorem degree_l0 {l : List Int} (hl : l.length ≤ 1000000) (hu : UL l) : ∀ n : Nat, n ≤ l.length → Deg p l n → Ev (fun k => poly_Degree.l0 k f l n) (((nrm p l).length : Int) - 1) := by
  intro n
  induction n with
  | zero =>
    intro _ hd
    have : nrm p l = [] := nrm_eq_nil.2 hd.nil
    rw [this]
    refine Ev.succ (F := fun _ => some (-1)) (fun k => ?_) (Ev.all fun _ => rfl)
    rw [poly_Degree.l0, if_neg (by omega)]
  | succ n ih =>
    intro hn hd
    by_cases h0 : co l n % p = 0
    · refine Ev.succ (fun k => ?_) (ih (by omega) (fun i hi => ?_))
      · rw [poly_Degree.l0, if_pos (by omega), w64_pred (by omega), if_pos (by omega), if_pos (by omega), rd_nat, o_Reduce h (U.co hu n).1, Option.bind_some, if_pos h0]
      · rcases Nat.eq_or_lt_of_le hi with e | e
        · rw [← e]; exact mod_eq_zero.1 h0
        · exact hd i e
    · have hlen := nrm_length_eq h.pos hd (fun c => h0 (mod_eq_zero.2 c))
      rw [hlen]
      refine Ev.succ (F := fun _ => some ((n : Int))) (fun k => ?_) (Ev.all fun _ => congrArg some (by omega))
      rw [poly_Degree.l0, if_pos (by omega), w64_pred (by omega), if_pos (by omega), if_pos (by omega), rd_nat, o_Reduce h (U.co hu n).1, Option.bind_some, if_neg h0]
theorem s_Degree {l : List Int} (hl : l.length ≤ 1000000) (hu : UL l) : Ev (fun k => poly_Degree.f k f l) (((nrm p l).length : Int) - 1) := degree_l0 h hl hu l.length (Nat.le_refl _) (Deg.len _ _)

end any
end Go.Proofs.YtdjjdlkglinlgaaDoor.Pure

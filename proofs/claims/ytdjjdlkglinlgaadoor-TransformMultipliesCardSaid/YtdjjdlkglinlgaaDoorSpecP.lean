/- What the functions of the polynomials answer. -/
import Derived.Test.YtdjjdlkglinlgaaDoorSpecF
import Derived.Test.YtdjjdlkglinlgaaDoorQ12
import Derived.Test.YtdjjdlkglinlgaaDoorQ13
import Derived.Test.YtdjjdlkglinlgaaDoorQ3
import Derived.Test.YtdjjdlkglinlgaaDoorQ4
namespace Go.Proofs.YtdjjdlkglinlgaaDoor.Pure
open Go.RowKit Go.Proofs.YtdjjdlkglinlgaaDoor.Q Go.Proofs.YtdjjdlkglinlgaaDoor.Num Go.Proofs.YtdjjdlkglinlgaaDoor.Pol Go.Proofs.YtdjjdlkglinlgaaDoorW.PrintWords Go.Proofs.YtdjjdlkglinlgaaDoorW.PrintLast Go.Proofs.YtdjjdlkglinlgaaDoorW.PrintMore

theorem w64_pred {n : Nat} (h : n < 9223372036854775807) : wrap64 (((n + 1 : Nat) : Int) - 1) = (n : Int) := by rw [w64 (by omega) (by omega)]; omega
theorem trim_l0 {l : List Int} (hl : l.length ≤ 1000000) : ∀ n : Nat, n ≤ l.length → (∀ i, n ≤ i → co l i = 0) → Ev (fun k => poly_trim.l0 k l n) (trm l)
  | 0, hn, hz => by
    refine Ev.succ (F := fun _ => some (trm l)) (fun k => ?_) (Ev.all fun _ => rfl)
    rw [poly_trim.l0, if_neg (by omega), if_pos (by omega), if_pos (by omega)]
    exact congrArg some (trm_eq (m := 0) hn hz (fun n h => by omega))
  | n + 1, hn, hz => by
    by_cases h0 : co l n = 0
    · refine Ev.succ (fun k => ?_) (trim_l0 hl n (by omega) (fun i hi => ?_))
      · rw [poly_trim.l0, if_pos (by omega), w64_pred (by omega), if_pos (by omega), if_pos (by omega), rd_nat, if_pos h0]
      · rcases Nat.eq_or_lt_of_le hi with e | e
        · rw [← e]; exact h0
        · exact hz i e
    · refine Ev.succ (F := fun _ => some (trm l)) (fun k => ?_) (Ev.all fun _ => rfl)
      rw [poly_trim.l0, if_pos (by omega), w64_pred (by omega), if_pos (by omega), if_pos (by omega), rd_nat, if_neg h0, if_pos (by omega), if_pos (by omega)]
      refine congrArg some ?_
      rw [Int.toNat_natCast]
      exact trm_eq hn hz (fun m hm => by obtain rfl : m = n := by omega
                                         exact h0)
theorem s_trim {l : List Int} (hl : l.length ≤ 1000000) : Ev (fun k => poly_trim.f k l) (trm l) := trim_l0 hl _ (Nat.le_refl _) (fun _ h => co_over h)

theorem cpyAt_full (l : List Int) : cpyAt (List.replicate l.length 0) 0 l = l := by
  unfold cpyAt splice
  simp
section any
variable {f : Int} {p : Nat} (h : FO f p)
include h
theorem normal_l0 : ∀ (d i : Nat) (x y : List Int), i + d = x.length → x.length ≤ 1000000 → UL x → y.length = x.length → (∀ j, j < x.length → co y j = if i ≤ j then co x j % p else co x j) → Ev (fun k => poly_Normal.l0 k f x (x.length : Int) i) (trm y) := by
  intro d
  induction d with
  | zero =>
    intro i x y hi hl hu hyl hy
    have e : y = x := ext_co hyl fun j hj => by rw [hy j (by omega), if_neg (by omega)]
    subst e
    have key : Ev (fun k => (poly_trim.f k y).bind fun t125 => some t125) (trm y) := (s_trim hl).bind (Ev.all fun _ => rfl)
    refine Ev.succ (fun k => ?_) key
    rw [poly_Normal.l0, if_neg (by omega)]
  | succ d ih =>
    intro i x y hi hl hu hyl hy
    have hx := U.co hu i
    refine Ev.succ (fun k => ?_) (ih (i + 1) (x.set i (co x i % p)) y (by simp; omega) (by simpa using hl) (hu.set (h.U _) i) (by simpa using hyl) (fun j hj => ?_))
    · rw [poly_Normal.l0, if_pos (by omega), if_pos (by omega), if_pos (by omega), rd_nat, o_Reduce h hx.1, Option.bind_some, w64_succ (by omega), Int.toNat_natCast, List.length_set]
    · rw [List.length_set] at hj
      rw [hy j hj, co_set (by omega)]
      by_cases e : j = i
      · subst e; rw [if_pos (by omega), if_neg (by omega), if_pos rfl]
      · rw [if_neg e]
        by_cases e2 : i ≤ j
        · rw [if_pos e2, if_pos (by omega)]
        · rw [if_neg e2, if_neg (by omega)]
theorem s_Normal {l : List Int} (hl : l.length ≤ 1000000) (hu : UL l) : Ev (fun k => poly_Normal.f k f l) (nrm p l) := by
  rcases h.ok with g | ⟨g, rfl⟩
  · have key := normal_l0 h l.length 0 l (l.map (· % (p : Int))) (by omega) hl hu (by simp) (fun j hj => by rw [co_map_mod, if_pos (Nat.zero_le _)])
    refine Ev.congr (fun k => ?_) key
    rw [poly_Normal.f, s_Valid g, Option.bind_some, if_pos rfl, if_pos (by omega), if_pos (by omega), Option.bind_some, Int.toNat_natCast, cpyAt_full, List.length_replicate]
    rfl
  · rw [nrm_one_nil]
    refine Ev.all fun k => ?_
    rw [poly_Normal.f, b_Valid g, Option.bind_some, if_neg (by decide)]
/-! ### Products of X - x -/
end any
section good
variable {f : Int} {p : Nat} (h : FP f p)
include h
end good
end Go.Proofs.YtdjjdlkglinlgaaDoor.Pure

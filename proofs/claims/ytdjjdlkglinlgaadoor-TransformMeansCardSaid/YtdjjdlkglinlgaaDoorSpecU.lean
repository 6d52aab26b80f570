/- What the program's Sub and Shift answer. -/
import Derived.Test.YtdjjdlkglinlgaaDoorSpecL
import Derived.Test.YtdjjdlkglinlgaaDoorQ3
namespace Go.Proofs.YtdjjdlkglinlgaaDoor.Pure
open Go.RowKit Go.Proofs.YtdjjdlkglinlgaaDoor.Q Go.Proofs.YtdjjdlkglinlgaaDoor.Num Go.Proofs.YtdjjdlkglinlgaaDoor.Pol Go.Proofs.YtdjjdlkglinlgaaDoorW.PrintWords Go.Proofs.YtdjjdlkglinlgaaDoorW.PrintLast Go.Proofs.YtdjjdlkglinlgaaDoorW.PrintMore

section any
variable {f : Int} {p : Nat} (h : FO f p)
include h
theorem shift_l0 {l : List Int} (hl : l.length ≤ 1000000) (hu : UL l) {s : Int} (hs : 0 ≤ s) : ∀ (d i : Nat) (x y : List Int) (w : Int), i + d = l.length → x.length = l.length → y.length = l.length → 0 ≤ w → Cg p w (s ^ i) → (∀ j, j < l.length → co y j = if i ≤ j then (co l j * s ^ j) % p else co x j) → Ev (fun k => poly_Shift.l0 k f s x w l (l.length : Int) i) (trm y) := by
  intro d
  induction d with
  | zero =>
    intro i x y w hi hx hyl hw hc hy
    have e : y = x := ext_co (by omega) fun j hj => by rw [hy j (by omega), if_neg (by omega)]
    subst e
    have key : Ev (fun k => (poly_trim.f k y).bind fun t => some t) (trm y) := (s_trim (by omega)).bind (Ev.all fun _ => rfl)
    refine Ev.succ (fun k => ?_) key
    rw [poly_Shift.l0, if_neg (by omega)]
  | succ d ih =>
    intro i x y w hi hx hyl hw hc hy
    refine Ev.succ (fun k => ?_) (ih (i + 1) (x.set i ((co l i * w) % p)) y (w * s % p) (by omega) (by simpa using hx) hyl (h.mod _).1 (by rw [Int.pow_succ]; exact (Cg.mod _ _).trans (hc.mul (Cg.refl _ _))) (fun j hj => ?_))
    · rw [poly_Shift.l0, if_pos (by omega), if_pos (by omega), if_pos (by omega), rd_nat, o_Mul h (U.co hu i).1 hw, Option.bind_some, if_pos (by omega), o_Mul h hw hs, Option.bind_some, w64_succ (by omega), Int.toNat_natCast]
    · rw [hy j hj, co_set (by omega)]
      by_cases e : j = i
      · subst e; rw [if_pos (by omega), if_neg (by omega), if_pos rfl]; exact Cg.mod_eq ((Cg.refl _ _).mul hc.symm)
      · rw [if_neg e]
        by_cases e2 : i ≤ j
        · rw [if_pos e2, if_pos (by omega)]
        · rw [if_neg e2, if_neg (by omega)]
theorem s_Shift {l : List Int} (hl : l.length ≤ 1000000) (hu : UL l) {s : Int} (hs : 0 ≤ s) : Ev (fun k => poly_Shift.f k f l s) (nrm p (shf s l)) := by
  refine Ev.congr (fun k => ?_) (shift_l0 h hl hu hs l.length 0 (List.replicate l.length 0) ((shf s l).map (· % (p : Int))) 1 (by omega) (by simp) (by simp [shf_length]) (by omega) (Cg.of_eq (Int.pow_zero s).symm) (fun j hj => by rw [co_map_mod, co_shf, if_pos (Nat.zero_le _)]))
  rw [poly_Shift.f, if_pos (by omega), if_pos (by omega), Int.toNat_natCast]
  rfl
end any
end Go.Proofs.YtdjjdlkglinlgaaDoor.Pure

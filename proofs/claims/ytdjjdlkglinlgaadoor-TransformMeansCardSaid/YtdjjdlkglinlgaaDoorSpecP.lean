/- What the functions of the polynomials answer. -/
import Derived.Test.YtdjjdlkglinlgaaDoorSpecF
import Derived.Test.YtdjjdlkglinlgaaDoorQ12
import Derived.Test.YtdjjdlkglinlgaaDoorQ13
import Derived.Test.YtdjjdlkglinlgaaDoorQ3
import Derived.Test.YtdjjdlkglinlgaaDoorQ4
namespace Go.Proofs.YtdjjdlkglinlgaaDoor.Pure
open Go.RowKit Go.Proofs.YtdjjdlkglinlgaaDoor.Q Go.Proofs.YtdjjdlkglinlgaaDoor.Num Go.Proofs.YtdjjdlkglinlgaaDoor.Pol Go.Proofs.YtdjjdlkglinlgaaDoorW.PrintWords Go.Proofs.YtdjjdlkglinlgaaDoorW.PrintLast Go.Proofs.YtdjjdlkglinlgaaDoorW.PrintMore

theorem w64_pred {n : Nat} (h : n < 9223372036854775807) : wrap64 (((n + 1 : Nat) : Int) - 1) = (n : Int) := by rw [w64 (by omega) (by omega)]; omega
theorem trim_l0 {l : List Int} (hl : l.length ≤ 1000000) : ∀ n : Nat, n ≤ l.length → (∀ i, n ≤ i → co l i = 0) → Ev (fun k => poly_trim.l0 k l n) (trm l)
  | 0, hn, hz => by
    refine Ev.succ (F := fun _ => some (trm l)) (fun k => ?_) (Ev.all fun _ => rfl)
    rw [poly_trim.l0, if_neg (by omega), if_pos (by omega), if_pos (by omega)]
    exact congrArg some (trm_eq (m := 0) hn hz (fun n h => by omega))
  | n + 1, hn, hz => by
    by_cases h0 : co l n = 0
    · refine Ev.succ (fun k => ?_) (trim_l0 hl n (by omega) (fun i hi => ?_))
      · rw [poly_trim.l0, if_pos (by omega), w64_pred (by omega), if_pos (by omega), if_pos (by omega), rd_nat, if_pos h0]
      · rcases Nat.eq_or_lt_of_le hi with e | e
        · rw [← e]; exact h0
        · exact hz i e
    · refine Ev.succ (F := fun _ => some (trm l)) (fun k => ?_) (Ev.all fun _ => rfl)
      rw [poly_trim.l0, if_pos (by omega), w64_pred (by omega), if_pos (by omega), if_pos (by omega), rd_nat, if_neg h0, if_pos (by omega), if_pos (by omega)]
      refine congrArg some ?_
      rw [Int.toNat_natCast]
      exact trm_eq hn hz (fun m hm => by obtain rfl : m = n := by omega
                                         exact h0)
theorem s_trim {l : List Int} (hl : l.length ≤ 1000000) : Ev (fun k => poly_trim.f k l) (trm l) := trim_l0 hl _ (Nat.le_refl _) (fun _ h => co_over h)

theorem ev_take_succ (x : Int) : ∀ (l : List Int) (d : Nat), ev (l.take (d + 1)) x = ev (l.take d) x + co l d * x ^ d
  | [], d => by simp [ev]
  | c :: t, 0 => by simp [ev]
  | c :: t, d + 1 => by
    have := ev_take_succ x t d
    simp only [List.take_succ_cons, ev, co_cons_succ] at this ⊢
    rw [this, Int.pow_succ]; grind
section any
variable {f : Int} {p : Nat} (h : FO f p)
include h
theorem eval_l0 {l : List Int} (hl : l.length ≤ 1000000) (hu : UL l) {x : Int} (hx : 0 ≤ x) : ∀ (d : Nat) (acc : Int), d ≤ l.length → 0 ≤ acc → acc < p → Ev (fun k => poly_Eval.l0 k f l x acc (l.length : Int) ((l.length - d : Nat) : Int)) ((acc * x ^ d + ev (l.take d) x) % p) := by
  intro d
  induction d with
  | zero =>
    intro acc _ h0 h1
    refine Ev.succ (F := fun _ => some ((acc * x ^ 0 + ev (l.take 0) x) % p)) (fun k => ?_) (Ev.all fun _ => rfl)
    rw [poly_Eval.l0, if_neg (by omega)]
    have : acc * x ^ 0 + ev (l.take 0) x = acc := by simp [ev]
    rw [this, Int.emod_eq_of_lt h0 h1]
  | succ d ih =>
    intro acc hd h0 h1
    have e1 : wrap64 (wrap64 ((l.length : Int) - 1) - ((l.length - (d + 1) : Nat) : Int)) = (d : Int) := by
      rw [w64 (n := (l.length : Int) - 1) (by omega) (by omega), w64 (by omega) (by omega)]; omega
    have e2 : ((l.length - (d + 1) : Nat) : Int) + 1 = ((l.length - d : Nat) : Int) := by omega
    have key := ih ((acc * x % p + co l d) % p) (by omega) (mod_nonneg h.pos _) (mod_lt h.pos _)
    have e3 : ((acc * x % p + co l d) % p * x ^ d + ev (l.take d) x) % p = (acc * x ^ (d + 1) + ev (l.take (d + 1)) x) % p := by
      refine Cg.mod_eq ?_
      have c1 : Cg p ((acc * x % p + co l d) % p) (acc * x + co l d) := (Cg.mod _ _).trans ((Cg.mod _ _).add (Cg.refl _ _))
      refine ((c1.mul (Cg.refl _ (x ^ d))).add (Cg.refl _ _)).trans (Cg.of_eq ?_)
      rw [ev_take_succ x l d, Int.pow_succ]; grind
    rw [e3] at key
    refine Ev.succ (fun k => ?_) key
    rw [poly_Eval.l0, if_pos (by omega), o_Mul h h0 hx, Option.bind_some, e1, if_pos (by omega), if_pos (by omega), rd_nat, o_Add h (mod_nonneg h.pos _) (U.co hu d).1, Option.bind_some, e2, w64 (by omega) (by omega)]
theorem s_Eval {l : List Int} (hl : l.length ≤ 1000000) (hu : UL l) {x : Int} (hx : 0 ≤ x) : Ev (fun k => poly_Eval.f k f l x) (ev l x % p) := by
  have key := eval_l0 h hl hu hx l.length 0 (Nat.le_refl _) (Int.le_refl _) h.pos
  rw [List.take_length, Int.zero_mul, Int.zero_add, Nat.sub_self] at key
  exact key

/-! ### Products of X - x -/
end any
section good
variable {f : Int} {p : Nat} (h : FP f p)
include h
end good
end Go.Proofs.YtdjjdlkglinlgaaDoor.Pure

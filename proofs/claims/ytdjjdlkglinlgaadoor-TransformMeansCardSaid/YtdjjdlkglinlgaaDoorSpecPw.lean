/- What the program's Pow answers. -/
import Derived.Test.YtdjjdlkglinlgaaDoorSpecF
import Derived.Laws.BitsLemmas
import Derived.Test.YtdjjdlkglinlgaaDoorQ3
namespace Go.Proofs.YtdjjdlkglinlgaaDoor.Pure
open Go.RowKit Go.Proofs.YtdjjdlkglinlgaaDoor.Q Go.Proofs.YtdjjdlkglinlgaaDoor.Num Go.Proofs.YtdjjdlkglinlgaaDoor.Pol Go.Proofs.YtdjjdlkglinlgaaDoorW.PrintWords Go.Proofs.YtdjjdlkglinlgaaDoorW.PrintLast Go.Proofs.YtdjjdlkglinlgaaDoorW.PrintMore

theorem bits_odd {n : Int} (h0 : 0 ≤ n) (h1 : n < 18446744073709551616) : Go.bits .and .u64 n 1 = n % 2 := Go.bits_mask .u64 64 (by decide) (fun n h0 h1 => wu64 h0 h1) 1 (by decide) n h0 h1
section good
variable {f : Int} {p : Nat} (h : FP f p)
include h
theorem pow_l0 : ∀ (m e : Nat) (a acc v : Int), e ≤ m → (e : Int) < 18446744073709551616 → 0 ≤ a → 0 ≤ acc → acc < p → Cg p v (acc * a ^ e) → Ev (fun k => field_Pow.l0 k f a e acc) (v % p) := by
  intro m
  induction m with
  | zero =>
    intro e a acc v he _ ha h0 h1 hv
    obtain rfl : e = 0 := by omega
    refine Ev.succ (F := fun _ => some (v % p)) (fun k => ?_) (Ev.all fun _ => rfl)
    rw [field_Pow.l0, if_neg (by omega)]
    rw [Int.pow_zero, Int.mul_one] at hv
    rw [hv.mod_eq, Int.emod_eq_of_lt h0 h1]
  | succ m ih =>
    intro e a acc v he hlt ha h0 h1 hv
    rcases Nat.eq_zero_or_pos e with rfl | hpos
    · refine Ev.succ (F := fun _ => some (v % p)) (fun k => ?_) (Ev.all fun _ => rfl)
      rw [field_Pow.l0, if_neg (by omega)]
      rw [Int.pow_zero, Int.mul_one] at hv
      rw [hv.mod_eq, Int.emod_eq_of_lt h0 h1]
    · obtain ⟨n, hn⟩ : ∃ n, n = e / 2 := ⟨_, rfl⟩
      have e2 : (e : Int) / 2 = (n : Int) := by omega
      have hb := bits_odd (n := (e : Int)) (by omega) hlt
      have hsq : ∀ w : Int, Cg p v (w * a ^ (n + n)) → Cg p v (w * (a * a % p) ^ n) := fun w hw => by
        refine hw.trans ((Cg.refl _ w).mul ?_)
        rw [← Nat.two_mul, Int.pow_mul]
        refine Cg.pow ?_ n
        have : a ^ 2 = a * a := by rw [Int.pow_succ, Int.pow_succ, Int.pow_zero, Int.one_mul]
        rw [this]
        exact (Cg.mod _ _).symm
      by_cases ho : (e : Int) % 2 = 1
      · have key := ih n (a * a % p) (acc * a % p) v (by omega) (by omega) (h.mod _).1 (h.mod _).1 (h.mod _).2 (hsq _ (by
          have e3 : e = n + n + 1 := by omega
          rw [e3, Int.pow_succ] at hv
          refine hv.trans ((Cg.of_eq ?_).trans ((Cg.mod _ _).symm.mul (Cg.refl _ _)))
          rw [Int.mul_comm (a ^ (n + n)) a, Int.mul_assoc]))
        refine Ev.succ (fun k => ?_) key
        rw [field_Pow.l0, if_pos (by omega), hb, if_pos ho, s_Mul h h0 ha, Option.bind_some, s_Mul h ha ha, Option.bind_some, e2]
      · have key := ih n (a * a % p) acc v (by omega) (by omega) (h.mod _).1 h0 h1 (hsq _ (by
          have e3 : e = n + n := by omega
          rw [e3] at hv
          exact hv))
        refine Ev.succ (fun k => ?_) key
        rw [field_Pow.l0, if_pos (by omega), hb, if_neg ho, s_Mul h ha ha, Option.bind_some, e2]
theorem s_Pow {a : Int} (ha : 0 ≤ a) (e : Nat) (he : (e : Int) < 18446744073709551616) : Ev (fun k => field_Pow.f k f a e) (a ^ e % p) := by
  refine Ev.congr (fun k => ?_) (pow_l0 h e e a 1 (a ^ e) (Nat.le_refl _) he ha (by omega) h.one (Cg.of_eq (Int.one_mul _).symm))
  rw [field_Pow.f, s_Valid h, Option.bind_some, if_pos rfl]
end good
end Go.Proofs.YtdjjdlkglinlgaaDoor.Pure

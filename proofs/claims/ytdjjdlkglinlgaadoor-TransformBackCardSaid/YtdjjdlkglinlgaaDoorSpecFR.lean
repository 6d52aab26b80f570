/- What the reference's functions of the fields answer. -/
import Derived.Test.YtdjjdlkglinlgaaDoorSpecF
import Derived.Test.YtdjjdlkglinlgaaDoorQ1
import Derived.Test.YtdjjdlkglinlgaaDoorQ5
import Derived.Test.YtdjjdlkglinlgaaDoorQ7
namespace Go.Proofs.YtdjjdlkglinlgaaDoor.Pure
open Go.RowKit Go.Proofs.YtdjjdlkglinlgaaDoor.Q Go.Proofs.YtdjjdlkglinlgaaDoor.Num Go.Proofs.YtdjjdlkglinlgaaDoor.Pol Go.Proofs.YtdjjdlkglinlgaaDoorW.PrintWords Go.Proofs.YtdjjdlkglinlgaaDoorW.PrintLast Go.Proofs.YtdjjdlkglinlgaaDoorW.PrintMore

theorem FP.eqr {f : Int} {p : Nat} (h : FP f p) : attestorref01_P.f f = some (p : Int) := by
  have h0 := h.lo
  have h1 := h.hi
  have h2 := h.eq
  have : f = 0 ∨ f = 1 ∨ f = 2 ∨ f = 3 := by omega
  rcases this with rfl | rfl | rfl | rfl <;> (rw [← h2]; rfl)
section good
variable {f : Int} {p : Nat} (h : FP f p)
include h
theorem r_Valid : attestorref01_Valid.f f = some true := by
  unfold attestorref01_Valid.f
  rw [if_pos h.lo, decide_eq_true (by have := h.hi; omega)]
theorem r_Reduce {x : Int} (hx : 0 ≤ x) : attestorref01_Reduce.f f x = some (x % p) := by
  have := h.pos
  simp only [attestorref01_Reduce.f, r_Valid h, h.eqr, Option.bind_some, if_true]
  rw [if_neg (by omega), tmod_nn hx]
theorem r_Add {a b : Int} (ha : 0 ≤ a) (hb : 0 ≤ b) : attestorref01_Add.f f a b = some ((a + b) % p) := by
  have hp := h.pos
  have ma := h.mod a
  have mb := h.mod b
  have hl := h.lei
  simp only [attestorref01_Add.f, r_Valid h, h.eqr, Option.bind_some, if_true]
  rw [if_neg (by omega), tmod_nn ha, tmod_nn hb, wu64 (by omega) (by omega), tmod_nn (by omega)]
  exact congrArg some (Cg.mod_eq ((Cg.mod p a).add (Cg.mod p b)))
theorem r_Mul {a b : Int} (ha : 0 ≤ a) (hb : 0 ≤ b) : attestorref01_Mul.f f a b = some ((a * b) % p) := by
  have hp := h.pos
  have ma := h.mod a
  have mb := h.mod b
  have hl := h.lei
  have h1 : 0 ≤ (a % p) * (b % p) := Int.mul_nonneg ma.1 mb.1
  have h2 : (a % p) * (b % p) ≤ 998244353 * 998244353 := Int.mul_le_mul (by omega) (by omega) mb.1 (by omega)
  simp only [attestorref01_Mul.f, r_Valid h, h.eqr, Option.bind_some, if_true]
  rw [if_neg (by omega), tmod_nn ha, tmod_nn hb, wu64 h1 (by omega), tmod_nn h1]
  exact congrArg some (Cg.mod_eq ((Cg.mod p a).mul (Cg.mod p b)))
theorem r_Pow {a : Int} (ha : 0 ≤ a) : ∀ (n e : Nat), e ≤ n → (e : Int) < 18446744073709551616 → Ev (fun k => attestorref01_Pow.f k f a e) (a ^ e % p) := by
  have zero : Ev (fun k => attestorref01_Pow.f k f a ((0 : Nat) : Int)) (a ^ 0 % p) := by
    refine Ev.succ (F := fun _ => some (a ^ 0 % p)) (fun k => ?_) (Ev.all fun _ => rfl)
    rw [attestorref01_Pow.f, r_Valid h, Option.bind_some, if_pos rfl, if_pos (show ((0 : Nat) : Int) = 0 from rfl), Int.pow_zero, Int.emod_eq_of_lt (by omega) h.one]
  intro n
  induction n with
  | zero =>
    intro e he _
    obtain rfl : e = 0 := by omega
    exact zero
  | succ n ihn =>
    intro e1 hn hlt
    rcases e1 with _ | e
    · exact zero
    obtain ⟨m, hm⟩ : ∃ m, m = (e + 1) / 2 := ⟨_, rfl⟩
    have ih := ihn m (by omega) (by omega)
    have e1 : Int.tdiv ((e + 1 : Nat) : Int) 2 = (m : Int) := by rw [Int.tdiv_eq_ediv_of_nonneg (by omega)]; omega
    have mm := mod_nonneg h.pos (a ^ m)
    have key : Ev (fun k => (attestorref01_Pow.f k f a m).bind fun t260 => ((attestorref01_Mul.f f t260 t260).bind fun t261 => (if (Int.tmod ((e + 1 : Nat) : Int) 2) = 1 then ((attestorref01_Mul.f f t261 a).bind fun t262 => (some t262)) else (some t261)))) (a ^ (e + 1) % p) := by
      refine ih.bind (Ev.all fun k => ?_)
      rw [r_Mul h mm mm]
      simp only [Option.bind_some]
      have e2 : Cg p ((a ^ m % p) * (a ^ m % p)) (a ^ (m + m)) := by rw [Int.pow_add]; exact (Cg.mod _ _).mul (Cg.mod _ _)
      rw [tmod_nn (by omega)]
      by_cases ho : ((e + 1 : Nat) : Int) % 2 = 1
      · rw [if_pos ho, r_Mul h (mod_nonneg h.pos _) ha]
        simp only [Option.bind_some]
        refine congrArg some (Cg.mod_eq ?_)
        have e3 : e + 1 = m + m + 1 := by omega
        rw [e3, Int.pow_succ]
        exact ((Cg.mod _ _).trans e2).mul (Cg.refl _ _)
      · rw [if_neg ho]
        refine congrArg some (Cg.mod_eq ?_)
        have e3 : e + 1 = m + m := by omega
        rw [e3]
        exact e2
    refine Ev.succ (fun k => ?_) key
    rw [attestorref01_Pow.f, r_Valid h]
    simp only [Option.bind_some, if_true]
    rw [if_neg (by omega), e1, wu64 (by omega) (by omega)]
theorem r_Inv {a : Int} (ha : 0 ≤ a) : Ev (fun k => attestorref01_Inv.f k f a) (inv p a) := by
  have h2 := h.pr.two
  have hl := h.lei
  have key : Ev (fun k => (attestorref01_Pow.f k f a ((p - 2 : Nat) : Int)).bind fun t265 => (some t265)) (inv p a) := (r_Pow h ha (p - 2) (p - 2) (Nat.le_refl _) (by omega)).bind (Ev.all fun _ => rfl)
  refine Ev.congr (fun k => ?_) key
  simp only [attestorref01_Inv.f, r_Valid h, h.eqr, Option.bind_some, if_true]
  rw [wu64 (by omega) (by omega), show (p : Int) - 2 = ((p - 2 : Nat) : Int) by omega]
theorem r_Div {a b : Int} (ha : 0 ≤ a) (hb : 0 ≤ b) : Ev (fun k => attestorref01_Div.f k f a b) ((a * inv p b) % p) := by
  unfold attestorref01_Div.f
  refine (r_Inv h hb).bind (Ev.all fun k => ?_)
  rw [r_Mul h ha (inv_nn h.pr _)]
  rfl
end good
section bad
variable {f : Int} (h : f < 0 ∨ 4 ≤ f)
include h
theorem br_Valid : attestorref01_Valid.f f = some false := by
  unfold attestorref01_Valid.f
  rcases h with h | h
  · rw [if_neg (by omega)]
  · rw [if_pos (by omega), decide_eq_false (by omega)]
theorem br_Add (a b : Int) : attestorref01_Add.f f a b = some 0 := by simp [attestorref01_Add.f, br_Valid h]
theorem br_Mul (a b : Int) : attestorref01_Mul.f f a b = some 0 := by simp [attestorref01_Mul.f, br_Valid h]
end bad
theorem br_Reduce {f : Int} (h : f < 0 ∨ 4 ≤ f) (x : Int) : attestorref01_Reduce.f f x = some 0 := by simp [attestorref01_Reduce.f, br_Valid h]
section any
variable {f : Int} {p : Nat} (h : FO f p)
include h
theorem ro_Reduce {x : Int} (hx : 0 ≤ x) : attestorref01_Reduce.f f x = some (x % p) := by
  rcases h.ok with g | ⟨g, rfl⟩
  · exact r_Reduce g hx
  · rw [br_Reduce g, mod_one]
theorem ro_Add {a b : Int} (ha : 0 ≤ a) (hb : 0 ≤ b) : attestorref01_Add.f f a b = some ((a + b) % p) := by
  rcases h.ok with g | ⟨g, rfl⟩
  · exact r_Add g ha hb
  · rw [br_Add g, mod_one]
theorem ro_Mul {a b : Int} (ha : 0 ≤ a) (hb : 0 ≤ b) : attestorref01_Mul.f f a b = some ((a * b) % p) := by
  rcases h.ok with g | ⟨g, rfl⟩
  · exact r_Mul g ha hb
  · rw [br_Mul g, mod_one]
end any
end Go.Proofs.YtdjjdlkglinlgaaDoor.Pure

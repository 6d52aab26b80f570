/- What the program's Mul answers. -/
import Derived.Test.YtdjjdlkglinlgaaDoorSpecL
import Derived.Test.YtdjjdlkglinlgaaDoorQ13
namespace Go.Proofs.YtdjjdlkglinlgaaDoor.Pure
open Go.RowKit Go.Proofs.YtdjjdlkglinlgaaDoor.Q Go.Proofs.YtdjjdlkglinlgaaDoor.Num Go.Proofs.YtdjjdlkglinlgaaDoor.Pol Go.Proofs.YtdjjdlkglinlgaaDoorW.PrintWords Go.Proofs.YtdjjdlkglinlgaaDoorW.PrintLast Go.Proofs.YtdjjdlkglinlgaaDoorW.PrintMore

section good
variable {f : Int} {p : Nat} (h : FP f p)
include h
theorem mul_l {a b : List Int} (ha : a.length ≤ 1000000) (hb : b.length ≤ 1000000) (ra : Rg p a) (rb : Rg p b) {z : List Int} (rz : Rg p z) (hz : z.length + 1 = a.length + b.length) :
    ∀ (d i : Nat) (x : List Int), i + d = a.length → x.length = z.length → Rg p x → (∀ t, Cg p (co z t) (co x t + co (sh i (pmul (a.drop i) b)) t)) → Ev (fun k => poly_Mul.l0 k f b x a (a.length : Int) i) (z, 0) := by
  intro d
  induction d with
  | zero =>
    intro i x hi hx rx hc
    have e : z = x := rz.eq rx hx.symm fun t _ => by
      have := hc t
      rw [List.drop_of_length_le (by omega)] at this
      simpa [pmul, co_sh] using this
    subst e
    refine Ev.succ (F := fun _ => some (z, 0)) (fun k => ?_) (Ev.all fun _ => rfl)
    rw [poly_Mul.l0, if_neg (by omega)]
  | succ d ih =>
    intro i x hi hx rx hc
    have inner : ∀ (e j : Nat) (x : List Int), j + e = b.length → x.length = z.length → Rg p x → (∀ t, Cg p (co z t) (co x t + (co (sh (i + j) (psc (co a i) (b.drop j))) t + co (sh (i + 1) (pmul (a.drop (i + 1)) b)) t))) →
        Ev (fun k => poly_Mul.l1 k f b x i (co a i) a (a.length : Int) i b (b.length : Int) j) (z, 0) := by
      intro e
      induction e with
      | zero =>
        intro j x hj hx rx hc
        refine Ev.succ (fun k => ?_) (ih (i + 1) x (by omega) hx rx (fun t => ?_))
        · rw [poly_Mul.l1, if_neg (by omega), w64_succ (by omega)]
        · have := hc t
          rw [List.drop_of_length_le (by omega)] at this
          have e0 : co (sh (i + j) (psc (co a i) [])) t = 0 := by rw [co_sh]; split <;> simp [psc]
          rwa [e0, Int.zero_add] at this
      | succ e ihe =>
        intro j x hj hx rx hc
        have hij : i + j < x.length := by omega
        refine Ev.succ (fun k => ?_) (ihe (j + 1) (x.set (i + j) ((co x (i + j) + (co a i * co b j) % p) % p)) (by omega) (by simpa using hx) (rx.set (h.mod _)) (fun t => ?_))
        · have e1 : wrap64 ((i : Int) + (j : Int)) = ((i + j : Nat) : Int) := by rw [w64 (by omega) (by omega)]; omega
          rw [poly_Mul.l1, if_pos (by omega), if_pos (by omega), if_pos (by omega), e1, if_pos (by omega), if_pos (by omega), rd_nat, rd_nat, s_Mul h (ra i).1 (rb j).1, Option.bind_some, s_Add h (rx _).1 (mod_nonneg h.pos _), Option.bind_some, w64_succ (by omega), Int.toNat_natCast]
        · have h1 := hc t
          rw [co_sh_term (i + j) (co a i) b j (by omega) t] at h1
          refine h1.trans ?_
          rw [co_set hij, show i + (j + 1) = i + j + 1 by omega]
          by_cases et : t = i + j
          · subst et
            rw [if_pos rfl, if_pos rfl]
            have c1 : Cg p ((co x (i + j) + co a i * co b j % p) % p) (co x (i + j) + co a i * co b j) := (Cg.mod _ _).trans ((Cg.refl _ _).add (Cg.mod _ _))
            exact (Cg.of_eq (by omega)).trans (c1.symm.add (Cg.refl _ _))
          · rw [if_neg et, if_neg et]; exact Cg.of_eq (by omega)
    by_cases h0 : co a i = 0
    · refine Ev.succ (fun k => ?_) (ih (i + 1) x (by omega) hx rx (fun t => ?_))
      · rw [poly_Mul.l0, if_pos (by omega), if_pos (by omega), if_pos (by omega), rd_nat, if_pos h0, w64_succ (by omega)]
      · have h1 := hc t
        rw [co_sh_row a b i (by omega) t, h0] at h1
        have e0 : co (sh i (psc 0 b)) t = 0 := by rw [co_sh]; split <;> simp [co_psc]
        rwa [e0, Int.zero_add] at h1
    · refine Ev.succ (fun k => ?_) (inner b.length 0 x (by omega) hx rx (fun t => ?_))
      · rw [poly_Mul.l0, if_pos (by omega), if_pos (by omega), if_pos (by omega), rd_nat, if_neg h0]
        rfl
      · have h1 := hc t
        rw [co_sh_row a b i (by omega) t] at h1
        rw [Nat.add_zero, List.drop_zero]
        exact h1
theorem s_MulP {a b : List Int} (ha : a.length ≤ 1000000) (hb : b.length ≤ 1000000) (ua : UL a) (ub : UL b) (hlim : (nrm p a).length + (nrm p b).length ≤ 32769) : Ev (fun k => poly_Mul.f k f a b) (nrm p (pmul a b), 0) := by
  have la := nrm_length_le p a
  have lb := nrm_length_le p b
  have key : Ev (fun k => (if ((nrm p a).length : Int) = 0 then (poly_Mul.j0 k f (nrm p a) (nrm p b) (wrap64 ((wrap64 (((nrm p a).length : Int) + ((nrm p b).length : Int))) - 1)) true) else (poly_Mul.j0 k f (nrm p a) (nrm p b) (wrap64 ((wrap64 (((nrm p a).length : Int) + ((nrm p b).length : Int))) - 1)) (((nrm p b).length : Int) == 0)))) (nrm p (pmul a b), 0) := by
    by_cases ea : (nrm p a).length = 0
    · have : nrm p (pmul a b) = [] := nrm_eq_nil.2 (pmul_zero_left (nrm_eq_nil.1 (List.eq_nil_of_length_eq_zero ea)))
      rw [this]
      refine Ev.succ (F := fun _ => some ([], 0)) (fun k => ?_) (Ev.all fun _ => rfl)
      rw [if_pos (by omega), poly_Mul.j0, if_pos rfl]
    · by_cases eb : (nrm p b).length = 0
      · have : nrm p (pmul a b) = [] := nrm_eq_nil.2 (pmul_nil_right p a (nrm_eq_nil.1 (List.eq_nil_of_length_eq_zero eb)))
        rw [this]
        refine Ev.succ (F := fun _ => some ([], 0)) (fun k => ?_) (Ev.all fun _ => rfl)
        rw [if_neg (by omega), poly_Mul.j0, if_pos (by rw [eb]; rfl)]
      · obtain ⟨m, hm⟩ : ∃ m, (nrm p a).length = m + 1 := ⟨(nrm p a).length - 1, by omega⟩
        obtain ⟨n, hn⟩ : ∃ n, (nrm p b).length = n + 1 := ⟨(nrm p b).length - 1, by omega⟩
        have hz := nrm_pmul_length h.pr hm hn
        have ew : wrap64 (wrap64 (((nrm p a).length : Int) + ((nrm p b).length : Int)) - 1) = ((m + n + 1 : Nat) : Int) := by
          rw [w64 (n := ((nrm p a).length : Int) + ((nrm p b).length : Int)) (by omega) (by omega), w64 (by omega) (by omega)]; omega
        refine Ev.succ (fun k => ?_) (mul_l h (by omega) (by omega) (nrm_rg h.pos a) (nrm_rg h.pos b) (nrm_rg h.pos (pmul a b)) (by omega) (nrm p a).length 0 (List.replicate (m + n + 1) 0) (by omega) (by simp [hz]) (Rg.zeros h.pos _) (fun t => ?_))
        · have ef : (((nrm p b).length : Int) == 0) = false := by simpa using eb
          rw [if_neg (by omega), ew, ef, poly_Mul.j0, if_neg (by simp), if_neg (by omega), if_pos (by omega), if_pos (by omega), Int.toNat_natCast]
          rfl
        · rw [co_replicate, Int.zero_add, co_sh, if_neg (by omega), List.drop_zero, Nat.sub_zero]
          exact (nrm_eqp p _ t).trans (((nrm_eqp p a).pmul (nrm_eqp p b)).symm t)
  have key2 := (s_Normal h.o ha ua).bind (G := fun k t329 => (poly_Normal.f k f b).bind fun t332 => (if (t329.length : Int) = 0 then (poly_Mul.j0 k f t329 t332 (wrap64 ((wrap64 ((t329.length : Int) + (t332.length : Int))) - 1)) true) else (poly_Mul.j0 k f t329 t332 (wrap64 ((wrap64 ((t329.length : Int) + (t332.length : Int))) - 1)) ((t332.length : Int) == 0)))) ((s_Normal h.o hb ub).bind key)
  refine Ev.congr (fun k => ?_) key2
  rw [poly_Mul.f, s_Valid h, Option.bind_some, if_pos rfl]

/-! ### The reference's -/
end good
end Go.Proofs.YtdjjdlkglinlgaaDoor.Pure

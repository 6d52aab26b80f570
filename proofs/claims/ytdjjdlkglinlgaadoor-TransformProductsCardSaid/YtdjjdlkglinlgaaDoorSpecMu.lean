/- What Multiply answers: the program's and the reference's. -/
import Derived.Test.YtdjjdlkglinlgaaDoorSpecVR
import Derived.Test.YtdjjdlkglinlgaaDoorSpecS
import Derived.Test.YtdjjdlkglinlgaaDoorQ3
import Derived.Test.YtdjjdlkglinlgaaDoorQ4
import Derived.Test.YtdjjdlkglinlgaaDoorQ8
namespace Go.Proofs.YtdjjdlkglinlgaaDoor.Pure
open Go.RowKit Go.Proofs.YtdjjdlkglinlgaaDoor.Q Go.Proofs.YtdjjdlkglinlgaaDoor.Num Go.Proofs.YtdjjdlkglinlgaaDoor.Pol Go.Proofs.YtdjjdlkglinlgaaDoorW.PrintWords Go.Proofs.YtdjjdlkglinlgaaDoorW.PrintLast Go.Proofs.YtdjjdlkglinlgaaDoorW.PrintMore

theorem len_tab : ((List.range 1024).all fun m => (List.range 11).any fun k => bits_Len.f 1 (m : Int) == some (k : Int) && decide (m < 2 ^ k) && (k == 0 || decide (2 ^ (k - 1) ≤ m))) = true := by decide +kernel
theorem s_Len {m : Nat} (hm : m < 1024) : ∃ k : Nat, k ≤ 10 ∧ m < 2 ^ k ∧ (k = 0 ∨ 2 ^ (k - 1) ≤ m) ∧ Ev (fun K => bits_Len.f K (m : Int)) (k : Int) := by
  have := List.all_eq_true.1 len_tab m (List.mem_range.2 hm)
  obtain ⟨k, hk, e⟩ := List.any_eq_true.1 this
  rw [Bool.and_eq_true, Bool.and_eq_true, Bool.or_eq_true, beq_iff_eq, beq_iff_eq, decide_eq_true_iff, decide_eq_true_iff] at e
  exact ⟨k, by have := List.mem_range.1 hk; omega, e.1.2, e.2, Ev.of_mono (fun k => bits_Len.mono _ k) (K := 1) e.1.1⟩
theorem shf_one (l : List Int) : shf 1 l = l := ext_co (shf_length 1 l) fun i _ => by rw [co_shf, Int.one_pow, Int.mul_one]
section good
variable {f : Int} {p : Nat} (h : FP f p)
include h
theorem inv_one : Cg p (1 * inv p 1) 1 := inv_spec h.pr (one_not_zero h)
/-- The coefficients of the values of a short polynomial. -/
theorem nrm_cofs {k : Nat} (hg : (k : Int) ≤ gr f) {P : List Int} (hP : (nrm p P).length ≤ 2 ^ k) : nrm p (cofs p (inv p (wr f p k)) (inv p ((2 ^ k : Nat) : Int)) (inv p 1) (vals p (wr f p k) P (2 ^ k)) (2 ^ k)) = nrm p P := by
  have hb := gr_le f
  have hw := inv_spec h.pr (wr_unit h (k := k))
  have e2 : ¬ Cg p ((2 ^ k : Nat) : Int) 0 := fun c => by
    have h2 : ¬ Cg p (2 : Int) 0 := fun c => by
      have h3 := h.three
      have := mod_eq_zero.2 c
      rw [Int.emod_eq_of_lt (by omega) (by omega)] at this
      omega
    rw [Int.natCast_pow] at c
    clear hP hw hg
    induction k with
    | zero => rw [Int.pow_zero] at c; exact one_not_zero h c
    | succ k ih =>
      rw [Int.pow_succ] at c
      rcases h.pr.int c with c | c
      · exact ih c
      · exact h2 c
  have hc := inv_spec h.pr e2
  refine nrm_congr fun j => ?_
  rw [← vals_congr (nrm_eqp p P), ← shf_one (nrm p P)]
  by_cases hj : j < 2 ^ k
  · rw [cofs_vals (wr_rt h (by omega)) hw ((Cg.of_eq (Int.mul_comm _ _)).trans hc) (inv_one h) hP hj]
    exact (Cg.mod _ _).trans (nrm_eqp p P j)
  · rw [co_over (by rw [cofs_length]; omega)]
    have := nrm_eqp p P j
    rw [co_over (by omega)] at this
    exact this
theorem mult_l0 {k : Nat} (hk : k ≤ 10) (hg : (k : Int) ≤ gr f) {a b : List Int} (hP : (nrm p (pmul a b)).length ≤ 2 ^ k) : ∀ (d i : Nat) (x : List Int), i + d = 2 ^ k → x.length = 2 ^ k → (∀ j, j < 2 ^ k → co x j = if i ≤ j then co (vals p (wr f p k) a (2 ^ k)) j else co (vals p (wr f p k) (pmul a b) (2 ^ k)) j) →
    Ev (fun K => transform_Multiply.l0 K f x (vals p (wr f p k) b (2 ^ k)) ((2 ^ k : Nat) : Int) i) (nrm p (pmul a b), 0) := by
  have h2 := pow10 hk
  intro d
  induction d with
  | zero =>
    intro i x hi hx hc
    have e : x = vals p (wr f p k) (pmul a b) (2 ^ k) := ext_co (by rw [vals_length, hx]) fun j hj => by rw [hc j (by omega), if_neg (by omega)]
    obtain ⟨K1, k1⟩ := Ev.get (s_Coefs h hk hg (s := 1) (by omega) (one_unit h) (vals_length p (wr f p k) (pmul a b) (2 ^ k)) (vals_UL h _ _ _))
    obtain ⟨K2, k2⟩ := Ev.get (s_Normal h.o (l := cofs p (inv p (wr f p k)) (inv p ((2 ^ k : Nat) : Int)) (inv p 1) (vals p (wr f p k) (pmul a b) (2 ^ k)) (2 ^ k)) (by rw [cofs_length]; omega) (cofs_UL h _ _ _ _ _))
    rw [nrm_cofs h hg hP] at k2
    refine Ev.mks (K1 + K2) fun K hK => ?_
    rw [transform_Multiply.l0, if_neg (by omega), e, k1 K (by omega), Option.bind_some, k2 K (by omega), Option.bind_some]
  | succ d ih =>
    intro i x hi hx hc
    have hii : i < 2 ^ k := by omega
    have ci := hc i hii
    rw [if_pos (Nat.le_refl _)] at ci
    have c0 : 0 ≤ co x i := by rw [ci]; exact (U.co (vals_UL h _ _ _) _).1
    have d0 : 0 ≤ co (vals p (wr f p k) b (2 ^ k)) i := (U.co (vals_UL h _ _ _) _).1
    refine Ev.succ (fun K => ?_) (ih (i + 1) (x.set i (co x i * co (vals p (wr f p k) b (2 ^ k)) i % p)) (by omega) (by simpa using hx) (fun j hj => ?_))
    · rw [transform_Multiply.l0, if_pos (Int.ofNat_lt.2 hii), if_pos (Int.natCast_nonneg _), hx, if_pos (Int.ofNat_lt.2 hii), vals_length, if_pos (Int.ofNat_lt.2 hii), rd_nat, rd_nat, s_Mul h c0 d0, Option.bind_some, w64_succ (by omega), Int.toNat_natCast]
    · rw [co_set (by omega)]
      by_cases q : j = i
      · subst q
        rw [if_pos rfl, if_neg (by omega), ci, vals_mul _ _ hii]
      · rw [if_neg q, hc j hj]
        by_cases q2 : i ≤ j
        · rw [if_pos q2, if_pos (by omega)]
        · rw [if_neg q2, if_neg (by omega)]
theorem Multiply_none {a b : List Int} (ha : a.length ≤ 300) (hb : b.length ≤ 300) (ua : UL a) (ub : UL b) (h0 : (nrm p a).length = 0 ∨ (nrm p b).length = 0) : Ev (fun K => transform_Multiply.f K f a b) ([], 0) := by
  obtain ⟨K1, k1⟩ := Ev.get (s_Degree h.o (l := a) (by omega) ua)
  obtain ⟨K2, k2⟩ := Ev.get (s_Degree h.o (l := b) (by omega) ub)
  refine Ev.mk (K1 + K2 + 1) fun K hK => ?_
  obtain ⟨K, rfl⟩ : ∃ K', K = K' + 1 := ⟨K - 1, by omega⟩
  rw [transform_Multiply.f, s_Valid h, Option.bind_some, if_pos rfl, k1 (K + 1) (by omega), Option.bind_some, k2 (K + 1) (by omega), Option.bind_some, Option.bind_some]
  by_cases q : ((nrm p a).length : Int) - 1 < 0
  · rw [if_pos q, transform_Multiply.j0, if_pos rfl]
  · rw [if_neg q, Option.bind_some, decide_eq_true (by omega), transform_Multiply.j0, if_pos rfl]
theorem Multiply_some {a b : List Int} (ha : a.length ≤ 300) (hb : b.length ≤ 300) (ua : UL a) (ub : UL b) {m n : Nat} (hm : (nrm p a).length = m + 1) (hn : (nrm p b).length = n + 1) : Ev (fun K => transform_Multiply.f K f a b) (if m + n + 1 > 2 ^ (gr f).toNat then ([], 2) else (nrm p (pmul a b), 0)) := by
  have hg := gr_le f
  have n1 := nrm_length_le p a
  have n2 := nrm_length_le p b
  obtain ⟨K1, k1⟩ := Ev.get (s_Degree h.o (l := a) (by omega) ua)
  obtain ⟨K2, k2⟩ := Ev.get (s_Degree h.o (l := b) (by omega) ub)
  have eg : gr f = (((gr f).toNat : Nat) : Int) := by omega
  have es := s_shl (k := (gr f).toNat) (by omega)
  rw [← eg] at es
  have ew : wrap64 (wrap64 (((m + 1 : Nat) : Int) - 1 + (((n + 1 : Nat) : Int) - 1)) + 1) = ((m + n + 1 : Nat) : Int) := by
    rw [w64 (n := ((m + 1 : Nat) : Int) - 1 + (((n + 1 : Nat) : Int) - 1)) (by omega) (by omega), w64 (by omega) (by omega)]; omega
  rw [hm] at k1
  rw [hn] at k2
  by_cases q : m + n + 1 > 2 ^ (gr f).toNat
  · rw [if_pos q]
    refine Ev.mk (K1 + K2 + 1) fun K hK => ?_
    obtain ⟨K, rfl⟩ : ∃ K', K = K' + 1 := ⟨K - 1, by omega⟩
    rw [transform_Multiply.f, s_Valid h, Option.bind_some, if_pos rfl, k1 (K + 1) (by omega), Option.bind_some, k2 (K + 1) (by omega), Option.bind_some, Option.bind_some, if_neg (by omega), Option.bind_some, decide_eq_false (by omega), transform_Multiply.j0, if_neg (by decide), s_gr, Option.bind_some, if_pos hg.1, ew, es, if_pos (Int.ofNat_lt.2 q)]
  · rw [if_neg q]
    obtain ⟨k, hk, l1, l2, e⟩ := s_Len (m := m + n) (by omega)
    obtain ⟨K3, k3⟩ := Ev.get e
    have hgk : (k : Int) ≤ gr f := by
      rcases l2 with l2 | l2
      · omega
      · rcases Nat.lt_or_ge (gr f).toNat k with w | w
        · have := Nat.pow_le_pow_right (n := 2) (by omega) (show (gr f).toNat ≤ k - 1 by omega)
          omega
        · omega
    have hP := nrm_pmul_length h.pr hm hn
    have ma : (nrm p a).length ≤ 2 ^ k := by omega
    have mb : (nrm p b).length ≤ 2 ^ k := by omega
    have va := s_Values h hk hgk (s := 1) (by omega) (one_unit h) (l := a) (by omega) ua ma
    have vb := s_Values h hk hgk (s := 1) (by omega) (one_unit h) (l := b) (by omega) ub mb
    rw [shf_one] at va vb
    obtain ⟨K4, k4⟩ := Ev.get va
    obtain ⟨K5, k5⟩ := Ev.get vb
    obtain ⟨K6, k6⟩ := Ev.get (mult_l0 h hk hgk (a := a) (b := b) (by omega) (2 ^ k) 0 (vals p (wr f p k) a (2 ^ k)) (by omega) (vals_length ..) (fun j _ => by rw [if_pos (Nat.zero_le _)]))
    refine Ev.mk (K1 + K2 + K3 + K4 + K5 + K6 + 1) fun K hK => ?_
    obtain ⟨K, rfl⟩ : ∃ K', K = K' + 1 := ⟨K - 1, by omega⟩
    have nq : ¬ (((m + n + 1 : Nat) : Int) > ((2 ^ (gr f).toNat : Nat) : Int)) := fun c => q (Int.ofNat_lt.1 c)
    rw [transform_Multiply.f, s_Valid h, Option.bind_some, if_pos rfl, k1 (K + 1) (by omega), Option.bind_some, k2 (K + 1) (by omega), Option.bind_some, Option.bind_some, if_neg (by omega), Option.bind_some, decide_eq_false (by omega), transform_Multiply.j0, if_neg (by decide), s_gr, Option.bind_some, if_pos hg.1, ew, es, if_neg nq, w64 (n := ((m + n + 1 : Nat) : Int) - 1) (by omega) (by omega), wu64 (by omega) (by omega), show ((m + n + 1 : Nat) : Int) - 1 = ((m + n : Nat) : Int) by omega, k3 K (by omega), Option.bind_some, k4 K (by omega), Option.bind_some, k5 K (by omega), Option.bind_some]
    dsimp only
    rw [vals_length]
    exact k6 K (by omega)
end good
end Go.Proofs.YtdjjdlkglinlgaaDoor.Pure

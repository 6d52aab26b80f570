/- The fold of a sum of multiples is the sum of the multiples of the folds: for every input. -/
import Derived.Test.YthinfmfjpaikiaaDoorSpecs
import Derived.Test.YthinfmfjpaikiaaDoorQ8
namespace Go.Proofs.YthinfmfjpaikiaaDoor.Pure
open Go.RowKit Go.Proofs.YthinfmfjpaikiaaDoor.Q Go.Proofs.YthinfmfjpaikiaaDoor.Num Go.Proofs.YthinfmfjpaikiaaDoor.Pol Go.Proofs.YthinfmfjpaikiaaDoorW.PrintWords Go.Proofs.YthinfmfjpaikiaaDoorW.PrintLast Go.Proofs.YthinfmfjpaikiaaDoorW.PrintMore

/-- The sum of a multiple and a list. -/
def sumL (p m : Int) (a b : List Int) (n : Nat) : List Int := (List.range n).map fun i => (co a i * m % p + co b i) % p
theorem sumL_length (p m : Int) (a b : List Int) (n : Nat) : (sumL p m a b n).length = n := by simp [sumL]
theorem co_sumL {p m : Int} {a b : List Int} {n i : Nat} (h : i < n) : co (sumL p m a b n) i = (co a i * m % p + co b i) % p := by
  rw [co_lt (by rw [sumL_length]; exact h)]; simp [sumL]
theorem take_co {l : List Int} {i : Nat} (h : i < l.length) : l.take i ++ [co l i] = l.take (i + 1) := by
  rw [co_lt h]; exact List.take_append_getElem h
theorem lin_cofs {p u c t m : Int} {V A B : List Int} {n : Nat} (h : EqP p V (padd (psc m A) B)) : EqP p (cofs p u c t V n) (padd (psc m (cofs p u c t A n)) (cofs p u c t B n)) := fun j => by
  rw [co_padd, co_psc]
  by_cases hj : j < n
  · rw [co_cofs hj, co_cofs hj, co_cofs hj]
    refine (Cg.mod _ _).trans (Cg.trans ?_ (((Cg.refl _ m).mul (Cg.mod _ _).symm).add (Cg.mod _ _).symm))
    refine ((h.ev (u ^ j)).mul (Cg.refl _ _)).trans (Cg.of_eq ?_)
    rw [ev_padd, ev_psc]
    generalize ev A (u ^ j) = x
    generalize ev B (u ^ j) = y
    generalize t ^ j = z
    grind
  · rw [co_over (by rw [cofs_length]; omega), co_over (by rw [cofs_length]; omega), co_over (by rw [cofs_length]; omega)]
    exact Cg.of_eq (by simp)
theorem wrd_sum {f : Int} {p k : Nat} {s : Int} {a b : List Int} {m c : Int} : wrd f p k s (sumL p m a b (2 ^ k)) c = sumL p m (wrd f p k s a c) (wrd f p k s b c) (2 ^ k / 8) :=
  ext_co (by rw [wrd_length, sumL_length]) fun i hi => by
    rw [wrd_length] at hi
    rw [co_wrd hi, co_sumL hi, co_wrd hi, co_wrd hi]
    refine Cg.mod_eq ?_
    have h1 : EqP p (loc f p k s (sumL p m a b (2 ^ k)) i) (padd (psc m (loc f p k s a i)) (loc f p k s b i)) := lin_cofs (fun j => by
      rw [co_padd, co_psc]
      by_cases hj : j < 8
      · rw [co_fib hj, co_fib hj, co_fib hj]
        have hlt : i + j * (2 ^ k / 8) < 2 ^ k := by
          have : j * (2 ^ k / 8) ≤ 7 * (2 ^ k / 8) := Nat.mul_le_mul_right _ (by omega)
          omega
        rw [co_sumL hlt, Int.mul_comm m]
        exact (Cg.mod _ _).trans ((Cg.mod _ _).add (Cg.refl _ _))
      · rw [co_over (by rw [fib_length]; omega), co_over (by rw [fib_length]; omega), co_over (by rw [fib_length]; omega)]
        exact Cg.of_eq (by simp))
    refine (h1.ev c).trans ?_
    rw [ev_padd, ev_psc, Int.mul_comm]
    exact (((Cg.mod _ _).symm.mul (Cg.refl _ m)).trans (Cg.mod _ _).symm).add (Cg.mod _ _).symm
section dom
variable {f : Int} {p k : Nat} {s : Int} (z : Dm f p k s)
include z
theorem linear_l1 (h7 : k ≤ 7) {m : Int} (hm : 0 ≤ m) {x y : List Int} (hx : x.length = 2 ^ k / 8) (hy : y.length = 2 ^ k / 8) (ux : UL x) (uy : UL y) : ∀ (d i : Nat), i + d = 2 ^ k / 8 →
    Ev (fun K => attestorlaw09_FoldLinear.l1 K m ((2 ^ k : Nat) : Int) ((sumL p m x y (2 ^ k / 8)).take i) x y (sumL p m x y (2 ^ k / 8)) i f k s) true := by
  have h128 : 2 ^ k ≤ 2 ^ 7 := Nat.pow_le_pow_right (by omega) h7
  have e8 : wrap64 (Int.tdiv ((2 ^ k : Nat) : Int) 8) = ((2 ^ k / 8 : Nat) : Int) := by
    rw [Int.tdiv_eq_ediv_of_nonneg (Int.natCast_nonneg _), w64 (by omega) (by omega)]; omega
  intro d
  induction d with
  | zero =>
    intro i hi
    obtain ⟨K1, k1⟩ := Ev.get (s_same (l := sumL p m x y (2 ^ k / 8)) (by rw [sumL_length]; omega))
    obtain ⟨K2, k2⟩ := Ev.get s_works
    refine Ev.mks (K1 + K2) fun K hK => ?_
    rw [attestorlaw09_FoldLinear.l1, e8, if_neg (by omega), List.take_of_length_le (by rw [sumL_length]; omega), k1 K (by omega), Option.bind_some, if_pos rfl, k2 K (by omega), Option.bind_some]
  | succ d ih =>
    intro i hi
    have hii : i < 2 ^ k / 8 := by omega
    refine Ev.succ (fun K => ?_) (ih (i + 1) (by omega))
    have e := co_sumL (p := p) (m := m) (a := x) (b := y) hii
    rw [attestorlaw09_FoldLinear.l1, e8, if_pos (Int.ofNat_lt.2 hii), if_pos (Int.natCast_nonneg _), hx, if_pos (Int.ofNat_lt.2 hii), rd_nat, s_Mul z.h (U.co ux i).1 hm, Option.bind_some, hy, if_pos (Int.ofNat_lt.2 hii), rd_nat, s_Add z.h (z.h.mod _).1 (U.co uy i).1, Option.bind_some, if_pos (by rw [List.length_take, sumL_length]; omega), w64_succ (by omega), ← e, take_co (by rw [sumL_length]; exact hii)]
theorem sumL_UL (m : Int) (a b : List Int) (n : Nat) : UL (sumL p m a b n) := fun x hx => by
  obtain ⟨i, _, rfl⟩ := List.mem_map.1 hx
  exact z.h.U _
theorem wrd_UL (l : List Int) (c : Int) : UL (wrd f p k s l c) := fun x hx => by
  obtain ⟨i, _, rfl⟩ := List.mem_map.1 hx
  exact z.h.U _
theorem linear_l0 (h3 : 3 ≤ k) (h7 : k ≤ 7) {m c : Int} (hm : 0 ≤ m) (hc : 0 ≤ c) {a b : List Int} (ha : a.length = 2 ^ k) (hb : b.length = 2 ^ k) (ua : UL a) (ub : UL b) : ∀ (d i : Nat), i + d = 2 ^ k →
    Ev (fun K => attestorlaw09_FoldLinear.l0 K m c ((2 ^ k : Nat) : Int) a b ((sumL p m a b (2 ^ k)).take i) i f k s) true := by
  have h128 : 2 ^ k ≤ 2 ^ 7 := Nat.pow_le_pow_right (by omega) h7
  have e8 : wrap64 (Int.tdiv ((2 ^ k : Nat) : Int) 8) = ((2 ^ k / 8 : Nat) : Int) := by
    rw [Int.tdiv_eq_ediv_of_nonneg (Int.natCast_nonneg _), w64 (by omega) (by omega)]; omega
  intro d
  induction d with
  | zero =>
    intro i hi
    obtain ⟨K1, k1⟩ := Ev.get (z.Word h3 ha ua hc)
    obtain ⟨K2, k2⟩ := Ev.get (z.Word h3 hb ub hc)
    obtain ⟨K3, k3⟩ := Ev.get (z.Word h3 (sumL_length p m a b (2 ^ k)) (sumL_UL z m a b _) hc)
    rw [wrd_sum] at k3
    obtain ⟨K4, k4⟩ := Ev.get (linear_l1 z h7 hm (wrd_length f p k s a c) (wrd_length f p k s b c) (wrd_UL z a c) (wrd_UL z b c) (2 ^ k / 8) 0 (by omega))
    refine Ev.mk (K1 + K2 + K3 + K4 + 2) fun K hK => ?_
    obtain ⟨K, rfl⟩ : ∃ K', K = K' + 1 + 1 := ⟨K - 2, by omega⟩
    rw [attestorlaw09_FoldLinear.l0, if_neg (by omega), List.take_of_length_le (by rw [sumL_length]; omega), k1 _ (by omega), Option.bind_some, k2 _ (by omega), Option.bind_some, k3 _ (by omega), Option.bind_some, if_pos rfl, if_pos rfl, if_pos rfl]
    dsimp only
    rw [e8, wrd_length, wrd_length, if_pos rfl, if_pos rfl, attestorlaw09_FoldLinear.j1]
    exact k4 K (by omega)
  | succ d ih =>
    intro i hi
    have hii : i < 2 ^ k := by omega
    refine Ev.succ (fun K => ?_) (ih (i + 1) (by omega))
    have e := co_sumL (p := p) (m := m) (a := a) (b := b) hii
    rw [attestorlaw09_FoldLinear.l0, if_pos (Int.ofNat_lt.2 hii), if_pos (Int.natCast_nonneg _), ha, if_pos (Int.ofNat_lt.2 hii), rd_nat, s_Mul z.h (U.co ua i).1 hm, Option.bind_some, hb, if_pos (Int.ofNat_lt.2 hii), rd_nat, s_Add z.h (z.h.mod _).1 (U.co ub i).1, Option.bind_some, if_pos (by rw [List.length_take, sumL_length]; omega), w64_succ (by omega), ← e, take_co (by rw [sumL_length]; exact hii)]
end dom
theorem cpyAt_zl (n : Nat) (l : List Int) : (cpyAt (List.replicate n 0) 0 l).length = n := by rw [length_cpyAt _ _ _ (by simp)]; simp
theorem cpyAt_zu (n : Nat) {l : List Int} (h : UL l) : UL (cpyAt (List.replicate n 0) 0 l) := by
  intro c hc
  rw [cpyAt, splice] at hc
  rw [List.mem_append, List.mem_append] at hc
  rcases hc with hc | hc | hc
  · simp at hc
  · exact h c (List.mem_of_mem_take hc)
  · have := List.mem_of_mem_drop hc
    rw [(List.mem_replicate.1 this).2]; exact U.zero
theorem shl7_tab : ((List.range 8).all fun k => shl .i64 1 (IntKind.u64.wrap ((k : Nat) : Int)) == ((2 ^ k : Nat) : Int)) = true := by decide +kernel
theorem FoldLinear : attestorlaw09_FoldLinear.Pure := by
  intro a0 a1 a2 l3 l4 m c w0 w1 w2 _ _ wu3 _ _ wu4 wm wc
  obtain ⟨f, p, k, s, e, z, h3, h7⟩ := s_domain w0 w1 w2
  have h128 : 2 ^ k ≤ 2 ^ 7 := Nat.pow_le_pow_right (by omega) h7
  have es := beq_iff_eq.1 (List.all_eq_true.1 shl7_tab k (List.mem_range.2 (by omega)))
  obtain ⟨K, hK⟩ := Ev.ex (linear_l0 z h3 h7 (U.of_wf wm).1 (U.of_wf wc).1 (cpyAt_zl (2 ^ k) l3) (cpyAt_zl (2 ^ k) l4) (cpyAt_zu _ (UL.of_wf wu3)) (cpyAt_zu _ (UL.of_wf wu4)) (2 ^ k) 0 (by omega))
  refine ⟨K, ?_⟩
  rw [attestorlaw09_FoldLinear.f, e, Option.bind_some]
  dsimp only
  rw [es, if_pos (by rw [wu64 (by omega) (by omega)]; omega), if_pos (Int.natCast_nonneg _), Int.toNat_natCast, if_pos (by omega)]
  exact hK
end Go.Proofs.YthinfmfjpaikiaaDoor.Pure

/- Lists as polynomials: rows of products, normal forms, different numbers, interpolation. -/
import Derived.Test.YtmnahhacobfafaaDoorSpecP
namespace Go.Proofs.YtmnahhacobfafaaDoor.Pure
open Go.RowKit Go.Proofs.YtmnahhacobfafaaDoor.Q Go.Proofs.YtmnahhacobfafaaDoor.Num Go.Proofs.YtmnahhacobfafaaDoor.Pol Go.Proofs.YtmnahhacobfafaaDoorW.PrintWords Go.Proofs.YtmnahhacobfafaaDoorW.PrintLast Go.Proofs.YtmnahhacobfafaaDoorW.PrintMore

/-- X^n times l. -/
def sh (n : Nat) (l : List Int) : List Int := List.replicate n 0 ++ l
theorem co_sh (n : Nat) (l : List Int) (t : Nat) : co (sh n l) t = if t < n then 0 else co l (t - n) := by
  rw [sh, co_append, List.length_replicate]
  split
  · exact co_replicate _ _
  · rfl
theorem drop_co (l : List Int) (i : Nat) (h : i < l.length) : l.drop i = co l i :: l.drop (i + 1) := by rw [List.drop_eq_getElem_cons h, co_lt h]
/-- One term of a row of a product. -/
theorem co_sh_term (m : Nat) (c : Int) (b : List Int) (j : Nat) (hj : j < b.length) (t : Nat) : co (sh m (psc c (b.drop j))) t = (if t = m then c * co b j else 0) + co (sh (m + 1) (psc c (b.drop (j + 1)))) t := by
  rw [co_sh, co_sh, drop_co b j hj]
  by_cases e : t = m
  · subst e
    rw [if_neg (by omega), if_pos rfl, if_pos (by omega), Nat.sub_self, co_psc, co_cons_zero]; omega
  · rw [if_neg e]
    by_cases e2 : t < m
    · rw [if_pos e2, if_pos (by omega)]; omega
    · rw [if_neg e2, if_neg (by omega), co_psc, co_psc, show t - m = (t - (m + 1)) + 1 by omega, co_cons_succ]; omega
/-- One row of a product. -/
theorem co_sh_row (a b : List Int) (i : Nat) (hi : i < a.length) (t : Nat) : co (sh i (pmul (a.drop i) b)) t = co (sh i (psc (co a i) b)) t + co (sh (i + 1) (pmul (a.drop (i + 1)) b)) t := by
  rw [co_sh, co_sh, co_sh, drop_co a i hi]
  by_cases e : t < i
  · rw [if_pos e, if_pos e, if_pos (by omega)]; omega
  · rw [if_neg e, if_neg e]
    by_cases e2 : t = i
    · subst e2; rw [if_pos (by omega), Nat.sub_self, co_pmul_zero', co_psc]; omega
    · rw [if_neg (by omega), show t - i = (t - (i + 1)) + 1 by omega, co_pmul_succ, co_psc]

/-- All numbers below p. -/
def Rg (p : Int) (l : List Int) : Prop := ∀ i, 0 ≤ co l i ∧ co l i < p
theorem Rg.set {p : Int} {l : List Int} (h : Rg p l) {i : Nat} {x : Int} (hx : 0 ≤ x ∧ x < p) : Rg p (l.set i x) := fun j => by
  by_cases hi : i < l.length
  · rw [co_set hi]
    split
    · exact hx
    · exact h j
  · rw [List.set_eq_of_length_le (by omega)]; exact h j
theorem Rg.zeros {p : Int} (hp : 0 < p) (n : Nat) : Rg p (List.replicate n 0) := fun j => by rw [co_replicate]; omega
theorem Rg.eq {p : Int} {a b : List Int} (ha : Rg p a) (hb : Rg p b) (hl : a.length = b.length) (h : ∀ i, i < a.length → Cg p (co a i) (co b i)) : a = b :=
  ext_co hl fun i hi => (h i hi).uniq (ha i).1 (ha i).2 (hb i).1 (hb i).2
theorem Rg.U {f : Int} {p : Nat} (h : FO f p) {l : List Int} (hr : Rg p l) : UL l := fun c hc => by
  obtain ⟨i, hi, rfl⟩ := List.getElem_of_mem hc
  have := hr i
  rw [co_lt hi] at this
  have := h.lei
  unfold Pure.U; omega
theorem nrm_rg {p : Int} (hp : 0 < p) (l : List Int) : Rg p (nrm p l) := (nrm_nf hp l).rng
theorem nrm_UL {f : Int} {p : Nat} (h : FO f p) (l : List Int) : UL (nrm p l) := (nrm_rg h.pos l).U h
theorem pmul_nil_right (p : Int) (a : List Int) {b : List Int} (hb : EqP p b []) : EqP p (pmul a b) [] := fun i => by
  have hz : ∀ (a : List Int) (i : Nat), co (pmul a []) i = 0 := by
    intro a
    induction a with
    | nil => intro i; simp [pmul]
    | cons c a ih => intro i; cases i with
      | zero => rw [co_pmul_zero']; simp
      | succ i => rw [co_pmul_succ, ih]; simp
  have := (hb.pmul_right a) i
  rwa [hz] at this

theorem padd_length : ∀ a b : List Int, (padd a b).length = max a.length b.length
  | [], b => by simp [padd]
  | x :: a, [] => by simp [padd]
  | x :: a, y :: b => by simp [padd, padd_length a b]
theorem nrm_map_mod (p : Int) (l : List Int) : nrm p (l.map (· % p)) = nrm p l := nrm_congr fun i => by rw [co_map_mod]; exact Cg.mod _ _
theorem nrm_nrm (p : Int) (l : List Int) : nrm p (nrm p l) = nrm p l := nrm_congr (nrm_eqp p l)
theorem map_mod_take_succ (p : Int) (l : List Int) (i : Nat) (hi : i < l.length) : (l.take (i + 1)).map (· % p) = (l.take i).map (· % p) ++ [co l i % p] := by
  rw [List.take_succ_eq_append_getElem hi, List.map_append, co_lt hi]; rfl

/-! ### Same -/
/-- The polynomial that both find. -/
def Interp (p : Nat) (xs ys R : List Int) : Prop := Deg p R xs.length ∧ ∀ i, i < xs.length → Cg p (ev R (co xs i)) (co ys i)

section good
variable {f : Int} {p : Nat} (h : FP f p)
include h
/-! ### The program's -/
end good
/-- Setting a coefficient that was 0. -/
theorem set_eqp (p : Int) {x : List Int} {i : Nat} (hi : i < x.length) (h0 : co x i = 0) (c : Int) : EqP p (x.set i c) (padd x (sh i [c])) := fun j => by
  rw [co_set hi, co_padd, co_sh]
  by_cases e : j = i
  · subst e; rw [if_pos rfl, if_neg (by omega), h0, Nat.sub_self, co_cons_zero]; exact Cg.of_eq (by omega)
  · rw [if_neg e]
    by_cases e2 : j < i
    · rw [if_pos e2]; exact Cg.of_eq (by omega)
    · rw [if_neg e2, co_over (l := [c]) (by simp; omega)]; exact Cg.of_eq (by omega)
theorem pmul_sh (p : Int) (c : Int) (b : List Int) : ∀ i : Nat, EqP p (pmul (sh i [c]) b) (sh i (psc c b))
  | 0 => fun j => by
    have e : sh 0 [c] = [c] := rfl
    have e2 : sh 0 (psc c b) = psc c b := rfl
    rw [e, e2, co_psc]
    cases j with
    | zero => rw [co_pmul_zero']; exact Cg.refl _ _
    | succ j => rw [co_pmul_succ]; simp [pmul]; exact Cg.refl _ _
  | i + 1 => fun j => by
    have e : sh (i + 1) [c] = 0 :: sh i [c] := by simp [sh, List.replicate_succ]
    rw [e]
    have ih := pmul_sh p c b i
    cases j with
    | zero => rw [co_pmul_zero', co_sh, if_pos (by omega)]; exact Cg.of_eq (by omega)
    | succ j =>
      have h1 := ih j
      rw [co_sh] at h1
      rw [co_pmul_succ, co_sh, show (j + 1 - (i + 1)) = j - i by omega]
      by_cases e2 : j < i
      · rw [if_pos e2] at h1; rw [if_pos (by omega)]; simpa using h1
      · rw [if_neg e2] at h1; rw [if_neg (by omega)]; simpa using h1
/-- One step of a division: the quotient gets a coefficient, the remainder loses its multiple. -/
theorem div_step {p : Int} {a b q x x' : List Int} {i : Nat} {c : Int} (h : EqP p (padd (pmul q b) x) a) (hi : i < q.length) (h0 : co q i = 0) (hx : ∀ t, Cg p (co x' t) (co x t - co (sh i (psc c b)) t)) : EqP p (padd (pmul (q.set i c) b) x') a := fun t => by
  have h1 := (set_eqp p hi h0 c).pmul_left (b := b) t
  have h2 := pmul_padd_left p b q (sh i [c]) t
  have h3 := pmul_sh p c b i t
  have h4 := h t
  rw [co_padd] at h2 h4 ⊢
  have h5 := h1.trans (h2.trans ((Cg.refl p _).add h3))
  exact (h5.add (hx t)).trans ((Cg.of_eq (by omega)).trans h4)

theorem trm_rg {p : Int} {l : List Int} (hr : Rg p l) : trm l = nrm p l := by
  unfold nrm
  congr 1
  refine ext_co (by simp) fun i hi => ?_
  rw [co_map_mod, Int.emod_eq_of_lt (hr i).1 (hr i).2]
/-- What a division finds. -/
structure Quot (p : Int) (a b Q R : List Int) (n : Nat) : Prop where
  eq : EqP p (padd (pmul Q b) R) a
  deg : Deg p R n
/-- l at s X. -/
def shf (s : Int) : List Int → List Int
  | [] => []
  | c :: t => c :: psc s (shf s t)
theorem shf_length (s : Int) : ∀ l : List Int, (shf s l).length = l.length
  | [] => rfl
  | c :: t => by simp [shf, psc, shf_length s t]
theorem co_shf (s : Int) : ∀ (l : List Int) (i : Nat), co (shf s l) i = co l i * s ^ i
  | [], i => by simp [shf]
  | c :: t, 0 => by simp [shf]
  | c :: t, i + 1 => by
    rw [shf, co_cons_succ, co_cons_succ, co_psc, co_shf s t i, Int.pow_succ]
    generalize s ^ i = u
    grind
end Go.Proofs.YtmnahhacobfafaaDoor.Pure

/- What the reference's functions of the polynomials answer; Through, the program's and the reference's. -/
import Derived.Test.YtmnahhacobfafaaDoorSpecM
import Derived.Test.YtmnahhacobfafaaDoorQ2
import Derived.Test.YtmnahhacobfafaaDoorQ5
import Derived.Test.YtmnahhacobfafaaDoorQ6
import Derived.Test.YtmnahhacobfafaaDoorQ7
namespace Go.Proofs.YtmnahhacobfafaaDoor.Pure
open Go.RowKit Go.Proofs.YtmnahhacobfafaaDoor.Q Go.Proofs.YtmnahhacobfafaaDoor.Num Go.Proofs.YtmnahhacobfafaaDoor.Pol Go.Proofs.YtmnahhacobfafaaDoorW.PrintWords Go.Proofs.YtmnahhacobfafaaDoorW.PrintLast Go.Proofs.YtmnahhacobfafaaDoorW.PrintMore

theorem co_pmul_lin_zero (c : Int) : ∀ v : List Int, co (pmul v [c, 1]) 0 = c * co v 0
  | [] => by simp [pmul]
  | d :: v => by rw [co_pmul_zero']; simp; grind
theorem co_pmul_lin_succ (c : Int) : ∀ (v : List Int) (i : Nat), co (pmul v [c, 1]) (i + 1) = co v i + c * co v (i + 1)
  | [], i => by simp [pmul]
  | d :: v, 0 => by rw [co_pmul_succ, co_pmul_lin_zero]; simp
  | d :: v, i + 1 => by rw [co_pmul_succ, co_pmul_lin_succ c v i]; simp
theorem pmul_lin_comm (p x : Int) (v : List Int) : EqP p (pmul v [-x, 1]) (pmul [-x, 1] v) := fun i => by
  cases i with
  | zero => rw [co_pmul_lin_zero, co_lin_zero]; exact Cg.refl _ _
  | succ i => rw [co_pmul_lin_succ, co_lin_succ]; exact Cg.of_eq (by grind)
theorem padd_length : ∀ a b : List Int, (padd a b).length = max a.length b.length
  | [], b => by simp [padd]
  | x :: a, [] => by simp [padd]
  | x :: a, y :: b => by simp [padd, padd_length a b]
theorem nrm_map_mod (p : Int) (l : List Int) : nrm p (l.map (· % p)) = nrm p l := nrm_congr fun i => by rw [co_map_mod]; exact Cg.mod _ _
theorem nrm_nrm (p : Int) (l : List Int) : nrm p (nrm p l) = nrm p l := nrm_congr (nrm_eqp p l)
theorem map_mod_take_succ (p : Int) (l : List Int) (i : Nat) (hi : i < l.length) : (l.take (i + 1)).map (· % p) = (l.take i).map (· % p) ++ [co l i % p] := by
  rw [List.take_succ_eq_append_getElem hi, List.map_append, co_lt hi]; rfl

/-! ### Same -/
theorem same_l0 {l : List Int} (hl : l.length ≤ 1000000) : ∀ (d i : Nat), i + d = l.length → Ev (fun k => attestorref01_Same.l0 k l l i) true := by
  intro d
  induction d with
  | zero =>
    intro i hi
    refine Ev.succ (F := fun _ => some true) (fun k => ?_) (Ev.all fun _ => rfl)
    rw [attestorref01_Same.l0, if_neg (by omega)]
  | succ d ih =>
    intro i hi
    refine Ev.succ (fun k => ?_) (ih (i + 1) (by omega))
    rw [attestorref01_Same.l0, if_pos (by omega), if_pos (by omega), if_pos (by omega), if_pos rfl, w64_succ (by omega)]
theorem r_Same {l : List Int} (hl : l.length ≤ 1000000) : Ev (fun k => attestorref01_Same.f k l l) true := by
  refine Ev.congr (fun k => ?_) (same_l0 hl l.length 0 (by omega))
  rw [attestorref01_Same.f, if_pos rfl]
  rfl

section good
variable {f : Int} {p : Nat} (h : FP f p)
include h
theorem rvanish_l {xs : List Int} (hl : xs.length ≤ 1024) (hu : UL xs) : ∀ (d i : Nat) (w : List Int) (n : Nat), i + d = xs.length → Mon w n → n ≤ i → Ev (fun k => attestorref03_Vanish.l0 k f xs (nrm p w) i) (nrm p (van w (xs.drop i)), 0) := by
  intro d
  induction d with
  | zero =>
    intro i w n hi hm hni
    refine Ev.succ (F := fun _ => some (nrm p (van w (xs.drop i)), 0)) (fun k => ?_) (Ev.all fun _ => rfl)
    rw [attestorref03_Vanish.l0, if_neg (by omega), List.drop_of_length_le (by omega)]
    rfl
  | succ d ih =>
    intro i w n hi hm hni
    have hlen := hm.length h.one
    have hx := U.co hu i
    have e2 : nrm p (pmul (nrm p w) [(-(co xs i)) % p, 1]) = nrm p (pmul [-(co xs i), 1] w) := nrm_congr
      ((EqP.pmul (nrm_eqp p w) (c := w) (d := [-(co xs i), 1]) (fun j => by
        cases j with
        | zero => simpa using Cg.mod _ _
        | succ j => cases j with
          | zero => simpa using Cg.refl _ _
          | succ j => simpa using Cg.refl _ _)).trans (pmul_lin_comm p _ w))
    have u2 : UL [(-(co xs i)) % p, 1] := UL.cons (h.U _) (UL.cons (by unfold U; omega) UL.nil)
    have l2 : (nrm p [(-(co xs i)) % (p : Int), 1]).length ≤ 2 := nrm_length_le _ _
    have l1 : (nrm p (nrm p w)).length ≤ n + 1 := by have := nrm_length_le p (nrm p w); omega
    have key0 := r_MulP h (a := nrm p w) (b := [(-(co xs i)) % p, 1]) (by omega) (by simp) (nrm_UL h w) u2 (by omega)
    rw [e2] at key0
    have key : Ev (fun k => (attestorref03_Mul.f k f (nrm p w) [(-(co xs i)) % p, 1]).bind fun bt233 => attestorref03_Vanish.l0 k f xs bt233.1 ((i + 1 : Nat) : Int)) (nrm p (van w (xs.drop i)), 0) := key0.bind (by
      rw [drop_co xs i (by omega)]
      exact ih (i + 1) _ _ (by omega) (hm.lin _) (by omega))
    refine Ev.succ (fun k => ?_) key
    rw [attestorref03_Vanish.l0, if_pos (by omega), if_pos (by omega), rd_nat, r_Neg h hx.1, Option.bind_some, w64_succ (by omega)]
theorem r_Vanish {xs : List Int} (hl : xs.length ≤ 1024) (hu : UL xs) : Ev (fun k => attestorref03_Vanish.f k f xs) (nrm p (van [1] xs), 0) := by
  have key := rvanish_l h hl hu xs.length 0 [1] 0 (by omega) Mon.one (Nat.le_refl _)
  rw [nrm_one h, List.drop_zero] at key
  refine Ev.congr (fun k => ?_) key
  rw [attestorref03_Vanish.f, r_Valid h, Option.bind_some, if_pos rfl, if_neg (by omega)]
  rfl
theorem radd_l {a b : List Int} (ha : a.length ≤ 500000) (hb : b.length ≤ 500000) (ua : UL a) (ub : UL b) : ∀ (d i : Nat), i + d = (padd a b).length → Ev (fun k => attestorref03_Add.l0 k f a b (((padd a b).take i).map (· % (p : Int))) i) (nrm p (padd a b)) := by
  have hlen := padd_length a b
  have coef : ∀ (l : List Int) (i : Nat), attestorref03_coefficient.f l (i : Int) = some (co l i) := fun l i => by
    rw [attestorref03_coefficient.f]
    by_cases hc : i < l.length
    · rw [if_pos (by omega), if_pos (by omega), rd_nat]
    · rw [if_neg (by omega), co_over (by omega)]
  intro d
  induction d with
  | zero =>
    intro i hi
    rw [List.take_of_length_le (by omega)]
    have key : Ev (fun k => (attestorref03_Normal.f k f ((padd a b).map (· % (p : Int)))).bind fun t244 => some t244) (nrm p (padd a b)) := by
      have := (r_Normal h (l := (padd a b).map (· % (p : Int))) (by simp; omega) (fun c hc => by obtain ⟨y, _, rfl⟩ := List.mem_map.1 hc; exact h.U _)).bind (G := fun _ t244 => some t244) (Ev.all fun _ => rfl)
      rwa [nrm_map_mod] at this
    refine Ev.succ (F := fun k => attestorref03_Add.j1 k f a b ((padd a b).map (· % (p : Int))) i false) (fun k => ?_) (Ev.succ (fun k => ?_) key)
    · rw [attestorref03_Add.l0, if_neg (by omega), decide_eq_false (by omega)]
    · rw [attestorref03_Add.j1, if_neg (by simp)]
  | succ d ih =>
    intro i hi
    refine Ev.succ (F := fun k => attestorref03_Add.j1 k f a b (((padd a b).take i).map (· % (p : Int))) i true) (fun k => ?_) (Ev.succ (fun k => ?_) (ih (i + 1) (by omega)))
    · rw [attestorref03_Add.l0]
      by_cases hc : (i : Int) < (a.length : Int)
      · rw [if_pos hc]
      · rw [if_neg hc, decide_eq_true (by omega)]
    · rw [attestorref03_Add.j1, if_pos rfl, coef, Option.bind_some, coef, Option.bind_some, r_Add h (U.co ua i).1 (U.co ub i).1, Option.bind_some, if_pos (show (((padd a b).take i).map (· % (p : Int))).length < 17592186044416 by rw [List.length_map, List.length_take]; omega), w64_succ (i := i) (by omega), map_mod_take_succ (p : Int) (padd a b) i (by omega), co_padd]
theorem r_AddP {a b : List Int} (ha : a.length ≤ 500000) (hb : b.length ≤ 500000) (ua : UL a) (ub : UL b) : Ev (fun k => attestorref03_Add.f k f a b) (nrm p (padd a b)) := radd_l h ha hb ua ub (padd a b).length 0 (by omega)
theorem rscale_l {l : List Int} (hl : l.length ≤ 1000000) (hu : UL l) {c : Int} (hc : 0 ≤ c) : ∀ (d i : Nat), i + d = l.length → Ev (fun k => attestorref03_Scale.l0 k f l c (((psc c l).take i).map (· % (p : Int))) i) (nrm p (psc c l)) := by
  have hlen : (psc c l).length = l.length := by simp [psc]
  intro d
  induction d with
  | zero =>
    intro i hi
    rw [List.take_of_length_le (by omega)]
    have key : Ev (fun k => (attestorref03_Normal.f k f ((psc c l).map (· % (p : Int)))).bind fun t252 => some t252) (nrm p (psc c l)) := by
      have := (r_Normal h (l := (psc c l).map (· % (p : Int))) (by simp; omega) (fun c hc => by obtain ⟨y, _, rfl⟩ := List.mem_map.1 hc; exact h.U _)).bind (G := fun _ t252 => some t252) (Ev.all fun _ => rfl)
      rwa [nrm_map_mod] at this
    refine Ev.succ (fun k => ?_) key
    rw [attestorref03_Scale.l0, if_neg (by omega)]
  | succ d ih =>
    intro i hi
    refine Ev.succ (fun k => ?_) (ih (i + 1) (by omega))
    rw [attestorref03_Scale.l0, if_pos (by omega), if_pos (by omega), rd_nat, r_Mul h (U.co hu i).1 hc, Option.bind_some, if_pos (show (((psc c l).take i).map (· % (p : Int))).length < 17592186044416 by rw [List.length_map, List.length_take]; omega), w64_succ (i := i) (by omega), map_mod_take_succ (p : Int) (psc c l) i (by omega), co_psc, Int.mul_comm c]
theorem r_Scale {l : List Int} (hl : l.length ≤ 1000000) (hu : UL l) {c : Int} (hc : 0 ≤ c) : Ev (fun k => attestorref03_Scale.f k f l c) (nrm p (psc c l)) := rscale_l h hl hu hc l.length 0 (by omega)
theorem reval_l {l : List Int} (hl : l.length ≤ 1000000) (hu : UL l) {x : Int} (hx : 0 ≤ x) : ∀ (d i : Nat), i + d = l.length → Ev (fun k => attestorref03_Eval.l0 k f l x (ev (l.take i) x % p) (x ^ i % p) i) (ev l x % p) := by
  intro d
  induction d with
  | zero =>
    intro i hi
    refine Ev.succ (F := fun _ => some (ev l x % p)) (fun k => ?_) (Ev.all fun _ => rfl)
    rw [attestorref03_Eval.l0, if_neg (by omega), List.take_of_length_le (by omega)]
  | succ d ih =>
    intro i hi
    refine Ev.succ (fun k => ?_) (ih (i + 1) (by omega))
    have e1 : (ev (l.take i) x % p + co l i * (x ^ i % p) % p) % p = ev (l.take (i + 1)) x % p := by
      refine Cg.mod_eq ?_
      rw [ev_take_succ]
      exact (Cg.mod _ _).add ((Cg.mod _ _).trans ((Cg.refl _ _).mul (Cg.mod _ _)))
    have e2 : (x ^ i % p) * x % p = x ^ (i + 1) % p := by
      rw [Int.pow_succ]
      exact Cg.mod_eq ((Cg.mod _ _).mul (Cg.refl _ _))
    rw [attestorref03_Eval.l0, if_pos (by omega), if_pos (by omega), rd_nat, r_Mul h (U.co hu i).1 (mod_nonneg h.pos _), Option.bind_some, r_Add h (mod_nonneg h.pos _) (mod_nonneg h.pos _), Option.bind_some, r_Mul h (mod_nonneg h.pos _) hx, Option.bind_some, e1, e2, w64_succ (by omega)]
theorem r_Eval {l : List Int} (hl : l.length ≤ 1000000) (hu : UL l) {x : Int} (hx : 0 ≤ x) : Ev (fun k => attestorref03_Eval.f k f l x) (ev l x % p) := by
  have key := reval_l h hl hu hx l.length 0 (by omega)
  have e : x ^ 0 % (p : Int) = 1 := by rw [Int.pow_zero, Int.emod_eq_of_lt (by omega) h.one]
  rw [e] at key
  exact key
end good
end Go.Proofs.YtmnahhacobfafaaDoor.Pure

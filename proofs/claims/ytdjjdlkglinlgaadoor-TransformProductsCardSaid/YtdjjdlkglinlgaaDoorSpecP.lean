/- What the functions of the polynomials answer. -/
import Derived.Test.YtdjjdlkglinlgaaDoorSpecF
import Derived.Test.YtdjjdlkglinlgaaDoorQ12
import Derived.Test.YtdjjdlkglinlgaaDoorQ13
import Derived.Test.YtdjjdlkglinlgaaDoorQ3
import Derived.Test.YtdjjdlkglinlgaaDoorQ4
namespace Go.Proofs.YtdjjdlkglinlgaaDoor.Pure
open Go.RowKit Go.Proofs.YtdjjdlkglinlgaaDoor.Q Go.Proofs.YtdjjdlkglinlgaaDoor.Num Go.Proofs.YtdjjdlkglinlgaaDoor.Pol Go.Proofs.YtdjjdlkglinlgaaDoorW.PrintWords Go.Proofs.YtdjjdlkglinlgaaDoorW.PrintLast Go.Proofs.YtdjjdlkglinlgaaDoorW.PrintMore

theorem w64_pred {n : Nat} (h : n < 9223372036854775807) : wrap64 (((n + 1 : Nat) : Int) - 1) = (n : Int) := by rw [w64 (by omega) (by omega)]; omega
theorem trim_l0 {l : List Int} (hl : l.length ≤ 1000000) : ∀ n : Nat, n ≤ l.length → (∀ i, n ≤ i → co l i = 0) → Ev (fun k => poly_trim.l0 k l n) (trm l)
  | 0, hn, hz => by
    refine Ev.succ (F := fun _ => some (trm l)) (fun k => ?_) (Ev.all fun _ => rfl)
    rw [poly_trim.l0, if_neg (by omega), if_pos (by omega), if_pos (by omega)]
    exact congrArg some (trm_eq (m := 0) hn hz (fun n h => by omega))
  | n + 1, hn, hz => by
    by_cases h0 : co l n = 0
    · refine Ev.succ (fun k => ?_) (trim_l0 hl n (by omega) (fun i hi => ?_))
      · rw [poly_trim.l0, if_pos (by omega), w64_pred (by omega), if_pos (by omega), if_pos (by omega), rd_nat, if_pos h0]
      · rcases Nat.eq_or_lt_of_le hi with e | e
        · rw [← e]; exact h0
        · exact hz i e
    · refine Ev.succ (F := fun _ => some (trm l)) (fun k => ?_) (Ev.all fun _ => rfl)
      rw [poly_trim.l0, if_pos (by omega), w64_pred (by omega), if_pos (by omega), if_pos (by omega), rd_nat, if_neg h0, if_pos (by omega), if_pos (by omega)]
      refine congrArg some ?_
      rw [Int.toNat_natCast]
      exact trm_eq hn hz (fun m hm => by obtain rfl : m = n := by omega
                                         exact h0)
theorem s_trim {l : List Int} (hl : l.length ≤ 1000000) : Ev (fun k => poly_trim.f k l) (trm l) := trim_l0 hl _ (Nat.le_refl _) (fun _ h => co_over h)

theorem cpyAt_full (l : List Int) : cpyAt (List.replicate l.length 0) 0 l = l := by
  unfold cpyAt splice
  simp
section any
variable {f : Int} {p : Nat} (h : FO f p)
include h
theorem normal_l0 : ∀ (d i : Nat) (x y : List Int), i + d = x.length → x.length ≤ 1000000 → UL x → y.length = x.length → (∀ j, j < x.length → co y j = if i ≤ j then co x j % p else co x j) → Ev (fun k => poly_Normal.l0 k f x (x.length : Int) i) (trm y) := by
  intro d
  induction d with
  | zero =>
    intro i x y hi hl hu hyl hy
    have e : y = x := ext_co hyl fun j hj => by rw [hy j (by omega), if_neg (by omega)]
    subst e
    have key : Ev (fun k => (poly_trim.f k y).bind fun t125 => some t125) (trm y) := (s_trim hl).bind (Ev.all fun _ => rfl)
    refine Ev.succ (fun k => ?_) key
    rw [poly_Normal.l0, if_neg (by omega)]
  | succ d ih =>
    intro i x y hi hl hu hyl hy
    have hx := U.co hu i
    refine Ev.succ (fun k => ?_) (ih (i + 1) (x.set i (co x i % p)) y (by simp; omega) (by simpa using hl) (hu.set (h.U _) i) (by simpa using hyl) (fun j hj => ?_))
    · rw [poly_Normal.l0, if_pos (by omega), if_pos (by omega), if_pos (by omega), rd_nat, o_Reduce h hx.1, Option.bind_some, w64_succ (by omega), Int.toNat_natCast, List.length_set]
    · rw [List.length_set] at hj
      rw [hy j hj, co_set (by omega)]
      by_cases e : j = i
      · subst e; rw [if_pos (by omega), if_neg (by omega), if_pos rfl]
      · rw [if_neg e]
        by_cases e2 : i ≤ j
        · rw [if_pos e2, if_pos (by omega)]
        · rw [if_neg e2, if_neg (by omega)]
theorem s_Normal {l : List Int} (hl : l.length ≤ 1000000) (hu : UL l) : Ev (fun k => poly_Normal.f k f l) (nrm p l) := by
  rcases h.ok with g | ⟨g, rfl⟩
  · have key := normal_l0 h l.length 0 l (l.map (· % (p : Int))) (by omega) hl hu (by simp) (fun j hj => by rw [co_map_mod, if_pos (Nat.zero_le _)])
    refine Ev.congr (fun k => ?_) key
    rw [poly_Normal.f, s_Valid g, Option.bind_some, if_pos rfl, if_pos (by omega), if_pos (by omega), Option.bind_some, Int.toNat_natCast, cpyAt_full, List.length_replicate]
    rfl
  · rw [nrm_one_nil]
    refine Ev.all fun k => ?_
    rw [poly_Normal.f, b_Valid g, Option.bind_some, if_neg (by decide)]
/-- The loop of Add, whichever list is longer. -/
theorem add_yes_l0 {s : List Int} (hs : UL s) : ∀ (d i : Nat) (x z : List Int), i + d = s.length → s.length ≤ x.length → x.length ≤ 1000000 → UL x → (∀ j, Cg p (co z j) (co x j + if i ≤ j then co s j else 0)) → Ev (fun k => poly_Add_yes.l0 k f x s (s.length : Int) i) (nrm p z) := by
  intro d
  induction d with
  | zero =>
    intro i x z hi hsx hl hu hz
    have e : EqP p z x := fun j => by
      have := hz j
      by_cases hj : i ≤ j
      · rw [if_pos hj, co_over (l := s) (by omega)] at this; simpa using this
      · rw [if_neg hj] at this; simpa using this
    rw [nrm_congr e]
    have key : Ev (fun k => (poly_Normal.f k f x).bind fun t => some t) (nrm p x) := (s_Normal h hl hu).bind (Ev.all fun _ => rfl)
    refine Ev.succ (fun k => ?_) key
    rw [poly_Add_yes.l0, if_neg (by omega)]
  | succ d ih =>
    intro i x z hi hsx hl hu hz
    refine Ev.succ (fun k => ?_) (ih (i + 1) (x.set i ((co x i + co s i) % p)) z (by omega) (by simpa using hsx) (by simpa using hl) (hu.set (h.U _) i) (fun j => ?_))
    · rw [poly_Add_yes.l0, if_pos (by omega), if_pos (by omega), if_pos (by omega), if_pos (by omega), rd_nat, rd_nat, o_Add h (U.co hu i).1 (U.co hs i).1, Option.bind_some, w64_succ (by omega), Int.toNat_natCast]
    · refine (hz j).trans ?_
      rw [co_set (by omega)]
      by_cases e : j = i
      · subst e; rw [if_pos (by omega), if_pos rfl, if_neg (by omega)]; simpa using (Cg.mod p _).symm
      · rw [if_neg e]
        by_cases e2 : i ≤ j
        · rw [if_pos e2, if_pos (by omega)]; exact Cg.refl _ _
        · rw [if_neg e2, if_neg (by omega)]; exact Cg.refl _ _
theorem add_no_l0 {s : List Int} (hs : UL s) : ∀ (d i : Nat) (x z : List Int), i + d = s.length → s.length ≤ x.length → x.length ≤ 1000000 → UL x → (∀ j, Cg p (co z j) (co x j + if i ≤ j then co s j else 0)) → Ev (fun k => poly_Add_no.l0 k f x s (s.length : Int) i) (nrm p z) := by
  intro d
  induction d with
  | zero =>
    intro i x z hi hsx hl hu hz
    have e : EqP p z x := fun j => by
      have := hz j
      by_cases hj : i ≤ j
      · rw [if_pos hj, co_over (l := s) (by omega)] at this; simpa using this
      · rw [if_neg hj] at this; simpa using this
    rw [nrm_congr e]
    have key : Ev (fun k => (poly_Normal.f k f x).bind fun t => some t) (nrm p x) := (s_Normal h hl hu).bind (Ev.all fun _ => rfl)
    refine Ev.succ (fun k => ?_) key
    rw [poly_Add_no.l0, if_neg (by omega)]
  | succ d ih =>
    intro i x z hi hsx hl hu hz
    refine Ev.succ (fun k => ?_) (ih (i + 1) (x.set i ((co x i + co s i) % p)) z (by omega) (by simpa using hsx) (by simpa using hl) (hu.set (h.U _) i) (fun j => ?_))
    · rw [poly_Add_no.l0, if_pos (by omega), if_pos (by omega), if_pos (by omega), if_pos (by omega), rd_nat, rd_nat, o_Add h (U.co hu i).1 (U.co hs i).1, Option.bind_some, w64_succ (by omega), Int.toNat_natCast]
    · refine (hz j).trans ?_
      rw [co_set (by omega)]
      by_cases e : j = i
      · subst e; rw [if_pos (by omega), if_pos rfl, if_neg (by omega)]; simpa using (Cg.mod p _).symm
      · rw [if_neg e]
        by_cases e2 : i ≤ j
        · rw [if_pos e2, if_pos (by omega)]; exact Cg.refl _ _
        · rw [if_neg e2, if_neg (by omega)]; exact Cg.refl _ _
theorem s_AddP {a b : List Int} (ha : a.length ≤ 1000000) (hb : b.length ≤ 1000000) (ua : UL a) (ub : UL b) : Ev (fun k => poly_Add.f k f a b) (nrm p (padd a b)) := by
  by_cases hc : (a.length : Int) < (b.length : Int)
  · refine Ev.congr (fun k => ?_) (add_yes_l0 h ua a.length 0 b (padd a b) (by omega) (by omega) hb ub (fun j => by rw [co_padd, if_pos (Nat.zero_le _)]; exact Cg.of_eq (by omega)))
    rw [poly_Add.f, if_pos hc, poly_Add_yes.f, if_pos (by omega), if_pos (by omega), Int.toNat_natCast, cpyAt_full]
    rfl
  · refine Ev.congr (fun k => ?_) (add_no_l0 h ub b.length 0 a (padd a b) (by omega) (by omega) ha ua (fun j => by rw [co_padd, if_pos (Nat.zero_le _)]; exact Cg.of_eq (by omega)))
    rw [poly_Add.f, if_neg hc, poly_Add_no.f, if_pos (by omega), if_pos (by omega), Int.toNat_natCast, cpyAt_full]
    rfl
theorem scale_l0 {l : List Int} (hl : l.length ≤ 1000000) (hu : UL l) {c : Int} (hc : 0 ≤ c) : ∀ (d i : Nat) (x y : List Int), i + d = l.length → x.length = l.length → y.length = l.length → (∀ j, j < l.length → co y j = if i ≤ j then (co l j * c) % p else co x j) → Ev (fun k => poly_Scale.l0 k f c x l (l.length : Int) i) (trm y) := by
  intro d
  induction d with
  | zero =>
    intro i x y hi hx hyl hy
    have e : y = x := ext_co (by omega) fun j hj => by rw [hy j (by omega), if_neg (by omega)]
    subst e
    have key : Ev (fun k => (poly_trim.f k y).bind fun t => some t) (trm y) := (s_trim (by omega)).bind (Ev.all fun _ => rfl)
    refine Ev.succ (fun k => ?_) key
    rw [poly_Scale.l0, if_neg (by omega)]
  | succ d ih =>
    intro i x y hi hx hyl hy
    refine Ev.succ (fun k => ?_) (ih (i + 1) (x.set i ((co l i * c) % p)) y (by omega) (by simpa using hx) hyl (fun j hj => ?_))
    · rw [poly_Scale.l0, if_pos (by omega), if_pos (by omega), if_pos (by omega), rd_nat, o_Mul h (U.co hu i).1 hc, Option.bind_some, if_pos (by omega), w64_succ (by omega), Int.toNat_natCast]
    · rw [hy j hj, co_set (by omega)]
      by_cases e : j = i
      · subst e; rw [if_pos (by omega), if_neg (by omega), if_pos rfl]
      · rw [if_neg e]
        by_cases e2 : i ≤ j
        · rw [if_pos e2, if_pos (by omega)]
        · rw [if_neg e2, if_neg (by omega)]
theorem s_Scale {l : List Int} (hl : l.length ≤ 1000000) (hu : UL l) {c : Int} (hc : 0 ≤ c) : Ev (fun k => poly_Scale.f k f l c) (nrm p (psc c l)) := by
  refine Ev.congr (fun k => ?_) (scale_l0 h hl hu hc l.length 0 (List.replicate l.length 0) ((psc c l).map (· % (p : Int))) (by omega) (by simp) (by simp [psc]) (fun j hj => by rw [co_map_mod, co_psc, if_pos (Nat.zero_le _), Int.mul_comm]))
  rw [poly_Scale.f, if_pos (by omega), if_pos (by omega), Int.toNat_natCast]
  rfl
/-! ### Products of X - x -/
end any
section good
variable {f : Int} {p : Nat} (h : FP f p)
include h
end good
end Go.Proofs.YtdjjdlkglinlgaaDoor.Pure

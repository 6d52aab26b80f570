-- Written by prx.py (this session's driver of the kit's print) out of the translation. Not trusted: Lean checks it.
import Derived.Test.YtdjjdlkglinlgaaDoorQ0
namespace Go.Proofs.YtdjjdlkglinlgaaDoor.Q
open Go.RowKit Go.Proofs.YtdjjdlkglinlgaaDoorW.PrintWords Go.Proofs.YtdjjdlkglinlgaaDoorW.PrintLast Go.Proofs.YtdjjdlkglinlgaaDoorW.PrintMore
attribute [local go_sem] max2_int min2_int max_two min_two max_three min_three max_four min_four   -- for this text's walks alone
set_option linter.unusedVariables false
set_option linter.unusedSimpArgs false

/-! ### field_Valid: function 52 -/
def field_Valid.f (a0 : Int) : Option (Bool) := if a0 ≥ 0 then (some (decide (a0 < 4))) else (some false)
set_option maxHeartbeats 8000000 in
set_option maxRecDepth 100000 in
theorem field_Valid.calls (a0 : Int) (r : Bool) (w : World) (h : field_Valid.f a0 = some r) :
  Calls Tryd.prog 52 #[.int .i64 a0] w fun e w' => e = .returned (.bool r) ∧ Drawn0 w w' := by
 have H : (if a0 ≥ 0 then (some (decide (a0 < 4))) else (some false)) = some r := h
 clear h
 by_cases c2 : a0 ≥ 0
 ·rw [if_pos c2] at H
  have c2b0 : decide (0 ≤ a0) = true := decide_eq_true c2
  clear c2
  obtain rfl := Option.some.inj H
  go_enter Tryd.func52, Tryd.ntmps52
  go_wp2
  go_ret
  exact ⟨by first | rfl | (simp; done) | (simp [*]; done), by repeat (first | exact Drawn0.refl _ | apply Drawn0.step)⟩
 ·rw [if_neg c2] at H
  have c2b0 : decide (0 ≤ a0) = false := decide_eq_false c2
  clear c2
  obtain rfl := Option.some.inj H
  go_enter Tryd.func52, Tryd.ntmps52
  go_wp2
  go_ret
  exact ⟨by first | rfl | (simp; done) | (simp [*]; done), by repeat (first | exact Drawn0.refl _ | apply Drawn0.step)⟩

-- NOT PRINTED: function 59 (field_of)

/-! ### field_P: function 58 -/
def field_P.f (a0 : Int) : Option (Int) := some (pOf a0)
theorem field_P.calls (a0 : Int) (r : Int) (w : World) (hG : Fld w) (h : field_P.f a0 = some r) :
  Calls Tryd.prog 58 #[.int .i64 a0] w fun e w' => e = .returned (.int .u64 r) ∧ Below w.heap.size w w' := by
 obtain rfl := Option.some.inj h
 clear h
 have hfl := fld0
 go_enter Tryd.func58, Tryd.ntmps58
 go_wp2_with (go_at_call 59; (with_reducible refine (of_any a0 _ hG).mono ?_); rintro e w' ⟨va, vn, vc, rfl, hb⟩)
 go_ret
 exact ⟨rfl, hb⟩

/-! ### field_Reduce: function 23 -/
def field_Reduce.f (a0 : Int) (a1 : Int) : Option (Int) := (field_Valid.f a0).bind fun t108 => (if t108 = true then ((field_P.f a0).bind fun t109 => (if t109 = 0 then (none) else (some (Int.tmod a1 t109)))) else (some 0))
set_option maxHeartbeats 8000000 in
set_option maxRecDepth 100000 in
theorem field_Reduce.calls (a0 : Int) (a1 : Int) (r : Int) (w : World) (hG : Fld w) (h : field_Reduce.f a0 a1 = some r) :
  Calls Tryd.prog 23 #[.int .i64 a0, .int .u64 a1] w fun e w' => e = .returned (.int .u64 r) ∧ Below w.heap.size w w' := by
 have HG := ak hG
 clear hG
 have HB := ak (Below.refl w.heap.size w)
 have H : ((field_Valid.f a0).bind fun t108 => (if t108 = true then ((field_P.f a0).bind fun t109 => (if t109 = 0 then (none) else (some (Int.tmod a1 t109)))) else (some 0))) = some r := h
 clear h
 revert H
 refine bd_ fun t108 A3 H => ?_
 by_cases c4 : t108 = true
 ·subst c4
  rw [if_pos rfl] at H
  revert H
  refine bd_ fun t109 A5 H => ?_
  by_cases c6 : t109 = 0
  ·rw [if_pos c6] at H
   exact absurd H (by simp)
  ·rw [if_neg c6] at H
   have c6b0 := beq_eq_false_iff_ne.mpr c6
   have c6b1 := bne_iff_ne.mpr c6
   obtain rfl := Option.some.inj H
   go_enter Tryd.func23, Tryd.ntmps23
   go_wp2_with (first | ((with_reducible refine gate_callee (f := 52) rfl ?_); refine gl_ (some 6) Tryd.func52 #[.int .i64 a0] ?_; (with_reducible refine (field_Valid.calls a0 true _ A3.out).mono ?_); rintro e w' ⟨rfl, ⟨nd, rfl⟩⟩; refine ⟨_, rfl, ?_⟩) | ((with_reducible refine gate_callee (f := 58) rfl ?_); refine gl_ (some 10) Tryd.func58 #[.int .i64 a0] ?_; (with_reducible refine (field_P.calls a0 t109 _ ?side1 A5.out).mono ?_); (case side1 => exact fU_ HG.out HB.out); rintro e w7 ⟨rfl, hb⟩; refine ⟨_, rfl, ?_⟩; refine nx1_ (below_step (bU_ HB.out) hb) ?_; clear HB; intro HB; clear hb))
   go_ret
   exact ⟨by first | rfl | (simp [errW_none, errW_some] <;> rfl) | (simp [*, errW_none, errW_some] <;> rfl), bU_ HB.out⟩
 ·replace c4 := Bool.eq_false_iff.mpr c4
  subst c4
  rw [if_neg (show ¬ (false = true) by decide)] at H
  obtain rfl := Option.some.inj H
  go_enter Tryd.func23, Tryd.ntmps23
  go_wp2_with (first | ((with_reducible refine gate_callee (f := 52) rfl ?_); refine gl_ (some 6) Tryd.func52 #[.int .i64 a0] ?_; (with_reducible refine (field_Valid.calls a0 false _ A3.out).mono ?_); rintro e w' ⟨rfl, ⟨nd, rfl⟩⟩; refine ⟨_, rfl, ?_⟩))
  go_ret
  exact ⟨by first | rfl | (simp [errW_none, errW_some] <;> rfl) | (simp [*, errW_none, errW_some] <;> rfl), bU_ HB.out⟩

/-! ### field_Mul: function 26 -/
def field_Mul.f (a0 : Int) (a1 : Int) (a2 : Int) : Option (Int) := (field_P.f a0).bind fun t110 => (if t110 = 0 then (some 0) else (some (Int.tmod (IntKind.u64.wrap ((Int.tmod a1 t110) * (Int.tmod a2 t110))) t110)))
set_option maxHeartbeats 8000000 in
set_option maxRecDepth 100000 in
theorem field_Mul.calls (a0 : Int) (a1 : Int) (a2 : Int) (r : Int) (w : World) (hG : Fld w) (h : field_Mul.f a0 a1 a2 = some r) :
  Calls Tryd.prog 26 #[.int .i64 a0, .int .u64 a1, .int .u64 a2] w fun e w' => e = .returned (.int .u64 r) ∧ Below w.heap.size w w' := by
 have HG := ak hG
 clear hG
 have HB := ak (Below.refl w.heap.size w)
 have H : ((field_P.f a0).bind fun t110 => (if t110 = 0 then (some 0) else (some (Int.tmod (IntKind.u64.wrap ((Int.tmod a1 t110) * (Int.tmod a2 t110))) t110)))) = some r := h
 clear h
 revert H
 refine bd_ fun t110 A4 H => ?_
 by_cases c5 : t110 = 0
 ·rw [if_pos c5] at H
  have c5b0 := beq_iff_eq.mpr c5
  have c5b1 := bne_eq_false_iff_eq.mpr c5
  clear c5
  obtain rfl := Option.some.inj H
  go_enter Tryd.func26, Tryd.ntmps26
  go_wp2_with (first | (go_at_call 58; (with_reducible refine (field_P.calls a0 t110 _ ?side1 A4.out).mono ?_); (case side1 => exact fU_ HG.out HB.out); rintro e w6 ⟨rfl, hb⟩; refine nx1_ (below_step (bU_ HB.out) hb) ?_; clear HB; intro HB; clear hb))
  repeat (go_quiet (first | (go_at_call 58; (with_reducible refine (field_P.calls a0 t110 _ ?side1 A4.out).mono ?_); (case side1 => exact fU_ HG.out HB.out); rintro e w6 ⟨rfl, hb⟩; refine nx1_ (below_step (bU_ HB.out) hb) ?_; clear HB; intro HB; clear hb)); try go_wp2_with (first | (go_at_call 58; (with_reducible refine (field_P.calls a0 t110 _ ?side1 A4.out).mono ?_); (case side1 => exact fU_ HG.out HB.out); rintro e w6 ⟨rfl, hb⟩; refine nx1_ (below_step (bU_ HB.out) hb) ?_; clear HB; intro HB; clear hb)))
  go_ret
  exact ⟨by first | rfl | (simp [errW_none, errW_some] <;> rfl) | (simp [*, errW_none, errW_some] <;> rfl), bU_ HB.out⟩
 ·rw [if_neg c5] at H
  have c5b0 := beq_eq_false_iff_ne.mpr c5
  have c5b1 := bne_iff_ne.mpr c5
  obtain rfl := Option.some.inj H
  go_enter Tryd.func26, Tryd.ntmps26
  go_wp2_with (first | (go_at_call 58; (with_reducible refine (field_P.calls a0 t110 _ ?side1 A4.out).mono ?_); (case side1 => exact fU_ HG.out HB.out); rintro e w7 ⟨rfl, hb⟩; refine nx1_ (below_step (bU_ HB.out) hb) ?_; clear HB; intro HB; clear hb))
  repeat (go_quiet (first | (go_at_call 58; (with_reducible refine (field_P.calls a0 t110 _ ?side1 A4.out).mono ?_); (case side1 => exact fU_ HG.out HB.out); rintro e w7 ⟨rfl, hb⟩; refine nx1_ (below_step (bU_ HB.out) hb) ?_; clear HB; intro HB; clear hb)); try go_wp2_with (first | (go_at_call 58; (with_reducible refine (field_P.calls a0 t110 _ ?side1 A4.out).mono ?_); (case side1 => exact fU_ HG.out HB.out); rintro e w7 ⟨rfl, hb⟩; refine nx1_ (below_step (bU_ HB.out) hb) ?_; clear HB; intro HB; clear hb)))
  go_ret
  exact ⟨by first | rfl | (simp [errW_none, errW_some] <;> rfl) | (simp [*, errW_none, errW_some] <;> rfl), bU_ HB.out⟩

/-! ### field_Pow: function 27 -/
def field_Pow.l0 : Nat → Int → Int → Int → Int → Option (Int)
 | 0, _, _, _, _ => none
 | k + 1, x0, x1, x2, x7 => if x2 > 0 then (if (Go.bits .and .u64 x2 1) = 1 then ((field_Mul.f x0 x7 x1).bind fun t112 => ((field_Mul.f x0 x1 x1).bind fun t113 => (field_Pow.l0 k x0 t113 (x2 / 2) t112))) else ((field_Mul.f x0 x1 x1).bind fun t114 => (field_Pow.l0 k x0 t114 (x2 / 2) x7))) else (some x7)
def field_Pow.f (k : Nat) (a0 : Int) (a1 : Int) (a2 : Int) : Option (Int) := (field_Valid.f a0).bind fun t111 => (if t111 = true then (field_Pow.l0 k a0 a1 a2 1) else (some 0))
theorem field_Pow.mono_l : ∀ k, (∀ y0 y1 y2 y3, LeO (field_Pow.l0 k y0 y1 y2 y3) (field_Pow.l0 (k + 1) y0 y1 y2 y3))
 | 0 => fun _ _ _ _ r h => by simp [field_Pow.l0] at h
 | k + 1 => by
  have ih0 := field_Pow.mono_l k
  ·intro y0 y1 y2 y3
   unfold field_Pow.l0
   with_reducible repeat' first | apply ih0 | exact LeO.refl _ | exact LeO.none _ | refine LeO.ite ?_ ?_ | refine LeO.bind ?_ (fun _ => ?_)
theorem field_Pow.mono : ∀ a0 a1 a2 k, LeO (field_Pow.f k a0 a1 a2) (field_Pow.f (k + 1) a0 a1 a2) := by
 intro a0 a1 a2 k
 have ih0 := field_Pow.mono_l k
 unfold field_Pow.f
 with_reducible repeat' first | apply ih0 | exact LeO.refl _ | exact LeO.none _ | refine LeO.ite ?_ ?_ | refine LeO.bind ?_ (fun _ => ?_)
set_option maxHeartbeats 8000000 in
set_option maxRecDepth 100000 in
theorem field_Pow.calls (k : Nat) (a0 : Int) (a1 : Int) (a2 : Int) (r : Int) (w : World) (hG : Fld w) (h : field_Pow.f k a0 a1 a2 = some r) :
  Calls Tryd.prog 27 #[.int .i64 a0, .int .u64 a1, .int .u64 a2] w fun e w' => e = .returned (.int .u64 r) ∧ Below w.heap.size w w' := by
 have HG := ak hG
 clear hG
 have HB := ak (Below.refl w.heap.size w)
 have H : ((field_Valid.f a0).bind fun t111 => (if t111 = true then (field_Pow.l0 k a0 a1 a2 1) else (some 0))) = some r := h
 clear h
 revert H
 refine bd_ fun t111 A4 H => ?_
 by_cases c5 : t111 = true
 ·subst c5
  rw [if_pos rfl] at H
  have H' := ak H
  clear H
  go_enter Tryd.func27, Tryd.ntmps27
  go_wp2_with (first | ((with_reducible refine gate_callee (f := 52) rfl ?_); refine gl_ (some 9) Tryd.func52 #[.int .i64 a0] ?_; (with_reducible refine (field_Valid.calls a0 true _ A4.out).mono ?_); rintro e w' ⟨rfl, ⟨nd, rfl⟩⟩; refine ⟨_, rfl, ?_⟩))
  go_loopg [1, 2, 7] k (fun kq v1 v2 v7 w' => ∃ (x1_1 : Int) (x2_1 : Int) (x7_1 : Int), v1 = .int .u64 x1_1 ∧ v2 = .int .u64 x2_1 ∧ v7 = .int .u64 x7_1 ∧ Aside0 (field_Pow.l0 kq a0 x1_1 x2_1 x7_1 = some r) ∧ Aside0 (kq ≤ k) ∧ Aside0 (Below w.heap.size w w'))
  case atStart => exact ⟨(a1), (a2), (1), gb_, gb_, gb_, H', ⟨Nat.le_refl _⟩, ⟨bU_ HB.out⟩⟩
  case round =>
   clear H'
   (try clear c2); (try clear p2); (try clear c5)
   obtain ⟨x1_1, x2_1, x7_1, rfl, rfl, rfl, HA, HK1, HB⟩ := hrel
   cases gk with
   | zero => exact absurd HA.out (by simp [field_Pow.l0])
   | succ k1 =>
    have H := HA.out
    clear HA
    simp only [field_Pow.l0] at H
    by_cases c6 : x2_1 > 0
    ·rw [if_pos c6] at H
     have c6b0 : decide (0 < x2_1) = true := decide_eq_true c6
     clear c6
     by_cases c7 : (Go.bits .and .u64 x2_1 1) = 1
     ·rw [if_pos c7] at H
      have c7b0 := beq_iff_eq.mpr c7
      have c7b1 := bne_eq_false_iff_eq.mpr c7
      clear c7
      revert H
      refine bd_ fun t112 A8 H => ?_
      revert H
      refine bd_ fun t113 A9 H => ?_
      have H' := ak H
      clear H
      go_wp2_with (first | ((with_reducible refine gate_callee (f := 26) rfl ?_); refine gl_ (some 21) Tryd.func26 #[.int .i64 a0, .int .u64 x7_1, .int .u64 x1_1] ?_; (with_reducible refine (field_Mul.calls a0 x7_1 x1_1 t112 _ ?side1 A8.out).mono ?_); (case side1 => exact fU_ HG.out HB.out); rintro e w10 ⟨rfl, hb⟩; refine ⟨_, rfl, ?_⟩; refine nx1_ (below_step (bU_ HB.out) hb) ?_; clear HB; intro HB; clear hb) | ((with_reducible refine gate_callee (f := 26) rfl ?_); refine gl_ (some 25) Tryd.func26 #[.int .i64 a0, .int .u64 x1_1, .int .u64 x1_1] ?_; (with_reducible refine (field_Mul.calls a0 x1_1 x1_1 t113 _ ?side1 A9.out).mono ?_); (case side1 => exact fU_ HG.out HB.out); rintro e w11 ⟨rfl, hb⟩; refine ⟨_, rfl, ?_⟩; refine nx1_ (below_step (bU_ HB.out) hb) ?_; clear HB; intro HB; clear hb))
      go_roundg k1
      case measure => have := HK1.out; omega
      case rel => exact ⟨(t113), (x2_1 / 2), (t112), gb_, gb_, gb_, H', ⟨by have := HK1.out; omega⟩, ⟨bU_ HB.out⟩⟩
     ·rw [if_neg c7] at H
      have c7b0 := beq_eq_false_iff_ne.mpr c7
      have c7b1 := bne_iff_ne.mpr c7
      revert H
      refine bd_ fun t114 A12 H => ?_
      have H' := ak H
      clear H
      go_wp2_with (first | ((with_reducible refine gate_callee (f := 26) rfl ?_); refine gl_ (some 25) Tryd.func26 #[.int .i64 a0, .int .u64 x1_1, .int .u64 x1_1] ?_; (with_reducible refine (field_Mul.calls a0 x1_1 x1_1 t114 _ ?side1 A12.out).mono ?_); (case side1 => exact fU_ HG.out HB.out); rintro e w13 ⟨rfl, hb⟩; refine ⟨_, rfl, ?_⟩; refine nx1_ (below_step (bU_ HB.out) hb) ?_; clear HB; intro HB; clear hb))
      go_roundg k1
      case measure => have := HK1.out; omega
      case rel => exact ⟨(t114), (x2_1 / 2), (x7_1), gb_, gb_, gb_, H', ⟨by have := HK1.out; omega⟩, ⟨bU_ HB.out⟩⟩
    ·rw [if_neg c6] at H
     have c6b0 : decide (0 < x2_1) = false := decide_eq_false c6
     clear c6
     obtain rfl := Option.some.inj H
     go_wp2
     go_ret
     exact ⟨by first | rfl | (simp [errW_none, errW_some] <;> rfl) | (simp [*, errW_none, errW_some] <;> rfl), bU_ HB.out⟩
 ·replace c5 := Bool.eq_false_iff.mpr c5
  subst c5
  rw [if_neg (show ¬ (false = true) by decide)] at H
  obtain rfl := Option.some.inj H
  go_enter Tryd.func27, Tryd.ntmps27
  go_wp2_with (first | ((with_reducible refine gate_callee (f := 52) rfl ?_); refine gl_ (some 9) Tryd.func52 #[.int .i64 a0] ?_; (with_reducible refine (field_Valid.calls a0 false _ A4.out).mono ?_); rintro e w' ⟨rfl, ⟨nd, rfl⟩⟩; refine ⟨_, rfl, ?_⟩))
  go_ret
  exact ⟨by first | rfl | (simp [errW_none, errW_some] <;> rfl) | (simp [*, errW_none, errW_some] <;> rfl), bU_ HB.out⟩

/-! ### field_Root: function 28, by hand -/
def field_Root.f (k : Nat) (a0 : Int) (a1 : Int) : Option (Int) := if pOf a0 = 0 then some 0 else if a1 < 0 then some 0 else if a1 > tOf a0 then some 0 else field_Pow.f k a0 (gOf a0) (IntKind.u64.wrap (pOf a0 - 1) / 2 ^ min a1.toNat 64)
set_option maxHeartbeats 8000000 in
set_option maxRecDepth 100000 in
theorem field_Root.calls (k : Nat) (a0 a1 : Int) (r : Int) (w : World) (hG : Fld w) (h : field_Root.f k a0 a1 = some r) :
  Calls Tryd.prog 28 #[.int .i64 a0, .int .i64 a1] w fun e w' => e = .returned (.int .u64 r) ∧ Below w.heap.size w w' := by
 have HG := ak hG
 clear hG
 have H := ak h
 clear h
 by_cases c0 : pOf a0 = 0
 ·have c0b : (pOf a0 == 0) = true := by simpa using c0
  have e : r = 0 := by
   have := H.out
   unfold field_Root.f at this
   rw [if_pos c0] at this; exact (Option.some.inj this).symm
  subst e
  go_enter Tryd.func28, Tryd.ntmps28
  go_wp2_with (go_at_call 59; (with_reducible refine (of_any a0 _ HG.out).mono ?_); rintro e w' ⟨va, vn, vc, rfl, hb⟩)
  go_ret
  exact ⟨rfl, bU_ hb⟩
 ·have c0b : (pOf a0 == 0) = false := by simpa using c0
  by_cases c1 : a1 < 0
  ·have c1b : decide (a1 < 0) = true := by simpa using c1
   have e : r = 0 := by
    have := H.out
    unfold field_Root.f at this
    rw [if_neg c0, if_pos c1] at this; exact (Option.some.inj this).symm
   subst e
   go_enter Tryd.func28, Tryd.ntmps28
   go_wp2_with (go_at_call 59; (with_reducible refine (of_any a0 _ HG.out).mono ?_); rintro e w' ⟨va, vn, vc, rfl, hb⟩)
   go_ret
   exact ⟨rfl, bU_ hb⟩
  ·by_cases c2 : a1 > tOf a0
   ·have c1b : decide (a1 < 0) = false := by simpa using c1
    have c2b : decide (tOf a0 < a1) = true := by simpa using c2
    have e : r = 0 := by
     have := H.out
     unfold field_Root.f at this
     rw [if_neg c0, if_neg c1, if_pos c2] at this; exact (Option.some.inj this).symm
    subst e
    go_enter Tryd.func28, Tryd.ntmps28
    go_wp2_with (go_at_call 59; (with_reducible refine (of_any a0 _ HG.out).mono ?_); rintro e w' ⟨va, vn, vc, rfl, hb⟩)
    go_ret
    exact ⟨rfl, bU_ hb⟩
   ·have c1b : decide (a1 < 0) = false := by simpa using c1
    have c2b : decide (tOf a0 < a1) = false := by simpa using c2
    go_enter Tryd.func28, Tryd.ntmps28
    go_wp2_with (go_at_call 59; (with_reducible refine (of_any a0 _ HG.out).mono ?_); rintro e w' ⟨va, vn, vc, rfl, hb⟩)
    have hA : Below w.heap.size w (w'.alloc (Obj.cells #[.int .u64 (pOf a0), .int .u64 (gOf a0), .int .i64 (tOf a0), .int .i64 (xOf a0), .slice va vn vc] 60)) := below_alloc hb _
    have g0 : (w'.alloc (Obj.cells #[.int .u64 (pOf a0), .int .u64 (gOf a0), .int .i64 (tOf a0), .int .i64 (xOf a0), .slice va vn vc] 60)).cell? ⟨w'.heap.size, 0, none⟩ = some (.int .u64 (pOf a0)) := by go_simp
    have g1 : (w'.alloc (Obj.cells #[.int .u64 (pOf a0), .int .u64 (gOf a0), .int .i64 (tOf a0), .int .i64 (xOf a0), .slice va vn vc] 60)).cell? ⟨w'.heap.size, 1, none⟩ = some (.int .u64 (gOf a0)) := by go_simp
    generalize w'.alloc (Obj.cells #[.int .u64 (pOf a0), .int .u64 (gOf a0), .int .i64 (tOf a0), .int .i64 (xOf a0), .slice va vn vc] 60) = wA at *
    generalize w'.heap.size = B at *
    clear hb
    refine start_ (n := 10) (S := fun w' => w'.cell? ⟨B, 0, none⟩ = some (.int .u64 (pOf a0)) ∧ w'.cell? ⟨B, 1, none⟩ = some (.int .u64 (gOf a0))) (ds := []) (bv 10 0) (by kernel_rfl) rfl rfl ⟨g0, g1⟩ (fun hHeld => ?_)
    have HB := ak (below_drew1 hA)
    clear hA g0 g1
    generalize wA.drew = w9 at HB hHeld ⊢
    have HT_ : Aside0 (rtab .any (opsOf Tryd.f28 4) = rtab .any (opsOf Tryd.f28 4)) := ⟨rfl⟩
    refine pr_ (i := 0) (N := some 21) (v := ?_) (a' := ?_) (bv 10 1) HT_.out ?_ ?_ ?_; rotate_left 2; (intro w'; go_simp; with_reducible rfl); (simp only [Act.put, s1_, s2_, s3_, i64_w, i32_w]; rfl)
    refine pr_ (i := 1) (N := some 22) (v := ?_) (a' := ?_) (bv 10 3) HT_.out ?_ ?_ ?_; rotate_left 2; (intro w'; go_simp; with_reducible rfl); (simp only [Act.put, s1_, s2_, s3_, i64_w, i32_w]; rfl)
    refine take_ (i := 2) (N := some 23) (v := ?_) (a' := ?_) (bv 10 7) rfl rfl (take_of HT_.out (by kernel_rfl)) (fun _ _ _ h => h) (Or.inl ⟨by rfl, ?_⟩) hHeld ?_ ?_
    rotate_left
    ·rintro w' ⟨s0, s1⟩
     go_simp
     with_reducible rfl
    rotate_left
    ·simp only [Act.put, s1_, s2_, s3_, i64_w, i32_w]
     rfl
    refine pr_ (i := 3) (N := some 24) (v := ?_) (a' := ?_) (bv 10 15) HT_.out ?_ ?_ ?_; rotate_left 2; (intro w'; go_simp; with_reducible rfl); (simp only [Act.put, s1_, s2_, s3_, i64_w, i32_w]; rfl)
    refine take_ (i := 4) (N := some 25) (v := ?_) (a' := ?_) (bv 10 31) rfl rfl (take_of HT_.out (by kernel_rfl)) (fun _ _ _ h => h) (Or.inl ⟨by rfl, ?_⟩) hHeld ?_ ?_
    rotate_left
    ·rintro w' ⟨s0, s1⟩
     go_simp
     with_reducible rfl
    rotate_left
    ·simp only [Act.put, s1_, s2_, s3_, i64_w, i32_w]
     rfl
    refine pr_ (i := 5) (N := some 26) (v := ?_) (a' := ?_) (bv 10 63) HT_.out ?_ ?_ ?_; rotate_left 2; (intro w'; go_simp; with_reducible rfl); (simp only [Act.put, s1_, s2_, s3_, i64_w, i32_w]; rfl)
    refine pr_ (i := 6) (N := some 27) (v := ?_) (a' := ?_) (bv 10 127) HT_.out ?_ ?_ ?_; rotate_left 2; (intro w'; go_simp; with_reducible rfl); (simp only [Act.put, s1_, s2_, s3_, i64_w, i32_w]; rfl)
    refine pr_ (i := 7) (N := some 28) (v := ?_) (a' := ?_) (bv 10 255) HT_.out ?_ ?_ ?_; rotate_left 2; (intro w'; go_simp; with_reducible rfl); (simp only [Act.put, s1_, s2_, s3_, i64_w, i32_w]; rfl)
    have h8 : field_Pow.f k a0 (gOf a0) (IntKind.u64.wrap (pOf a0 - 1) / 2 ^ min a1.toNat 64) = some r := by
     have := H.out
     unfold field_Root.f at this
     rwa [if_neg c0, if_neg (by omega), if_neg (by omega)] at this
    refine one_ (i := 8) (N := some 29) (bv 10 511) rfl rfl (one_of HT_.out (by kernel_rfl)) (by decide) (fun K hK => ?_)
    refine goes_ Tryd.func27 (by kernel_rfl) rfl #[.int .i64 a0, .int .u64 (gOf a0), .int .u64 (IntKind.u64.wrap (pOf a0 - 1) / 2 ^ min a1.toNat 64)] (by rfl) rfl rfl ga_ ?_
    with_reducible refine (field_Pow.calls k a0 (gOf a0) (IntKind.u64.wrap (pOf a0 - 1) / 2 ^ min a1.toNat 64) r _ ?side1 h8).mono ?_
    (case side1 => exact fU_ HG.out HB.out)
    rintro e w11 ⟨rfl, hb⟩
    refine ⟨_, rfl, ?_⟩
    refine nx1_ (below_step (bU_ HB.out) hb) ?_
    clear HB
    intro HB
    refine hK.out _ _ ⟨(hb.cell (World.block_lt_of_cell? _ _ hHeld.1)).trans hHeld.1, (hb.cell (World.block_lt_of_cell? _ _ hHeld.2)).trans hHeld.2⟩ (fun hHeld => ?_)
    clear hK K hb
    refine norm_ (a' := ?_) ?_ ?_
    rotate_left
    ·show Act.put _ (some 29) _ = _
     simp only [Act.put, s1_, s2_, s3_, i64_w, i32_w]
     rfl
    refine pr_ (i := 9) (N := some 4) (v := ?_) (a' := ?_) (bv 10 1023) HT_.out ?_ ?_ ?_; rotate_left 2; (intro w'; go_simp; with_reducible rfl); (simp only [Act.put, s1_, s2_, s3_, i64_w, i32_w]; rfl)
    refine done_ (done_of HT_.out (by kernel_rfl)) ?_
    try go_wp2
    go_ret
    exact ⟨rfl, bU_ HB.out⟩
theorem field_Root.mono : ∀ a0 a1 k, LeO (field_Root.f k a0 a1) (field_Root.f (k + 1) a0 a1) := by
 intro a0 a1 k
 unfold field_Root.f
 exact LeO.ite (LeO.refl _) (LeO.ite (LeO.refl _) (LeO.ite (LeO.refl _) (field_Pow.mono _ _ _ _)))

/-! ### field_Twos: function 61 -/
def field_Twos.f (a0 : Int) : Option (Int) := some (tOf a0)
theorem field_Twos.calls (a0 : Int) (r : Int) (w : World) (hG : Fld w) (h : field_Twos.f a0 = some r) :
  Calls Tryd.prog 61 #[.int .i64 a0] w fun e w' => e = .returned (.int .i64 r) ∧ Below w.heap.size w w' := by
 obtain rfl := Option.some.inj h
 clear h
 have hfl := fld2
 go_enter Tryd.func61, Tryd.ntmps61
 go_wp2_with (go_at_call 59; (with_reducible refine (of_any a0 _ hG).mono ?_); rintro e w' ⟨va, vn, vc, rfl, hb⟩)
 go_ret
 exact ⟨rfl, hb⟩

/-! ### transform_greatest: function 35 -/
def transform_greatest.f (a0 : Int) : Option (Int) := (field_Twos.f a0).bind fun t115 => (some (mn t115 18))
set_option maxHeartbeats 8000000 in
set_option maxRecDepth 100000 in
theorem transform_greatest.calls (a0 : Int) (r : Int) (w : World) (hG : Fld w) (h : transform_greatest.f a0 = some r) :
  Calls Tryd.prog 35 #[.int .i64 a0] w fun e w' => e = .returned (.int .i64 r) ∧ Below w.heap.size w w' := by
 have HG := ak hG
 clear hG
 have HB := ak (Below.refl w.heap.size w)
 have H : ((field_Twos.f a0).bind fun t115 => (some (mn t115 18))) = some r := h
 clear h
 revert H
 refine bd_ fun t115 A2 H => ?_
 obtain ⟨ji3, hji3⟩ : ∃ j_ : Int, (mn t115 18) = j_ := ⟨_, rfl⟩
 first | rw [hji3] at H | simp only [hji3] at H
 (try rw [hji3] at A2)
 (try (have hji3h : ji3 ≤ 18 := by (rw [← hji3]; unfold mn; (repeat' split) <;> omega)))
 (try (have hji3g : ji3 ≤ 64 := by omega))
 have hji3_ : (if 18 < t115 then 18 else t115) = ji3 := hji3
 obtain rfl := Option.some.inj H
 go_enter Tryd.func35, Tryd.ntmps35
 go_wp2_with (first | ((with_reducible refine gate_callee (f := 61) rfl ?_); refine gl_ (some 4) Tryd.func61 #[.int .i64 a0] ?_; (with_reducible refine (field_Twos.calls a0 t115 _ ?side1 A2.out).mono ?_); (case side1 => exact fU_ HG.out HB.out); rintro e w4 ⟨rfl, hb⟩; refine ⟨_, rfl, ?_⟩; refine nx1_ (below_step (bU_ HB.out) hb) ?_; clear HB; intro HB; clear hb))
 go_ret
 exact ⟨by first | rfl | (simp [errW_none, errW_some] <;> rfl) | (simp only [← hji3]; first | rfl | (simp [errW_none, errW_some] <;> rfl)) | (simp [*, errW_none, errW_some] <;> rfl), bU_ HB.out⟩

/-! ### poly_trim: function 60 -/
def poly_trim.l0 : Nat → List Int → Int → Option (List Int)
 | 0, _, _ => none
 | k + 1, x0, x3 => if x3 > 0 then (if 0 ≤ (wrap64 (x3 - 1)) then (if (wrap64 (x3 - 1)) < (x0.length : Int) then (if (rd x0 (wrap64 (x3 - 1))) = 0 then (poly_trim.l0 k x0 (wrap64 (x3 - 1))) else (if 0 ≤ x3 then (if x3 ≤ (x0.length : Int) then (some (x0.take (x3 : Int).toNat)) else (none)) else (none))) else (none)) else (none)) else (if 0 ≤ x3 then (if x3 ≤ (x0.length : Int) then (some (x0.take (x3 : Int).toNat)) else (none)) else (none))
def poly_trim.f (k : Nat) (l0 : List Int) : Option (List Int) := poly_trim.l0 k l0 (l0.length : Int)
theorem poly_trim.mono_l : ∀ k, (∀ y0 y1, LeO (poly_trim.l0 k y0 y1) (poly_trim.l0 (k + 1) y0 y1))
 | 0 => fun _ _ r h => by simp [poly_trim.l0] at h
 | k + 1 => by
  have ih0 := poly_trim.mono_l k
  ·intro y0 y1
   unfold poly_trim.l0
   with_reducible repeat' first | apply ih0 | exact LeO.refl _ | exact LeO.none _ | refine LeO.ite ?_ ?_ | refine LeO.bind ?_ (fun _ => ?_)
theorem poly_trim.mono : ∀ a0 k, LeO (poly_trim.f k a0) (poly_trim.f (k + 1) a0) := by
 intro a0 k
 have ih0 := poly_trim.mono_l k
 unfold poly_trim.f
 with_reducible repeat' first | apply ih0 | exact LeO.refl _ | exact LeO.none _ | refine LeO.ite ?_ ?_ | refine LeO.bind ?_ (fun _ => ?_)
set_option maxHeartbeats 8000000 in
set_option maxRecDepth 100000 in
theorem poly_trim.calls (k : Nat) (P0_ : Nat → Prop) (u9000_ : Value) (l0 : List Int) (r : List Int) (w0 w : World) (hB : Below w0.heap.size w0 w) (ho0 : Kd.R (Kd.int .u64) 22 w w0.heap.size P0_ u9000_ l0) (h : poly_trim.f k l0 = some r) :
  Calls Tryd.prog 60 #[u9000_] w fun e w' => ∃ v0_ : Value, e = .returned (v0_) ∧ Kd.R (Kd.int .u64) 22 w' w0.heap.size (fun k_ => (P0_ k_ ∨ w.heap.size ≤ k_)) v0_ r ∧ Below w0.heap.size w0 w' ∧ Kept w w' (fun k_ => P0_ k_) := by
 have HO0 := ak (show Kd.R (Kd.int .u64) 22 w w0.heap.size (fun k_ => (P0_ k_ ∨ w.heap.size ≤ k_)) u9000_ l0 from Kd.R_mono ho0 (fun k_ hk => (.inl hk)))
 have HK := ak (Kept.refl w (fun k_ => P0_ k_))
 have HW0 := ak hB.size
 have HB := ak hB
 clear hB
 have H : (poly_trim.l0 k l0 (l0.length : Int)) = some r := h
 clear h
 have H' := ak H
 clear H
 obtain ⟨Ao2, co2, eo2⟩ := Kd.R_slice HO0.out
 subst eo2
 go_enter Tryd.func60, Tryd.ntmps60
 go_wp2
 go_loopg [3] k (fun kq v3 w' => ∃ (x3_1 : Int), v3 = .int .i64 x3_1 ∧ Aside0 (poly_trim.l0 kq l0 x3_1 = some r) ∧ Aside0 (kq ≤ k) ∧ Aside0 (Kd.R (Kd.int .u64) 22 w' w0.heap.size (fun k_ => (P0_ k_ ∨ w.heap.size ≤ k_)) (.slice Ao2 l0.length co2) l0) ∧ Aside0 (Kept w w' (fun k_ => P0_ k_)) ∧ Aside0 (Below w0.heap.size w0 w'))
 case atStart => exact ⟨((l0.length : Int)), gb_, H', ⟨Nat.le_refl _⟩, ⟨rU_ HO0.out⟩, ⟨by repeat (first | (with_reducible first | exact HK.out | apply Kept.alloc | apply Kept.drewN | apply Kept.drew) | exact HK.out)⟩, ⟨bU_ HB.out⟩⟩
 case round =>
  clear H'
  try clear p2
  obtain ⟨x3_1, rfl, HA, HK1, HO_0, HK, HB⟩ := hrel
  cases gk with
  | zero => exact absurd HA.out (by simp [poly_trim.l0])
  | succ k1 =>
   have H := HA.out
   clear HA
   simp only [poly_trim.l0] at H
   by_cases c3 : x3_1 > 0
   ·rw [if_pos c3] at H
    have c3b0 : decide (0 < x3_1) = true := decide_eq_true c3
    clear c3
    obtain ⟨ji4, hji4⟩ : ∃ j_ : Int, (wrap64 (x3_1 - 1)) = j_ := ⟨_, rfl⟩
    first | rw [hji4] at H | simp only [hji4] at H
    have hji4w : (IntKind.i64.wrap (x3_1 - 1)) = ji4 := (i64_w _).trans hji4
    obtain ⟨c5, H⟩ : (0 ≤ (ji4)) ∧ _ := it_ H
    have c5b0 := decide_eq_true c5
    clear c5
    obtain ⟨c6, H⟩ : ((ji4) < (l0.length : Int)) ∧ _ := it_ H
    have c6b0 := decide_eq_true c6
    clear c6
    by_cases c7 : (rd l0 (ji4)) = 0
    ·rw [if_pos c7] at H
     have c7b0 := beq_iff_eq.mpr c7
     have c7b1 := bne_eq_false_iff_eq.mpr c7
     clear c7
     have H' := ak H
     clear H
     have p116 : 0 ≤ ((ji4) : Int) := od_
     have q116 : (ji4) < (l0.length : Int) := od_
     obtain ⟨ad116, e116, hx116_0⟩ := Kd.at_int (Kd.R_reads' HO_0.out).2.2 (ji4) p116 q116
     cases e116
     replace p116 := eq_true p116
     replace q116 := eq_true q116
     go_wp2
     go_roundg k1
     case measure => have := HK1.out; omega
     case rel => exact ⟨(ji4), (by first | rfl | (simp; done) | (simp only [← hji4] <;> (first | rfl | simp)) | (simp [*]; done)), H', ⟨by have := HK1.out; omega⟩, ⟨rU_ HO_0.out⟩, ⟨by repeat (first | (with_reducible first | exact HK.out | apply Kept.alloc | apply Kept.drewN | apply Kept.drew) | exact HK.out)⟩, ⟨bU_ HB.out⟩⟩
    ·rw [if_neg c7] at H
     have c7b0 := beq_eq_false_iff_ne.mpr c7
     have c7b1 := bne_iff_ne.mpr c7
     obtain ⟨c8, H⟩ : (0 ≤ x3_1) ∧ _ := it_ H
     have c8b0 := eq_true c8
     have c8b1 := decide_eq_true c8
     clear c8
     obtain ⟨c9, H⟩ : (x3_1 ≤ (l0.length : Int)) ∧ _ := it_ H
     have c9b0 := eq_true c9
     have c9b1 := decide_eq_true c9
     clear c9
     obtain ⟨y117, hy117⟩ : ∃ y_ : List Int, y_ = (l0.take (x3_1 : Int).toNat) := ⟨_, rfl⟩
     first | rw [Option.bind_some, ← hy117] at H | rw [← hy117] at H
     have Ny117 := ak hy117
     clear hy117
     obtain rfl := Option.some.inj H
     have p116 : 0 ≤ ((ji4) : Int) := od_
     have q116 : (ji4) < (l0.length : Int) := od_
     obtain ⟨ad116, e116, hx116_0⟩ := Kd.at_int (Kd.R_reads' HO_0.out).2.2 (ji4) p116 q116
     cases e116
     replace p116 := eq_true p116
     replace q116 := eq_true q116
     have q10 : (x3_1 : Int) ≤ ((l0.length : Int) : Int) := od_
     obtain ⟨i010, hi010, _, hsz10, _⟩ := info_parts info22
     have hcut10 := cut_to (P := Tryd.prog) 23 22 .i64 Tryd.underlying23 hi010 (some ad116) l0.length co2 x3_1 od_ q10 (Kd.R_reads' HO_0.out).2.1
     have hr10 := Kd.R_take (m := (x3_1 : Int).toNat) HO_0.out (by omega)
     have hy10 : y117.length = (x3_1 : Int).toNat := (by rw [Ny117.out, List.length_take]; omega)
     rw [← Ny117.out] at hr10
     rw [← hy10] at hr10 hcut10
     clear hy10 hi010 hsz10 HO_0
     have HO119 := ak hr10
     clear hr10
     replace q10 := eq_true q10
     go_wp2
     go_ret
     exact ⟨_, by first | rfl | (simp [errW_none, errW_some] <;> rfl) | (simp only [← hji4]; first | rfl | (simp [errW_none, errW_some] <;> rfl)) | (simp [*, errW_none, errW_some] <;> rfl), rU_ HO119.out, bU_ HB.out, by repeat (first | (with_reducible first | exact HK.out | apply Kept.alloc | apply Kept.drewN | apply Kept.drew) | exact HK.out)⟩
   ·rw [if_neg c3] at H
    have c3b0 : decide (0 < x3_1) = false := decide_eq_false c3
    clear c3
    obtain ⟨c11, H⟩ : (0 ≤ x3_1) ∧ _ := it_ H
    have c11b0 := eq_true c11
    have c11b1 := decide_eq_true c11
    clear c11
    obtain ⟨c12, H⟩ : (x3_1 ≤ (l0.length : Int)) ∧ _ := it_ H
    have c12b0 := eq_true c12
    have c12b1 := decide_eq_true c12
    clear c12
    obtain ⟨y120, hy120⟩ : ∃ y_ : List Int, y_ = (l0.take (x3_1 : Int).toNat) := ⟨_, rfl⟩
    first | rw [Option.bind_some, ← hy120] at H | rw [← hy120] at H
    have Ny120 := ak hy120
    clear hy120
    obtain rfl := Option.some.inj H
    have q13 : (x3_1 : Int) ≤ ((l0.length : Int) : Int) := od_
    obtain ⟨i013, hi013, _, hsz13, _⟩ := info_parts info22
    have hcut13 := cut_to (P := Tryd.prog) 23 22 .i64 Tryd.underlying23 hi013 Ao2 l0.length co2 x3_1 od_ q13 (Kd.R_reads' HO_0.out).2.1
    have hr13 := Kd.R_take (m := (x3_1 : Int).toNat) HO_0.out (by omega)
    have hy13 : y120.length = (x3_1 : Int).toNat := (by rw [Ny120.out, List.length_take]; omega)
    rw [← Ny120.out] at hr13
    rw [← hy13] at hr13 hcut13
    clear hy13 hi013 hsz13 HO_0
    have HO122 := ak hr13
    clear hr13
    replace q13 := eq_true q13
    go_wp2
    go_ret
    exact ⟨_, by first | rfl | (simp [errW_none, errW_some] <;> rfl) | (simp [*, errW_none, errW_some] <;> rfl), rU_ HO122.out, bU_ HB.out, by repeat (first | (with_reducible first | exact HK.out | apply Kept.alloc | apply Kept.drewN | apply Kept.drew) | exact HK.out)⟩

/-! ### poly_Shift: function 36 -/
def poly_Shift.l0 : Nat → Int → Int → List Int → Int → List Int → Int → Int → Option (List Int)
 | 0, _, _, _, _, _, _, _ => none
 | k + 1, x0, x2, x7, x8, x14, x15, x16 => if x16 < x15 then (if 0 ≤ x16 then (if x16 < (x14.length : Int) then ((field_Mul.f x0 (rd x14 x16) x8).bind fun t127 => (if x16 < (x7.length : Int) then ((field_Mul.f x0 x8 x2).bind fun t129 => (poly_Shift.l0 k x0 x2 (x7.set (x16 : Int).toNat t127) t129 x14 x15 (wrap64 (x16 + 1)))) else (none))) else (none)) else (none)) else ((poly_trim.f k x7).bind fun t130 => (some t130))
def poly_Shift.f (k : Nat) (a0 : Int) (l1 : List Int) (a2 : Int) : Option (List Int) := if 0 ≤ (l1.length : Int) then (if ((l1.length : Int) : Int).toNat ≤ 35184372088832 then (poly_Shift.l0 k a0 a2 (List.replicate ((l1.length : Int) : Int).toNat 0) 1 l1 (l1.length : Int) 0) else (none)) else (none)
theorem poly_Shift.mono_l : ∀ k, (∀ y0 y1 y2 y3 y4 y5 y6, LeO (poly_Shift.l0 k y0 y1 y2 y3 y4 y5 y6) (poly_Shift.l0 (k + 1) y0 y1 y2 y3 y4 y5 y6))
 | 0 => fun _ _ _ _ _ _ _ r h => by simp [poly_Shift.l0] at h
 | k + 1 => by
  have ih0 := poly_Shift.mono_l k
  ·intro y0 y1 y2 y3 y4 y5 y6
   unfold poly_Shift.l0
   with_reducible repeat' first | apply ih0 | apply poly_trim.mono | exact LeO.refl _ | exact LeO.none _ | refine LeO.ite ?_ ?_ | refine LeO.bind ?_ (fun _ => ?_)
theorem poly_Shift.mono : ∀ a0 a1 a2 k, LeO (poly_Shift.f k a0 a1 a2) (poly_Shift.f (k + 1) a0 a1 a2) := by
 intro a0 a1 a2 k
 have ih0 := poly_Shift.mono_l k
 unfold poly_Shift.f
 with_reducible repeat' first | apply ih0 | apply poly_trim.mono | exact LeO.refl _ | exact LeO.none _ | refine LeO.ite ?_ ?_ | refine LeO.bind ?_ (fun _ => ?_)
set_option maxHeartbeats 8000000 in
set_option maxRecDepth 100000 in
theorem poly_Shift.calls (k : Nat) (a0 : Int) (A1 : Option Addr) (c1 : Nat) (l1 : List Int) (a2 : Int) (r : List Int) (w : World) (hG : Fld w) (hr1 : Kd.C (Kd.int .u64) w A1 l1.length l1) (hc1 : l1.length ≤ c1) (h : poly_Shift.f k a0 l1 a2 = some r) :
  Calls Tryd.prog 36 #[.int .i64 a0, .slice A1 l1.length c1, .int .u64 a2] w fun e w' => ∃ v0_ : Value, e = .returned (v0_) ∧ Kd.R (Kd.int .u64) 22 w' w.heap.size (fun _ => True) v0_ r ∧ Below w.heap.size w w' := by
 have HG := ak hG
 clear hG
 have HR1 := ak hr1
 have HC1 := ak hc1
 clear hr1 hc1
 have HB := ak (Below.refl w.heap.size w)
 have H : (if 0 ≤ (l1.length : Int) then (if ((l1.length : Int) : Int).toNat ≤ 35184372088832 then (poly_Shift.l0 k a0 a2 (List.replicate ((l1.length : Int) : Int).toNat 0) 1 l1 (l1.length : Int) 0) else (none)) else (none)) = some r := h
 clear h
 obtain ⟨c4, H⟩ : (0 ≤ (l1.length : Int)) ∧ _ := it_ H
 have c4b0 := eq_true c4
 have c4b1 := decide_eq_true c4
 clear c4
 obtain ⟨c5, H⟩ : (((l1.length : Int) : Int).toNat ≤ 35184372088832) ∧ _ := it_ H
 have c5b0 := eq_true c5
 have c5b1 := decide_eq_true c5
 clear c5
 obtain ⟨y123, hy123⟩ : ∃ y_ : List Int, y_ = (List.replicate ((l1.length : Int) : Int).toNat 0) := ⟨_, rfl⟩
 first | rw [Option.bind_some, ← hy123] at H | rw [← hy123] at H
 have Ny123 := ak hy123
 clear hy123
 have H' := ak H
 clear H
 go_enter Tryd.func36, Tryd.ntmps36
 go_wp2_with (first | ((with_reducible refine gate_dst (N := 13) rfl ?_); refine Kd.R_make (Kd.int .u64) _ 22 rfl (N := 13) rfl 23 _ _ rfl (l1.length : Int) ?hx ?hy Tryd.underlying23 (.int .u64 0) 8 info22 rfl (by decide) (by omega) 0 (ok := fun _ => True) (okp := fun _ => True) rfl (fun _ hk => hk) trivial od_ (Nat.le_trans (Nat.mul_le_mul_right _ (od_ : (l1.length : Int).toNat ≤ 35184372088832)) (by omega)) (Below.refl _ _) (Nat.le_refl _) ?_; (case hx => first | rfl); (case hy => first | rfl); intro v124 w6 ho7 hb hg_ hnew_; clear hg_ hnew_; (first | rw [← Ny123.out] at ho7 | (simp only [Int.reduceToNat] at ho7; rw [← Ny123.out] at ho7)); refine nx2_ (Kd.R_lower ho7 (below_size (bU_ HB.out))) (below_step (bU_ HB.out) hb) ?_; clear HB; intro HO125 HB; clear hb ho7))
 go_loopg [8, 16] k (fun kq v8 v16 w' => ∃ (x7_1 : List Int) (x8_1 : Int) (x16_1 : Int), v8 = .int .u64 x8_1 ∧ v16 = .int .i64 x16_1 ∧ Aside0 (poly_Shift.l0 kq a0 a2 x7_1 x8_1 l1 (l1.length : Int) x16_1 = some r) ∧ Aside0 (kq ≤ k) ∧ Aside0 (Kd.R (Kd.int .u64) 22 w' w.heap.size (fun _ => True) v124 x7_1) ∧ Aside0 (Below w.heap.size w w'))
 case atStart => exact ⟨(y123), (1), (0), gb_, gb_, H', ⟨Nat.le_refl _⟩, ⟨rU_ HO125.out⟩, ⟨bU_ HB.out⟩⟩
 case round =>
  clear H'
  (try clear c1); (try clear p2); (try clear c3); (try clear c4); (try clear c4b0); (try clear c4b1); (try clear c5); (try clear c5b0); (try clear c5b1)
  obtain ⟨x7_1, x8_1, x16_1, rfl, rfl, HA, HK1, HO_7, HB⟩ := hrel
  cases gk with
  | zero => exact absurd HA.out (by simp [poly_Shift.l0])
  | succ k1 =>
   have H := HA.out
   clear HA
   simp only [poly_Shift.l0] at H
   by_cases c8 : x16_1 < (l1.length : Int)
   ·rw [if_pos c8] at H
    have c8b0 := decide_eq_true c8
    clear c8
    obtain ⟨c9, H⟩ : (0 ≤ x16_1) ∧ _ := it_ H
    have c9b0 := decide_eq_true c9
    clear c9
    obtain ⟨c10, H⟩ : (x16_1 < (l1.length : Int)) ∧ _ := it_ H
    have c10b0 := decide_eq_true c10
    clear c10
    revert H
    refine bd_ fun t127 A11 H => ?_
    obtain ⟨c12, H⟩ : (x16_1 < (x7_1.length : Int)) ∧ _ := it_ H
    have c12b0 := decide_eq_true c12
    clear c12
    obtain ⟨y128, hy128⟩ : ∃ y_ : List Int, y_ = (x7_1.set (x16_1 : Int).toNat t127) := ⟨_, rfl⟩
    first | rw [Option.bind_some, ← hy128] at H | rw [← hy128] at H
    have Ny128 := ak hy128
    clear hy128
    revert H
    refine bd_ fun t129 A14 H => ?_
    have H' := ak H
    clear H
    have p126 : 0 ≤ (x16_1 : Int) := od_
    have q126 : x16_1 < (l1.length : Int) := od_
    obtain ⟨ad126, e126, hx126_0⟩ := Kd.at_int HR1.out x16_1 p126 q126
    cases e126
    replace hx126_0 := (HB.out.cell (World.block_lt_of_cell? w _ hx126_0)).trans hx126_0
    replace p126 := eq_true p126
    replace q126 := eq_true q126
    go_wp2_with (first | ((with_reducible refine gate_callee (f := 26) rfl ?_); refine gl_ (some 26) Tryd.func26 #[.int .i64 a0, .int .u64 (rd l1 x16_1), .int .u64 x8_1] ?_; (with_reducible refine (field_Mul.calls a0 (rd l1 x16_1) x8_1 t127 _ ?side1 A11.out).mono ?_); (case side1 => exact fU_ HG.out HB.out); rintro e w15 ⟨rfl, hb⟩; refine ⟨_, rfl, ?_⟩; refine nx2_ (Kd.R_below (rU_ HO_7.out) hb) (below_step (bU_ HB.out) hb) ?_; clear HO_7 HB; intro HO_7 HB; clear hb; have p13 : 0 ≤ (x16_1 : Int) := od_; have q13 : (x16_1 : Int) < ((x7_1.length : Int) : Int) := od_; obtain ⟨go13, co13, eo13, gb13, gl13, cl13, HG13⟩ := Kd.R_form HO_7.out (by omega); (first | cases eo13 | (injection eo13 with ea_ en_ ec_; (first | subst ea_ | (injection ea_ with ea_; subst ea_)); subst ec_; clear en_)); have GB13 := ak gb13; have GG13 := ak HG13; clear gb13 gl13 HG13; obtain ⟨hx13_0, hf13_0⟩ := Kd.R_celln 0 HO_7.out (x16_1 : Int) p13 q13; replace p13 := eq_true p13; replace q13 := eq_true q13; obtain ⟨hy16_, hz16_⟩ := Kd.R_celln 0 HO_7.out (x16_1 : Int) od_ od_; have HP16 := Kd.R_putg HO_7.out (x16_1 : Int) t127) | ((with_reducible refine gate_store (t := 22) (p := 27) rfl ?_); refine store_event (t := 22) (p := 27) (v := ?vo_w17) (w1 := (w15.setCell ⟨go13, (x16_1 : Int).toNat, none⟩ (.int .u64 t127))) ?hg ?ho ?hn ?hr ?_; (case ho => rfl); (case hg => rfl); (case hn => rfl); (case hr => first | (go_simp; done) | (go_simp; rfl)); intro w17 hw; have hg : w15.grownBy w17 (some go13) := (by rw [hw]; exact HP16.2); have hp_ : Kd.R (Kd.int .u64) 22 w17 w.heap.size (fun _ => True) (.slice (some ⟨go13, 0, none⟩) x7_1.length co13) y128 := (by rw [hw, Ny128.out]; exact HP16.1); clear HP16; refine nx2_ (hp_) ((by rw [hw]; exact below_set (HB.out) GB13.out : Below w.heap.size w w17)) ?_; clear HO_7 HB; intro HO_7 HB; clear hg hw hp_) | ((with_reducible refine gate_callee (f := 26) rfl ?_); refine gl_ (some 31) Tryd.func26 #[.int .i64 a0, .int .u64 x8_1, .int .u64 a2] ?_; (with_reducible refine (field_Mul.calls a0 x8_1 a2 t129 _ ?side1 A14.out).mono ?_); (case side1 => exact fU_ HG.out HB.out); rintro e w18 ⟨rfl, hb⟩; refine ⟨_, rfl, ?_⟩; refine nx2_ (Kd.R_below (rU_ HO_7.out) hb) (below_step (bU_ HB.out) hb) ?_; clear HO_7 HB; intro HO_7 HB; clear hb))
    go_roundg k1
    case measure => have := HK1.out; omega
    case rel => exact ⟨(y128), (t129), (wrap64 (x16_1 + 1)), gb_, gb_, H', ⟨by have := HK1.out; omega⟩, ⟨rU_ HO_7.out⟩, ⟨bU_ HB.out⟩⟩
   ·rw [if_neg c8] at H
    have c8b0 := decide_eq_false c8
    clear c8
    revert H
    refine bd_ fun t130 A19 H => ?_
    obtain rfl := Option.some.inj H
    obtain ⟨Ao20, co20, eo20⟩ := Kd.R_slice HO_7.out
    subst eo20
    go_wp2_with (first | ((with_reducible refine gate_callee (f := 60) rfl ?_); refine gl_ (some 34) Tryd.func60 #[.slice Ao20 x7_1.length co20] ?_; (with_reducible refine (poly_trim.calls k1 (fun k_ => some k_ = (.slice Ao20 x7_1.length co20 : Value).ownBlock) (.slice Ao20 x7_1.length co20) x7_1 t130 w _ ?side1 ?side2 A19.out).mono ?_); (case side1 => repeat (first | (with_reducible first | exact HB.out | apply below_alloc | apply pw_below_drewN | apply below_drew1) | exact HB.out)); (case side2 => exact Kd.R_tight rfl HO_7.out); rintro e w21 ⟨v131, rfl, ho0, hb, hkp⟩; refine ⟨_, rfl, ?_⟩; refine nx2_ (Kd.R_mono (ok' := fun k_ => True) ho0 (fun k_ hk_ => trivial)) (hb) ?_; clear HB HO_7; intro HO132 HB; clear hb hkp ho0))
    go_ret
    exact ⟨_, by first | rfl | (simp [errW_none, errW_some] <;> rfl) | (simp [*, errW_none, errW_some] <;> rfl), rU_ HO132.out, bU_ HB.out⟩

-- NOT PRINTED: function 70 (bits_TrailingZeros32)

/-! ### bits_TrailingZeros64: function 71 -/
def bits_TrailingZeros64.f (a0 : Int) : Option (Int) := tz64 a0
theorem bits_TrailingZeros64.calls (a0 : Int) (r : Int) (w : World) (hG : Fld w) (h : bits_TrailingZeros64.f a0 = some r) :
  Calls Tryd.prog 71 #[.int .u64 a0] w fun e w' => e = .returned (.int .i64 r) ∧ Below w.heap.size w w' := tz64_calls a0 r w hG h

/-! ### bits_TrailingZeros: function 62 -/
def bits_TrailingZeros.f (a0 : Int) : Option (Int) := (bits_TrailingZeros64.f a0).bind fun t133 => (some t133)
set_option maxHeartbeats 8000000 in
set_option maxRecDepth 100000 in
theorem bits_TrailingZeros.calls (a0 : Int) (r : Int) (w : World) (hG : Fld w) (h : bits_TrailingZeros.f a0 = some r) :
  Calls Tryd.prog 62 #[.int .u64 a0] w fun e w' => e = .returned (.int .i64 r) ∧ Below w.heap.size w w' := by
 have HG := ak hG
 clear hG
 have HB := ak (Below.refl w.heap.size w)
 have H : ((bits_TrailingZeros64.f a0).bind fun t133 => (some t133)) = some r := h
 clear h
 revert H
 refine bd_ fun t133 A2 H => ?_
 obtain rfl := Option.some.inj H
 go_enter Tryd.func62, Tryd.ntmps62
 go_wp2_with (first | ((with_reducible refine gate_callee (f := 71) rfl ?_); refine gl_ (some 7) Tryd.func71 #[.int .u64 a0] ?_; (with_reducible refine (bits_TrailingZeros64.calls a0 t133 _ ?side1 A2.out).mono ?_); (case side1 => exact fU_ HG.out HB.out); rintro e w3 ⟨rfl, hb⟩; refine ⟨_, rfl, ?_⟩; refine nx1_ (below_step (bU_ HB.out) hb) ?_; clear HB; intro HB; clear hb))
 go_ret
 exact ⟨by first | rfl | (simp [errW_none, errW_some] <;> rfl) | (simp [*, errW_none, errW_some] <;> rfl), bU_ HB.out⟩

/-! ### bits_ReverseBytes64: function 72 -/
def bits_ReverseBytes64.f (a0 : Int) : Option (Int) := some (Go.bits .or .u64 ((Go.bits .or .u64 (Go.bits .and .u64 ((Go.bits .or .u64 (Go.bits .and .u64 (a0 / 256) 71777214294589695) (IntKind.u64.wrap ((Go.bits .and .u64 a0 71777214294589695) * 256))) / 65536) 281470681808895) (IntKind.u64.wrap ((Go.bits .and .u64 (Go.bits .or .u64 (Go.bits .and .u64 (a0 / 256) 71777214294589695) (IntKind.u64.wrap ((Go.bits .and .u64 a0 71777214294589695) * 256))) 281470681808895) * 65536))) / 4294967296) (IntKind.u64.wrap ((Go.bits .or .u64 (Go.bits .and .u64 ((Go.bits .or .u64 (Go.bits .and .u64 (a0 / 256) 71777214294589695) (IntKind.u64.wrap ((Go.bits .and .u64 a0 71777214294589695) * 256))) / 65536) 281470681808895) (IntKind.u64.wrap ((Go.bits .and .u64 (Go.bits .or .u64 (Go.bits .and .u64 (a0 / 256) 71777214294589695) (IntKind.u64.wrap ((Go.bits .and .u64 a0 71777214294589695) * 256))) 281470681808895) * 65536))) * 4294967296)))
set_option maxHeartbeats 8000000 in
set_option maxRecDepth 100000 in
theorem bits_ReverseBytes64.calls (a0 : Int) (r : Int) (w : World) (h : bits_ReverseBytes64.f a0 = some r) :
  Calls Tryd.prog 72 #[.int .u64 a0] w fun e w' => e = .returned (.int .u64 r) ∧ Drawn0 w w' := by
 have H : (some (Go.bits .or .u64 ((Go.bits .or .u64 (Go.bits .and .u64 ((Go.bits .or .u64 (Go.bits .and .u64 (a0 / 256) 71777214294589695) (IntKind.u64.wrap ((Go.bits .and .u64 a0 71777214294589695) * 256))) / 65536) 281470681808895) (IntKind.u64.wrap ((Go.bits .and .u64 (Go.bits .or .u64 (Go.bits .and .u64 (a0 / 256) 71777214294589695) (IntKind.u64.wrap ((Go.bits .and .u64 a0 71777214294589695) * 256))) 281470681808895) * 65536))) / 4294967296) (IntKind.u64.wrap ((Go.bits .or .u64 (Go.bits .and .u64 ((Go.bits .or .u64 (Go.bits .and .u64 (a0 / 256) 71777214294589695) (IntKind.u64.wrap ((Go.bits .and .u64 a0 71777214294589695) * 256))) / 65536) 281470681808895) (IntKind.u64.wrap ((Go.bits .and .u64 (Go.bits .or .u64 (Go.bits .and .u64 (a0 / 256) 71777214294589695) (IntKind.u64.wrap ((Go.bits .and .u64 a0 71777214294589695) * 256))) 281470681808895) * 65536))) * 4294967296)))) = some r := h
 clear h
 obtain rfl := Option.some.inj H
 go_enter Tryd.func72, Tryd.ntmps72
 go_wp2
 go_ret
 exact ⟨by first | rfl | (simp; done) | (simp [*]; done), by repeat (first | exact Drawn0.refl _ | apply Drawn0.step)⟩

/-! ### bits_Reverse64: function 64 -/
def bits_Reverse64.f (a0 : Int) : Option (Int) := (bits_ReverseBytes64.f (Go.bits .or .u64 (Go.bits .and .u64 ((Go.bits .or .u64 (Go.bits .and .u64 ((Go.bits .or .u64 (Go.bits .and .u64 (a0 / 2) 6148914691236517205) (IntKind.u64.wrap ((Go.bits .and .u64 a0 6148914691236517205) * 2))) / 4) 3689348814741910323) (IntKind.u64.wrap ((Go.bits .and .u64 (Go.bits .or .u64 (Go.bits .and .u64 (a0 / 2) 6148914691236517205) (IntKind.u64.wrap ((Go.bits .and .u64 a0 6148914691236517205) * 2))) 3689348814741910323) * 4))) / 16) 1085102592571150095) (IntKind.u64.wrap ((Go.bits .and .u64 (Go.bits .or .u64 (Go.bits .and .u64 ((Go.bits .or .u64 (Go.bits .and .u64 (a0 / 2) 6148914691236517205) (IntKind.u64.wrap ((Go.bits .and .u64 a0 6148914691236517205) * 2))) / 4) 3689348814741910323) (IntKind.u64.wrap ((Go.bits .and .u64 (Go.bits .or .u64 (Go.bits .and .u64 (a0 / 2) 6148914691236517205) (IntKind.u64.wrap ((Go.bits .and .u64 a0 6148914691236517205) * 2))) 3689348814741910323) * 4))) 1085102592571150095) * 16)))).bind fun t134 => (some t134)
set_option maxHeartbeats 8000000 in
set_option maxRecDepth 100000 in
theorem bits_Reverse64.calls (a0 : Int) (r : Int) (w : World) (h : bits_Reverse64.f a0 = some r) :
  Calls Tryd.prog 64 #[.int .u64 a0] w fun e w' => e = .returned (.int .u64 r) ∧ Drawn0 w w' := by
 have H : ((bits_ReverseBytes64.f (Go.bits .or .u64 (Go.bits .and .u64 ((Go.bits .or .u64 (Go.bits .and .u64 ((Go.bits .or .u64 (Go.bits .and .u64 (a0 / 2) 6148914691236517205) (IntKind.u64.wrap ((Go.bits .and .u64 a0 6148914691236517205) * 2))) / 4) 3689348814741910323) (IntKind.u64.wrap ((Go.bits .and .u64 (Go.bits .or .u64 (Go.bits .and .u64 (a0 / 2) 6148914691236517205) (IntKind.u64.wrap ((Go.bits .and .u64 a0 6148914691236517205) * 2))) 3689348814741910323) * 4))) / 16) 1085102592571150095) (IntKind.u64.wrap ((Go.bits .and .u64 (Go.bits .or .u64 (Go.bits .and .u64 ((Go.bits .or .u64 (Go.bits .and .u64 (a0 / 2) 6148914691236517205) (IntKind.u64.wrap ((Go.bits .and .u64 a0 6148914691236517205) * 2))) / 4) 3689348814741910323) (IntKind.u64.wrap ((Go.bits .and .u64 (Go.bits .or .u64 (Go.bits .and .u64 (a0 / 2) 6148914691236517205) (IntKind.u64.wrap ((Go.bits .and .u64 a0 6148914691236517205) * 2))) 3689348814741910323) * 4))) 1085102592571150095) * 16)))).bind fun t134 => (some t134)) = some r := h
 clear h
 revert H
 refine bd_ fun t134 A2 H => ?_
 obtain rfl := Option.some.inj H
 go_enter Tryd.func64, Tryd.ntmps64
 go_wp2_with (first | ((with_reducible refine gate_callee (f := 72) rfl ?_); refine gl_ (some 25) Tryd.func72 #[.int .u64 (Go.bits .or .u64 (Go.bits .and .u64 ((Go.bits .or .u64 (Go.bits .and .u64 ((Go.bits .or .u64 (Go.bits .and .u64 (a0 / 2) 6148914691236517205) (IntKind.u64.wrap ((Go.bits .and .u64 a0 6148914691236517205) * 2))) / 4) 3689348814741910323) (IntKind.u64.wrap ((Go.bits .and .u64 (Go.bits .or .u64 (Go.bits .and .u64 (a0 / 2) 6148914691236517205) (IntKind.u64.wrap ((Go.bits .and .u64 a0 6148914691236517205) * 2))) 3689348814741910323) * 4))) / 16) 1085102592571150095) (IntKind.u64.wrap ((Go.bits .and .u64 (Go.bits .or .u64 (Go.bits .and .u64 ((Go.bits .or .u64 (Go.bits .and .u64 (a0 / 2) 6148914691236517205) (IntKind.u64.wrap ((Go.bits .and .u64 a0 6148914691236517205) * 2))) / 4) 3689348814741910323) (IntKind.u64.wrap ((Go.bits .and .u64 (Go.bits .or .u64 (Go.bits .and .u64 (a0 / 2) 6148914691236517205) (IntKind.u64.wrap ((Go.bits .and .u64 a0 6148914691236517205) * 2))) 3689348814741910323) * 4))) 1085102592571150095) * 16)))] ?_; (with_reducible refine (bits_ReverseBytes64.calls (Go.bits .or .u64 (Go.bits .and .u64 ((Go.bits .or .u64 (Go.bits .and .u64 ((Go.bits .or .u64 (Go.bits .and .u64 (a0 / 2) 6148914691236517205) (IntKind.u64.wrap ((Go.bits .and .u64 a0 6148914691236517205) * 2))) / 4) 3689348814741910323) (IntKind.u64.wrap ((Go.bits .and .u64 (Go.bits .or .u64 (Go.bits .and .u64 (a0 / 2) 6148914691236517205) (IntKind.u64.wrap ((Go.bits .and .u64 a0 6148914691236517205) * 2))) 3689348814741910323) * 4))) / 16) 1085102592571150095) (IntKind.u64.wrap ((Go.bits .and .u64 (Go.bits .or .u64 (Go.bits .and .u64 ((Go.bits .or .u64 (Go.bits .and .u64 (a0 / 2) 6148914691236517205) (IntKind.u64.wrap ((Go.bits .and .u64 a0 6148914691236517205) * 2))) / 4) 3689348814741910323) (IntKind.u64.wrap ((Go.bits .and .u64 (Go.bits .or .u64 (Go.bits .and .u64 (a0 / 2) 6148914691236517205) (IntKind.u64.wrap ((Go.bits .and .u64 a0 6148914691236517205) * 2))) 3689348814741910323) * 4))) 1085102592571150095) * 16))) t134 _ A2.out).mono ?_); rintro e w' ⟨rfl, ⟨nd, rfl⟩⟩; refine ⟨_, rfl, ?_⟩))
 go_ret
 exact ⟨by first | rfl | (simp; done) | (simp [*]; done), by repeat (first | exact Drawn0.refl _ | apply Drawn0.step)⟩

-- NOT PRINTED: function 63 (transform_reordered_1)

/-! ### transform_reordered: function 37, by hand -/
theorem hold_ {p : Prop} (h : Aside0 p) : p := h.out
section
variable {P : Program} {ops : Array Oper} {Q : Exit → Act → World → Prop}
/-- A call of a closure. -/
theorem gclo_ {rest : List Oper} {oi : Oper} {a : Act} {w : World} (N : Option Tmp) (hd : oi.dst = N) (hg : oi.guard = none) {f : FuncId} {fn : Func} {t : Tmp} {xs : Array Operand} {ts : Array TypeId} {cap : Array Value} (hf : P.funcs[f]? = some fn) (hname : (fn.name == "runtime.NumGoroutine") = false) (hb : fn.body.isSome = true) (args : Array Value)
  (hop : oi.op = .call { callee := .value (.tmp t), args := xs, argTypes := ts }) (hfun : a.eval (.tmp t) = .func (Fn.func f) #[] cap) (hargs : xs.map a.eval ++ cap = args)
  (h : Calls P f args w fun e w' => ∃ v, e = .returned v ∧ wpList P ops Q rest (a.put N v) w') : wpList P ops Q (oi :: rest) a w := by
 refine wpList_plain hg fun K hK => ?_
 have he := enters_ hf hname hb args w
 have hrun : (execOp a.eval oi).run P w = .ok (.enter f args) w := by
  unfold execOp
  simp [hop, resolve, Deferred.ofValue, invoke, hfun, hargs, he]
 unfold Oper.wp
 rw [hrun, Oper.upon_enter]
 refine h.mono fun e w'' hh => ?_
 obtain ⟨v, rfl, hk⟩ := hh
 subst hd
 exact hK _ _ hk
end
set_option maxHeartbeats 4000000 in
set_option maxRecDepth 100000 in
theorem place_calls (kk i rv : Int) (B : Nat) (w : World) (hc : w.cell? ⟨B, 0, none⟩ = some (.int .i64 kk)) (hB : B < w.heap.size) (h0 : 0 ≤ kk) (h1 : kk ≤ 64) (h : bits_Reverse64.f (IntKind.u64.wrap i) = some rv) :
  Calls Tryd.prog 63 #[.int .i64 i, .pointer (some ⟨B, 0, none⟩)] w fun e w' => e = .returned (.int .i64 (wrap64 (rv / 2 ^ (64 - kk).toNat))) ∧ Below w.heap.size w w' := by
 go_enter Tryd.func63, Tryd.ntmps63
 go_wp2
 refine start_ (n := 8) (S := fun w' => w'.cell? ⟨B, 0, none⟩ = some (.int .i64 kk)) (ds := []) (bv 8 0) (by kernel_rfl) rfl rfl hc (fun hHeld => ?_)
 have HT_ : Aside0 (rtab .any (opsOf Tryd.f63 1) = rtab .any (opsOf Tryd.f63 1)) := ⟨rfl⟩
 have HB := ak (below_drew1 (Below.refl w.heap.size w))
 have hB' : B < w.drew.heap.size := hB
 generalize w.drew = w9 at HB hHeld hB' ⊢
 refine pr_ (i := 0) (N := some 4) (v := ?_) (a' := ?_) (bv 8 1) HT_.out ?_ ?_ ?_; rotate_left 2; (intro w'; go_simp; with_reducible rfl); (simp only [Act.put, s1_, s2_, s3_, i64_w, i32_w]; rfl)
 refine pr_ (i := 1) (N := some 5) (v := ?_) (a' := ?_) (bv 8 3) HT_.out ?_ ?_ ?_; rotate_left 2; (intro w'; go_simp; with_reducible rfl); (simp only [Act.put, s1_, s2_, s3_, i64_w, i32_w]; rfl)
 refine take_ (i := 3) (N := some 7) (v := ?_) (a' := ?_) (bv 8 11) rfl rfl (take_of HT_.out (by kernel_rfl)) (fun _ _ _ h => h) (Or.inl ⟨by rfl, ?_⟩) hHeld ?_ ?_
 rotate_left
 ·intro w' s0
  go_simp
  with_reducible rfl
 rotate_left
 ·simp only [Act.put, s1_, s2_, s3_, i64_w, i32_w]
  rfl
 refine pr_ (i := 4) (N := some 8) (v := ?_) (a' := ?_) (bv 8 27) HT_.out ?_ ?_ ?_; rotate_left 2; (intro w'; go_simp; with_reducible rfl); (simp only [Act.put, s1_, s2_, s3_, i64_w, i32_w]; rfl)
 refine one_ (i := 2) (N := some 6) (bv 8 31) rfl rfl (one_of HT_.out (by kernel_rfl)) (by decide) (fun K hK => ?_)
 refine goes_ Tryd.func64 (by kernel_rfl) rfl #[.int .u64 (IntKind.u64.wrap i)] (by rfl) rfl rfl ga_ ?_
 refine (bits_Reverse64.calls (IntKind.u64.wrap i) rv _ h).mono ?_
 rintro e w5 ⟨rfl, hd⟩
 refine ⟨_, rfl, ?_⟩
 have hc5 : w5.cell? ⟨B, 0, none⟩ = some (.int .i64 kk) := (hd.below.cell hB').trans hHeld
 refine nx1_ (below_step HB.out hd.below) ?_
 clear HB
 intro HB
 clear hd
 refine hK.out _ _ hc5 (fun hHeld => ?_)
 clear hK K
 refine norm_ (a' := ?_) ?_ ?_
 rotate_left
 ·show Act.put _ (some 6) _ = _
  simp only [Act.put, s1_, s2_, s3_, i64_w, i32_w]
  rfl
 have f1 : wrap64 (64 - kk) = 64 - kk := by unfold wrap64; omega
 rw [f1]
 have f2 : (0 : Int) ≤ 64 - kk := by omega
 have f3 : min (64 - kk).toNat 64 = (64 - kk).toNat := by omega
 have f4 : (64 - kk).toNat ≤ 64 := by omega
 refine pr_ (i := 5) (N := some 9) (v := .int .u64 (rv / 2 ^ (64 - kk).toNat)) (a' := ?_) (bv 8 63) HT_.out ?_ ?_ ?_; rotate_left 1
 ·intro w'
  go_simp
 ·simp only [Act.put, s1_, s2_, s3_]
  rfl
 refine pr_ (i := 6) (N := some 10) (v := ?_) (a' := ?_) (bv 8 127) HT_.out ?_ ?_ ?_; rotate_left 2; (intro w'; go_simp; with_reducible rfl); (simp only [Act.put, s1_, s2_, s3_, i64_w, i32_w]; rfl)
 refine pr_ (i := 7) (N := some 3) (v := ?_) (a' := ?_) (bv 8 255) HT_.out ?_ ?_ ?_; rotate_left 2; (intro w'; go_simp; with_reducible rfl); (simp only [Act.put, s1_, s2_, s3_, i64_w, i32_w]; rfl)
 refine done_ (done_of HT_.out (by kernel_rfl)) ?_
 go_wp2
 go_ret
 exact ⟨rfl, HB.out⟩
/-- The list, each number at the place of its number's bits turned round. -/
def transform_reordered.l0 : Nat → Int → Int → List Int → List Int → Nat → Option (List Int)
 | 0, _, _, _, _, _ => none
 | k + 1, f, kk, l, out, i => if i < l.length then (bits_Reverse64.f (IntKind.u64.wrap (i : Int))).bind fun rv => if 0 ≤ wrap64 (rv / 2 ^ (64 - kk).toNat) ∧ wrap64 (rv / 2 ^ (64 - kk).toNat) < (l.length : Int) then (field_Reduce.f f (rd l (wrap64 (rv / 2 ^ (64 - kk).toNat)))).bind fun y => transform_reordered.l0 k f kk l (out.set i y) (i + 1) else none else some out
def transform_reordered.f (k : Nat) (a0 : Int) (l1 : List Int) : Option (List Int) := (bits_TrailingZeros.f (l1.length : Int)).bind fun kk => if 0 ≤ kk ∧ kk ≤ 64 ∧ l1.length ≤ 35184372088832 then transform_reordered.l0 k a0 kk l1 (List.replicate l1.length 0) 0 else none
theorem transform_reordered.mono_l : ∀ k f kk l out i, LeO (transform_reordered.l0 k f kk l out i) (transform_reordered.l0 (k + 1) f kk l out i)
 | 0, _, _, _, _, _ => fun r h => by simp [transform_reordered.l0] at h
 | k + 1, f, kk, l, out, i => by
  rw [transform_reordered.l0, transform_reordered.l0]
  exact LeO.ite (LeO.bind (LeO.refl _) fun _ => LeO.ite (LeO.bind (LeO.refl _) fun _ => transform_reordered.mono_l _ _ _ _ _ _) (LeO.refl _)) (LeO.refl _)
theorem transform_reordered.mono : ∀ a0 l1 k, LeO (transform_reordered.f k a0 l1) (transform_reordered.f (k + 1) a0 l1) := fun a0 l1 k => by
 unfold transform_reordered.f
 exact LeO.bind (LeO.refl _) fun _ => LeO.ite (transform_reordered.mono_l _ _ _ _ _ _) (LeO.refl _)
set_option maxHeartbeats 8000000 in
set_option maxRecDepth 100000 in
theorem transform_reordered.calls (k : Nat) (a0 : Int) (A1 : Option Addr) (c1 : Nat) (l1 r : List Int) (w : World) (hG : Fld w) (hr1 : Kd.C (Kd.int .u64) w A1 l1.length l1) (hc1 : l1.length ≤ c1) (h : transform_reordered.f k a0 l1 = some r) :
  Calls Tryd.prog 37 #[.int .i64 a0, .slice A1 l1.length c1] w fun e w' => ∃ v0_ : Value, e = .returned v0_ ∧ Kd.R (Kd.int .u64) 22 w' w.heap.size (fun _ => True) v0_ r ∧ Below w.heap.size w w' := by
 have HG := ak hG
 have HR1 := ak hr1
 clear hG hr1
 unfold transform_reordered.f at h
 obtain ⟨kk, hk, h⟩ := Option.bind_eq_some_iff.mp h
 have HK := ak hk
 clear hk
 by_cases c2 : 0 ≤ kk ∧ kk ≤ 64 ∧ l1.length ≤ 35184372088832
 ·rw [if_pos c2] at h
  have H' := ak h
  clear h
  have hmf : ∀ (fn : Fn) (first cap : Array Value) (w : World), (Instr.makeFunc fn first cap).run Tryd.prog w = .ok (.func fn first cap) w := fun _ _ _ _ => rfl
  have HB := ak (Below.refl w.heap.size w)
  go_enter Tryd.func37, Tryd.ntmps37
  go_wp2_with (first | ((with_reducible refine gate_callee (f := 62) rfl ?_); refine gl_ (some 12) Tryd.func62 #[.int .u64 (l1.length : Int)] ?_; (with_reducible refine (bits_TrailingZeros.calls (l1.length : Int) kk _ ?side1 HK.out).mono ?_); (case side1 => exact fU_ HG.out HB.out); rintro e w1 ⟨rfl, hb⟩; refine ⟨_, rfl, ?_⟩; refine nx1_ (below_step (bU_ HB.out) hb) ?_; clear HB; intro HB; clear hb) | ((with_reducible refine gate_dst (N := 16) rfl ?_); refine hold_ ?_))
  have hA := below_alloc HB.out (Obj.cells #[.int .i64 kk] 3)
  have g0 : (w1.alloc (Obj.cells #[.int .i64 kk] 3)).cell? ⟨w1.heap.size, 0, none⟩ = some (.int .i64 kk) := by go_simp
  have g1 : w1.heap.size < (w1.alloc (Obj.cells #[.int .i64 kk] 3)).heap.size := by simp
  generalize w1.alloc (Obj.cells #[.int .i64 kk] 3) = wA at *
  generalize w1.heap.size = B at *
  clear HB HK
  have HB := ak hA
  clear hA
  refine ⟨?_⟩
  refine Kd.R_make (Kd.int .u64) _ 22 rfl (N := 16) rfl 23 _ _ rfl (l1.length : Int) ?hx ?hy Tryd.underlying23 (.int .u64 0) 8 info22 rfl (by decide) (by omega) 0 (ok := fun _ => True) (okp := fun _ => True) rfl (fun _ hk => hk) trivial (by omega) (Nat.le_trans (Nat.mul_le_mul_right _ (show (l1.length : Int).toNat ≤ 35184372088832 by omega)) (by omega)) (Below.refl _ _) (Nat.le_refl _) ?_
  ·rfl
  ·rfl
  intro v0 w2 ho hb _ _
  have g2 := (hb.cell g1).trans g0
  have g3 := Nat.lt_of_lt_of_le g1 hb.size
  have g1' := g1
  clear g0 g1
  have HBS := ak (And.intro (below_size HB.out) g1')
  generalize wA.heap.size = bs at ho HBS
  have HO := ak ho
  refine nx1_ (below_step (bU_ HB.out) hb) ?_
  clear HB ho hb
  intro HB
  rw [show ((l1.length : Int)).toNat = l1.length from Int.toNat_natCast _] at HO
  obtain ⟨Ao, co, eo⟩ := Kd.R_slice HO.out
  subst eo
  rw [show (List.replicate l1.length (0 : Int)).length = l1.length from List.length_replicate] at HO ⊢
  have GG := ak (And.intro g2 g3)
  clear g2 g3
  go_wp2
  go_loopg [19] k (fun kq v19 w' => ∃ (i : Nat) (out : List Int), v19 = .int .i64 (i : Int) ∧ Aside0 (transform_reordered.l0 kq a0 kk l1 out i = some r) ∧ Aside0 (kq ≤ k) ∧ Aside0 (out.length = l1.length) ∧ Aside0 (Kd.R (Kd.int .u64) 22 w' bs (fun _ => True) (.slice Ao l1.length co) out) ∧ Aside0 (w'.cell? ⟨B, 0, none⟩ = some (.int .i64 kk) ∧ B < w'.heap.size) ∧ Aside0 (Below w.heap.size w w'))
  case atStart => exact ⟨0, _, rfl, H', ⟨Nat.le_refl _⟩, ⟨List.length_replicate⟩, ⟨rU_ HO.out⟩, GG, HB⟩
  case round =>
   clear H' HO GG HB
   obtain ⟨i, out, rfl, HA, HK, HLN, HO, GG, HB⟩ := hrel
   cases gk with
   | zero => exact absurd HA.out (by simp [transform_reordered.l0])
   | succ k1 =>
    have H := HA.out
    clear HA
    rw [transform_reordered.l0] at H
    by_cases c3 : i < l1.length
    ·rw [if_pos c3] at H
     obtain ⟨rv, hrv, H⟩ := Option.bind_eq_some_iff.mp H
     have A9 := ak hrv
     clear hrv
     by_cases c4 : 0 ≤ wrap64 (rv / 2 ^ (64 - kk).toNat) ∧ wrap64 (rv / 2 ^ (64 - kk).toNat) < (l1.length : Int)
     ·rw [if_pos c4] at H
      obtain ⟨pl, hpl⟩ : ∃ pl, pl = wrap64 (rv / 2 ^ (64 - kk).toNat) := ⟨_, rfl⟩
      rw [← hpl] at c4 H
      obtain ⟨c4, c5⟩ := c4
      obtain ⟨y, hy, H⟩ := Option.bind_eq_some_iff.mp H
      have A2 := ak hy
      have H' := ak H
      clear hy H
      have e1 : decide ((i : Int) < (l1.length : Int)) = true := by simp; omega
      obtain ⟨ad, ea, hx⟩ := Kd.at_int HR1.out pl c4 c5
      cases ea
      replace hx := (HB.out.cell (World.block_lt_of_cell? w _ hx)).trans hx
      have HX := ak hx
      clear hx
      go_wp2_with (first | ((with_reducible refine gate_dst (N := 28) rfl ?_); refine hold_ ?_))
      refine ⟨?_⟩
      refine gclo_ (some 28) rfl rfl Tryd.func63 (by kernel_rfl) rfl #[.int .i64 (i : Int), .pointer (some ⟨B, 0, none⟩)] rfl rfl (by simp only [List.map_toArray, List.map_cons, List.map_nil, List.append_toArray, List.cons_append, List.nil_append]; rfl) ?_
      refine (place_calls kk i rv B _ GG.out.1 GG.out.2 c2.1 c2.2.1 A9.out).mono ?_
      rintro e w5 ⟨rfl, hb⟩
      rw [← hpl]
      refine ⟨_, rfl, ?_⟩
      refine nx4_ (Kd.R_below (rU_ HO.out) hb) (And.intro ((hb.cell GG.out.2).trans GG.out.1) (Nat.lt_of_lt_of_le GG.out.2 hb.size)) ((hb.cell (World.block_lt_of_cell? _ _ HX.out)).trans HX.out) (below_step (bU_ HB.out) hb) ?_
      clear HO GG HX HB hb hpl
      intro HO GG HX HB
      have hx := HX.out
      clear HX
      go_wp2_with (first | ((with_reducible refine gate_callee (f := 23) rfl ?_); refine hold_ ?_))
      refine ⟨?_⟩
      refine gl_ (some 31) Tryd.func23 #[.int .i64 a0, .int .u64 (rd l1 pl)] ?_
      refine (field_Reduce.calls a0 (rd l1 pl) y _ ?side1 A2.out).mono ?_
      case side1 => exact fU_ HG.out HB.out
      rintro e w6 ⟨rfl, hb⟩
      refine ⟨_, rfl, ?_⟩
      refine nx3_ (Kd.R_below (rU_ HO.out) hb) (And.intro ((hb.cell GG.out.2).trans GG.out.1) (Nat.lt_of_lt_of_le GG.out.2 hb.size)) (below_step (bU_ HB.out) hb) ?_
      clear HO GG HB hb hx
      intro HO GG HB
      have hio : (i : Int) < (out.length : Int) := by have := HLN.out; omega
      rw [← HLN.out] at HO ⊢
      obtain ⟨g, c, eo, gb, gl, cl, hgg⟩ := Kd.R_form HO.out (by omega)
      injection eo with ea_ en_ ec_
      subst ea_
      subst ec_
      obtain ⟨hx, hf⟩ := Kd.R_celln 0 HO.out (i : Int) (by omega) hio
      rw [Int.toNat_natCast] at hx hf
      have HP := Kd.R_putg HO.out (i : Int) y
      rw [Int.toNat_natCast] at HP
      have hcB : (w6.setCell ⟨g, i, none⟩ (.int .u64 y)).cell? ⟨B, 0, none⟩ = some (.int .i64 kk) := (World.cell?_setCell_other _ _ _ _ (by have := HBS.out; intro hq; simp only [Addr.mk.injEq] at hq; omega)).trans GG.out.1
      go_wp2_with (first | ((with_reducible refine gate_store (t := 22) (p := 32) rfl ?_); refine hold_ ?_))
      refine ⟨?_⟩
      refine store_event (t := 22) (p := 32) (v := ?vo) (w1 := (w6.setCell ⟨g, i, none⟩ (.int .u64 y))) ?hg ?ho ?hn ?hr ?_
      case ho => rfl
      case hg => rfl
      case hn => rfl
      case hr => first | (go_simp; done) | (go_simp; rfl)
      intro w7 hw
      have hgr := HP.2
      rw [← hw] at HP hcB hgr
      have gb' := Nat.le_trans HBS.out.1 gb
      refine nx3_ HP.1 (And.intro hcB (Nat.lt_of_lt_of_le GG.out.2 hgr.size)) (by rw [hw]; exact below_set HB.out gb' : Below w.heap.size w w7) ?_
      clear HO GG HB hx hf HP hcB hgr hw
      intro HO GG HB
      go_wp2
      rw [HLN.out] at HO ⊢
      go_roundg k1
      case measure => have := HK.out; omega
      case rel => exact ⟨i + 1, out.set i y, by first | rfl | (simp; done) | (simp [*]; done), H', ⟨by have := HK.out; omega⟩, ⟨by rw [List.length_set]; exact HLN.out⟩, ⟨rU_ HO.out⟩, GG, HB⟩
     ·rw [if_neg c4] at H
      simp at H
    ·rw [if_neg c3] at H
     obtain rfl := Option.some.inj H
     have e1 : decide ((i : Int) < (l1.length : Int)) = false := by simp; omega
     go_wp2
     go_ret
     exact ⟨_, rfl, Kd.R_lower HO.out HBS.out.1, HB.out⟩
 ·rw [if_neg c2] at h
  simp at h

/-! ### field_Add: function 33 -/
def field_Add.f (a0 : Int) (a1 : Int) (a2 : Int) : Option (Int) := (field_P.f a0).bind fun t135 => (if t135 = 0 then (some 0) else (if (IntKind.u64.wrap ((Int.tmod a1 t135) + (Int.tmod a2 t135))) ≥ t135 then (some (IntKind.u64.wrap ((IntKind.u64.wrap ((Int.tmod a1 t135) + (Int.tmod a2 t135))) - t135))) else (some (IntKind.u64.wrap ((Int.tmod a1 t135) + (Int.tmod a2 t135))))))
set_option maxHeartbeats 8000000 in
set_option maxRecDepth 100000 in
theorem field_Add.calls (a0 : Int) (a1 : Int) (a2 : Int) (r : Int) (w : World) (hG : Fld w) (h : field_Add.f a0 a1 a2 = some r) :
  Calls Tryd.prog 33 #[.int .i64 a0, .int .u64 a1, .int .u64 a2] w fun e w' => e = .returned (.int .u64 r) ∧ Below w.heap.size w w' := by
 have HG := ak hG
 clear hG
 have HB := ak (Below.refl w.heap.size w)
 have H : ((field_P.f a0).bind fun t135 => (if t135 = 0 then (some 0) else (if (IntKind.u64.wrap ((Int.tmod a1 t135) + (Int.tmod a2 t135))) ≥ t135 then (some (IntKind.u64.wrap ((IntKind.u64.wrap ((Int.tmod a1 t135) + (Int.tmod a2 t135))) - t135))) else (some (IntKind.u64.wrap ((Int.tmod a1 t135) + (Int.tmod a2 t135))))))) = some r := h
 clear h
 revert H
 refine bd_ fun t135 A4 H => ?_
 by_cases c5 : t135 = 0
 ·rw [if_pos c5] at H
  have c5b0 := beq_iff_eq.mpr c5
  have c5b1 := bne_eq_false_iff_eq.mpr c5
  clear c5
  obtain rfl := Option.some.inj H
  go_enter Tryd.func33, Tryd.ntmps33
  go_wp2_with (first | (go_at_call 58; (with_reducible refine (field_P.calls a0 t135 _ ?side1 A4.out).mono ?_); (case side1 => exact fU_ HG.out HB.out); rintro e w6 ⟨rfl, hb⟩; refine nx1_ (below_step (bU_ HB.out) hb) ?_; clear HB; intro HB; clear hb))
  repeat (go_quiet (first | (go_at_call 58; (with_reducible refine (field_P.calls a0 t135 _ ?side1 A4.out).mono ?_); (case side1 => exact fU_ HG.out HB.out); rintro e w6 ⟨rfl, hb⟩; refine nx1_ (below_step (bU_ HB.out) hb) ?_; clear HB; intro HB; clear hb)); try go_wp2_with (first | (go_at_call 58; (with_reducible refine (field_P.calls a0 t135 _ ?side1 A4.out).mono ?_); (case side1 => exact fU_ HG.out HB.out); rintro e w6 ⟨rfl, hb⟩; refine nx1_ (below_step (bU_ HB.out) hb) ?_; clear HB; intro HB; clear hb)))
  go_ret
  exact ⟨by first | rfl | (simp [errW_none, errW_some] <;> rfl) | (simp [*, errW_none, errW_some] <;> rfl), bU_ HB.out⟩
 ·rw [if_neg c5] at H
  have c5b0 := beq_eq_false_iff_ne.mpr c5
  have c5b1 := bne_iff_ne.mpr c5
  by_cases c7 : (IntKind.u64.wrap ((Int.tmod a1 t135) + (Int.tmod a2 t135))) ≥ t135
  ·rw [if_pos c7] at H
   have c7b0 : decide (t135 ≤ (IntKind.u64.wrap ((Int.tmod a1 t135) + (Int.tmod a2 t135)))) = true := decide_eq_true c7
   clear c7
   obtain rfl := Option.some.inj H
   go_enter Tryd.func33, Tryd.ntmps33
   go_wp2_with (first | (go_at_call 58; (with_reducible refine (field_P.calls a0 t135 _ ?side1 A4.out).mono ?_); (case side1 => exact fU_ HG.out HB.out); rintro e w8 ⟨rfl, hb⟩; refine nx1_ (below_step (bU_ HB.out) hb) ?_; clear HB; intro HB; clear hb))
   repeat (go_quiet (first | (go_at_call 58; (with_reducible refine (field_P.calls a0 t135 _ ?side1 A4.out).mono ?_); (case side1 => exact fU_ HG.out HB.out); rintro e w8 ⟨rfl, hb⟩; refine nx1_ (below_step (bU_ HB.out) hb) ?_; clear HB; intro HB; clear hb)); try go_wp2_with (first | (go_at_call 58; (with_reducible refine (field_P.calls a0 t135 _ ?side1 A4.out).mono ?_); (case side1 => exact fU_ HG.out HB.out); rintro e w8 ⟨rfl, hb⟩; refine nx1_ (below_step (bU_ HB.out) hb) ?_; clear HB; intro HB; clear hb)))
   go_ret
   exact ⟨by first | rfl | (simp [errW_none, errW_some] <;> rfl) | (simp [*, errW_none, errW_some] <;> rfl), bU_ HB.out⟩
  ·rw [if_neg c7] at H
   have c7b0 : decide (t135 ≤ (IntKind.u64.wrap ((Int.tmod a1 t135) + (Int.tmod a2 t135)))) = false := decide_eq_false c7
   clear c7
   obtain rfl := Option.some.inj H
   go_enter Tryd.func33, Tryd.ntmps33
   go_wp2_with (first | (go_at_call 58; (with_reducible refine (field_P.calls a0 t135 _ ?side1 A4.out).mono ?_); (case side1 => exact fU_ HG.out HB.out); rintro e w9 ⟨rfl, hb⟩; refine nx1_ (below_step (bU_ HB.out) hb) ?_; clear HB; intro HB; clear hb))
   repeat (go_quiet (first | (go_at_call 58; (with_reducible refine (field_P.calls a0 t135 _ ?side1 A4.out).mono ?_); (case side1 => exact fU_ HG.out HB.out); rintro e w9 ⟨rfl, hb⟩; refine nx1_ (below_step (bU_ HB.out) hb) ?_; clear HB; intro HB; clear hb)); try go_wp2_with (first | (go_at_call 58; (with_reducible refine (field_P.calls a0 t135 _ ?side1 A4.out).mono ?_); (case side1 => exact fU_ HG.out HB.out); rintro e w9 ⟨rfl, hb⟩; refine nx1_ (below_step (bU_ HB.out) hb) ?_; clear HB; intro HB; clear hb)))
   go_ret
   exact ⟨by first | rfl | (simp [errW_none, errW_some] <;> rfl) | (simp [*, errW_none, errW_some] <;> rfl), bU_ HB.out⟩

/-! ### field_Neg: function 73 -/
def field_Neg.f (a0 : Int) (a1 : Int) : Option (Int) := (field_P.f a0).bind fun t136 => (if t136 = 0 then (some 0) else (if (Int.tmod a1 t136) = 0 then (some 0) else (some (IntKind.u64.wrap (t136 - (Int.tmod a1 t136))))))
set_option maxHeartbeats 8000000 in
set_option maxRecDepth 100000 in
theorem field_Neg.calls (a0 : Int) (a1 : Int) (r : Int) (w : World) (hG : Fld w) (h : field_Neg.f a0 a1 = some r) :
  Calls Tryd.prog 73 #[.int .i64 a0, .int .u64 a1] w fun e w' => e = .returned (.int .u64 r) ∧ Below w.heap.size w w' := by
 have HG := ak hG
 clear hG
 have HB := ak (Below.refl w.heap.size w)
 have H : ((field_P.f a0).bind fun t136 => (if t136 = 0 then (some 0) else (if (Int.tmod a1 t136) = 0 then (some 0) else (some (IntKind.u64.wrap (t136 - (Int.tmod a1 t136))))))) = some r := h
 clear h
 revert H
 refine bd_ fun t136 A3 H => ?_
 by_cases c4 : t136 = 0
 ·rw [if_pos c4] at H
  have c4b0 := beq_iff_eq.mpr c4
  have c4b1 := bne_eq_false_iff_eq.mpr c4
  clear c4
  obtain rfl := Option.some.inj H
  go_enter Tryd.func73, Tryd.ntmps73
  go_wp2_with (first | ((with_reducible refine gate_callee (f := 58) rfl ?_); refine gl_ (some 7) Tryd.func58 #[.int .i64 a0] ?_; (with_reducible refine (field_P.calls a0 t136 _ ?side1 A3.out).mono ?_); (case side1 => exact fU_ HG.out HB.out); rintro e w5 ⟨rfl, hb⟩; refine ⟨_, rfl, ?_⟩; refine nx1_ (below_step (bU_ HB.out) hb) ?_; clear HB; intro HB; clear hb))
  go_ret
  exact ⟨by first | rfl | (simp [errW_none, errW_some] <;> rfl) | (simp [*, errW_none, errW_some] <;> rfl), bU_ HB.out⟩
 ·rw [if_neg c4] at H
  have c4b0 := beq_eq_false_iff_ne.mpr c4
  have c4b1 := bne_iff_ne.mpr c4
  by_cases c6 : (Int.tmod a1 t136) = 0
  ·rw [if_pos c6] at H
   have c6b0 := beq_iff_eq.mpr c6
   have c6b1 := bne_eq_false_iff_eq.mpr c6
   clear c6
   obtain rfl := Option.some.inj H
   go_enter Tryd.func73, Tryd.ntmps73
   go_wp2_with (first | ((with_reducible refine gate_callee (f := 58) rfl ?_); refine gl_ (some 7) Tryd.func58 #[.int .i64 a0] ?_; (with_reducible refine (field_P.calls a0 t136 _ ?side1 A3.out).mono ?_); (case side1 => exact fU_ HG.out HB.out); rintro e w7 ⟨rfl, hb⟩; refine ⟨_, rfl, ?_⟩; refine nx1_ (below_step (bU_ HB.out) hb) ?_; clear HB; intro HB; clear hb))
   go_ret
   exact ⟨by first | rfl | (simp [errW_none, errW_some] <;> rfl) | (simp [*, errW_none, errW_some] <;> rfl), bU_ HB.out⟩
  ·rw [if_neg c6] at H
   have c6b0 := beq_eq_false_iff_ne.mpr c6
   have c6b1 := bne_iff_ne.mpr c6
   obtain rfl := Option.some.inj H
   go_enter Tryd.func73, Tryd.ntmps73
   go_wp2_with (first | ((with_reducible refine gate_callee (f := 58) rfl ?_); refine gl_ (some 7) Tryd.func58 #[.int .i64 a0] ?_; (with_reducible refine (field_P.calls a0 t136 _ ?side1 A3.out).mono ?_); (case side1 => exact fU_ HG.out HB.out); rintro e w8 ⟨rfl, hb⟩; refine ⟨_, rfl, ?_⟩; refine nx1_ (below_step (bU_ HB.out) hb) ?_; clear HB; intro HB; clear hb))
   go_ret
   exact ⟨by first | rfl | (simp [errW_none, errW_some] <;> rfl) | (simp [*, errW_none, errW_some] <;> rfl), bU_ HB.out⟩

/-! ### field_Sub: function 65 -/
def field_Sub.f (a0 : Int) (a1 : Int) (a2 : Int) : Option (Int) := (field_Neg.f a0 a2).bind fun t137 => ((field_Add.f a0 a1 t137).bind fun t138 => (some t138))
set_option maxHeartbeats 8000000 in
set_option maxRecDepth 100000 in
theorem field_Sub.calls (a0 : Int) (a1 : Int) (a2 : Int) (r : Int) (w : World) (hG : Fld w) (h : field_Sub.f a0 a1 a2 = some r) :
  Calls Tryd.prog 65 #[.int .i64 a0, .int .u64 a1, .int .u64 a2] w fun e w' => e = .returned (.int .u64 r) ∧ Below w.heap.size w w' := by
 have HG := ak hG
 clear hG
 have HB := ak (Below.refl w.heap.size w)
 have H : ((field_Neg.f a0 a2).bind fun t137 => ((field_Add.f a0 a1 t137).bind fun t138 => (some t138))) = some r := h
 clear h
 revert H
 refine bd_ fun t137 A4 H => ?_
 revert H
 refine bd_ fun t138 A5 H => ?_
 obtain rfl := Option.some.inj H
 go_enter Tryd.func65, Tryd.ntmps65
 go_wp2_with (first | ((with_reducible refine gate_callee (f := 73) rfl ?_); refine gl_ (some 11) Tryd.func73 #[.int .i64 a0, .int .u64 a2] ?_; (with_reducible refine (field_Neg.calls a0 a2 t137 _ ?side1 A4.out).mono ?_); (case side1 => exact fU_ HG.out HB.out); rintro e w6 ⟨rfl, hb⟩; refine ⟨_, rfl, ?_⟩; refine nx1_ (below_step (bU_ HB.out) hb) ?_; clear HB; intro HB; clear hb) | ((with_reducible refine gate_callee (f := 33) rfl ?_); refine gl_ (some 12) Tryd.func33 #[.int .i64 a0, .int .u64 a1, .int .u64 t137] ?_; (with_reducible refine (field_Add.calls a0 a1 t137 t138 _ ?side1 A5.out).mono ?_); (case side1 => exact fU_ HG.out HB.out); rintro e w7 ⟨rfl, hb⟩; refine ⟨_, rfl, ?_⟩; refine nx1_ (below_step (bU_ HB.out) hb) ?_; clear HB; intro HB; clear hb))
 go_ret
 exact ⟨by first | rfl | (simp [errW_none, errW_some] <;> rfl) | (simp [*, errW_none, errW_some] <;> rfl), bU_ HB.out⟩

/-! ### transform_butterflies: function 38, by hand -/
mutual
def transform_butterflies.f : Nat → Int → List Int → Int → Option (List Int)
 | 0, _, _, _ => none
 | k + 1, f, l, w => if l.length = 1 then some l else (field_Mul.f f w w).bind fun sq => (transform_butterflies.f k f (l.take (l.length / 2)) sq).bind fun lo => (transform_butterflies.f k f (l.drop (l.length / 2)) sq).bind fun hi => transform_butterflies.l0 k f w (l.length / 2) lo hi 1 0
def transform_butterflies.l0 : Nat → Int → Int → Nat → List Int → List Int → Int → Nat → Option (List Int)
 | 0, _, _, _, _, _, _, _ => none
 | k + 1, f, w, h, lo, hi, pw, i => if i < h then (field_Mul.f f pw (bco hi i)).bind fun t => (field_Add.f f (bco lo i) t).bind fun a => (field_Sub.f f (bco lo i) t).bind fun b => (field_Mul.f f pw w).bind fun p' => transform_butterflies.l0 k f w h (lo.set i a) (hi.set i b) p' (i + 1) else some (lo ++ hi)
end
theorem bf_len : ∀ k, (∀ f l w r, transform_butterflies.f k f l w = some r → r.length = l.length) ∧ (∀ f w h lo hi pw i r, transform_butterflies.l0 k f w h lo hi pw i = some r → r.length = lo.length + hi.length)
 | 0 => ⟨fun _ _ _ _ h => by simp [transform_butterflies.f] at h, fun _ _ _ _ _ _ _ _ h => by simp [transform_butterflies.l0] at h⟩
 | k + 1 => by
  obtain ⟨ih1, ih2⟩ := bf_len k
  refine ⟨fun f l w r h => ?_, fun f w m lo hi pw i r h => ?_⟩
  ·rw [transform_butterflies.f] at h
   split at h
   ·obtain rfl := Option.some.inj h; rfl
   ·obtain ⟨sq, _, h⟩ := Option.bind_eq_some_iff.mp h
    obtain ⟨lo, h1, h⟩ := Option.bind_eq_some_iff.mp h
    obtain ⟨hi, h2, h⟩ := Option.bind_eq_some_iff.mp h
    rw [ih2 _ _ _ _ _ _ _ _ h, ih1 _ _ _ _ h1, ih1 _ _ _ _ h2, List.length_take, List.length_drop]
    omega
  ·rw [transform_butterflies.l0] at h
   split at h
   ·obtain ⟨t, _, h⟩ := Option.bind_eq_some_iff.mp h
    obtain ⟨x, _, h⟩ := Option.bind_eq_some_iff.mp h
    obtain ⟨y, _, h⟩ := Option.bind_eq_some_iff.mp h
    obtain ⟨z, _, h⟩ := Option.bind_eq_some_iff.mp h
    rw [ih2 _ _ _ _ _ _ _ _ h]; simp
   ·obtain rfl := Option.some.inj h; simp
theorem bf_nil (f w : Int) : ∀ k, transform_butterflies.f k f [] w = none
 | 0 => by simp [transform_butterflies.f]
 | k + 1 => by
  rw [transform_butterflies.f, if_neg (by simp)]
  simp [bf_nil _ _ k]
set_option maxRecDepth 100000 in
set_option maxHeartbeats 4000000 in
theorem transform_butterflies.calls : ∀ (k : Nat) (a0 : Int) (B off n cap : Nat) (l : List Int) (a2 : Int) (r : List Int) (w : World) (_ : Fld w) (_ : NoTab B) (_ : Part w B off l) (_ : l.length = n) (_ : n ≤ cap) (_ : cap ≤ 9223372036854775807) (_ : transform_butterflies.f k a0 l a2 = some r),
  Calls Tryd.prog 38 #[.int .i64 a0, .slice (some ⟨B, off, none⟩) n cap, .int .u64 a2] w fun e w' => e = .returned (.tuple #[]) ∧ Turn B off r w w'
 | 0, a0, B, off, n, cap, l, a2, r, w, hG, hT, hP, hn, hc, hm, h => by simp [transform_butterflies.f] at h
 | k + 1, a0, B, off, n, cap, l, a2, r, w, hG, hT, hP, hn, hc, hm, h => by
  have HG := ak hG
  have HP := ak hP
  have HNT := ak hT
  clear hT
  have HN := ak hn
  clear hP hG
  by_cases c1 : n = 1
  ·have c1b : ((n : Int) == 1) = true := by simp; omega
   obtain rfl : l = r := by
    rw [transform_butterflies.f, if_pos (by omega)] at h
    exact Option.some.inj h
   clear h hn
   go_enter Tryd.func38, Tryd.ntmps38
   go_wp2
   exact bodyPost_ret (v := .tuple #[]) (by simp [results, Tryd.results38, go_sem]) rfl ⟨rfl, Turn.of_below HP.out (Below.refl _ _)⟩
  ·have c1b : ((n : Int) == 1) = false := by simp; omega
   rw [transform_butterflies.f, if_neg (by omega)] at h
   have hL : 2 ≤ n := by
    rcases Nat.eq_zero_or_pos n with q | q
    ·have : l = [] := List.eq_nil_of_length_eq_zero (by omega)
     subst this
     simp [bf_nil] at h
    ·omega
   rw [hn] at h
   obtain ⟨sq, hsq, h⟩ := Option.bind_eq_some_iff.mp h
   obtain ⟨lo, hlo, h⟩ := Option.bind_eq_some_iff.mp h
   obtain ⟨hi, hhi, h⟩ := Option.bind_eq_some_iff.mp h
   have n1 : lo.length = n / 2 := by rw [(bf_len k).1 _ _ _ _ hlo, List.length_take]; omega
   have n2 : hi.length = n - n / 2 := by rw [(bf_len k).1 _ _ _ _ hhi, List.length_drop]; omega
   have HSQ := ak hsq
   have HLO := ak hlo
   have HHI := ak hhi
   have HL0 := ak h
   have N1 := ak n1
   have N2 := ak n2
   clear hsq hlo hhi h n1 n2 hn
   have b1 : 0 ≤ (n : Int) / 2 := by omega
   have b2 : (n : Int) / 2 ≤ (cap : Int) := by omega
   have b3 : (n : Int) / 2 ≤ max ((n : Int) / 2) 0 := by omega
   have b4 : (n : Int) / 2 ≤ (n : Int) := by omega
   have b5 : (n : Int) ≤ (cap : Int) := by omega
   have b6 : ¬ n = n / 2 := by omega
   have t1 : ((n : Int) / 2).toNat = n / 2 := by omega
   have q1 : wrap64 ((n : Int) / 2) = (n : Int) / 2 := by unfold wrap64; omega
   go_enter Tryd.func38, Tryd.ntmps38
   go_wp2
   refine start_ (n := 14) (S := fun w' => True) (ds := []) (bv 14 0) (by kernel_rfl) rfl rfl trivial (fun hHeld => ?_)
   have HB := ak (below_drew1 (Below.refl w.heap.size w))
   have HT_ : Aside0 (rtab .any (opsOf Tryd.f38 2) = rtab .any (opsOf Tryd.f38 2)) := ⟨rfl⟩
   refine pr_ (i := 0) (N := some 17) (v := ?_) (a' := ?_) (bv 14 1) HT_.out ?_ ?_ ?_; rotate_left 2; (intro w'; go_simp; with_reducible rfl); (simp only [Act.put, s1_, s2_, s3_, i64_w, i32_w]; rfl)
   refine pr_ (i := 1) (N := some 18) (v := ?_) (a' := ?_) (bv 14 3) HT_.out ?_ ?_ ?_; rotate_left 2; (intro w'; go_simp; with_reducible rfl); (simp only [Act.put, s1_, s2_, s3_, i64_w, i32_w]; rfl)
   refine pr_ (i := 2) (N := some 19) (v := ?_) (a' := ?_) (bv 14 7) HT_.out ?_ ?_ ?_; rotate_left 2; (intro w'; go_simp; with_reducible rfl); (simp only [Act.put, s1_, s2_, s3_, i64_w, i32_w]; rfl)
   refine pr_ (i := 3) (N := some 20) (v := ?_) (a' := ?_) (bv 14 15) HT_.out ?_ ?_ ?_; rotate_left 2; (intro w'; go_simp; with_reducible rfl); (simp only [Act.put, s1_, s2_, s3_, i64_w, i32_w]; rfl)
   refine pr_ (i := 4) (N := some 21) (v := ?_) (a' := ?_) (bv 14 31) HT_.out ?_ ?_ ?_; rotate_left 2; (intro w'; go_simp; with_reducible rfl); (simp only [Act.put, s1_, s2_, s3_, i64_w, i32_w]; rfl)
   refine pr_ (i := 5) (N := some 22) (v := .slice (some ⟨B, off, none⟩) (n / 2) (n / 2)) (a' := ?_) (bv 14 63) HT_.out ?_ ?_ ?_; rotate_left 1
   ·intro w'
    go_simp
   ·simp only [Act.put, s1_, s2_, s3_]
    rfl
   refine pr_ (i := 6) (N := some 23) (v := ?_) (a' := ?_) (bv 14 127) HT_.out ?_ ?_ ?_; rotate_left 2; (intro w'; go_simp; with_reducible rfl); (simp only [Act.put, s1_, s2_, s3_, i64_w, i32_w]; rfl)
   refine pr_ (i := 7) (N := some 24) (v := ?_) (a' := ?_) (bv 14 255) HT_.out ?_ ?_ ?_; rotate_left 2; (intro w'; go_simp; with_reducible rfl); (simp only [Act.put, s1_, s2_, s3_, i64_w, i32_w]; rfl)
   refine pr_ (i := 8) (N := some 25) (v := ?_) (a' := ?_) (bv 14 511) HT_.out ?_ ?_ ?_; rotate_left 2; (intro w'; go_simp; with_reducible rfl); (simp only [Act.put, s1_, s2_, s3_, i64_w, i32_w]; rfl)
   refine pr_ (i := 9) (N := some 26) (v := ?_) (a' := ?_) (bv 14 1023) HT_.out ?_ ?_ ?_; rotate_left 2; (intro w'; go_simp; with_reducible rfl); (simp only [Act.put, s1_, s2_, s3_, i64_w, i32_w]; rfl)
   refine pr_ (i := 10) (N := some 27) (v := ?_) (a' := ?_) (bv 14 2047) HT_.out ?_ ?_ ?_; rotate_left 2; (intro w'; go_simp; with_reducible rfl); (simp only [Act.put, s1_, s2_, s3_, i64_w, i32_w]; rfl)
   refine pr_ (i := 11) (N := some 28) (v := .slice (some ⟨B, off + n / 2, none⟩) (n - n / 2) (n - n / 2)) (a' := ?_) (bv 14 4095) HT_.out ?_ ?_ ?_; rotate_left 1
   ·intro w'
    go_simp
   ·simp only [Act.put, s1_, s2_, s3_]
    rfl
   refine pr_ (i := 12) (N := some 7) (v := ?_) (a' := ?_) (bv 14 8191) HT_.out ?_ ?_ ?_; rotate_left 2; (intro w'; go_simp; with_reducible rfl); (simp only [Act.put, s1_, s2_, s3_, i64_w, i32_w]; rfl)
   refine pr_ (i := 13) (N := some 8) (v := ?_) (a' := ?_) (bv 14 16383) HT_.out ?_ ?_ ?_; rotate_left 2; (intro w'; go_simp; with_reducible rfl); (simp only [Act.put, s1_, s2_, s3_, i64_w, i32_w]; rfl)
   refine done_ (done_of HT_.out (by kernel_rfl)) ?_
   generalize w.drew = w0 at HB ⊢
   go_wp2_with (first | ((with_reducible refine gate_callee (f := 26) rfl ?_); refine gl_ (some 32) Tryd.func26 #[.int .i64 a0, .int .u64 a2, .int .u64 a2] ?_; (with_reducible refine (field_Mul.calls a0 a2 a2 sq _ ?side1 HSQ.out).mono ?_); (case side1 => exact fU_ HG.out HB.out); rintro e w1 ⟨rfl, hb⟩; refine ⟨_, rfl, ?_⟩; refine nx1_ (below_step (bU_ HB.out) hb) ?_; clear HB; intro HB; clear hb; have T0 := ak (Turn.of_below HP.out HB.out)) | ((with_reducible refine gate_callee (f := 38) rfl ?_); refine gl_ (some 36) Tryd.func38 #[.int .i64 a0, .slice (some ⟨B, off, none⟩) (n / 2) (n / 2), .int .u64 sq] ?_; refine (transform_butterflies.calls k a0 B off (n / 2) (n / 2) (l.take (n / 2)) sq lo _ (HG.out.turn T0.out HNT.out) HNT.out (T0.out.now.sub0 (by rw [List.length_take]; omega) (fun i hi => bco_take hi)) (by have := HN.out; rw [List.length_take]; omega) (Nat.le_refl _) (by omega) HLO.out).mono ?_; rintro e w2 ⟨rfl, u1⟩; refine ⟨_, rfl, ?_⟩; have T1 := ak (T0.out.low u1 HN.out N1.out (by omega))) | ((with_reducible refine gate_callee (f := 38) rfl ?_); refine gl_ (some 40) Tryd.func38 #[.int .i64 a0, .slice (some ⟨B, off + n / 2, none⟩) (n - n / 2) (n - n / 2), .int .u64 sq] ?_; refine (transform_butterflies.calls k a0 B (off + n / 2) (n - n / 2) (n - n / 2) (l.drop (n / 2)) sq hi _ (HG.out.turn T1.out HNT.out) HNT.out (T1.out.now.sub (by have := HN.out; have := N1.out; rw [List.length_append, List.length_drop]; omega) (fun _ _ => bco_app N1.out)) (by have := HN.out; rw [List.length_drop]; omega) (Nat.le_refl _) (by omega) HHI.out).mono ?_; rintro e w3 ⟨rfl, u2⟩; refine ⟨_, rfl, ?_⟩; have T2 := ak (T1.out.high u2 HN.out N1.out N2.out)))
   clear T0 T1 u1 u2 HHI HLO HSQ HT_ HP HB
   have H' := HL0
   clear HL0
   go_loopg [10, 43] k (fun kq v10 v43 w' => ∃ (pw : Int) (i : Nat) (lo' hi' : List Int), v10 = .int .u64 pw ∧ v43 = .int .i64 (i : Int) ∧ Aside0 (transform_butterflies.l0 kq a0 a2 (n / 2) lo' hi' pw i = some r) ∧ Aside0 (kq ≤ k) ∧ Aside0 (lo'.length = n / 2 ∧ hi'.length = n - n / 2) ∧ Aside0 (Turn B off (lo' ++ hi') w w'))
   case atStart => exact ⟨1, 0, lo, hi, rfl, rfl, H', ⟨Nat.le_refl _⟩, ⟨N1.out, N2.out⟩, T2⟩
   case round =>
    clear H' T2 N1 N2
    obtain ⟨pw, i, lo', hi', rfl, rfl, HA, HK, HLN, T⟩ := hrel
    cases gk with
    | zero => exact absurd HA.out (by simp [transform_butterflies.l0])
    | succ k1 =>
     have H := HA.out
     clear HA
     rw [transform_butterflies.l0] at H
     by_cases c2 : i < n / 2
     ·rw [if_pos c2] at H
      obtain ⟨t, ht, H⟩ := Option.bind_eq_some_iff.mp H
      obtain ⟨x, hx, H⟩ := Option.bind_eq_some_iff.mp H
      obtain ⟨y, hy, H⟩ := Option.bind_eq_some_iff.mp H
      obtain ⟨z, hz, H⟩ := Option.bind_eq_some_iff.mp H
      have A1 := ak ht
      have A2 := ak hx
      have A3 := ak hy
      have A4 := ak hz
      have H' := ak H
      clear ht hx hy hz H
      have e1 : decide ((i : Int) < (n : Int) / 2) = true := by simp; omega
      have e2 : (i : Int) < ((n - n / 2 : Nat) : Int) := by omega
      have e3 : (i : Int) < (n : Int) / 2 := by omega
      have e4 : (((i : Int) < (n : Int) / 2)) = True := eq_true e3
      have hc1 : wr.cell? ⟨B, off + n / 2 + i, none⟩ = some (.int .u64 (bco hi' i)) := by
       have := T.out.now.cell (i := n / 2 + i) (by have := HLN.out; simp; omega)
       rw [← Nat.add_assoc, ← bco_right HLN.out.1] at this
       exact this
      go_wp2_with ((with_reducible refine gate_callee (f := 26) rfl ?_); refine gl_ (some 52) Tryd.func26 #[.int .i64 a0, .int .u64 pw, .int .u64 (bco hi' i)] ?_; (with_reducible refine (field_Mul.calls a0 pw (bco hi' i) t _ ?side1 A1.out).mono ?_); (case side1 => exact HG.out.turn T.out HNT.out); rintro e w5 ⟨rfl, hb⟩; refine ⟨_, rfl, ?_⟩; refine nx1_ (T.out.below hb) ?_; clear T; intro T; clear hb hc1)
      refine start_ (n := 22) (S := fun w' => w'.cell? ⟨B, off + i, none⟩ = some (.int .u64 (bco lo' i))) (ds := [19, 21]) (bv 22 0) (by kernel_rfl) rfl rfl (low_cell (T.out.below (below_drew1 (Below.refl _ _))) HLN.out.1 c2) (fun hHeld => ?_)
      have HT_ : Aside0 (rtab .any (opsOf Tryd.f38 11) = rtab .any (opsOf Tryd.f38 11)) := ⟨rfl⟩
      have T' := ak (T.out.below (below_drew1 (Below.refl _ _)))
      clear T
      have T := T'
      clear T'
      generalize w5.drew = w6 at T hHeld ⊢
      refine pr_ (i := 0) (N := some 53) (v := ?_) (a' := ?_) (bv 22 1) HT_.out ?_ ?_ ?_; rotate_left 2; (intro w'; go_simp; with_reducible rfl); (simp only [Act.put, s1_, s2_, s3_, i64_w, i32_w]; rfl)
      refine pr_ (i := 1) (N := some 54) (v := ?_) (a' := ?_) (bv 22 3) HT_.out ?_ ?_ ?_; rotate_left 2; (intro w'; go_simp; with_reducible rfl); (simp only [Act.put, s1_, s2_, s3_, i64_w, i32_w]; rfl)
      refine pr_ (i := 2) (N := some 55) (v := ?_) (a' := ?_) (bv 22 7) HT_.out ?_ ?_ ?_; rotate_left 2; (intro w'; go_simp; with_reducible rfl); (simp only [Act.put, s1_, s2_, s3_, i64_w, i32_w]; rfl)
      refine pr_ (i := 3) (N := some 56) (v := ?_) (a' := ?_) (bv 22 15) HT_.out ?_ ?_ ?_; rotate_left 2; (intro w'; go_simp; with_reducible rfl); (simp only [Act.put, s1_, s2_, s3_, i64_w, i32_w]; rfl)
      refine pr_ (i := 4) (N := some 57) (v := ?_) (a' := ?_) (bv 22 31) HT_.out ?_ ?_ ?_; rotate_left 2; (intro w'; go_simp; with_reducible rfl); (simp only [Act.put, s1_, s2_, s3_, i64_w, i32_w]; rfl)
      refine pr_ (i := 5) (N := some 58) (v := ?_) (a' := ?_) (bv 22 63) HT_.out ?_ ?_ ?_; rotate_left 2; (intro w'; go_simp; with_reducible rfl); (simp only [Act.put, s1_, s2_, s3_, i64_w, i32_w]; rfl)
      refine pr_ (i := 6) (N := some 59) (v := ?_) (a' := ?_) (bv 22 127) HT_.out ?_ ?_ ?_; rotate_left 2; (intro w'; go_simp; with_reducible rfl); (simp only [Act.put, s1_, s2_, s3_, i64_w, i32_w]; rfl)
      refine pr_ (i := 7) (N := some 60) (v := ?_) (a' := ?_) (bv 22 255) HT_.out ?_ ?_ ?_; rotate_left 2; (intro w'; go_simp; with_reducible rfl); (simp only [Act.put, s1_, s2_, s3_, i64_w, i32_w]; rfl)
      refine take_ (i := 8) (N := some 61) (v := ?_) (a' := ?_) (bv 22 511) rfl rfl (take_of HT_.out (by kernel_rfl)) (fun _ _ _ h => h) (Or.inl ⟨by rfl, ?_⟩) hHeld ?_ ?_
      rotate_left
      ·intro w' s0
       go_simp
       with_reducible rfl
      rotate_left
      ·simp only [Act.put, s1_, s2_, s3_, i64_w, i32_w]
       rfl
      refine pr_ (i := 9) (N := some 62) (v := ?_) (a' := ?_) (bv 22 1023) HT_.out ?_ ?_ ?_; rotate_left 2; (intro w'; go_simp; with_reducible rfl); (simp only [Act.put, s1_, s2_, s3_, i64_w, i32_w]; rfl)
      refine pr_ (i := 11) (N := some 64) (v := ?_) (a' := ?_) (bv 22 3071) HT_.out ?_ ?_ ?_; rotate_left 2; (intro w'; go_simp; with_reducible rfl); (simp only [Act.put, s1_, s2_, s3_, i64_w, i32_w]; rfl)
      refine pr_ (i := 12) (N := some 65) (v := ?_) (a' := ?_) (bv 22 7167) HT_.out ?_ ?_ ?_; rotate_left 2; (intro w'; go_simp; with_reducible rfl); (simp only [Act.put, s1_, s2_, s3_, i64_w, i32_w]; rfl)
      refine pr_ (i := 13) (N := some 66) (v := ?_) (a' := ?_) (bv 22 15359) HT_.out ?_ ?_ ?_; rotate_left 2; (intro w'; go_simp; with_reducible rfl); (simp only [Act.put, s1_, s2_, s3_, i64_w, i32_w]; rfl)
      refine pr_ (i := 14) (N := some 67) (v := ?_) (a' := ?_) (bv 22 31743) HT_.out ?_ ?_ ?_; rotate_left 2; (intro w'; go_simp; with_reducible rfl); (simp only [Act.put, s1_, s2_, s3_, i64_w, i32_w]; rfl)
      refine take_ (i := 15) (N := some 68) (v := ?_) (a' := ?_) (bv 22 64511) rfl rfl (take_of HT_.out (by kernel_rfl)) (fun _ _ _ h => h) (Or.inl ⟨by rfl, ?_⟩) hHeld ?_ ?_
      rotate_left
      ·intro w' s0
       go_simp
       with_reducible rfl
      rotate_left
      ·simp only [Act.put, s1_, s2_, s3_, i64_w, i32_w]
       rfl
      refine pr_ (i := 16) (N := some 69) (v := ?_) (a' := ?_) (bv 22 130047) HT_.out ?_ ?_ ?_; rotate_left 2; (intro w'; go_simp; with_reducible rfl); (simp only [Act.put, s1_, s2_, s3_, i64_w, i32_w]; rfl)
      refine one_ (i := 10) (N := some 63) (bv 22 131071) rfl rfl (one_of HT_.out (by kernel_rfl)) (by decide) (fun K hK => ?_)
      refine goes_ Tryd.func33 (by kernel_rfl) rfl #[.int .i64 a0, .int .u64 (bco lo' i), .int .u64 t] (by rfl) rfl rfl ga_ ?_
      with_reducible refine (field_Add.calls a0 (bco lo' i) t x _ ?side1 A2.out).mono ?_
      (case side1 => exact HG.out.turn T.out HNT.out)
      rintro e w5 ⟨rfl, hb⟩
      refine ⟨_, rfl, ?_⟩
      refine nx1_ (T.out.below hb) ?_
      clear T
      intro T
      clear hb
      refine hK.out _ _ (low_cell T.out HLN.out.1 c2) (fun hHeld => ?_)
      clear hK K
      refine norm_ (a' := ?_) ?_ ?_
      rotate_left
      ·show Act.put _ (some 63) _ = _
       simp only [Act.put, s1_, s2_, s3_, i64_w, i32_w]
       rfl
      refine one_ (i := 17) (N := some 70) (bv 22 262143) rfl rfl (one_of HT_.out (by kernel_rfl)) (by decide) (fun K hK => ?_)
      refine goes_ Tryd.func65 (by kernel_rfl) rfl #[.int .i64 a0, .int .u64 (bco lo' i), .int .u64 t] (by rfl) rfl rfl ga_ ?_
      with_reducible refine (field_Sub.calls a0 (bco lo' i) t y _ ?side1 A3.out).mono ?_
      (case side1 => exact HG.out.turn T.out HNT.out)
      rintro e w5 ⟨rfl, hb⟩
      refine ⟨_, rfl, ?_⟩
      refine nx1_ (T.out.below hb) ?_
      clear T
      intro T
      clear hb
      refine hK.out _ _ (low_cell T.out HLN.out.1 c2) (fun hHeld => ?_)
      clear hK K
      refine norm_ (a' := ?_) ?_ ?_
      rotate_left
      ·show Act.put _ (some 70) _ = _
       simp only [Act.put, s1_, s2_, s3_, i64_w, i32_w]
       rfl
      refine pr_ (i := 18) (N := some 71) (v := ?_) (a' := ?_) (bv 22 524287) HT_.out ?_ ?_ ?_; rotate_left 2; (intro w'; go_simp; with_reducible rfl); (simp only [Act.put, s1_, s2_, s3_, i64_w, i32_w]; rfl)
      have cz := high_cell T.out HLN.out.1 (show i < hi'.length by have := HLN.out; omega)
      have fz := T.out.now.frozen (off + i)
      refine last_ (i := 19) (N := none) (bv 22 1048575) rfl rfl (one_of HT_.out (by kernel_rfl)) (by decide) (fun K hK => ?_)
      refine skip_ (w1 := ?_) (by rfl) rfl ?_ ?_
      rotate_left
      ·go_simp
       rfl
      refine hK.out _ _ ?_
      clear hK K fz
      have T' := ak (T.out.put (i := i) (by have := HLN.out; rw [List.length_append]; omega) x)
      clear T
      have T := T'
      clear T'
      refine pr_ (i := 20) (N := some 72) (v := ?_) (a' := ?_) (bv 22 2097151) HT_.out ?_ ?_ ?_; rotate_left 2; (intro w'; go_simp; with_reducible rfl); (simp only [Act.put, s1_, s2_, s3_, i64_w, i32_w]; rfl)
      have fz := T.out.now.frozen (off + n / 2 + i)
      refine last_ (i := 21) (N := none) (bv 22 4194303) rfl rfl (one_of HT_.out (by kernel_rfl)) (by decide) (fun K hK => ?_)
      refine skip_ (w1 := ?_) (by rfl) rfl ?_ ?_
      rotate_left
      ·go_simp
       rfl
      refine hK.out _ _ ?_
      clear hK K fz
      have T' := ak (T.out.put2 (i := i) (m := n / 2) (by have := HLN.out; rw [List.length_set, List.length_append]; omega) y)
      clear T
      have T := T'
      clear T'
      refine done_ (done_of HT_.out (by kernel_rfl)) ?_
      go_wp2_with ((with_reducible refine gate_callee (f := 26) rfl ?_); refine gl_ (some 76) Tryd.func26 #[.int .i64 a0, .int .u64 pw, .int .u64 a2] ?_; (with_reducible refine (field_Mul.calls a0 pw a2 z _ ?side1 A4.out).mono ?_); (case side1 => exact HG.out.turn T.out HNT.out); rintro e w7 ⟨rfl, hb⟩; refine ⟨_, rfl, ?_⟩; refine nx1_ (T.out.below hb) ?_; clear T; intro T; clear hb)
      go_roundg k1
      case measure => have := HK.out; omega
      case rel => exact ⟨z, i + 1, lo'.set i x, hi'.set i y, rfl, by simp, H', ⟨by have := HK.out; omega⟩, ⟨by have := HLN.out; simp; omega⟩, ⟨by rw [← set_two HLN.out.1 c2]; exact T.out⟩⟩
     ·rw [if_neg c2] at H
      obtain rfl := Option.some.inj H
      have e1 : decide ((i : Int) < (n : Int) / 2) = false := by simp; omega
      go_wp2
      go_end0
      exact ⟨rfl, T.out⟩
theorem transform_butterflies.mono_l : ∀ k, (∀ f l w, LeO (transform_butterflies.f k f l w) (transform_butterflies.f (k + 1) f l w)) ∧ (∀ f w h lo hi pw i, LeO (transform_butterflies.l0 k f w h lo hi pw i) (transform_butterflies.l0 (k + 1) f w h lo hi pw i))
 | 0 => ⟨fun _ _ _ r h => by simp [transform_butterflies.f] at h, fun _ _ _ _ _ _ _ r h => by simp [transform_butterflies.l0] at h⟩
 | k + 1 => by
  obtain ⟨ih1, ih2⟩ := transform_butterflies.mono_l k
  refine ⟨fun f l w => ?_, fun f w h lo hi pw i => ?_⟩
  ·rw [transform_butterflies.f, transform_butterflies.f]
   exact LeO.ite (LeO.refl _) (LeO.bind (LeO.refl _) fun _ => LeO.bind (ih1 _ _ _) fun _ => LeO.bind (ih1 _ _ _) fun _ => ih2 _ _ _ _ _ _ _)
  ·rw [transform_butterflies.l0, transform_butterflies.l0]
   exact LeO.ite (LeO.bind (LeO.refl _) fun _ => LeO.bind (LeO.refl _) fun _ => LeO.bind (LeO.refl _) fun _ => LeO.bind (LeO.refl _) fun _ => ih2 _ _ _ _ _ _ _) (LeO.refl _)
theorem transform_butterflies.mono : ∀ a0 l a2 k, LeO (transform_butterflies.f k a0 l a2) (transform_butterflies.f (k + 1) a0 l a2) := fun a0 l a2 k => (transform_butterflies.mono_l k).1 a0 l a2
/-- On a row of the call's own. -/
theorem transform_butterflies.callsR (k : Nat) (a0 : Int) (e base : Nat) (ok : Nat → Prop) (v0 : Value) (l : List Int) (a2 : Int) (r : List Int) (w : World) (hG : Fld w) (hT : ∀ B, base ≤ B → NoTab B) (ho : Kd.R (Kd.int .u64) e w base ok v0 l) (h : transform_butterflies.f k a0 l a2 = some r) :
  Calls Tryd.prog 38 #[.int .i64 a0, v0, .int .u64 a2] w fun e' w' => e' = .returned (.tuple #[]) ∧ Kd.R (Kd.int .u64) e w' base ok v0 r ∧ Below base w w' := by
 have hp : 0 < l.length := by
  rcases Nat.eq_zero_or_pos l.length with q | q
  ·have : l = [] := List.eq_nil_of_length_eq_zero q
   subst this
   rw [bf_nil] at h; simp at h
  ·exact q
 obtain ⟨B, c, rfl, hb, _, _⟩ := Kd.R_form ho hp
 obtain ⟨p1, p2, p3, p4, _⟩ := R_part ho
 have hl := (bf_len k).1 _ _ _ _ h
 refine (transform_butterflies.calls k a0 B 0 l.length c l a2 r w hG (hT B hb) p1 rfl p3 ?_ h).mono ?_
 ·exact p4
 ·rintro e' w' ⟨rfl, T⟩
  exact ⟨rfl, R_turn ho T hl, T.belowB hb⟩

/-! ### transform_Values: function 12 -/
def transform_Values.f (k : Nat) (a0 : Int) (a1 : Int) (a2 : Int) (l3 : List Int) : Option (List Int × Int) := (field_Reduce.f a0 a2).bind fun t139 => (if t139 = 0 then (some (([] : List Int), 1)) else (if a1 < 0 then (some (([] : List Int), 2)) else ((transform_greatest.f a0).bind fun t140 => (if a1 > t140 then (some (([] : List Int), 2)) else ((poly_Shift.f k a0 l3 a2).bind fun t141 => (if 0 ≤ a1 then (if (t141.length : Int) > (shl .i64 1 a1) then (some (([] : List Int), 3)) else (if 0 ≤ (shl .i64 1 a1) then (if (shl .i64 1 a1 : Int).toNat ≤ 35184372088832 then ((transform_reordered.f k a0 (cpyAt (List.replicate (shl .i64 1 a1 : Int).toNat 0) 0 t141)).bind fun t149 => ((field_Root.f k a0 a1).bind fun t152 => ((transform_butterflies.f k a0 t149 t152).bind fun t149 => (some (t149, 0))))) else (none)) else (none))) else (none)))))))
theorem transform_Values.mono : ∀ a0 a1 a2 a3 k, LeO (transform_Values.f k a0 a1 a2 a3) (transform_Values.f (k + 1) a0 a1 a2 a3) := by
 intro a0 a1 a2 a3 k
 unfold transform_Values.f
 with_reducible repeat' first | apply field_Root.mono | apply poly_Shift.mono | apply transform_butterflies.mono | apply transform_reordered.mono | exact LeO.refl _ | exact LeO.none _ | refine LeO.ite ?_ ?_ | refine LeO.bind ?_ (fun _ => ?_)
set_option maxHeartbeats 8000000 in
set_option maxRecDepth 100000 in
theorem transform_Values.calls (k : Nat) (a0 : Int) (a1 : Int) (a2 : Int) (A3 : Option Addr) (c3 : Nat) (l3 : List Int) (r1 : List Int) (r2 : Int) (w : World) (hG : Fld w) (hr3 : Kd.C (Kd.int .u64) w A3 l3.length l3) (hc3 : l3.length ≤ c3) (h : transform_Values.f k a0 a1 a2 l3 = some (r1, r2)) :
  Calls Tryd.prog 12 #[.int .i64 a0, .int .i64 a1, .int .u64 a2, .slice A3 l3.length c3] w fun e w' => ∃ v0_ : Value, e = .returned (.tuple #[v0_, .int .i64 r2]) ∧ Kd.R (Kd.int .u64) 22 w' w.heap.size (fun _ => True) v0_ r1 ∧ Below w.heap.size w w' := by
 have HG := ak hG
 clear hG
 have HR3 := ak hr3
 have HC3 := ak hc3
 clear hr3 hc3
 have HB := ak (Below.refl w.heap.size w)
 have H : ((field_Reduce.f a0 a2).bind fun t139 => (if t139 = 0 then (some (([] : List Int), 1)) else (if a1 < 0 then (some (([] : List Int), 2)) else ((transform_greatest.f a0).bind fun t140 => (if a1 > t140 then (some (([] : List Int), 2)) else ((poly_Shift.f k a0 l3 a2).bind fun t141 => (if 0 ≤ a1 then (if (t141.length : Int) > (shl .i64 1 a1) then (some (([] : List Int), 3)) else (if 0 ≤ (shl .i64 1 a1) then (if (shl .i64 1 a1 : Int).toNat ≤ 35184372088832 then ((transform_reordered.f k a0 (cpyAt (List.replicate (shl .i64 1 a1 : Int).toNat 0) 0 t141)).bind fun t149 => ((field_Root.f k a0 a1).bind fun t152 => ((transform_butterflies.f k a0 t149 t152).bind fun t149 => (some (t149, 0))))) else (none)) else (none))) else (none)))))))) = some (r1, r2) := h
 clear h
 revert H
 refine bd_ fun t139 A5 H => ?_
 by_cases c6 : t139 = 0
 ·rw [if_pos c6] at H
  have c6b0 := beq_iff_eq.mpr c6
  have c6b1 := bne_eq_false_iff_eq.mpr c6
  clear c6
  simp only [Option.some.injEq, Prod.mk.injEq] at H
  obtain ⟨rfl, rfl⟩ := H
  go_enter Tryd.func12, Tryd.ntmps12
  go_wp2_with (first | ((with_reducible refine gate_callee (f := 23) rfl ?_); refine gl_ (some 15) Tryd.func23 #[.int .i64 a0, .int .u64 a2] ?_; (with_reducible refine (field_Reduce.calls a0 a2 t139 _ ?side1 A5.out).mono ?_); (case side1 => exact fU_ HG.out HB.out); rintro e w7 ⟨rfl, hb⟩; refine ⟨_, rfl, ?_⟩; refine nx1_ (below_step (bU_ HB.out) hb) ?_; clear HB; intro HB; clear hb))
  go_ret2
  exact ⟨_, by first | rfl | (simp [errW_none, errW_some] <;> rfl) | (simp [*, errW_none, errW_some] <;> rfl), by first | exact Kd.R_nil _ _ _ _ _ | exact Kd.N_nil _ _ _ _ _ | exact Kd.V_nil _ _ _ _ _ | exact Kd.Q_nil _ _ _ _ _ | exact Kd.S_nil _ _ _ _ _, bU_ HB.out⟩
 ·rw [if_neg c6] at H
  have c6b0 := beq_eq_false_iff_ne.mpr c6
  have c6b1 := bne_iff_ne.mpr c6
  by_cases c8 : a1 < 0
  ·rw [if_pos c8] at H
   have c8b0 := decide_eq_true c8
   clear c8
   simp only [Option.some.injEq, Prod.mk.injEq] at H
   obtain ⟨rfl, rfl⟩ := H
   go_enter Tryd.func12, Tryd.ntmps12
   go_wp2_with (first | ((with_reducible refine gate_callee (f := 23) rfl ?_); refine gl_ (some 15) Tryd.func23 #[.int .i64 a0, .int .u64 a2] ?_; (with_reducible refine (field_Reduce.calls a0 a2 t139 _ ?side1 A5.out).mono ?_); (case side1 => exact fU_ HG.out HB.out); rintro e w9 ⟨rfl, hb⟩; refine ⟨_, rfl, ?_⟩; refine nx1_ (below_step (bU_ HB.out) hb) ?_; clear HB; intro HB; clear hb))
   go_ret2
   exact ⟨_, by first | rfl | (simp [errW_none, errW_some] <;> rfl) | (simp [*, errW_none, errW_some] <;> rfl), by first | exact Kd.R_nil _ _ _ _ _ | exact Kd.N_nil _ _ _ _ _ | exact Kd.V_nil _ _ _ _ _ | exact Kd.Q_nil _ _ _ _ _ | exact Kd.S_nil _ _ _ _ _, bU_ HB.out⟩
  ·rw [if_neg c8] at H
   have c8b0 := decide_eq_false c8
   clear c8
   revert H
   refine bd_ fun t140 A10 H => ?_
   by_cases c11 : a1 > t140
   ·rw [if_pos c11] at H
    have c11b0 : decide (t140 < a1) = true := decide_eq_true c11
    clear c11
    simp only [Option.some.injEq, Prod.mk.injEq] at H
    obtain ⟨rfl, rfl⟩ := H
    go_enter Tryd.func12, Tryd.ntmps12
    go_wp2_with (first | ((with_reducible refine gate_callee (f := 23) rfl ?_); refine gl_ (some 15) Tryd.func23 #[.int .i64 a0, .int .u64 a2] ?_; (with_reducible refine (field_Reduce.calls a0 a2 t139 _ ?side1 A5.out).mono ?_); (case side1 => exact fU_ HG.out HB.out); rintro e w12 ⟨rfl, hb⟩; refine ⟨_, rfl, ?_⟩; refine nx1_ (below_step (bU_ HB.out) hb) ?_; clear HB; intro HB; clear hb) | (go_at_call 35; (with_reducible refine (transform_greatest.calls a0 t140 _ ?side1 A10.out).mono ?_); (case side1 => exact fU_ HG.out HB.out); rintro e w13 ⟨rfl, hb⟩; refine nx1_ (below_step (bU_ HB.out) hb) ?_; clear HB; intro HB; clear hb))
    go_ret2
    exact ⟨_, by first | rfl | (simp [errW_none, errW_some] <;> rfl) | (simp [*, errW_none, errW_some] <;> rfl), by first | exact Kd.R_nil _ _ _ _ _ | exact Kd.N_nil _ _ _ _ _ | exact Kd.V_nil _ _ _ _ _ | exact Kd.Q_nil _ _ _ _ _ | exact Kd.S_nil _ _ _ _ _, bU_ HB.out⟩
   ·rw [if_neg c11] at H
    have c11b0 : decide (t140 < a1) = false := decide_eq_false c11
    clear c11
    revert H
    refine bd_ fun t141 A14 H => ?_
    obtain ⟨c15, H⟩ : (0 ≤ a1) ∧ _ := it_ H
    have c15b0 := eq_true c15
    have c15b1 := decide_eq_true c15
    clear c15
    obtain ⟨ji16, hji16⟩ : ∃ j_ : Int, (shl .i64 1 a1) = j_ := ⟨_, rfl⟩
    first | rw [hji16] at H | simp only [hji16] at H
    (try rw [hji16] at A5)
    (try rw [hji16] at A10)
    (try rw [hji16] at A14)
    have hji16_ : (IntKind.i64.wrap (1 * 2 ^ min a1.toNat 64)) = ji16 := hji16
    have hji16z : a1 ≤ 64 → (IntKind.i64.wrap (1 * 2 ^ a1.toNat)) = ji16 := shl_small hji16
    have hji16u : (IntKind.i64.wrap (2 ^ min a1.toNat 64)) = ji16 := by have h_ := hji16_; rw [Int.one_mul] at h_; exact h_
    have hji16v : a1 ≤ 64 → (IntKind.i64.wrap (2 ^ a1.toNat)) = ji16 := fun hle_ => by have h_ := hji16z hle_; rw [Int.one_mul] at h_; exact h_
    have hji16y : (wrap64 (1 * 2 ^ min a1.toNat 64)) = ji16 := (i64_w _).symm.trans hji16_
    have hji16x : a1 ≤ 64 → (wrap64 (1 * 2 ^ a1.toNat)) = ji16 := fun h_ => (i64_w _).symm.trans (hji16z h_)
    by_cases c17 : (t141.length : Int) > (ji16)
    ·rw [if_pos c17] at H
     have c17b0 : decide ((ji16) < (t141.length : Int)) = true := decide_eq_true c17
     clear c17
     simp only [Option.some.injEq, Prod.mk.injEq] at H
     obtain ⟨rfl, rfl⟩ := H
     go_enter Tryd.func12, Tryd.ntmps12
     go_wp2_with (first | ((with_reducible refine gate_callee (f := 23) rfl ?_); refine gl_ (some 15) Tryd.func23 #[.int .i64 a0, .int .u64 a2] ?_; (with_reducible refine (field_Reduce.calls a0 a2 t139 _ ?side1 A5.out).mono ?_); (case side1 => exact fU_ HG.out HB.out); rintro e w18 ⟨rfl, hb⟩; refine ⟨_, rfl, ?_⟩; refine nx1_ (below_step (bU_ HB.out) hb) ?_; clear HB; intro HB; clear hb) | (go_at_call 35; (with_reducible refine (transform_greatest.calls a0 t140 _ ?side1 A10.out).mono ?_); (case side1 => exact fU_ HG.out HB.out); rintro e w19 ⟨rfl, hb⟩; refine nx1_ (below_step (bU_ HB.out) hb) ?_; clear HB; intro HB; clear hb) | ((with_reducible refine gate_callee (f := 36) rfl ?_); refine gl_ (some 29) Tryd.func36 #[.int .i64 a0, .slice A3 l3.length c3, .int .u64 a2] ?_; (with_reducible refine (poly_Shift.calls k a0 _ _ l3 a2 t141 _ ?side1 ?side2 ?side3 A14.out).mono ?_); (case side1 => exact fU_ HG.out HB.out); (case side2 => exact cU_ (Kd.C_below HR3.out HB.out)); (case side3 => exact HC3.out); rintro e w20 ⟨v142, rfl, ho0, hb⟩; refine ⟨_, rfl, ?_⟩; refine nx2_ (Kd.R_lower ho0 (below_size (bU_ HB.out))) (below_step (bU_ HB.out) hb) ?_; clear HB; intro HO143 HB; clear hb ho0; obtain ⟨Ao21, co21, eo21⟩ := Kd.R_slice HO143.out; subst eo21))
     go_ret2
     exact ⟨_, by first | rfl | (simp [errW_none, errW_some] <;> rfl) | (simp only [← hji16]; first | rfl | (simp [errW_none, errW_some] <;> rfl)) | (simp [*, errW_none, errW_some] <;> rfl), by first | exact Kd.R_nil _ _ _ _ _ | exact Kd.N_nil _ _ _ _ _ | exact Kd.V_nil _ _ _ _ _ | exact Kd.Q_nil _ _ _ _ _ | exact Kd.S_nil _ _ _ _ _, bU_ HB.out⟩
    ·rw [if_neg c17] at H
     have c17b0 : decide ((ji16) < (t141.length : Int)) = false := decide_eq_false c17
     clear c17
     have c22b0 := eq_true (od_ : 0 ≤ a1)
     obtain ⟨c24, H⟩ : (0 ≤ (ji16)) ∧ _ := it_ H
     have c24b0 := eq_true c24
     have c24b1 := decide_eq_true c24
     clear c24
     obtain ⟨c25, H⟩ : ((ji16 : Int).toNat ≤ 35184372088832) ∧ _ := it_ H
     have c25b0 := eq_true c25
     have c25b1 := decide_eq_true c25
     clear c25
     obtain ⟨y144, hy144⟩ : ∃ y_ : List Int, y_ = (List.replicate (ji16 : Int).toNat 0) := ⟨_, rfl⟩
     first | rw [Option.bind_some, ← hy144] at H | rw [← hy144] at H
     have Ny144 := ak hy144
     clear hy144
     obtain ⟨y147, hy147⟩ : ∃ y_ : List Int, y_ = (cpyAt y144 0 t141) := ⟨_, rfl⟩
     first | rw [Option.bind_some, ← hy147] at H | rw [← hy147] at H
     have Ny147 := ak hy147
     clear hy147
     revert H
     refine bd_ fun t149 A26 H => ?_
     revert H
     refine bd_ fun t152 A27 H => ?_
     revert H
     refine bd_ fun t149n A28 H => ?_
     simp only [Option.some.injEq, Prod.mk.injEq] at H
     obtain ⟨rfl, rfl⟩ := H
     go_enter Tryd.func12, Tryd.ntmps12
     go_wp2_with (first | ((with_reducible refine gate_callee (f := 23) rfl ?_); refine gl_ (some 15) Tryd.func23 #[.int .i64 a0, .int .u64 a2] ?_; (with_reducible refine (field_Reduce.calls a0 a2 t139 _ ?side1 A5.out).mono ?_); (case side1 => exact fU_ HG.out HB.out); rintro e w29 ⟨rfl, hb⟩; refine ⟨_, rfl, ?_⟩; refine nx1_ (below_step (bU_ HB.out) hb) ?_; clear HB; intro HB; clear hb) | (go_at_call 35; (with_reducible refine (transform_greatest.calls a0 t140 _ ?side1 A10.out).mono ?_); (case side1 => exact fU_ HG.out HB.out); rintro e w30 ⟨rfl, hb⟩; refine nx1_ (below_step (bU_ HB.out) hb) ?_; clear HB; intro HB; clear hb) | ((with_reducible refine gate_callee (f := 36) rfl ?_); refine gl_ (some 29) Tryd.func36 #[.int .i64 a0, .slice A3 l3.length c3, .int .u64 a2] ?_; (with_reducible refine (poly_Shift.calls k a0 _ _ l3 a2 t141 _ ?side1 ?side2 ?side3 A14.out).mono ?_); (case side1 => exact fU_ HG.out HB.out); (case side2 => exact cU_ (Kd.C_below HR3.out HB.out)); (case side3 => exact HC3.out); rintro e w31 ⟨v142, rfl, ho0, hb⟩; refine ⟨_, rfl, ?_⟩; refine nx2_ (Kd.R_lower ho0 (below_size (bU_ HB.out))) (below_step (bU_ HB.out) hb) ?_; clear HB; intro HO143 HB; clear hb ho0; obtain ⟨Ao32, co32, eo32⟩ := Kd.R_slice HO143.out; subst eo32) | ((with_reducible refine gate_dst (N := 37) rfl ?_); refine Kd.R_make (Kd.int .u64) _ 22 rfl (N := 37) rfl 23 _ _ rfl ji16 ?hx ?hy Tryd.underlying23 (.int .u64 0) 8 info22 rfl (by decide) (by omega) 0 (ok := fun _ => True) (okp := fun _ => True) rfl (fun _ hk => hk) trivial od_ (Nat.le_trans (Nat.mul_le_mul_right _ (od_ : ji16.toNat ≤ 35184372088832)) (by omega)) (Below.refl _ _) (Nat.le_refl _) ?_; (case hx => first | rfl | (simp only [hji16]; rfl)); (case hy => first | rfl | (simp only [hji16]; rfl)); intro v145 w33 ho34 hb hg_ hnew_; clear hg_ hnew_; (first | rw [← Ny144.out] at ho34 | (simp only [Int.reduceToNat] at ho34; rw [← Ny144.out] at ho34)); refine nx3_ (Kd.R_elder' (rU_ HO143.out) (Kd.R_base ho34) hb) (Kd.R_lower (Kd.R_new' ho34 (Kd.R_lt (rU_ HO143.out))) (below_size (bU_ HB.out))) (below_step (bU_ HB.out) hb) ?_; clear HO143 HB; intro HO143 HO146 HB; clear hb ho34; obtain ⟨Ao36, co36, eo36⟩ := Kd.R_slice HO146.out; subst eo36) | ((with_reducible refine gate_builtin (b := .copy) (xs := #[.tmp 38, .tmp 39]) rfl ?_); skip; refine copy_own_ .u64 (w0 := w) w.heap.size rfl (.tmp 38) (.tmp 39) 23 23 22 rfl Tryd.underlying23 (show (Tryd.prog.info? 22).map (·.size) = some 1 by kernel_rfl) (.slice Ao36 y144.length co36) y144 t141 _ _ _ (fun k_ => some k_ ≠ (.slice Ao32 t141.length co32 : Value).ownBlock) rfl rfl ?aO ?aR (fun _ _ h => h) ?aF ?aB ?aS ?_; (case aR => exact cU_ ((Kd.R_reads' HO143.out).2.2)); (case aB => exact (bU_ HB.out)); (case aF => exact (fun k_ hk => Kd.fresh' (Kd.R_lt (rU_ HO143.out)) k_ hk)); (case aO => exact (Kd.R_mono (rU_ HO146.out) (fun _ hk => hk.2))); (case aS => exact (below_size (bU_ HB.out))); intro w35 ho hb hg hat; rw [← Ny147.out] at ho; refine nx3_ (Kd.R_after (ok := (fun _ => True)) (rU_ HO143.out) hg (hat.imp_right False.elim)) (hb) (ho) ?_; clear HO143 HB HO146; intro HO143 HB HO148; clear ho hb hg hat) | ((with_reducible refine gate_callee (f := 37) rfl ?_); refine goesL_ (some 43) rfl rfl Tryd.func37 (by kernel_rfl) rfl #[.int .i64 a0, .slice Ao36 y147.length co36] rfl (by (try simp only [List.map_toArray, List.map_cons, List.map_nil]); first | done | (rw [show y147.length = y144.length from (Kd.R_reads' HO148.out).1.symm] <;> rfl) | rfl | (simp only [List.length_drop, List.length_take]; rfl)) ?_; (with_reducible refine (transform_reordered.calls k a0 _ _ y147 t149 _ ?side1 ?side2 ?side3 A26.out).mono ?_); (case side1 => exact fU_ HG.out HB.out); (case side2 => exact cU_ ((Kd.R_reads' HO148.out).2.2)); (case side3 => rw [show y147.length = y144.length from (Kd.R_reads' HO148.out).1.symm]; exact (Kd.R_reads' HO148.out).2.1); rintro e w37 ⟨v150, rfl, ho0, hb⟩; refine ⟨_, rfl, ?_⟩; refine nx4_ (Kd.R_elder' (rU_ HO143.out) (Kd.R_base ho0) hb) (Kd.R_elder' (rU_ HO148.out) (Kd.R_base ho0) hb) (Kd.R_lower (Kd.R_new' (Kd.R_new' ho0 (Kd.R_lt (rU_ HO143.out))) (Kd.R_lt (rU_ HO148.out))) (below_size (bU_ HB.out))) (below_step (bU_ HB.out) hb) ?_; clear HO143 HO148 HB; intro HO143 HO148 HO151 HB; clear hb ho0) | ((with_reducible refine gate_callee (f := 28) rfl ?_); refine gl_ (some 48) Tryd.func28 #[.int .i64 a0, .int .i64 a1] ?_; (with_reducible refine (field_Root.calls k a0 a1 t152 _ ?side1 A27.out).mono ?_); (case side1 => exact fU_ HG.out HB.out); rintro e w38 ⟨rfl, hb⟩; refine ⟨_, rfl, ?_⟩; refine nx4_ (Kd.R_below (rU_ HO143.out) hb) (Kd.R_below (rU_ HO148.out) hb) (Kd.R_below (rU_ HO151.out) hb) (below_step (bU_ HB.out) hb) ?_; clear HO143 HO148 HO151 HB; intro HO143 HO148 HO151 HB; clear hb) | ((with_reducible refine gate_callee (f := 38) rfl ?_); refine gl_ (some 49) Tryd.func38 #[.int .i64 a0, v150, .int .u64 t152] ?_; (refine (transform_butterflies.callsR k a0 _ _ _ _ t149 t152 t149n _ ?side1 ?side2 (rU_ HO151.out) A28.out).mono ?_); (case side1 => exact fU_ HG.out HB.out); (case side2 => exact HG.out.notab); rintro e w40 ⟨rfl, ho0, hb⟩; refine ⟨_, rfl, ?_⟩; have n0_ := ak ho0; have n1_ := ak ((bU_ HB.out).trans hb); clear HO151; clear HB; clear HO143; clear HO148; have HO151 := n0_; have HB := n1_; clear n0_ n1_ ho0 hb; obtain ⟨Ao39, co39, eo39⟩ := Kd.R_slice HO151.out; subst eo39))
     go_ret2
     exact ⟨_, by first | rfl | (simp [errW_none, errW_some] <;> rfl) | (simp only [← hji16]; first | rfl | (simp [errW_none, errW_some] <;> rfl)) | (simp [*, errW_none, errW_some] <;> rfl), Kd.R_mono (rU_ HO151.out) (fun _ hk => trivial), bU_ HB.out⟩

/-! ### transform_exponent: function 44 -/
def transform_exponent.j0 : Nat → Int → Int → Bool → Option (Int × Bool)
 | 0, _, _, _ => none
 | k + 1, x0, x1, x15 => if x15 = true then (some (0, false)) else ((bits_TrailingZeros.f (IntKind.u64.wrap (x1))).bind fun t201 => ((transform_greatest.f x0).bind fun t202 => (some (t201, decide (t201 ≤ t202)))))
def transform_exponent.f (k : Nat) (a0 : Int) (a1 : Int) : Option (Int × Bool) := if a1 < 1 then (transform_exponent.j0 k a0 a1 true) else (transform_exponent.j0 k a0 a1 ((Go.bits .and .i64 a1 (wrap64 (a1 - 1))) != 0))
theorem transform_exponent.mono_l : ∀ k, (∀ y0 y1 y2, LeO (transform_exponent.j0 k y0 y1 y2) (transform_exponent.j0 (k + 1) y0 y1 y2))
 | 0 => fun _ _ _ r h => by simp [transform_exponent.j0] at h
 | k + 1 => by
  have ih0 := transform_exponent.mono_l k
  ·intro y0 y1 y2
   unfold transform_exponent.j0
   with_reducible repeat' first | apply ih0 | exact LeO.refl _ | exact LeO.none _ | refine LeO.ite ?_ ?_ | refine LeO.bind ?_ (fun _ => ?_)
theorem transform_exponent.mono : ∀ a0 a1 k, LeO (transform_exponent.f k a0 a1) (transform_exponent.f (k + 1) a0 a1) := by
 intro a0 a1 k
 have ih0 := transform_exponent.mono_l k
 unfold transform_exponent.f
 with_reducible repeat' first | apply ih0 | exact LeO.refl _ | exact LeO.none _ | refine LeO.ite ?_ ?_ | refine LeO.bind ?_ (fun _ => ?_)
set_option maxHeartbeats 8000000 in
set_option maxRecDepth 100000 in
theorem transform_exponent.calls (k : Nat) (a0 : Int) (a1 : Int) (r1 : Int) (r2 : Bool) (w : World) (hG : Fld w) (h : transform_exponent.f k a0 a1 = some (r1, r2)) :
  Calls Tryd.prog 44 #[.int .i64 a0, .int .i64 a1] w fun e w' => e = .returned (.tuple #[.int .i64 r1, .bool r2]) ∧ Below w.heap.size w w' := by
 have HG := ak hG
 clear hG
 have HB := ak (Below.refl w.heap.size w)
 have H : (if a1 < 1 then (transform_exponent.j0 k a0 a1 true) else (transform_exponent.j0 k a0 a1 ((Go.bits .and .i64 a1 (wrap64 (a1 - 1))) != 0))) = some (r1, r2) := h
 clear h
 have HC3 := ak H
 clear H
 go_enter Tryd.func44, Tryd.ntmps44
 go_upto_region 1 with (fail)
 go_cut [15] (fun v15 wc => ∃ (kq : Nat) (x15_2 : Bool), v15 = .bool x15_2 ∧ Aside0 (transform_exponent.j0 kq a0 a1 x15_2 = some (r1, r2)) ∧ Aside0 (kq ≤ k) ∧ Aside0 (Below w.heap.size w wc))
 case first =>
  have H := HC3.out
  clear HC3
  by_cases c4 : a1 < 1
  ·rw [if_pos c4] at H
   have c4b0 := decide_eq_true c4
   clear c4
   (first | rw [c4b0] | (simp only [i64_w, i32_w]; rw [c4b0]) | rw [c4b1] | skip)
   have H' := ak H
   clear H
   go_wp2
   go_meet
   case rel => exact ⟨_, (true), gb_, H', ⟨by first | omega | exact Nat.le_refl _⟩, ⟨bU_ HB.out⟩⟩
  ·rw [if_neg c4] at H
   have c4b0 := decide_eq_false c4
   clear c4
   (first | rw [c4b0] | (simp only [i64_w, i32_w]; rw [c4b0]) | rw [c4b1] | skip)
   have H' := ak H
   clear H
   go_wp2
   go_meet
   case rel => exact ⟨_, (((Go.bits .and .i64 a1 (wrap64 (a1 - 1))) != 0)), gb_, H', ⟨by first | omega | exact Nat.le_refl _⟩, ⟨bU_ HB.out⟩⟩
 case rest =>
  clear HC3
  (try clear p2); (try clear c4); (try clear c4b0); (try clear c4b1)
  obtain ⟨kq, x15_2, rfl, HA, HJ2, HB⟩ := hcut
  cases kq with
  | zero => exact absurd HA.out (by simp [transform_exponent.j0])
  | succ kj2 =>
   have H := HA.out
   clear HA
   simp only [transform_exponent.j0] at H
   by_cases c5 : x15_2 = true
   ·subst c5
    rw [if_pos rfl] at H
    simp only [Option.some.injEq, Prod.mk.injEq] at H
    obtain ⟨rfl, rfl⟩ := H
    go_wp2
    go_ret2
    exact ⟨by first | rfl | (simp [errW_none, errW_some] <;> rfl) | (simp [*, errW_none, errW_some] <;> rfl), bU_ HB.out⟩
   ·replace c5 := Bool.eq_false_iff.mpr c5
    subst c5
    rw [if_neg (show ¬ (false = true) by decide)] at H
    revert H
    refine bd_ fun t201 A6 H => ?_
    revert H
    refine bd_ fun t202 A7 H => ?_
    simp only [Option.some.injEq, Prod.mk.injEq] at H
    obtain ⟨rfl, rfl⟩ := H
    go_wp2_with (first | ((with_reducible refine gate_callee (f := 62) rfl ?_); refine gl_ (some 18) Tryd.func62 #[.int .u64 (IntKind.u64.wrap (a1))] ?_; (with_reducible refine (bits_TrailingZeros.calls (IntKind.u64.wrap (a1)) t201 _ ?side1 A6.out).mono ?_); (case side1 => exact fU_ HG.out HB.out); rintro e w8 ⟨rfl, hb⟩; refine ⟨_, rfl, ?_⟩; refine nx1_ (below_step (bU_ HB.out) hb) ?_; clear HB; intro HB; clear hb) | ((with_reducible refine gate_callee (f := 35) rfl ?_); refine gl_ (some 22) Tryd.func35 #[.int .i64 a0] ?_; (with_reducible refine (transform_greatest.calls a0 t202 _ ?side1 A7.out).mono ?_); (case side1 => exact fU_ HG.out HB.out); rintro e w9 ⟨rfl, hb⟩; refine ⟨_, rfl, ?_⟩; refine nx1_ (below_step (bU_ HB.out) hb) ?_; clear HB; intro HB; clear hb))
    go_ret2
    exact ⟨by first | rfl | (simp [errW_none, errW_some] <;> rfl) | (simp [*, errW_none, errW_some] <;> rfl), bU_ HB.out⟩

/-! ### field_Inv: function 45 -/
mutual
def field_Inv.j0 : Nat → Int → Int → Bool → Option (Int)
 | 0, _, _, _ => none
 | k + 1, x1, x5, x20 => if x20 = true then (some 0) else (if x5 = 0 then (none) else (field_Inv.l0 k x5 (wrap64 (x5)) (wrap64 (Int.tmod x1 x5)) 0 1))
def field_Inv.l0 : Nat → Int → Int → Int → Int → Int → Option (Int)
 | 0, _, _, _, _, _ => none
 | k + 1, x5, x6, x7, x8, x9 => if x7 = 0 then (if x8 < 0 then (some (IntKind.u64.wrap (wrap64 (x8 + (wrap64 (x5)))))) else (some (IntKind.u64.wrap (x8)))) else (field_Inv.l0 k x5 x7 (wrap64 (x6 - (wrap64 ((wrap64 (Int.tdiv x6 x7)) * x7)))) x9 (wrap64 (x8 - (wrap64 ((wrap64 (Int.tdiv x6 x7)) * x9)))))
end
def field_Inv.f (k : Nat) (a0 : Int) (a1 : Int) : Option (Int) := (field_P.f a0).bind fun t203 => (if t203 = 0 then (field_Inv.j0 k a1 t203 true) else (field_Inv.j0 k a1 t203 ((Int.tmod a1 t203) == 0)))
theorem field_Inv.mono_l : ∀ k, (∀ y0 y1 y2, LeO (field_Inv.j0 k y0 y1 y2) (field_Inv.j0 (k + 1) y0 y1 y2)) ∧ (∀ y0 y1 y2 y3 y4, LeO (field_Inv.l0 k y0 y1 y2 y3 y4) (field_Inv.l0 (k + 1) y0 y1 y2 y3 y4))
 | 0 => ⟨fun _ _ _ r h => by simp [field_Inv.j0] at h, fun _ _ _ _ _ r h => by simp [field_Inv.l0] at h⟩
 | k + 1 => by
  obtain ⟨ih0, ih1⟩ := field_Inv.mono_l k
  refine ⟨?_, ?_⟩
  ·intro y0 y1 y2
   unfold field_Inv.j0
   with_reducible repeat' first | apply ih0 | apply ih1 | exact LeO.refl _ | exact LeO.none _ | refine LeO.ite ?_ ?_ | refine LeO.bind ?_ (fun _ => ?_)
  ·intro y0 y1 y2 y3 y4
   unfold field_Inv.l0
   with_reducible repeat' first | apply ih0 | apply ih1 | exact LeO.refl _ | exact LeO.none _ | refine LeO.ite ?_ ?_ | refine LeO.bind ?_ (fun _ => ?_)
theorem field_Inv.mono : ∀ a0 a1 k, LeO (field_Inv.f k a0 a1) (field_Inv.f (k + 1) a0 a1) := by
 intro a0 a1 k
 obtain ⟨ih0, ih1⟩ := field_Inv.mono_l k
 unfold field_Inv.f
 with_reducible repeat' first | apply ih0 | apply ih1 | exact LeO.refl _ | exact LeO.none _ | refine LeO.ite ?_ ?_ | refine LeO.bind ?_ (fun _ => ?_)
set_option maxHeartbeats 8000000 in
set_option maxRecDepth 100000 in
theorem field_Inv.calls (k : Nat) (a0 : Int) (a1 : Int) (r : Int) (w : World) (hG : Fld w) (h : field_Inv.f k a0 a1 = some r) :
  Calls Tryd.prog 45 #[.int .i64 a0, .int .u64 a1] w fun e w' => e = .returned (.int .u64 r) ∧ Below w.heap.size w w' := by
 have HG := ak hG
 clear hG
 have HB := ak (Below.refl w.heap.size w)
 have H : ((field_P.f a0).bind fun t203 => (if t203 = 0 then (field_Inv.j0 k a1 t203 true) else (field_Inv.j0 k a1 t203 ((Int.tmod a1 t203) == 0)))) = some r := h
 clear h
 revert H
 refine bd_ fun t203 A3 H => ?_
 have HC4 := ak H
 clear H
 go_enter Tryd.func45, Tryd.ntmps45
 go_upto_region 2 with (first | (go_at_call 58; (with_reducible refine (field_P.calls a0 t203 _ ?side1 A3.out).mono ?_); (case side1 => exact fU_ HG.out HB.out); rintro e w5 ⟨rfl, hb⟩; refine nx1_ (below_step (bU_ HB.out) hb) ?_; clear HB; intro HB; clear hb))
 repeat (go_quiet (first | (go_at_call 58; (with_reducible refine (field_P.calls a0 t203 _ ?side1 A3.out).mono ?_); (case side1 => exact fU_ HG.out HB.out); rintro e w5 ⟨rfl, hb⟩; refine nx1_ (below_step (bU_ HB.out) hb) ?_; clear HB; intro HB; clear hb)); go_upto_region 2 with (first | (go_at_call 58; (with_reducible refine (field_P.calls a0 t203 _ ?side1 A3.out).mono ?_); (case side1 => exact fU_ HG.out HB.out); rintro e w5 ⟨rfl, hb⟩; refine nx1_ (below_step (bU_ HB.out) hb) ?_; clear HB; intro HB; clear hb)))
 (try simp only [Act.put, s1_, s2_, s3_])
 go_cut [20] (fun v20 wc => ∃ (kq : Nat) (x20_3 : Bool), v20 = .bool x20_3 ∧ Aside0 (field_Inv.j0 kq a1 t203 x20_3 = some r) ∧ Aside0 (kq ≤ k) ∧ Aside0 (Below w.heap.size w wc))
 case first =>
  have H := HC4.out
  clear HC4
  by_cases c6 : t203 = 0
  ·rw [if_pos c6] at H
   have c6b0 := beq_iff_eq.mpr c6
   have c6b1 := bne_eq_false_iff_eq.mpr c6
   clear c6
   (first | rw [c6b0] | (simp only [i64_w, i32_w]; rw [c6b0]) | rw [c6b1] | skip)
   have H' := ak H
   clear H
   go_wp2
   repeat (go_quiet (fail); try go_wp2)
   go_meet
   case rel => exact ⟨_, (true), gb_, H', ⟨by first | omega | exact Nat.le_refl _⟩, ⟨bU_ HB.out⟩⟩
  ·rw [if_neg c6] at H
   have c6b0 := beq_eq_false_iff_ne.mpr c6
   have c6b1 := bne_iff_ne.mpr c6
   (first | rw [c6b0] | (simp only [i64_w, i32_w]; rw [c6b0]) | rw [c6b1] | skip)
   have H' := ak H
   clear H
   go_wp2
   repeat (go_quiet (fail); try go_wp2)
   go_meet
   case rel => exact ⟨_, (((Int.tmod a1 t203) == 0)), gb_, H', ⟨by first | omega | exact Nat.le_refl _⟩, ⟨bU_ HB.out⟩⟩
 case rest =>
  clear HC4
  (try clear p2); (try clear c4); (try clear c6); (try clear c6b0); (try clear c6b1)
  obtain ⟨kq, x20_3, rfl, HA, HJ3, HB⟩ := hcut
  cases kq with
  | zero => exact absurd HA.out (by simp [field_Inv.j0])
  | succ kj3 =>
   have H := HA.out
   clear HA
   simp only [field_Inv.j0] at H
   by_cases c7 : x20_3 = true
   ·subst c7
    rw [if_pos rfl] at H
    obtain rfl := Option.some.inj H
    go_wp2
    repeat (go_quiet (fail); try go_wp2)
    go_ret
    exact ⟨by first | rfl | (simp [errW_none, errW_some] <;> rfl) | (simp [*, errW_none, errW_some] <;> rfl), bU_ HB.out⟩
   ·replace c7 := Bool.eq_false_iff.mpr c7
    subst c7
    rw [if_neg (show ¬ (false = true) by decide)] at H
    by_cases c8 : t203 = 0
    ·rw [if_pos c8] at H
     exact absurd H (by simp)
    ·rw [if_neg c8] at H
     have c8b0 := beq_eq_false_iff_ne.mpr c8
     have c8b1 := bne_iff_ne.mpr c8
     have H' := ak H
     clear H
     go_wp2
     repeat (go_quiet (fail); try go_wp2)
     go_loopg [6, 7, 8, 9] kj3 (fun kq v6 v7 v8 v9 w' => ∃ (x6_2 : Int) (x7_2 : Int) (x8_2 : Int) (x9_2 : Int), v6 = .int .i64 x6_2 ∧ v7 = .int .i64 x7_2 ∧ v8 = .int .i64 x8_2 ∧ v9 = .int .i64 x9_2 ∧ Aside0 (field_Inv.l0 kq t203 x6_2 x7_2 x8_2 x9_2 = some r) ∧ Aside0 (kq ≤ kj3) ∧ Aside0 (Below w.heap.size w w'))
     case atStart => exact ⟨(wrap64 (t203)), (wrap64 (Int.tmod a1 t203)), (0), (1), gb_, gb_, gb_, gb_, H', ⟨Nat.le_refl _⟩, ⟨bU_ HB.out⟩⟩
     case round =>
      clear H'
      (try clear p2); (try clear c4); (try clear c6); (try clear c6b0); (try clear c6b1); (try clear p6); (try clear c7); (try clear c8); (try clear c8b0); (try clear c8b1)
      obtain ⟨x6_2, x7_2, x8_2, x9_2, rfl, rfl, rfl, rfl, HA, HK2, HB⟩ := hrel
      cases gk with
      | zero => exact absurd HA.out (by simp [field_Inv.l0])
      | succ k2 =>
       have H := HA.out
       clear HA
       simp only [field_Inv.l0] at H
       by_cases c9 : x7_2 = 0
       ·rw [if_pos c9] at H
        have c9b0 := beq_iff_eq.mpr c9
        have c9b1 := bne_eq_false_iff_eq.mpr c9
        clear c9
        by_cases c10 : x8_2 < 0
        ·rw [if_pos c10] at H
         have c10b0 := decide_eq_true c10
         clear c10
         obtain rfl := Option.some.inj H
         go_wp2
         repeat (go_quiet (fail); try go_wp2)
         go_ret
         exact ⟨by first | rfl | (simp [errW_none, errW_some] <;> rfl) | (simp [*, errW_none, errW_some] <;> rfl), bU_ HB.out⟩
        ·rw [if_neg c10] at H
         have c10b0 := decide_eq_false c10
         clear c10
         obtain rfl := Option.some.inj H
         go_wp2
         repeat (go_quiet (fail); try go_wp2)
         go_ret
         exact ⟨by first | rfl | (simp [errW_none, errW_some] <;> rfl) | (simp [*, errW_none, errW_some] <;> rfl), bU_ HB.out⟩
       ·rw [if_neg c9] at H
        have c9b0 := beq_eq_false_iff_ne.mpr c9
        have c9b1 := bne_iff_ne.mpr c9
        have H' := ak H
        clear H
        go_wp2
        repeat (go_quiet (fail); try go_wp2)
        go_roundg k2
        case measure => have := HJ3.out; have := HK2.out; omega
        case rel => exact ⟨(x7_2), (wrap64 (x6_2 - (wrap64 ((wrap64 (Int.tdiv x6_2 x7_2)) * x7_2)))), (x9_2), (wrap64 (x8_2 - (wrap64 ((wrap64 (Int.tdiv x6_2 x7_2)) * x9_2)))), gb_, gb_, gb_, gb_, H', ⟨by have := HJ3.out; have := HK2.out; omega⟩, ⟨bU_ HB.out⟩⟩

/-! ### transform_Coefficients: function 16 -/
def transform_Coefficients.l0 : Nat → Int → List Int → Int → Int → Int → Int → Option (List Int × Int)
 | 0, _, _, _, _, _, _ => none
 | k + 1, x0, x10, x11, x12, x47, x48 => if x48 < x47 then (if 0 ≤ x48 then (if x48 < (x10.length : Int) then ((field_Mul.f x0 (rd x10 x48) x11).bind fun t215 => ((field_Mul.f x0 x11 x12).bind fun t217 => (transform_Coefficients.l0 k x0 (x10.set (x48 : Int).toNat t215) t217 x12 x47 (wrap64 (x48 + 1))))) else (none)) else (none)) else (some (x10, 0))
def transform_Coefficients.f (k : Nat) (a0 : Int) (a1 : Int) (l2 : List Int) : Option (List Int × Int) := (field_Reduce.f a0 a1).bind fun t204 => (if t204 = 0 then (some (([] : List Int), 1)) else ((transform_exponent.f k a0 (l2.length : Int)).bind fun bt205 => (if bt205.2 = true then ((transform_reordered.f k a0 l2).bind fun t207 => ((field_Root.f k a0 bt205.1).bind fun t210 => ((field_Inv.f k a0 t210).bind fun t211 => ((transform_butterflies.f k a0 t207 t211).bind fun t207 => ((field_Inv.f k a0 (IntKind.u64.wrap ((l2.length : Int)))).bind fun t212 => ((field_Inv.f k a0 a1).bind fun t213 => (transform_Coefficients.l0 k a0 t207 t212 t213 (t207.length : Int) 0))))))) else (some (([] : List Int), 2)))))
theorem transform_Coefficients.mono_l : ∀ k, (∀ y0 y1 y2 y3 y4 y5, LeO (transform_Coefficients.l0 k y0 y1 y2 y3 y4 y5) (transform_Coefficients.l0 (k + 1) y0 y1 y2 y3 y4 y5))
 | 0 => fun _ _ _ _ _ _ r h => by simp [transform_Coefficients.l0] at h
 | k + 1 => by
  have ih0 := transform_Coefficients.mono_l k
  ·intro y0 y1 y2 y3 y4 y5
   unfold transform_Coefficients.l0
   with_reducible repeat' first | apply ih0 | apply field_Inv.mono | apply field_Root.mono | apply transform_butterflies.mono | apply transform_exponent.mono | apply transform_reordered.mono | exact LeO.refl _ | exact LeO.none _ | refine LeO.ite ?_ ?_ | refine LeO.bind ?_ (fun _ => ?_)
theorem transform_Coefficients.mono : ∀ a0 a1 a2 k, LeO (transform_Coefficients.f k a0 a1 a2) (transform_Coefficients.f (k + 1) a0 a1 a2) := by
 intro a0 a1 a2 k
 have ih0 := transform_Coefficients.mono_l k
 unfold transform_Coefficients.f
 with_reducible repeat' first | apply ih0 | apply field_Inv.mono | apply field_Root.mono | apply transform_butterflies.mono | apply transform_exponent.mono | apply transform_reordered.mono | exact LeO.refl _ | exact LeO.none _ | refine LeO.ite ?_ ?_ | refine LeO.bind ?_ (fun _ => ?_)
set_option maxHeartbeats 8000000 in
set_option maxRecDepth 100000 in
theorem transform_Coefficients.calls (k : Nat) (a0 : Int) (a1 : Int) (A2 : Option Addr) (c2 : Nat) (l2 : List Int) (r1 : List Int) (r2 : Int) (w : World) (hG : Fld w) (hr2 : Kd.C (Kd.int .u64) w A2 l2.length l2) (hc2 : l2.length ≤ c2) (h : transform_Coefficients.f k a0 a1 l2 = some (r1, r2)) :
  Calls Tryd.prog 16 #[.int .i64 a0, .int .u64 a1, .slice A2 l2.length c2] w fun e w' => ∃ v0_ : Value, e = .returned (.tuple #[v0_, .int .i64 r2]) ∧ Kd.R (Kd.int .u64) 22 w' w.heap.size (fun _ => True) v0_ r1 ∧ Below w.heap.size w w' := by
 have HG := ak hG
 clear hG
 have HR2 := ak hr2
 have HC2 := ak hc2
 clear hr2 hc2
 have HB := ak (Below.refl w.heap.size w)
 have H : ((field_Reduce.f a0 a1).bind fun t204 => (if t204 = 0 then (some (([] : List Int), 1)) else ((transform_exponent.f k a0 (l2.length : Int)).bind fun bt205 => (if bt205.2 = true then ((transform_reordered.f k a0 l2).bind fun t207 => ((field_Root.f k a0 bt205.1).bind fun t210 => ((field_Inv.f k a0 t210).bind fun t211 => ((transform_butterflies.f k a0 t207 t211).bind fun t207 => ((field_Inv.f k a0 (IntKind.u64.wrap ((l2.length : Int)))).bind fun t212 => ((field_Inv.f k a0 a1).bind fun t213 => (transform_Coefficients.l0 k a0 t207 t212 t213 (t207.length : Int) 0))))))) else (some (([] : List Int), 2)))))) = some (r1, r2) := h
 clear h
 revert H
 refine bd_ fun t204 A4 H => ?_
 by_cases c5 : t204 = 0
 ·rw [if_pos c5] at H
  have c5b0 := beq_iff_eq.mpr c5
  have c5b1 := bne_eq_false_iff_eq.mpr c5
  clear c5
  simp only [Option.some.injEq, Prod.mk.injEq] at H
  obtain ⟨rfl, rfl⟩ := H
  go_enter Tryd.func16, Tryd.ntmps16
  go_wp2_with (first | ((with_reducible refine gate_callee (f := 23) rfl ?_); refine gl_ (some 16) Tryd.func23 #[.int .i64 a0, .int .u64 a1] ?_; (with_reducible refine (field_Reduce.calls a0 a1 t204 _ ?side1 A4.out).mono ?_); (case side1 => exact fU_ HG.out HB.out); rintro e w6 ⟨rfl, hb⟩; refine ⟨_, rfl, ?_⟩; refine nx1_ (below_step (bU_ HB.out) hb) ?_; clear HB; intro HB; clear hb))
  go_ret2
  exact ⟨_, by first | rfl | (simp [errW_none, errW_some] <;> rfl) | (simp [*, errW_none, errW_some] <;> rfl), by first | exact Kd.R_nil _ _ _ _ _ | exact Kd.N_nil _ _ _ _ _ | exact Kd.V_nil _ _ _ _ _ | exact Kd.Q_nil _ _ _ _ _ | exact Kd.S_nil _ _ _ _ _, bU_ HB.out⟩
 ·rw [if_neg c5] at H
  have c5b0 := beq_eq_false_iff_ne.mpr c5
  have c5b1 := bne_iff_ne.mpr c5
  revert H
  refine bd2_ fun t205 t206 A7 H => ?_
  try dsimp only at H
  by_cases c8 : t206 = true
  ·subst c8
   rw [if_pos rfl] at H
   revert H
   refine bd_ fun t207 A9 H => ?_
   revert H
   refine bd_ fun t210 A10 H => ?_
   revert H
   refine bd_ fun t211 A11 H => ?_
   revert H
   refine bd_ fun t207n A12 H => ?_
   revert H
   refine bd_ fun t212 A13 H => ?_
   revert H
   refine bd_ fun t213 A14 H => ?_
   have H' := ak H
   clear H
   go_enter Tryd.func16, Tryd.ntmps16
   go_wp2_with (first | ((with_reducible refine gate_callee (f := 23) rfl ?_); refine gl_ (some 16) Tryd.func23 #[.int .i64 a0, .int .u64 a1] ?_; (with_reducible refine (field_Reduce.calls a0 a1 t204 _ ?side1 A4.out).mono ?_); (case side1 => exact fU_ HG.out HB.out); rintro e w15 ⟨rfl, hb⟩; refine ⟨_, rfl, ?_⟩; refine nx1_ (below_step (bU_ HB.out) hb) ?_; clear HB; intro HB; clear hb) | ((with_reducible refine gate_callee (f := 44) rfl ?_); refine gl_ (some 22) Tryd.func44 #[.int .i64 a0, .int .i64 (l2.length : Int)] ?_; (with_reducible refine (transform_exponent.calls k a0 (l2.length : Int) t205 true _ ?side1 A7.out).mono ?_); (case side1 => exact fU_ HG.out HB.out); rintro e w16 ⟨rfl, hb⟩; refine ⟨_, rfl, ?_⟩; refine nx1_ (below_step (bU_ HB.out) hb) ?_; clear HB; intro HB; clear hb) | ((with_reducible refine gate_callee (f := 37) rfl ?_); refine gl_ (some 29) Tryd.func37 #[.int .i64 a0, .slice A2 l2.length c2] ?_; (with_reducible refine (transform_reordered.calls k a0 _ _ l2 t207 _ ?side1 ?side2 ?side3 A9.out).mono ?_); (case side1 => exact fU_ HG.out HB.out); (case side2 => exact cU_ (Kd.C_below HR2.out HB.out)); (case side3 => exact HC2.out); rintro e w17 ⟨v208, rfl, ho0, hb⟩; refine ⟨_, rfl, ?_⟩; refine nx2_ (Kd.R_lower ho0 (below_size (bU_ HB.out))) (below_step (bU_ HB.out) hb) ?_; clear HB; intro HO209 HB; clear hb ho0) | ((with_reducible refine gate_callee (f := 28) rfl ?_); refine gl_ (some 35) Tryd.func28 #[.int .i64 a0, .int .i64 t205] ?_; (with_reducible refine (field_Root.calls k a0 t205 t210 _ ?side1 A10.out).mono ?_); (case side1 => exact fU_ HG.out HB.out); rintro e w18 ⟨rfl, hb⟩; refine ⟨_, rfl, ?_⟩; refine nx2_ (Kd.R_below (rU_ HO209.out) hb) (below_step (bU_ HB.out) hb) ?_; clear HO209 HB; intro HO209 HB; clear hb) | ((with_reducible refine gate_callee (f := 45) rfl ?_); refine gl_ (some 36) Tryd.func45 #[.int .i64 a0, .int .u64 t210] ?_; (with_reducible refine (field_Inv.calls k a0 t210 t211 _ ?side1 A11.out).mono ?_); (case side1 => exact fU_ HG.out HB.out); rintro e w19 ⟨rfl, hb⟩; refine ⟨_, rfl, ?_⟩; refine nx2_ (Kd.R_below (rU_ HO209.out) hb) (below_step (bU_ HB.out) hb) ?_; clear HO209 HB; intro HO209 HB; clear hb) | ((with_reducible refine gate_callee (f := 38) rfl ?_); refine gl_ (some 37) Tryd.func38 #[.int .i64 a0, v208, .int .u64 t211] ?_; (refine (transform_butterflies.callsR k a0 _ _ _ _ t207 t211 t207n _ ?side1 ?side2 (rU_ HO209.out) A12.out).mono ?_); (case side1 => exact fU_ HG.out HB.out); (case side2 => exact HG.out.notab); rintro e w21 ⟨rfl, ho0, hb⟩; refine ⟨_, rfl, ?_⟩; have n0_ := ak ho0; have n1_ := ak ((bU_ HB.out).trans hb); clear HO209; clear HB; have HO209 := n0_; have HB := n1_; clear n0_ n1_ ho0 hb; obtain ⟨Ao20, co20, eo20⟩ := Kd.R_slice HO209.out; subst eo20) | ((with_reducible refine gate_callee (f := 45) rfl ?_); refine gl_ (some 42) Tryd.func45 #[.int .i64 a0, .int .u64 (IntKind.u64.wrap ((l2.length : Int)))] ?_; (with_reducible refine (field_Inv.calls k a0 (IntKind.u64.wrap ((l2.length : Int))) t212 _ ?side1 A13.out).mono ?_); (case side1 => exact fU_ HG.out HB.out); rintro e w22 ⟨rfl, hb⟩; refine ⟨_, rfl, ?_⟩; refine nx2_ (Kd.R_below (rU_ HO209.out) hb) (below_step (bU_ HB.out) hb) ?_; clear HO209 HB; intro HO209 HB; clear hb) | ((with_reducible refine gate_callee (f := 45) rfl ?_); refine gl_ (some 45) Tryd.func45 #[.int .i64 a0, .int .u64 a1] ?_; (with_reducible refine (field_Inv.calls k a0 a1 t213 _ ?side1 A14.out).mono ?_); (case side1 => exact fU_ HG.out HB.out); rintro e w23 ⟨rfl, hb⟩; refine ⟨_, rfl, ?_⟩; refine nx2_ (Kd.R_below (rU_ HO209.out) hb) (below_step (bU_ HB.out) hb) ?_; clear HO209 HB; intro HO209 HB; clear hb))
   go_loopg [11, 48] k (fun kq v11 v48 w' => ∃ (x10_1 : List Int) (x11_1 : Int) (x48_1 : Int), v11 = .int .u64 x11_1 ∧ v48 = .int .i64 x48_1 ∧ Aside0 (transform_Coefficients.l0 kq a0 x10_1 x11_1 t213 (t207n.length : Int) x48_1 = some (r1, r2)) ∧ Aside0 (kq ≤ k) ∧ Aside0 (Kd.R (Kd.int .u64) 22 w' w.heap.size (fun _ => True) (.slice Ao20 t207n.length co20) x10_1) ∧ Aside0 (Below w.heap.size w w'))
   case atStart => exact ⟨(t207n), (t212), (0), gb_, gb_, H', ⟨Nat.le_refl _⟩, ⟨rU_ HO209.out⟩, ⟨bU_ HB.out⟩⟩
   case round =>
    clear H'
    (try clear c1); (try clear c2); (try clear p2); (try clear c3); (try clear c4); (try clear c5); (try clear c5b0); (try clear c5b1); (try clear c8); (try clear c16); (try clear c23)
    obtain ⟨x10_1, x11_1, x48_1, rfl, rfl, HA, HK1, HO_10, HB⟩ := hrel
    have hl10_1 := (Kd.R_reads' HO_10.out).1
    rw [hl10_1] at HO_10
    (try simp only [hl10_1])
    cases gk with
    | zero => exact absurd HA.out (by simp [transform_Coefficients.l0])
    | succ k1 =>
     have H := HA.out
     clear HA
     simp only [transform_Coefficients.l0] at H
     by_cases c24 : x48_1 < (t207n.length : Int)
     ·rw [if_pos c24] at H
      have c24b0 := decide_eq_true c24
      (try (have c24b0r0 := c24b0; simp only [hl10_1] at c24b0r0))
      clear c24
      obtain ⟨c25, H⟩ : (0 ≤ x48_1) ∧ _ := it_ H
      have c25b0 := decide_eq_true c25
      clear c25
      obtain ⟨c26, H⟩ : (x48_1 < (x10_1.length : Int)) ∧ _ := it_ H
      have c26b0 := decide_eq_true c26
      clear c26
      revert H
      refine bd_ fun t215 A27 H => ?_
      obtain ⟨y216, hy216⟩ : ∃ y_ : List Int, y_ = (x10_1.set (x48_1 : Int).toNat t215) := ⟨_, rfl⟩
      first | rw [Option.bind_some, ← hy216] at H | rw [← hy216] at H
      have Ny216 := ak hy216
      clear hy216
      revert H
      refine bd_ fun t217 A29 H => ?_
      have H' := ak H
      clear H
      have pfr30 : 0 ≤ (x48_1 : Int) := od_
      have qfr30 : (x48_1 : Int) < ((x10_1.length : Int) : Int) := od_
      obtain ⟨gofr30, cofr30, eofr30, gbfr30, glfr30, clfr30, HGfr30⟩ := Kd.R_form HO_10.out (by omega)
      (first | cases eofr30 | (injection eofr30 with ea_ en_ ec_; (first | subst ea_ | (injection ea_ with ea_; subst ea_)); subst ec_; clear en_))
      have GBfr30 := ak gbfr30
      have GGfr30 := ak HGfr30
      clear gbfr30 glfr30 HGfr30
      clear pfr30 qfr30
      have p214 : 0 ≤ (x48_1 : Int) := od_
      have q214 : x48_1 < (x10_1.length : Int) := od_
      obtain ⟨ad214, e214, hx214_0⟩ := Kd.at_int (Kd.R_reads' HO_10.out).2.2 x48_1 p214 q214
      obtain rfl : (⟨gofr30, 0, none⟩ : Addr) = ad214 := (by injection e214)
      (first | simp only [add_plain] at hx214_0 | simp only [add_at] at hx214_0 | simp only [Addr.add, Nat.zero_add] at hx214_0 | skip)
      replace p214 := eq_true p214
      replace q214 := eq_true q214
      go_wp2_with (first | ((with_reducible refine gate_callee (f := 26) rfl ?_); refine gl_ (some 59) Tryd.func26 #[.int .i64 a0, .int .u64 (rd x10_1 x48_1), .int .u64 x11_1] ?_; (with_reducible refine (field_Mul.calls a0 (rd x10_1 x48_1) x11_1 t215 _ ?side1 A27.out).mono ?_); (case side1 => exact fU_ HG.out HB.out); rintro e w31 ⟨rfl, hb⟩; refine ⟨_, rfl, ?_⟩; refine nx2_ (Kd.R_below (rU_ HO_10.out) hb) (below_step (bU_ HB.out) hb) ?_; clear HO_10 HB; intro HO_10 HB; clear hb; have p28 : 0 ≤ (x48_1 : Int) := od_; have q28 : (x48_1 : Int) < ((x10_1.length : Int) : Int) := od_; obtain ⟨hx28_0, hf28_0⟩ := Kd.R_celln 0 HO_10.out (x48_1 : Int) p28 q28; replace p28 := eq_true p28; replace q28 := eq_true q28; obtain ⟨hy32_, hz32_⟩ := Kd.R_celln 0 HO_10.out (x48_1 : Int) od_ od_; have HP32 := Kd.R_putg HO_10.out (x48_1 : Int) t215) | ((with_reducible refine gate_store (t := 22) (p := 60) rfl ?_); refine store_event (t := 22) (p := 60) (v := ?vo_w33) (w1 := (w31.setCell ⟨gofr30, (x48_1 : Int).toNat, none⟩ (.int .u64 t215))) ?hg ?ho ?hn ?hr ?_; (case ho => rfl); (case hg => rfl); (case hn => rfl); (case hr => first | (go_simp; done) | (go_simp; rfl)); intro w33 hw; have hg : w31.grownBy w33 (some gofr30) := (by rw [hw]; exact HP32.2); have hp_ : Kd.R (Kd.int .u64) 22 w33 w.heap.size (fun _ => True) (.slice (some ⟨gofr30, 0, none⟩) x10_1.length co20) y216 := (by rw [hw, Ny216.out]; exact HP32.1); clear HP32; refine nx2_ (hp_) ((by rw [hw]; exact below_set (HB.out) GBfr30.out : Below w.heap.size w w33)) ?_; clear HO_10 HB; intro HO_10 HB; clear hg hw hp_) | ((with_reducible refine gate_callee (f := 26) rfl ?_); refine gl_ (some 64) Tryd.func26 #[.int .i64 a0, .int .u64 x11_1, .int .u64 t213] ?_; (with_reducible refine (field_Mul.calls a0 x11_1 t213 t217 _ ?side1 A29.out).mono ?_); (case side1 => exact fU_ HG.out HB.out); rintro e w34 ⟨rfl, hb⟩; refine ⟨_, rfl, ?_⟩; refine nx2_ (Kd.R_below (rU_ HO_10.out) hb) (below_step (bU_ HB.out) hb) ?_; clear HO_10 HB; intro HO_10 HB; clear hb))
      (try simp only [← hl10_1])
      go_roundg k1
      case measure => have := HK1.out; omega
      case rel => exact ⟨(y216), (t217), (wrap64 (x48_1 + 1)), gb_, gb_, H', ⟨by have := HK1.out; omega⟩, ⟨by (try simp only [hl10_1]); (with_reducible repeat (first | apply Kd.R_alloc | apply Kd.R_drewN | apply Kd.R_drew)); exact HO_10.out⟩, ⟨bU_ HB.out⟩⟩
     ·rw [if_neg c24] at H
      have c24b0 := decide_eq_false c24
      (try (have c24b0r0 := c24b0; simp only [hl10_1] at c24b0r0))
      clear c24
      simp only [Option.some.injEq, Prod.mk.injEq] at H
      obtain ⟨rfl, rfl⟩ := H
      go_wp2
      go_ret2
      exact ⟨_, by first | rfl | (simp [errW_none, errW_some] <;> rfl) | (simp [*, errW_none, errW_some] <;> rfl), rU_ HO_10.out, bU_ HB.out⟩
  ·replace c8 := Bool.eq_false_iff.mpr c8
   subst c8
   rw [if_neg (show ¬ (false = true) by decide)] at H
   simp only [Option.some.injEq, Prod.mk.injEq] at H
   obtain ⟨rfl, rfl⟩ := H
   go_enter Tryd.func16, Tryd.ntmps16
   go_wp2_with (first | ((with_reducible refine gate_callee (f := 23) rfl ?_); refine gl_ (some 16) Tryd.func23 #[.int .i64 a0, .int .u64 a1] ?_; (with_reducible refine (field_Reduce.calls a0 a1 t204 _ ?side1 A4.out).mono ?_); (case side1 => exact fU_ HG.out HB.out); rintro e w35 ⟨rfl, hb⟩; refine ⟨_, rfl, ?_⟩; refine nx1_ (below_step (bU_ HB.out) hb) ?_; clear HB; intro HB; clear hb) | ((with_reducible refine gate_callee (f := 44) rfl ?_); refine gl_ (some 22) Tryd.func44 #[.int .i64 a0, .int .i64 (l2.length : Int)] ?_; (with_reducible refine (transform_exponent.calls k a0 (l2.length : Int) t205 false _ ?side1 A7.out).mono ?_); (case side1 => exact fU_ HG.out HB.out); rintro e w36 ⟨rfl, hb⟩; refine ⟨_, rfl, ?_⟩; refine nx1_ (below_step (bU_ HB.out) hb) ?_; clear HB; intro HB; clear hb))
   go_ret2
   exact ⟨_, by first | rfl | (simp [errW_none, errW_some] <;> rfl) | (simp [*, errW_none, errW_some] <;> rfl), by first | exact Kd.R_nil _ _ _ _ _ | exact Kd.N_nil _ _ _ _ _ | exact Kd.V_nil _ _ _ _ _ | exact Kd.Q_nil _ _ _ _ _ | exact Kd.S_nil _ _ _ _ _, bU_ HB.out⟩

/-! ### field_Generator: function 29 -/
def field_Generator.f (a0 : Int) : Option (Int) := some (gOf a0)
theorem field_Generator.calls (a0 : Int) (r : Int) (w : World) (hG : Fld w) (h : field_Generator.f a0 = some r) :
  Calls Tryd.prog 29 #[.int .i64 a0] w fun e w' => e = .returned (.int .u64 r) ∧ Below w.heap.size w w' := by
 obtain rfl := Option.some.inj h
 clear h
 have hfl := fld1
 go_enter Tryd.func29, Tryd.ntmps29
 go_wp2_with (go_at_call 59; (with_reducible refine (of_any a0 _ hG).mono ?_); rintro e w' ⟨va, vn, vc, rfl, hb⟩)
 go_ret
 exact ⟨rfl, hb⟩

/-! ### transform_Widen: function 18 -/
def transform_Widen.j0 : Nat → Int → List Int → Int → Int → Bool → Option (List Int × Int)
 | 0, _, _, _, _, _ => none
 | k + 1, x0, x1, x2, x8, x35 => if x35 = true then (some (([] : List Int), 2)) else ((transform_Coefficients.f k x0 1 x1).bind fun bt222 => ((field_Generator.f x0).bind fun t226 => ((transform_Values.f k x0 (wrap64 (x8 + x2)) t226 bt222.1).bind fun bt227 => (some (bt227.1, bt227.2)))))
def transform_Widen.f (k : Nat) (a0 : Int) (l1 : List Int) (a2 : Int) : Option (List Int × Int) := (field_Valid.f a0).bind fun t218 => (if t218 = true then ((transform_exponent.f k a0 (l1.length : Int)).bind fun bt219 => (if bt219.2 = true then (if a2 < 0 then (transform_Widen.j0 k a0 l1 a2 bt219.1 true) else ((transform_greatest.f a0).bind fun t221 => (transform_Widen.j0 k a0 l1 a2 bt219.1 (decide (a2 > (wrap64 (t221 - bt219.1))))))) else (transform_Widen.j0 k a0 l1 a2 bt219.1 true))) else (some (([] : List Int), 1)))
theorem transform_Widen.mono_l : ∀ k, (∀ y0 y1 y2 y3 y4, LeO (transform_Widen.j0 k y0 y1 y2 y3 y4) (transform_Widen.j0 (k + 1) y0 y1 y2 y3 y4))
 | 0 => fun _ _ _ _ _ r h => by simp [transform_Widen.j0] at h
 | k + 1 => by
  have ih0 := transform_Widen.mono_l k
  ·intro y0 y1 y2 y3 y4
   unfold transform_Widen.j0
   with_reducible repeat' first | apply ih0 | apply transform_Coefficients.mono | apply transform_Values.mono | apply transform_exponent.mono | exact LeO.refl _ | exact LeO.none _ | refine LeO.ite ?_ ?_ | refine LeO.bind ?_ (fun _ => ?_)
theorem transform_Widen.mono : ∀ a0 a1 a2 k, LeO (transform_Widen.f k a0 a1 a2) (transform_Widen.f (k + 1) a0 a1 a2) := by
 intro a0 a1 a2 k
 have ih0 := transform_Widen.mono_l k
 unfold transform_Widen.f
 with_reducible repeat' first | apply ih0 | apply transform_Coefficients.mono | apply transform_Values.mono | apply transform_exponent.mono | exact LeO.refl _ | exact LeO.none _ | refine LeO.ite ?_ ?_ | refine LeO.bind ?_ (fun _ => ?_)
set_option maxHeartbeats 8000000 in
set_option maxRecDepth 100000 in
theorem transform_Widen.calls (k : Nat) (a0 : Int) (A1 : Option Addr) (c1 : Nat) (l1 : List Int) (a2 : Int) (r1 : List Int) (r2 : Int) (w : World) (hG : Fld w) (hr1 : Kd.C (Kd.int .u64) w A1 l1.length l1) (hc1 : l1.length ≤ c1) (h : transform_Widen.f k a0 l1 a2 = some (r1, r2)) :
  Calls Tryd.prog 18 #[.int .i64 a0, .slice A1 l1.length c1, .int .i64 a2] w fun e w' => ∃ v0_ : Value, e = .returned (.tuple #[v0_, .int .i64 r2]) ∧ Kd.R (Kd.int .u64) 22 w' w.heap.size (fun _ => True) v0_ r1 ∧ Below w.heap.size w w' := by
 have HG := ak hG
 clear hG
 have HR1 := ak hr1
 have HC1 := ak hc1
 clear hr1 hc1
 have HB := ak (Below.refl w.heap.size w)
 have H : ((field_Valid.f a0).bind fun t218 => (if t218 = true then ((transform_exponent.f k a0 (l1.length : Int)).bind fun bt219 => (if bt219.2 = true then (if a2 < 0 then (transform_Widen.j0 k a0 l1 a2 bt219.1 true) else ((transform_greatest.f a0).bind fun t221 => (transform_Widen.j0 k a0 l1 a2 bt219.1 (decide (a2 > (wrap64 (t221 - bt219.1))))))) else (transform_Widen.j0 k a0 l1 a2 bt219.1 true))) else (some (([] : List Int), 1)))) = some (r1, r2) := h
 clear h
 revert H
 refine bd_ fun t218 A4 H => ?_
 by_cases c5 : t218 = true
 ·subst c5
  rw [if_pos rfl] at H
  revert H
  refine bd2_ fun t219 t220 A6 H => ?_
  try dsimp only at H
  have HC7 := ak H
  clear H
  go_enter Tryd.func18, Tryd.ntmps18
  go_upto_region 4 with (first | ((with_reducible refine gate_callee (f := 52) rfl ?_); refine gl_ (some 13) Tryd.func52 #[.int .i64 a0] ?_; (with_reducible refine (field_Valid.calls a0 true _ A4.out).mono ?_); rintro e w' ⟨rfl, ⟨nd, rfl⟩⟩; refine ⟨_, rfl, ?_⟩) | ((with_reducible refine gate_callee (f := 44) rfl ?_); refine gl_ (some 19) Tryd.func44 #[.int .i64 a0, .int .i64 (l1.length : Int)] ?_; (with_reducible refine (transform_exponent.calls k a0 (l1.length : Int) t219 t220 _ ?side1 A6.out).mono ?_); (case side1 => exact fU_ HG.out HB.out); rintro e w8 ⟨rfl, hb⟩; refine ⟨_, rfl, ?_⟩; refine nx1_ (below_step (bU_ HB.out) hb) ?_; clear HB; intro HB; clear hb))
  (try simp only [Act.put, s1_, s2_, s3_])
  go_cut [35] (fun v35 wc => ∃ (kq : Nat) (x35_6 : Bool), v35 = .bool x35_6 ∧ Aside0 (transform_Widen.j0 kq a0 l1 a2 t219 x35_6 = some (r1, r2)) ∧ Aside0 (kq ≤ k) ∧ Aside0 (Below w.heap.size w wc))
  case first =>
   have H := HC7.out
   clear HC7
   by_cases c9 : t220 = true
   ·subst c9
    rw [if_pos rfl] at H
    by_cases c10 : a2 < 0
    ·rw [if_pos c10] at H
     have c10b0 := decide_eq_true c10
     clear c10
     (first | rw [c10b0] | (simp only [i64_w, i32_w]; rw [c10b0]) | rw [c10b1] | skip)
     have H' := ak H
     clear H
     go_wp2
     go_meet
     case rel => exact ⟨_, (true), gb_, H', ⟨by first | omega | exact Nat.le_refl _⟩, ⟨bU_ HB.out⟩⟩
    ·rw [if_neg c10] at H
     have c10b0 := decide_eq_false c10
     clear c10
     (first | rw [c10b0] | (simp only [i64_w, i32_w]; rw [c10b0]) | rw [c10b1] | skip)
     revert H
     refine bd_ fun t221 A11 H => ?_
     have H' := ak H
     clear H
     go_wp2_with (first | (go_at_call 35; (with_reducible refine (transform_greatest.calls a0 t221 _ ?side1 A11.out).mono ?_); (case side1 => exact fU_ HG.out HB.out); rintro e w12 ⟨rfl, hb⟩; refine nx1_ (below_step (bU_ HB.out) hb) ?_; clear HB; intro HB; clear hb))
     go_meet
     case rel => exact ⟨_, (decide (a2 > (wrap64 (t221 - t219)))), gb_, H', ⟨by first | omega | exact Nat.le_refl _⟩, ⟨bU_ HB.out⟩⟩
   ·replace c9 := Bool.eq_false_iff.mpr c9
    subst c9
    rw [if_neg (show ¬ (false = true) by decide)] at H
    have H' := ak H
    clear H
    go_wp2
    go_meet
    case rel => exact ⟨_, (true), gb_, H', ⟨by first | omega | exact Nat.le_refl _⟩, ⟨bU_ HB.out⟩⟩
  case rest =>
   clear HC7
   (try clear c1); (try clear p2); (try clear c4); (try clear c5); (try clear p6); (try clear c9); (try clear c10); (try clear c10b0); (try clear c10b1)
   obtain ⟨kq, x35_6, rfl, HA, HJ6, HB⟩ := hcut
   cases kq with
   | zero => exact absurd HA.out (by simp [transform_Widen.j0])
   | succ kj6 =>
    have H := HA.out
    clear HA
    simp only [transform_Widen.j0] at H
    by_cases c13 : x35_6 = true
    ·subst c13
     rw [if_pos rfl] at H
     simp only [Option.some.injEq, Prod.mk.injEq] at H
     obtain ⟨rfl, rfl⟩ := H
     go_wp2
     go_ret2
     exact ⟨_, by first | rfl | (simp [errW_none, errW_some] <;> rfl) | (simp [*, errW_none, errW_some] <;> rfl), by first | exact Kd.R_nil _ _ _ _ _ | exact Kd.N_nil _ _ _ _ _ | exact Kd.V_nil _ _ _ _ _ | exact Kd.Q_nil _ _ _ _ _ | exact Kd.S_nil _ _ _ _ _, bU_ HB.out⟩
    ·replace c13 := Bool.eq_false_iff.mpr c13
     subst c13
     rw [if_neg (show ¬ (false = true) by decide)] at H
     revert H
     refine bd2_ fun t222 t223 A14 H => ?_
     try dsimp only at H
     revert H
     refine bd_ fun t226 A15 H => ?_
     revert H
     refine bd2_ fun t227 t228 A16 H => ?_
     try dsimp only at H
     simp only [Option.some.injEq, Prod.mk.injEq] at H
     obtain ⟨rfl, rfl⟩ := H
     go_wp2_with (first | ((with_reducible refine gate_callee (f := 16) rfl ?_); refine gl_ (some 39) Tryd.func16 #[.int .i64 a0, .int .u64 1, .slice A1 l1.length c1] ?_; (with_reducible refine (transform_Coefficients.calls kj6 a0 1 _ _ l1 t222 t223 _ ?side1 ?side2 ?side3 A14.out).mono ?_); (case side1 => exact fU_ HG.out HB.out); (case side2 => exact cU_ (Kd.C_below HR1.out HB.out)); (case side3 => exact HC1.out); rintro e w17 ⟨v224, rfl, ho0, hb⟩; refine ⟨_, rfl, ?_⟩; refine nx2_ (Kd.R_lower ho0 (below_size (bU_ HB.out))) (below_step (bU_ HB.out) hb) ?_; clear HB; intro HO225 HB; clear hb ho0) | ((with_reducible refine gate_callee (f := 29) rfl ?_); refine gl_ (some 47) Tryd.func29 #[.int .i64 a0] ?_; (with_reducible refine (field_Generator.calls a0 t226 _ ?side1 A15.out).mono ?_); (case side1 => exact fU_ HG.out HB.out); rintro e w18 ⟨rfl, hb⟩; refine ⟨_, rfl, ?_⟩; refine nx2_ (Kd.R_below (rU_ HO225.out) hb) (below_step (bU_ HB.out) hb) ?_; clear HO225 HB; intro HO225 HB; clear hb; obtain ⟨Ao19, co19, eo19⟩ := Kd.R_slice HO225.out; subst eo19) | ((with_reducible refine gate_callee (f := 12) rfl ?_); refine gl_ (some 49) Tryd.func12 #[.int .i64 a0, .int .i64 (wrap64 (t219 + a2)), .int .u64 t226, .slice Ao19 t222.length co19] ?_; (with_reducible refine (transform_Values.calls kj6 a0 (wrap64 (t219 + a2)) t226 _ _ t222 t227 t228 _ ?side1 ?side2 ?side3 A16.out).mono ?_); (case side1 => exact fU_ HG.out HB.out); (case side2 => exact cU_ ((Kd.R_reads' HO225.out).2.2)); (case side3 => exact (Kd.R_reads' HO225.out).2.1); rintro e w20 ⟨v229, rfl, ho0, hb⟩; refine ⟨_, rfl, ?_⟩; refine nx3_ (Kd.R_elder' (rU_ HO225.out) (Kd.R_base ho0) hb) (Kd.R_lower (Kd.R_new' ho0 (Kd.R_lt (rU_ HO225.out))) (below_size (bU_ HB.out))) (below_step (bU_ HB.out) hb) ?_; clear HO225 HB; intro HO225 HO230 HB; clear hb ho0))
     go_ret2
     exact ⟨_, by first | rfl | (simp [errW_none, errW_some] <;> rfl) | (simp [*, errW_none, errW_some] <;> rfl), Kd.R_mono (rU_ HO230.out) (fun _ hk => trivial), bU_ HB.out⟩
 ·replace c5 := Bool.eq_false_iff.mpr c5
  subst c5
  rw [if_neg (show ¬ (false = true) by decide)] at H
  simp only [Option.some.injEq, Prod.mk.injEq] at H
  obtain ⟨rfl, rfl⟩ := H
  go_enter Tryd.func18, Tryd.ntmps18
  go_wp2_with (first | ((with_reducible refine gate_callee (f := 52) rfl ?_); refine gl_ (some 13) Tryd.func52 #[.int .i64 a0] ?_; (with_reducible refine (field_Valid.calls a0 false _ A4.out).mono ?_); rintro e w' ⟨rfl, ⟨nd, rfl⟩⟩; refine ⟨_, rfl, ?_⟩))
  go_ret2
  exact ⟨_, by first | rfl | (simp [errW_none, errW_some] <;> rfl) | (simp [*, errW_none, errW_some] <;> rfl), by first | exact Kd.R_nil _ _ _ _ _ | exact Kd.N_nil _ _ _ _ _ | exact Kd.V_nil _ _ _ _ _ | exact Kd.Q_nil _ _ _ _ _ | exact Kd.S_nil _ _ _ _ _, bU_ HB.out⟩

/-! ### poly_Degree: function 54 -/
def poly_Degree.l0 : Nat → Int → List Int → Int → Option (Int)
 | 0, _, _, _ => none
 | k + 1, x0, x1, x5 => if x5 > 0 then (if 0 ≤ (wrap64 (x5 - 1)) then (if (wrap64 (x5 - 1)) < (x1.length : Int) then ((field_Reduce.f x0 (rd x1 (wrap64 (x5 - 1)))).bind fun t232 => (if t232 = 0 then (poly_Degree.l0 k x0 x1 (wrap64 (x5 - 1))) else (some (wrap64 (x5 - 1))))) else (none)) else (none)) else (some (-1))
def poly_Degree.f (k : Nat) (a0 : Int) (l1 : List Int) : Option (Int) := poly_Degree.l0 k a0 l1 (l1.length : Int)
theorem poly_Degree.mono_l : ∀ k, (∀ y0 y1 y2, LeO (poly_Degree.l0 k y0 y1 y2) (poly_Degree.l0 (k + 1) y0 y1 y2))
 | 0 => fun _ _ _ r h => by simp [poly_Degree.l0] at h
 | k + 1 => by
  have ih0 := poly_Degree.mono_l k
  ·intro y0 y1 y2
   unfold poly_Degree.l0
   with_reducible repeat' first | apply ih0 | exact LeO.refl _ | exact LeO.none _ | refine LeO.ite ?_ ?_ | refine LeO.bind ?_ (fun _ => ?_)
theorem poly_Degree.mono : ∀ a0 a1 k, LeO (poly_Degree.f k a0 a1) (poly_Degree.f (k + 1) a0 a1) := by
 intro a0 a1 k
 have ih0 := poly_Degree.mono_l k
 unfold poly_Degree.f
 with_reducible repeat' first | apply ih0 | exact LeO.refl _ | exact LeO.none _ | refine LeO.ite ?_ ?_ | refine LeO.bind ?_ (fun _ => ?_)
set_option maxHeartbeats 8000000 in
set_option maxRecDepth 100000 in
theorem poly_Degree.calls (k : Nat) (a0 : Int) (A1 : Option Addr) (c1 : Nat) (l1 : List Int) (r : Int) (w : World) (hG : Fld w) (hr1 : Kd.C (Kd.int .u64) w A1 l1.length l1) (hc1 : l1.length ≤ c1) (h : poly_Degree.f k a0 l1 = some r) :
  Calls Tryd.prog 54 #[.int .i64 a0, .slice A1 l1.length c1] w fun e w' => e = .returned (.int .i64 r) ∧ Below w.heap.size w w' := by
 have HG := ak hG
 clear hG
 have HR1 := ak hr1
 have HC1 := ak hc1
 clear hr1 hc1
 have HB := ak (Below.refl w.heap.size w)
 have H : (poly_Degree.l0 k a0 l1 (l1.length : Int)) = some r := h
 clear h
 have H' := ak H
 clear H
 go_enter Tryd.func54, Tryd.ntmps54
 go_wp2
 go_loopg [5] k (fun kq v5 w' => ∃ (x5_1 : Int), v5 = .int .i64 x5_1 ∧ Aside0 (poly_Degree.l0 kq a0 l1 x5_1 = some r) ∧ Aside0 (kq ≤ k) ∧ Aside0 (Below w.heap.size w w'))
 case atStart => exact ⟨((l1.length : Int)), gb_, H', ⟨Nat.le_refl _⟩, ⟨bU_ HB.out⟩⟩
 case round =>
  clear H'
  (try clear c1); (try clear p2)
  obtain ⟨x5_1, rfl, HA, HK1, HB⟩ := hrel
  cases gk with
  | zero => exact absurd HA.out (by simp [poly_Degree.l0])
  | succ k1 =>
   have H := HA.out
   clear HA
   simp only [poly_Degree.l0] at H
   by_cases c3 : x5_1 > 0
   ·rw [if_pos c3] at H
    have c3b0 : decide (0 < x5_1) = true := decide_eq_true c3
    clear c3
    obtain ⟨ji4, hji4⟩ : ∃ j_ : Int, (wrap64 (x5_1 - 1)) = j_ := ⟨_, rfl⟩
    first | rw [hji4] at H | simp only [hji4] at H
    have hji4w : (IntKind.i64.wrap (x5_1 - 1)) = ji4 := (i64_w _).trans hji4
    obtain ⟨c5, H⟩ : (0 ≤ (ji4)) ∧ _ := it_ H
    have c5b0 := decide_eq_true c5
    clear c5
    obtain ⟨c6, H⟩ : ((ji4) < (l1.length : Int)) ∧ _ := it_ H
    have c6b0 := decide_eq_true c6
    clear c6
    revert H
    refine bd_ fun t232 A7 H => ?_
    by_cases c8 : t232 = 0
    ·rw [if_pos c8] at H
     have c8b0 := beq_iff_eq.mpr c8
     have c8b1 := bne_eq_false_iff_eq.mpr c8
     clear c8
     have H' := ak H
     clear H
     have p231 : 0 ≤ ((ji4) : Int) := od_
     have q231 : (ji4) < (l1.length : Int) := od_
     obtain ⟨ad231, e231, hx231_0⟩ := Kd.at_int HR1.out (ji4) p231 q231
     cases e231
     replace hx231_0 := (HB.out.cell (World.block_lt_of_cell? w _ hx231_0)).trans hx231_0
     replace p231 := eq_true p231
     replace q231 := eq_true q231
     go_wp2_with (first | ((with_reducible refine gate_callee (f := 23) rfl ?_); refine goesL_ (some 18) rfl rfl Tryd.func23 (by kernel_rfl) rfl #[.int .i64 a0, .int .u64 (rd l1 (ji4))] rfl (by (try simp only [List.map_toArray, List.map_cons, List.map_nil]); first | done | (simp only [hji4]; rfl) | rfl | (simp only [List.length_drop, List.length_take]; rfl)) ?_; (with_reducible refine (field_Reduce.calls a0 (rd l1 (ji4)) t232 _ ?side1 A7.out).mono ?_); (case side1 => exact fU_ HG.out HB.out); rintro e w9 ⟨rfl, hb⟩; refine ⟨_, rfl, ?_⟩; refine nx1_ (below_step (bU_ HB.out) hb) ?_; clear HB; intro HB; clear hb))
     go_roundg k1
     case measure => have := HK1.out; omega
     case rel => exact ⟨(ji4), (by first | rfl | (simp; done) | (simp only [← hji4] <;> (first | rfl | simp)) | (simp [*]; done)), H', ⟨by have := HK1.out; omega⟩, ⟨bU_ HB.out⟩⟩
    ·rw [if_neg c8] at H
     have c8b0 := beq_eq_false_iff_ne.mpr c8
     have c8b1 := bne_iff_ne.mpr c8
     obtain rfl := Option.some.inj H
     have p231 : 0 ≤ ((ji4) : Int) := od_
     have q231 : (ji4) < (l1.length : Int) := od_
     obtain ⟨ad231, e231, hx231_0⟩ := Kd.at_int HR1.out (ji4) p231 q231
     cases e231
     replace hx231_0 := (HB.out.cell (World.block_lt_of_cell? w _ hx231_0)).trans hx231_0
     replace p231 := eq_true p231
     replace q231 := eq_true q231
     go_wp2_with (first | ((with_reducible refine gate_callee (f := 23) rfl ?_); refine goesL_ (some 18) rfl rfl Tryd.func23 (by kernel_rfl) rfl #[.int .i64 a0, .int .u64 (rd l1 (ji4))] rfl (by (try simp only [List.map_toArray, List.map_cons, List.map_nil]); first | done | (simp only [hji4]; rfl) | rfl | (simp only [List.length_drop, List.length_take]; rfl)) ?_; (with_reducible refine (field_Reduce.calls a0 (rd l1 (ji4)) t232 _ ?side1 A7.out).mono ?_); (case side1 => exact fU_ HG.out HB.out); rintro e w10 ⟨rfl, hb⟩; refine ⟨_, rfl, ?_⟩; refine nx1_ (below_step (bU_ HB.out) hb) ?_; clear HB; intro HB; clear hb))
     go_ret
     exact ⟨by first | rfl | (simp [errW_none, errW_some] <;> rfl) | (simp only [← hji4]; first | rfl | (simp [errW_none, errW_some] <;> rfl)) | (simp [*, errW_none, errW_some] <;> rfl), bU_ HB.out⟩
   ·rw [if_neg c3] at H
    have c3b0 : decide (0 < x5_1) = false := decide_eq_false c3
    clear c3
    obtain rfl := Option.some.inj H
    go_wp2
    go_ret
    exact ⟨by first | rfl | (simp [errW_none, errW_some] <;> rfl) | (simp [*, errW_none, errW_some] <;> rfl), bU_ HB.out⟩

/-! ### bits_Len32: function 68 -/
/-! ### bits_Len64: function 69 -/
def bits_Len64.j0 : Nat → Int → Int → Option (Int)
 | 0, _, _ => none
 | k + 1, x0, x2 => if x0 ≥ 65536 then (if (x0 / 65536) ≥ 256 then (if 0 ≤ (((x0 / 65536) / 256) % 256) then (if (((x0 / 65536) / 256) % 256) < 256 then (some (wrap64 ((wrap64 ((wrap64 (x2 + 16)) + 8)) + (wrap64 (bt (⟨#[0, 1, 2, 2, 3, 3, 3, 3, 4, 4, 4, 4, 4, 4, 4, 4, 5, 5, 5, 5, 5, 5, 5, 5, 5, 5, 5, 5, 5, 5, 5, 5, 6, 6, 6, 6, 6, 6, 6, 6, 6, 6, 6, 6, 6, 6, 6, 6, 6, 6, 6, 6, 6, 6, 6, 6, 6, 6, 6, 6, 6, 6, 6, 6, 7, 7, 7, 7, 7, 7, 7, 7, 7, 7, 7, 7, 7, 7, 7, 7, 7, 7, 7, 7, 7, 7, 7, 7, 7, 7, 7, 7, 7, 7, 7, 7, 7, 7, 7, 7, 7, 7, 7, 7, 7, 7, 7, 7, 7, 7, 7, 7, 7, 7, 7, 7, 7, 7, 7, 7, 7, 7, 7, 7, 7, 7, 7, 7, 8, 8, 8, 8, 8, 8, 8, 8, 8, 8, 8, 8, 8, 8, 8, 8, 8, 8, 8, 8, 8, 8, 8, 8, 8, 8, 8, 8, 8, 8, 8, 8, 8, 8, 8, 8, 8, 8, 8, 8, 8, 8, 8, 8, 8, 8, 8, 8, 8, 8, 8, 8, 8, 8, 8, 8, 8, 8, 8, 8, 8, 8, 8, 8, 8, 8, 8, 8, 8, 8, 8, 8, 8, 8, 8, 8, 8, 8, 8, 8, 8, 8, 8, 8, 8, 8, 8, 8, 8, 8, 8, 8, 8, 8, 8, 8, 8, 8, 8, 8, 8, 8, 8, 8, 8, 8, 8, 8, 8, 8, 8, 8, 8, 8, 8, 8, 8, 8, 8, 8, 8, 8, 8, 8, 8, 8, 8, 8]⟩ : ByteArray) (((x0 / 65536) / 256) % 256)))))) else (none)) else (none)) else (if 0 ≤ ((x0 / 65536) % 256) then (if ((x0 / 65536) % 256) < 256 then (some (wrap64 ((wrap64 (x2 + 16)) + (wrap64 (bt (⟨#[0, 1, 2, 2, 3, 3, 3, 3, 4, 4, 4, 4, 4, 4, 4, 4, 5, 5, 5, 5, 5, 5, 5, 5, 5, 5, 5, 5, 5, 5, 5, 5, 6, 6, 6, 6, 6, 6, 6, 6, 6, 6, 6, 6, 6, 6, 6, 6, 6, 6, 6, 6, 6, 6, 6, 6, 6, 6, 6, 6, 6, 6, 6, 6, 7, 7, 7, 7, 7, 7, 7, 7, 7, 7, 7, 7, 7, 7, 7, 7, 7, 7, 7, 7, 7, 7, 7, 7, 7, 7, 7, 7, 7, 7, 7, 7, 7, 7, 7, 7, 7, 7, 7, 7, 7, 7, 7, 7, 7, 7, 7, 7, 7, 7, 7, 7, 7, 7, 7, 7, 7, 7, 7, 7, 7, 7, 7, 7, 8, 8, 8, 8, 8, 8, 8, 8, 8, 8, 8, 8, 8, 8, 8, 8, 8, 8, 8, 8, 8, 8, 8, 8, 8, 8, 8, 8, 8, 8, 8, 8, 8, 8, 8, 8, 8, 8, 8, 8, 8, 8, 8, 8, 8, 8, 8, 8, 8, 8, 8, 8, 8, 8, 8, 8, 8, 8, 8, 8, 8, 8, 8, 8, 8, 8, 8, 8, 8, 8, 8, 8, 8, 8, 8, 8, 8, 8, 8, 8, 8, 8, 8, 8, 8, 8, 8, 8, 8, 8, 8, 8, 8, 8, 8, 8, 8, 8, 8, 8, 8, 8, 8, 8, 8, 8, 8, 8, 8, 8, 8, 8, 8, 8, 8, 8, 8, 8, 8, 8, 8, 8, 8, 8, 8, 8, 8, 8]⟩ : ByteArray) ((x0 / 65536) % 256)))))) else (none)) else (none))) else (if x0 ≥ 256 then (if 0 ≤ ((x0 / 256) % 256) then (if ((x0 / 256) % 256) < 256 then (some (wrap64 ((wrap64 (x2 + 8)) + (wrap64 (bt (⟨#[0, 1, 2, 2, 3, 3, 3, 3, 4, 4, 4, 4, 4, 4, 4, 4, 5, 5, 5, 5, 5, 5, 5, 5, 5, 5, 5, 5, 5, 5, 5, 5, 6, 6, 6, 6, 6, 6, 6, 6, 6, 6, 6, 6, 6, 6, 6, 6, 6, 6, 6, 6, 6, 6, 6, 6, 6, 6, 6, 6, 6, 6, 6, 6, 7, 7, 7, 7, 7, 7, 7, 7, 7, 7, 7, 7, 7, 7, 7, 7, 7, 7, 7, 7, 7, 7, 7, 7, 7, 7, 7, 7, 7, 7, 7, 7, 7, 7, 7, 7, 7, 7, 7, 7, 7, 7, 7, 7, 7, 7, 7, 7, 7, 7, 7, 7, 7, 7, 7, 7, 7, 7, 7, 7, 7, 7, 7, 7, 8, 8, 8, 8, 8, 8, 8, 8, 8, 8, 8, 8, 8, 8, 8, 8, 8, 8, 8, 8, 8, 8, 8, 8, 8, 8, 8, 8, 8, 8, 8, 8, 8, 8, 8, 8, 8, 8, 8, 8, 8, 8, 8, 8, 8, 8, 8, 8, 8, 8, 8, 8, 8, 8, 8, 8, 8, 8, 8, 8, 8, 8, 8, 8, 8, 8, 8, 8, 8, 8, 8, 8, 8, 8, 8, 8, 8, 8, 8, 8, 8, 8, 8, 8, 8, 8, 8, 8, 8, 8, 8, 8, 8, 8, 8, 8, 8, 8, 8, 8, 8, 8, 8, 8, 8, 8, 8, 8, 8, 8, 8, 8, 8, 8, 8, 8, 8, 8, 8, 8, 8, 8, 8, 8, 8, 8, 8, 8]⟩ : ByteArray) ((x0 / 256) % 256)))))) else (none)) else (none)) else (if 0 ≤ ((x0) % 256) then (if ((x0) % 256) < 256 then (some (wrap64 (x2 + (wrap64 (bt (⟨#[0, 1, 2, 2, 3, 3, 3, 3, 4, 4, 4, 4, 4, 4, 4, 4, 5, 5, 5, 5, 5, 5, 5, 5, 5, 5, 5, 5, 5, 5, 5, 5, 6, 6, 6, 6, 6, 6, 6, 6, 6, 6, 6, 6, 6, 6, 6, 6, 6, 6, 6, 6, 6, 6, 6, 6, 6, 6, 6, 6, 6, 6, 6, 6, 7, 7, 7, 7, 7, 7, 7, 7, 7, 7, 7, 7, 7, 7, 7, 7, 7, 7, 7, 7, 7, 7, 7, 7, 7, 7, 7, 7, 7, 7, 7, 7, 7, 7, 7, 7, 7, 7, 7, 7, 7, 7, 7, 7, 7, 7, 7, 7, 7, 7, 7, 7, 7, 7, 7, 7, 7, 7, 7, 7, 7, 7, 7, 7, 8, 8, 8, 8, 8, 8, 8, 8, 8, 8, 8, 8, 8, 8, 8, 8, 8, 8, 8, 8, 8, 8, 8, 8, 8, 8, 8, 8, 8, 8, 8, 8, 8, 8, 8, 8, 8, 8, 8, 8, 8, 8, 8, 8, 8, 8, 8, 8, 8, 8, 8, 8, 8, 8, 8, 8, 8, 8, 8, 8, 8, 8, 8, 8, 8, 8, 8, 8, 8, 8, 8, 8, 8, 8, 8, 8, 8, 8, 8, 8, 8, 8, 8, 8, 8, 8, 8, 8, 8, 8, 8, 8, 8, 8, 8, 8, 8, 8, 8, 8, 8, 8, 8, 8, 8, 8, 8, 8, 8, 8, 8, 8, 8, 8, 8, 8, 8, 8, 8, 8, 8, 8, 8, 8, 8, 8, 8, 8]⟩ : ByteArray) ((x0) % 256)))))) else (none)) else (none)))
def bits_Len64.f (k : Nat) (a0 : Int) : Option (Int) := if a0 ≥ 4294967296 then (bits_Len64.j0 k (a0 / 4294967296) 32) else (bits_Len64.j0 k a0 0)
theorem bits_Len64.mono_l : ∀ k, (∀ y0 y1, LeO (bits_Len64.j0 k y0 y1) (bits_Len64.j0 (k + 1) y0 y1))
 | 0 => fun _ _ r h => by simp [bits_Len64.j0] at h
 | k + 1 => by
  have ih0 := bits_Len64.mono_l k
  ·intro y0 y1
   unfold bits_Len64.j0
   with_reducible repeat' first | apply ih0 | exact LeO.refl _ | exact LeO.none _ | refine LeO.ite ?_ ?_ | refine LeO.bind ?_ (fun _ => ?_)
theorem bits_Len64.mono : ∀ a0 k, LeO (bits_Len64.f k a0) (bits_Len64.f (k + 1) a0) := by
 intro a0 k
 have ih0 := bits_Len64.mono_l k
 unfold bits_Len64.f
 with_reducible repeat' first | apply ih0 | exact LeO.refl _ | exact LeO.none _ | refine LeO.ite ?_ ?_ | refine LeO.bind ?_ (fun _ => ?_)
set_option maxHeartbeats 8000000 in
set_option maxRecDepth 100000 in
theorem bits_Len64.calls (k : Nat) (a0 : Int) (r : Int) (w : World) (h : bits_Len64.f k a0 = some r) :
  Calls Tryd.prog 69 #[.int .u64 a0] w fun e w' => e = .returned (.int .i64 r) ∧ Drawn0 w w' := by
 have H : (if a0 ≥ 4294967296 then (bits_Len64.j0 k (a0 / 4294967296) 32) else (bits_Len64.j0 k a0 0)) = some r := h
 clear h
 have HC2 := ak H
 clear H
 go_enter Tryd.func69, Tryd.ntmps69
 go_upto_if 4 with (fail)
 go_cut [0, 2] (fun v0 v2 wc => ∃ (kq : Nat) (x0_1 : Int) (x2_1 : Int), v0 = .int .u64 x0_1 ∧ v2 = .int .i64 x2_1 ∧ Aside0 (bits_Len64.j0 kq x0_1 x2_1 = some r) ∧ Aside0 (kq ≤ k) ∧ Drawn0 w wc)
 case first =>
  have H := HC2.out
  clear HC2
  by_cases c3 : a0 ≥ 4294967296
  ·rw [if_pos c3] at H
   have c3b0 : decide (4294967296 ≤ a0) = true := decide_eq_true c3
   clear c3
   (first | rw [c3b0] | (simp only [i64_w, i32_w]; rw [c3b0]) | rw [c3b1] | skip)
   have H' := ak H
   clear H
   go_wp2
   go_meet
   case rel => exact ⟨_, (a0 / 4294967296), (32), gb_, gb_, H', ⟨by first | omega | exact Nat.le_refl _⟩, by repeat (first | exact Drawn0.refl _ | apply Drawn0.step)⟩
  ·rw [if_neg c3] at H
   have c3b0 : decide (4294967296 ≤ a0) = false := decide_eq_false c3
   clear c3
   (first | rw [c3b0] | (simp only [i64_w, i32_w]; rw [c3b0]) | rw [c3b1] | skip)
   have H' := ak H
   clear H
   go_wp2
   go_meet
   case rel => exact ⟨_, (a0), (0), gb_, gb_, H', ⟨by first | omega | exact Nat.le_refl _⟩, by repeat (first | exact Drawn0.refl _ | apply Drawn0.step)⟩
 case rest =>
  clear HC2
  (try clear p2); (try clear c3); (try clear c3b0); (try clear c3b1)
  obtain ⟨kq, x0_1, x2_1, rfl, rfl, HA, HJ1, ⟨mc1, rfl⟩⟩ := hcut
  cases kq with
  | zero => exact absurd HA.out (by simp [bits_Len64.j0])
  | succ kj1 =>
   have H := HA.out
   clear HA
   simp only [bits_Len64.j0] at H
   by_cases c4 : x0_1 ≥ 65536
   ·rw [if_pos c4] at H
    have c4b0 : decide (65536 ≤ x0_1) = true := decide_eq_true c4
    clear c4
    by_cases c5 : (x0_1 / 65536) ≥ 256
    ·rw [if_pos c5] at H
     have c5b0 : decide (256 ≤ (x0_1 / 65536)) = true := decide_eq_true c5
     clear c5
     obtain ⟨ji6, hji6⟩ : ∃ j_ : Int, (((x0_1 / 65536) / 256) % 256) = j_ := ⟨_, rfl⟩
     first | rw [hji6] at H | simp only [hji6] at H
     obtain ⟨c7, H⟩ : (0 ≤ (ji6)) ∧ _ := it_ H
     have c7b0 := decide_eq_true c7
     clear c7
     obtain ⟨c8, H⟩ : ((ji6) < 256) ∧ _ := it_ H
     have c8b0 := decide_eq_true c8
     clear c8
     obtain rfl := Option.some.inj H
     have p9 : 0 ≤ ((ji6) : Int) := od_
     have q9 : (ji6) < (256 : Int) := od_
     have hx9 := bt_at (⟨#[0, 1, 2, 2, 3, 3, 3, 3, 4, 4, 4, 4, 4, 4, 4, 4, 5, 5, 5, 5, 5, 5, 5, 5, 5, 5, 5, 5, 5, 5, 5, 5, 6, 6, 6, 6, 6, 6, 6, 6, 6, 6, 6, 6, 6, 6, 6, 6, 6, 6, 6, 6, 6, 6, 6, 6, 6, 6, 6, 6, 6, 6, 6, 6, 7, 7, 7, 7, 7, 7, 7, 7, 7, 7, 7, 7, 7, 7, 7, 7, 7, 7, 7, 7, 7, 7, 7, 7, 7, 7, 7, 7, 7, 7, 7, 7, 7, 7, 7, 7, 7, 7, 7, 7, 7, 7, 7, 7, 7, 7, 7, 7, 7, 7, 7, 7, 7, 7, 7, 7, 7, 7, 7, 7, 7, 7, 7, 7, 8, 8, 8, 8, 8, 8, 8, 8, 8, 8, 8, 8, 8, 8, 8, 8, 8, 8, 8, 8, 8, 8, 8, 8, 8, 8, 8, 8, 8, 8, 8, 8, 8, 8, 8, 8, 8, 8, 8, 8, 8, 8, 8, 8, 8, 8, 8, 8, 8, 8, 8, 8, 8, 8, 8, 8, 8, 8, 8, 8, 8, 8, 8, 8, 8, 8, 8, 8, 8, 8, 8, 8, 8, 8, 8, 8, 8, 8, 8, 8, 8, 8, 8, 8, 8, 8, 8, 8, 8, 8, 8, 8, 8, 8, 8, 8, 8, 8, 8, 8, 8, 8, 8, 8, 8, 8, 8, 8, 8, 8, 8, 8, 8, 8, 8, 8, 8, 8, 8, 8, 8, 8, 8, 8, 8, 8, 8, 8]⟩ : ByteArray) (ji6)
     replace p9 := eq_true p9
     replace q9 := eq_true q9
     go_wp2
     go_ret
     exact ⟨by first | rfl | (simp; done) | (simp only [← hji6] <;> (first | rfl | simp)) | (simp [*]; done), by repeat (first | exact Drawn0.refl _ | apply Drawn0.step)⟩
    ·rw [if_neg c5] at H
     have c5b0 : decide (256 ≤ (x0_1 / 65536)) = false := decide_eq_false c5
     clear c5
     obtain ⟨ji10, hji10⟩ : ∃ j_ : Int, ((x0_1 / 65536) % 256) = j_ := ⟨_, rfl⟩
     first | rw [hji10] at H | simp only [hji10] at H
     obtain ⟨c11, H⟩ : (0 ≤ (ji10)) ∧ _ := it_ H
     have c11b0 := decide_eq_true c11
     clear c11
     obtain ⟨c12, H⟩ : ((ji10) < 256) ∧ _ := it_ H
     have c12b0 := decide_eq_true c12
     clear c12
     obtain rfl := Option.some.inj H
     have p13 : 0 ≤ ((ji10) : Int) := od_
     have q13 : (ji10) < (256 : Int) := od_
     have hx13 := bt_at (⟨#[0, 1, 2, 2, 3, 3, 3, 3, 4, 4, 4, 4, 4, 4, 4, 4, 5, 5, 5, 5, 5, 5, 5, 5, 5, 5, 5, 5, 5, 5, 5, 5, 6, 6, 6, 6, 6, 6, 6, 6, 6, 6, 6, 6, 6, 6, 6, 6, 6, 6, 6, 6, 6, 6, 6, 6, 6, 6, 6, 6, 6, 6, 6, 6, 7, 7, 7, 7, 7, 7, 7, 7, 7, 7, 7, 7, 7, 7, 7, 7, 7, 7, 7, 7, 7, 7, 7, 7, 7, 7, 7, 7, 7, 7, 7, 7, 7, 7, 7, 7, 7, 7, 7, 7, 7, 7, 7, 7, 7, 7, 7, 7, 7, 7, 7, 7, 7, 7, 7, 7, 7, 7, 7, 7, 7, 7, 7, 7, 8, 8, 8, 8, 8, 8, 8, 8, 8, 8, 8, 8, 8, 8, 8, 8, 8, 8, 8, 8, 8, 8, 8, 8, 8, 8, 8, 8, 8, 8, 8, 8, 8, 8, 8, 8, 8, 8, 8, 8, 8, 8, 8, 8, 8, 8, 8, 8, 8, 8, 8, 8, 8, 8, 8, 8, 8, 8, 8, 8, 8, 8, 8, 8, 8, 8, 8, 8, 8, 8, 8, 8, 8, 8, 8, 8, 8, 8, 8, 8, 8, 8, 8, 8, 8, 8, 8, 8, 8, 8, 8, 8, 8, 8, 8, 8, 8, 8, 8, 8, 8, 8, 8, 8, 8, 8, 8, 8, 8, 8, 8, 8, 8, 8, 8, 8, 8, 8, 8, 8, 8, 8, 8, 8, 8, 8, 8, 8]⟩ : ByteArray) (ji10)
     replace p13 := eq_true p13
     replace q13 := eq_true q13
     go_wp2
     go_ret
     exact ⟨by first | rfl | (simp; done) | (simp only [← hji10] <;> (first | rfl | simp)) | (simp [*]; done), by repeat (first | exact Drawn0.refl _ | apply Drawn0.step)⟩
   ·rw [if_neg c4] at H
    have c4b0 : decide (65536 ≤ x0_1) = false := decide_eq_false c4
    clear c4
    by_cases c14 : x0_1 ≥ 256
    ·rw [if_pos c14] at H
     have c14b0 : decide (256 ≤ x0_1) = true := decide_eq_true c14
     clear c14
     obtain ⟨ji15, hji15⟩ : ∃ j_ : Int, ((x0_1 / 256) % 256) = j_ := ⟨_, rfl⟩
     first | rw [hji15] at H | simp only [hji15] at H
     obtain ⟨c16, H⟩ : (0 ≤ (ji15)) ∧ _ := it_ H
     have c16b0 := decide_eq_true c16
     clear c16
     obtain ⟨c17, H⟩ : ((ji15) < 256) ∧ _ := it_ H
     have c17b0 := decide_eq_true c17
     clear c17
     obtain rfl := Option.some.inj H
     have p18 : 0 ≤ ((ji15) : Int) := od_
     have q18 : (ji15) < (256 : Int) := od_
     have hx18 := bt_at (⟨#[0, 1, 2, 2, 3, 3, 3, 3, 4, 4, 4, 4, 4, 4, 4, 4, 5, 5, 5, 5, 5, 5, 5, 5, 5, 5, 5, 5, 5, 5, 5, 5, 6, 6, 6, 6, 6, 6, 6, 6, 6, 6, 6, 6, 6, 6, 6, 6, 6, 6, 6, 6, 6, 6, 6, 6, 6, 6, 6, 6, 6, 6, 6, 6, 7, 7, 7, 7, 7, 7, 7, 7, 7, 7, 7, 7, 7, 7, 7, 7, 7, 7, 7, 7, 7, 7, 7, 7, 7, 7, 7, 7, 7, 7, 7, 7, 7, 7, 7, 7, 7, 7, 7, 7, 7, 7, 7, 7, 7, 7, 7, 7, 7, 7, 7, 7, 7, 7, 7, 7, 7, 7, 7, 7, 7, 7, 7, 7, 8, 8, 8, 8, 8, 8, 8, 8, 8, 8, 8, 8, 8, 8, 8, 8, 8, 8, 8, 8, 8, 8, 8, 8, 8, 8, 8, 8, 8, 8, 8, 8, 8, 8, 8, 8, 8, 8, 8, 8, 8, 8, 8, 8, 8, 8, 8, 8, 8, 8, 8, 8, 8, 8, 8, 8, 8, 8, 8, 8, 8, 8, 8, 8, 8, 8, 8, 8, 8, 8, 8, 8, 8, 8, 8, 8, 8, 8, 8, 8, 8, 8, 8, 8, 8, 8, 8, 8, 8, 8, 8, 8, 8, 8, 8, 8, 8, 8, 8, 8, 8, 8, 8, 8, 8, 8, 8, 8, 8, 8, 8, 8, 8, 8, 8, 8, 8, 8, 8, 8, 8, 8, 8, 8, 8, 8, 8, 8]⟩ : ByteArray) (ji15)
     replace p18 := eq_true p18
     replace q18 := eq_true q18
     go_wp2
     go_ret
     exact ⟨by first | rfl | (simp; done) | (simp only [← hji15] <;> (first | rfl | simp)) | (simp [*]; done), by repeat (first | exact Drawn0.refl _ | apply Drawn0.step)⟩
    ·rw [if_neg c14] at H
     have c14b0 : decide (256 ≤ x0_1) = false := decide_eq_false c14
     clear c14
     obtain ⟨ji19, hji19⟩ : ∃ j_ : Int, ((x0_1) % 256) = j_ := ⟨_, rfl⟩
     first | rw [hji19] at H | simp only [hji19] at H
     obtain ⟨c20, H⟩ : (0 ≤ (ji19)) ∧ _ := it_ H
     have c20b0 := decide_eq_true c20
     clear c20
     obtain ⟨c21, H⟩ : ((ji19) < 256) ∧ _ := it_ H
     have c21b0 := decide_eq_true c21
     clear c21
     obtain rfl := Option.some.inj H
     have p22 : 0 ≤ ((ji19) : Int) := od_
     have q22 : (ji19) < (256 : Int) := od_
     have hx22 := bt_at (⟨#[0, 1, 2, 2, 3, 3, 3, 3, 4, 4, 4, 4, 4, 4, 4, 4, 5, 5, 5, 5, 5, 5, 5, 5, 5, 5, 5, 5, 5, 5, 5, 5, 6, 6, 6, 6, 6, 6, 6, 6, 6, 6, 6, 6, 6, 6, 6, 6, 6, 6, 6, 6, 6, 6, 6, 6, 6, 6, 6, 6, 6, 6, 6, 6, 7, 7, 7, 7, 7, 7, 7, 7, 7, 7, 7, 7, 7, 7, 7, 7, 7, 7, 7, 7, 7, 7, 7, 7, 7, 7, 7, 7, 7, 7, 7, 7, 7, 7, 7, 7, 7, 7, 7, 7, 7, 7, 7, 7, 7, 7, 7, 7, 7, 7, 7, 7, 7, 7, 7, 7, 7, 7, 7, 7, 7, 7, 7, 7, 8, 8, 8, 8, 8, 8, 8, 8, 8, 8, 8, 8, 8, 8, 8, 8, 8, 8, 8, 8, 8, 8, 8, 8, 8, 8, 8, 8, 8, 8, 8, 8, 8, 8, 8, 8, 8, 8, 8, 8, 8, 8, 8, 8, 8, 8, 8, 8, 8, 8, 8, 8, 8, 8, 8, 8, 8, 8, 8, 8, 8, 8, 8, 8, 8, 8, 8, 8, 8, 8, 8, 8, 8, 8, 8, 8, 8, 8, 8, 8, 8, 8, 8, 8, 8, 8, 8, 8, 8, 8, 8, 8, 8, 8, 8, 8, 8, 8, 8, 8, 8, 8, 8, 8, 8, 8, 8, 8, 8, 8, 8, 8, 8, 8, 8, 8, 8, 8, 8, 8, 8, 8, 8, 8, 8, 8, 8, 8]⟩ : ByteArray) (ji19)
     replace p22 := eq_true p22
     replace q22 := eq_true q22
     go_wp2
     go_ret
     exact ⟨by first | rfl | (simp; done) | (simp only [← hji19] <;> (first | rfl | simp)) | (simp [*]; done), by repeat (first | exact Drawn0.refl _ | apply Drawn0.step)⟩

/-! ### bits_Len: function 55 -/
def bits_Len.f (k : Nat) (a0 : Int) : Option (Int) := (bits_Len64.f k a0).bind fun t233 => (some t233)
theorem bits_Len.mono : ∀ a0 k, LeO (bits_Len.f k a0) (bits_Len.f (k + 1) a0) := by
 intro a0 k
 unfold bits_Len.f
 with_reducible repeat' first | apply bits_Len64.mono | exact LeO.refl _ | exact LeO.none _ | refine LeO.ite ?_ ?_ | refine LeO.bind ?_ (fun _ => ?_)
set_option maxHeartbeats 8000000 in
set_option maxRecDepth 100000 in
theorem bits_Len.calls (k : Nat) (a0 : Int) (r : Int) (w : World) (h : bits_Len.f k a0 = some r) :
  Calls Tryd.prog 55 #[.int .u64 a0] w fun e w' => e = .returned (.int .i64 r) ∧ Drawn0 w w' := by
 have H : ((bits_Len64.f k a0).bind fun t233 => (some t233)) = some r := h
 clear h
 revert H
 refine bd_ fun t233 A2 H => ?_
 obtain rfl := Option.some.inj H
 go_enter Tryd.func55, Tryd.ntmps55
 go_wp2_with (first | ((with_reducible refine gate_callee (f := 69) rfl ?_); refine gl_ (some 7) Tryd.func69 #[.int .u64 a0] ?_; (with_reducible refine (bits_Len64.calls k a0 t233 _ A2.out).mono ?_); rintro e w' ⟨rfl, ⟨nd, rfl⟩⟩; refine ⟨_, rfl, ?_⟩))
 go_ret
 exact ⟨by first | rfl | (simp; done) | (simp [*]; done), by repeat (first | exact Drawn0.refl _ | apply Drawn0.step)⟩

end Go.Proofs.YtdjjdlkglinlgaaDoor.Q

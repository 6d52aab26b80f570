import Derived.Test.YtedapdagagkajaaDoorQ0
import Derived.Test.YtedapdagagkajaaDoorQ7
namespace Go.Proofs.YtedapdagagkajaaDoor.Q
open Go.RowKit Go.Proofs.YtedapdagagkajaaDoorW.PrintWords Go.Proofs.YtedapdagagkajaaDoorW.PrintLast Go.Proofs.YtedapdagagkajaaDoorW.PrintMore
open Kd (R_slice R_reads')
attribute [local go_sem] max2_int min2_int max_two min_two max_three min_three max_four min_four   -- for this text's walks alone
set_option linter.unusedVariables false
set_option linter.unusedSimpArgs false

def attestorref01_Reduce.f (a0 : Int) (a1 : Int) : Option (Int) := (attestorref01_Valid.f a0).bind fun t471 => (if t471 = true then ((attestorref01_P.f a0).bind fun t472 => (if t472 = 0 then (none) else (some (Int.tmod a1 t472)))) else (some 0))
set_option maxHeartbeats 8000000 in
set_option maxRecDepth 100000 in
theorem attestorref01_Reduce.calls (a0 : Int) (a1 : Int) (r : Int) (w : World) (h : attestorref01_Reduce.f a0 a1 = some r) :
  Calls Tryd.prog 68 #[.int .i64 a0, .int .u64 a1] w fun e w' => e = .returned (.int .u64 r) ∧ Drawn0 w w' := by
 have H := h
 clear h
 unfold attestorref01_Reduce.f at H
 revert H
 refine bd_ fun t471 A3 H => ?_
 by_cases c4 : t471 = true
 ·subst c4
  rw [if_pos rfl] at H
  revert H
  refine bd_ fun t472 A5 H => ?_
  by_cases c6 : t472 = 0
  ·rw [if_pos c6] at H
   exact absurd H (by simp)
  rw [if_neg c6] at H
  have c6b0 := beq_eq_false_iff_ne.mpr c6
  have c6b1 := bne_iff_ne.mpr c6
  obtain rfl := Option.some.inj H
  go_enter Tryd.func68, Tryd.ntmps68
  go_wp2_with (first | ((with_reducible refine gate_callee (f := 52) rfl ?_); refine gl_ (some 6) Tryd.func52 #[.int .i64 a0] ?_; (with_reducible refine (attestorref01_Valid.calls a0 true _ A3.out).mono ?_); rintro e w' ⟨rfl, ⟨nd, rfl⟩⟩; refine ⟨_, rfl, ?_⟩) | ((with_reducible refine gate_callee (f := 54) rfl ?_); refine gl_ (some 10) Tryd.func54 #[.int .i64 a0] ?_; (with_reducible refine (attestorref01_P.calls a0 t472 _ A5.out).mono ?_); rintro e w' ⟨rfl, ⟨nd, rfl⟩⟩; refine ⟨_, rfl, ?_⟩))
  go_ret
  exact ⟨by first | rfl | (simp; done) | (simp [*]; done), by repeat (first | exact Drawn0.refl _ | apply Drawn0.step)⟩
 replace c4 := Bool.eq_false_iff.mpr c4
 subst c4
 rw [if_neg (show ¬ (false = true) by decide)] at H
 obtain rfl := Option.some.inj H
 go_enter Tryd.func68, Tryd.ntmps68
 go_wp2_with (first | ((with_reducible refine gate_callee (f := 52) rfl ?_); refine gl_ (some 6) Tryd.func52 #[.int .i64 a0] ?_; (with_reducible refine (attestorref01_Valid.calls a0 false _ A3.out).mono ?_); rintro e w' ⟨rfl, ⟨nd, rfl⟩⟩; refine ⟨_, rfl, ?_⟩))
 go_ret
 exact ⟨by first | rfl | (simp; done) | (simp [*]; done), by repeat (first | exact Drawn0.refl _ | apply Drawn0.step)⟩

def attestorref01_Inv.f (k : Nat) (a0 : Int) (a1 : Int) : Option (Int) := (attestorref01_Valid.f a0).bind fun t473 => (if t473 = true then ((attestorref01_P.f a0).bind fun t474 => ((attestorref01_Pow.f k a0 a1 (IntKind.u64.wrap (t474 - 2))).bind fun t475 => (some t475))) else (some 0))
set_option maxHeartbeats 8000000 in
set_option maxRecDepth 100000 in
theorem attestorref01_Inv.calls (k : Nat) (a0 : Int) (a1 : Int) (r : Int) (w : World) (h : attestorref01_Inv.f k a0 a1 = some r) :
  Calls Tryd.prog 102 #[.int .i64 a0, .int .u64 a1] w fun e w' => e = .returned (.int .u64 r) ∧ Drawn0 w w' := by
 have H := h
 clear h
 unfold attestorref01_Inv.f at H
 revert H
 refine bd_ fun t473 A3 H => ?_
 by_cases c4 : t473 = true
 ·subst c4
  rw [if_pos rfl] at H
  revert H
  refine bd_ fun t474 A5 H => ?_
  revert H
  refine bd_ fun t475 A6 H => ?_
  obtain rfl := Option.some.inj H
  go_enter Tryd.func102, Tryd.ntmps102
  go_wp2_with (first | ((with_reducible refine gate_callee (f := 52) rfl ?_); refine gl_ (some 6) Tryd.func52 #[.int .i64 a0] ?_; (with_reducible refine (attestorref01_Valid.calls a0 true _ A3.out).mono ?_); rintro e w' ⟨rfl, ⟨nd, rfl⟩⟩; refine ⟨_, rfl, ?_⟩) | ((with_reducible refine gate_callee (f := 54) rfl ?_); refine gl_ (some 11) Tryd.func54 #[.int .i64 a0] ?_; (with_reducible refine (attestorref01_P.calls a0 t474 _ A5.out).mono ?_); rintro e w' ⟨rfl, ⟨nd, rfl⟩⟩; refine ⟨_, rfl, ?_⟩) | ((with_reducible refine gate_callee (f := 81) rfl ?_); refine gl_ (some 13) Tryd.func81 #[.int .i64 a0, .int .u64 a1, .int .u64 (IntKind.u64.wrap (t474 - 2))] ?_; (with_reducible refine (attestorref01_Pow.calls k a0 a1 (IntKind.u64.wrap (t474 - 2)) t475 _ A6.out).mono ?_); rintro e w' ⟨rfl, ⟨nd, rfl⟩⟩; refine ⟨_, rfl, ?_⟩))
  go_ret
  exact ⟨by first | rfl | (simp; done) | (simp [*]; done), by repeat (first | exact Drawn0.refl _ | apply Drawn0.step)⟩
 replace c4 := Bool.eq_false_iff.mpr c4
 subst c4
 rw [if_neg (show ¬ (false = true) by decide)] at H
 obtain rfl := Option.some.inj H
 go_enter Tryd.func102, Tryd.ntmps102
 go_wp2_with (first | ((with_reducible refine gate_callee (f := 52) rfl ?_); refine gl_ (some 6) Tryd.func52 #[.int .i64 a0] ?_; (with_reducible refine (attestorref01_Valid.calls a0 false _ A3.out).mono ?_); rintro e w' ⟨rfl, ⟨nd, rfl⟩⟩; refine ⟨_, rfl, ?_⟩))
 go_ret
 exact ⟨by first | rfl | (simp; done) | (simp [*]; done), by repeat (first | exact Drawn0.refl _ | apply Drawn0.step)⟩

def attestorref01_Div.f (k : Nat) (a0 : Int) (a1 : Int) (a2 : Int) : Option (Int) := (attestorref01_Inv.f k a0 a2).bind fun t476 => ((attestorref01_Mul.f a0 a1 t476).bind fun t477 => (some t477))
set_option maxHeartbeats 8000000 in
set_option maxRecDepth 100000 in
theorem attestorref01_Div.calls (k : Nat) (a0 : Int) (a1 : Int) (a2 : Int) (r : Int) (w : World) (h : attestorref01_Div.f k a0 a1 a2 = some r) :
  Calls Tryd.prog 99 #[.int .i64 a0, .int .u64 a1, .int .u64 a2] w fun e w' => e = .returned (.int .u64 r) ∧ Drawn0 w w' := by
 have H := h
 clear h
 unfold attestorref01_Div.f at H
 revert H
 refine bd_ fun t476 A4 H => ?_
 revert H
 refine bd_ fun t477 A5 H => ?_
 obtain rfl := Option.some.inj H
 go_enter Tryd.func99, Tryd.ntmps99
 go_wp2_with (first | ((with_reducible refine gate_callee (f := 102) rfl ?_); refine gl_ (some 11) Tryd.func102 #[.int .i64 a0, .int .u64 a2] ?_; (with_reducible refine (attestorref01_Inv.calls k a0 a2 t476 _ A4.out).mono ?_); rintro e w' ⟨rfl, ⟨nd, rfl⟩⟩; refine ⟨_, rfl, ?_⟩) | ((with_reducible refine gate_callee (f := 80) rfl ?_); refine gl_ (some 12) Tryd.func80 #[.int .i64 a0, .int .u64 a1, .int .u64 t476] ?_; (with_reducible refine (attestorref01_Mul.calls a0 a1 t476 t477 _ A5.out).mono ?_); rintro e w' ⟨rfl, ⟨nd, rfl⟩⟩; refine ⟨_, rfl, ?_⟩))
 go_ret
 exact ⟨by first | rfl | (simp; done) | (simp [*]; done), by repeat (first | exact Drawn0.refl _ | apply Drawn0.step)⟩

def attestorref01_Add.f (a0 : Int) (a1 : Int) (a2 : Int) : Option (Int) := (attestorref01_Valid.f a0).bind fun t478 => (if t478 = true then ((attestorref01_P.f a0).bind fun t479 => (if t479 = 0 then (none) else (some (Int.tmod (IntKind.u64.wrap ((Int.tmod a1 t479) + (Int.tmod a2 t479))) t479)))) else (some 0))
set_option maxHeartbeats 8000000 in
set_option maxRecDepth 100000 in
theorem attestorref01_Add.calls (a0 : Int) (a1 : Int) (a2 : Int) (r : Int) (w : World) (h : attestorref01_Add.f a0 a1 a2 = some r) :
  Calls Tryd.prog 100 #[.int .i64 a0, .int .u64 a1, .int .u64 a2] w fun e w' => e = .returned (.int .u64 r) ∧ Drawn0 w w' := by
 have H := h
 clear h
 unfold attestorref01_Add.f at H
 revert H
 refine bd_ fun t478 A4 H => ?_
 by_cases c5 : t478 = true
 ·subst c5
  rw [if_pos rfl] at H
  revert H
  refine bd_ fun t479 A6 H => ?_
  by_cases c7 : t479 = 0
  ·rw [if_pos c7] at H
   exact absurd H (by simp)
  rw [if_neg c7] at H
  have c7b0 := beq_eq_false_iff_ne.mpr c7
  have c7b1 := bne_iff_ne.mpr c7
  obtain rfl := Option.some.inj H
  go_enter Tryd.func100, Tryd.ntmps100
  go_wp2_with (first | (go_at_call 52; (with_reducible refine (attestorref01_Valid.calls a0 true _ A4.out).mono ?_); rintro e w' ⟨rfl, ⟨nd, rfl⟩⟩; (try first | exact ⟨rfl, _, World.drewN_drewN _ _ _⟩ | exact ⟨rfl, _, dd_⟩)) | (go_at_call 54; (with_reducible refine (attestorref01_P.calls a0 t479 _ A6.out).mono ?_); rintro e w' ⟨rfl, ⟨nd, rfl⟩⟩; (try first | exact ⟨rfl, _, World.drewN_drewN _ _ _⟩ | exact ⟨rfl, _, dd_⟩)))
  repeat (go_quiet (first | (go_at_call 52; (with_reducible refine (attestorref01_Valid.calls a0 true _ A4.out).mono ?_); rintro e w' ⟨rfl, ⟨nd, rfl⟩⟩; (try first | exact ⟨rfl, _, World.drewN_drewN _ _ _⟩ | exact ⟨rfl, _, dd_⟩)) | (go_at_call 54; (with_reducible refine (attestorref01_P.calls a0 t479 _ A6.out).mono ?_); rintro e w' ⟨rfl, ⟨nd, rfl⟩⟩; (try first | exact ⟨rfl, _, World.drewN_drewN _ _ _⟩ | exact ⟨rfl, _, dd_⟩))); try go_wp2_with (first | (go_at_call 52; (with_reducible refine (attestorref01_Valid.calls a0 true _ A4.out).mono ?_); rintro e w' ⟨rfl, ⟨nd, rfl⟩⟩; (try first | exact ⟨rfl, _, World.drewN_drewN _ _ _⟩ | exact ⟨rfl, _, dd_⟩)) | (go_at_call 54; (with_reducible refine (attestorref01_P.calls a0 t479 _ A6.out).mono ?_); rintro e w' ⟨rfl, ⟨nd, rfl⟩⟩; (try first | exact ⟨rfl, _, World.drewN_drewN _ _ _⟩ | exact ⟨rfl, _, dd_⟩))))
  go_ret
  exact ⟨by first | rfl | (simp; done) | (simp [*]; done), by repeat (first | exact Drawn0.refl _ | apply Drawn0.step)⟩
 replace c5 := Bool.eq_false_iff.mpr c5
 subst c5
 rw [if_neg (show ¬ (false = true) by decide)] at H
 obtain rfl := Option.some.inj H
 go_enter Tryd.func100, Tryd.ntmps100
 go_wp2_with (first | (go_at_call 52; (with_reducible refine (attestorref01_Valid.calls a0 false _ A4.out).mono ?_); rintro e w' ⟨rfl, ⟨nd, rfl⟩⟩; (try first | exact ⟨rfl, _, World.drewN_drewN _ _ _⟩ | exact ⟨rfl, _, dd_⟩)))
 repeat (go_quiet (first | (go_at_call 52; (with_reducible refine (attestorref01_Valid.calls a0 false _ A4.out).mono ?_); rintro e w' ⟨rfl, ⟨nd, rfl⟩⟩; (try first | exact ⟨rfl, _, World.drewN_drewN _ _ _⟩ | exact ⟨rfl, _, dd_⟩))); try go_wp2_with (first | (go_at_call 52; (with_reducible refine (attestorref01_Valid.calls a0 false _ A4.out).mono ?_); rintro e w' ⟨rfl, ⟨nd, rfl⟩⟩; (try first | exact ⟨rfl, _, World.drewN_drewN _ _ _⟩ | exact ⟨rfl, _, dd_⟩))))
 go_ret
 exact ⟨by first | rfl | (simp; done) | (simp [*]; done), by repeat (first | exact Drawn0.refl _ | apply Drawn0.step)⟩

def attestorref03_Eval.l0 : Nat → Int → List Int → Int → Int → Int → Int → Option (Int)
 | 0, _, _, _, _, _, _ => none
 | k + 1, x0, x1, x2, x7, x8, x9 => if x9 < (x1.length : Int) then (if 0 ≤ x9 then ((attestorref01_Mul.f x0 (rd x1 x9) x8).bind fun t495 => ((attestorref01_Add.f x0 x7 t495).bind fun t496 => ((attestorref01_Mul.f x0 x8 x2).bind fun t497 => (attestorref03_Eval.l0 k x0 x1 x2 t496 t497 (wrap64 (x9 + 1)))))) else (none)) else (some x7)
def attestorref03_Eval.f (k : Nat) (a0 : Int) (l1 : List Int) (a2 : Int) : Option (Int) := attestorref03_Eval.l0 k a0 l1 a2 0 1 0
set_option maxHeartbeats 8000000 in
set_option maxRecDepth 100000 in
theorem attestorref03_Eval.calls (k : Nat) (a0 : Int) (A1 : Option Addr) (c1 : Nat) (l1 : List Int) (a2 : Int) (r : Int) (w : World) (hr1 : Kd.C (Kd.int .u64) w A1 l1.length l1) (hc1 : l1.length ≤ c1) (h : attestorref03_Eval.f k a0 l1 a2 = some r) :
  Calls Tryd.prog 67 #[.int .i64 a0, .slice A1 l1.length c1, .int .u64 a2] w fun e w' => e = .returned (.int .u64 r) ∧ Drawn0 w w' := by
 have HR1 := ak hr1
 have HC1 := ak hc1
 clear hr1 hc1
 have H : (attestorref03_Eval.l0 k a0 l1 a2 0 1 0) = some r := h
 clear h
 have H' := ak H
 clear H
 go_enter Tryd.func67, Tryd.ntmps67
 go_wp2
 go_loopg [7, 8, 9] k (fun kq v7 v8 v9 w' => ∃ (x7_1 : Int) (x8_1 : Int) (x9_1 : Int), v7 = .int .u64 x7_1 ∧ v8 = .int .u64 x8_1 ∧ v9 = .int .i64 x9_1 ∧ Aside0 (attestorref03_Eval.l0 kq a0 l1 a2 x7_1 x8_1 x9_1 = some r) ∧ Aside0 (kq ≤ k) ∧ Drawn0 w w')
 case atStart => exact ⟨(0), (1), (0), gb_, gb_, gb_, H', ⟨Nat.le_refl _⟩, by repeat (first | exact Drawn0.refl _ | apply Drawn0.step)⟩
 case round =>
  clear H'
  (try clear c1); (try clear p2)
  obtain ⟨x7_1, x8_1, x9_1, rfl, rfl, rfl, HA, HK1, ⟨m1, rfl⟩⟩ := hrel
  cases gk with
  | zero => exact absurd HA.out (by simp [attestorref03_Eval.l0])
  | succ k1 =>
   have H := HA.out
   clear HA
   simp only [attestorref03_Eval.l0] at H
   by_cases c4 : x9_1 < (l1.length : Int)
   ·rw [if_pos c4] at H
    have c4b0 := decide_eq_true c4
    clear c4
    obtain ⟨c5, H⟩ : (0 ≤ x9_1) ∧ _ := it_ H
    have c5b0 := decide_eq_true c5
    clear c5
    revert H
    refine bd_ fun t495 A6 H => ?_
    revert H
    refine bd_ fun t496 A7 H => ?_
    revert H
    refine bd_ fun t497 A8 H => ?_
    have H' := ak H
    clear H
    have p494 : 0 ≤ (x9_1 : Int) := od_
    have q494 : x9_1 < (l1.length : Int) := od_
    obtain ⟨ad494, e494, hx494_0⟩ := Kd.at_int HR1.out x9_1 p494 q494
    cases e494
    replace p494 := eq_true p494
    replace q494 := eq_true q494
    go_wp2_with (first | ((with_reducible refine gate_callee (f := 80) rfl ?_); refine gl_ (some 24) Tryd.func80 #[.int .i64 a0, .int .u64 (rd l1 x9_1), .int .u64 x8_1] ?_; (with_reducible refine (attestorref01_Mul.calls a0 (rd l1 x9_1) x8_1 t495 _ A6.out).mono ?_); rintro e w' ⟨rfl, ⟨nd, rfl⟩⟩; refine ⟨_, rfl, ?_⟩) | ((with_reducible refine gate_callee (f := 100) rfl ?_); refine gl_ (some 25) Tryd.func100 #[.int .i64 a0, .int .u64 x7_1, .int .u64 t495] ?_; (with_reducible refine (attestorref01_Add.calls a0 x7_1 t495 t496 _ A7.out).mono ?_); rintro e w' ⟨rfl, ⟨nd, rfl⟩⟩; refine ⟨_, rfl, ?_⟩) | ((with_reducible refine gate_callee (f := 80) rfl ?_); refine gl_ (some 29) Tryd.func80 #[.int .i64 a0, .int .u64 x8_1, .int .u64 a2] ?_; (with_reducible refine (attestorref01_Mul.calls a0 x8_1 a2 t497 _ A8.out).mono ?_); rintro e w' ⟨rfl, ⟨nd, rfl⟩⟩; refine ⟨_, rfl, ?_⟩))
    go_roundg k1
    case measure => have := HK1.out; omega
    case rel => exact ⟨(t496), (t497), (wrap64 (x9_1 + 1)), gb_, gb_, gb_, H', ⟨by have := HK1.out; omega⟩, by repeat (first | exact Drawn0.refl _ | apply Drawn0.step)⟩
   rw [if_neg c4] at H
   have c4b0 := decide_eq_false c4
   clear c4
   obtain rfl := Option.some.inj H
   go_wp2
   go_ret
   exact ⟨by first | rfl | (simp; done) | (simp [*]; done), by repeat (first | exact Drawn0.refl _ | apply Drawn0.step)⟩

mutual
def attestorref03_Normal.l0 : Nat → Int → List Int → List Int → Int → Option (List Int)
 | 0, _, _, _, _ => none
 | k + 1, x0, x1, x5, x6 => if x6 < (x1.length : Int) then (if 0 ≤ x6 then ((attestorref01_Reduce.f x0 (rd x1 x6)).bind fun t500 => (if x5.length < 17592186044416 then (attestorref03_Normal.l0 k x0 x1 (x5 ++ [t500]) (wrap64 (x6 + 1))) else (none))) else (none)) else (attestorref03_Normal.l1 k x5 (x5.length : Int))
def attestorref03_Normal.l1 : Nat → List Int → Int → Option (List Int)
 | 0, _, _ => none
 | k + 1, x5, x7 => if x7 > 0 then (if 0 ≤ (wrap64 (x7 - 1)) then (if (wrap64 (x7 - 1)) < (x5.length : Int) then (if (rd x5 (wrap64 (x7 - 1))) = 0 then (attestorref03_Normal.l1 k x5 (wrap64 (x7 - 1))) else (if 0 ≤ x7 then (if x7 ≤ (x5.length : Int) then (some (x5.take (x7 : Int).toNat)) else (none)) else (none))) else (none)) else (none)) else (if 0 ≤ x7 then (if x7 ≤ (x5.length : Int) then (some (x5.take (x7 : Int).toNat)) else (none)) else (none))
end
def attestorref03_Normal.f (k : Nat) (a0 : Int) (l1 : List Int) : Option (List Int) := (attestorref01_Valid.f a0).bind fun t498 => (if t498 = true then (attestorref03_Normal.l0 k a0 l1 ([] : List Int) 0) else (some ([] : List Int)))
set_option maxHeartbeats 8000000 in
set_option maxRecDepth 100000 in
theorem attestorref03_Normal.calls (k : Nat) (a0 : Int) (A1 : Option Addr) (c1 : Nat) (l1 : List Int) (r : List Int) (w : World) (hr1 : Kd.C (Kd.int .u64) w A1 l1.length l1) (hc1 : l1.length ≤ c1) (h : attestorref03_Normal.f k a0 l1 = some r) :
  Calls Tryd.prog 71 #[.int .i64 a0, .slice A1 l1.length c1] w fun e w' => ∃ v0_ : Value, e = .returned (v0_) ∧ Kd.R (Kd.int .u64) 22 w' w.heap.size (fun _ => True) v0_ r ∧ Below w.heap.size w w' := by
 have HR1 := ak hr1
 have HC1 := ak hc1
 clear hr1 hc1
 have HB := ak (Below.refl w.heap.size w)
 have H := h
 clear h
 unfold attestorref03_Normal.f at H
 revert H
 refine bd_ fun t498 A3 H => ?_
 by_cases c4 : t498 = true
 ·subst c4
  rw [if_pos rfl] at H
  have H' := ak H
  clear H
  go_enter Tryd.func71, Tryd.ntmps71
  go_wp2_with (first | ((with_reducible refine gate_callee (f := 52) rfl ?_); refine gl_ (some 9) Tryd.func52 #[.int .i64 a0] ?_; (with_reducible refine (attestorref01_Valid.calls a0 true _ A3.out).mono ?_); rintro e w' ⟨rfl, ⟨nd, rfl⟩⟩; refine ⟨_, rfl, ?_⟩))
  go_loopg [5, 6] k (fun kq v5 v6 w' => ∃ (x5_1 : List Int) (x6_1 : Int), v6 = .int .i64 x6_1 ∧ Aside0 (attestorref03_Normal.l0 kq a0 l1 x5_1 x6_1 = some r) ∧ Aside0 (kq ≤ k) ∧ Aside0 (Kd.R (Kd.int .u64) 22 w' w.heap.size (fun _ => True) v5 x5_1) ∧ Aside0 (Below w.heap.size w w'))
  case atStart => exact ⟨(([] : List Int)), (0), gb_, H', ⟨Nat.le_refl _⟩, ⟨by first | exact Kd.R_nil _ _ _ _ _ | exact Kd.N_nil _ _ _ _ _ | exact Kd.V_nil _ _ _ _ _ | exact Kd.Q_nil _ _ _ _ _ | exact Kd.S_nil _ _ _ _ _⟩, ⟨bU_ HB.out⟩⟩
  case round =>
   clear H'
   (try clear c1); (try clear p2); (try clear c4)
   obtain ⟨x5_1, x6_1, rfl, HA, HK1, HO_5, HB⟩ := hrel
   cases gk with
   | zero => exact absurd HA.out (by simp [attestorref03_Normal.l0])
   | succ k1 =>
    have H := HA.out
    clear HA
    simp only [attestorref03_Normal.l0] at H
    by_cases c5 : x6_1 < (l1.length : Int)
    ·rw [if_pos c5] at H
     have c5b0 := decide_eq_true c5
     clear c5
     obtain ⟨c6, H⟩ : (0 ≤ x6_1) ∧ _ := it_ H
     have c6b0 := decide_eq_true c6
     clear c6
     revert H
     refine bd_ fun t500 A7 H => ?_
     obtain ⟨c8, H⟩ : (x5_1.length < 17592186044416) ∧ _ := it_ H
     have LMc8 := ak c8
     clear c8
     obtain ⟨y501, hy501⟩ : ∃ y_ : List Int, y_ = (x5_1 ++ [t500]) := ⟨_, rfl⟩
     first | rw [Option.bind_some, ← hy501] at H | rw [← hy501] at H
     have Ny501 := ak hy501
     clear hy501
     have H' := ak H
     clear H
     have p499 : 0 ≤ (x6_1 : Int) := od_
     have q499 : x6_1 < (l1.length : Int) := od_
     obtain ⟨ad499, e499, hx499_0⟩ := Kd.at_int HR1.out x6_1 p499 q499
     cases e499
     replace hx499_0 := (HB.out.cell (World.block_lt_of_cell? w _ hx499_0)).trans hx499_0
     replace p499 := eq_true p499
     replace q499 := eq_true q499
     go_wp2_with (first | ((with_reducible refine gate_callee (f := 68) rfl ?_); refine gl_ (some 24) Tryd.func68 #[.int .i64 a0, .int .u64 (rd l1 x6_1)] ?_; (with_reducible refine (attestorref01_Reduce.calls a0 (rd l1 x6_1) t500 _ A7.out).mono ?_); rintro e w' ⟨rfl, ⟨nd, rfl⟩⟩; refine ⟨_, rfl, ?_⟩) | ((with_reducible refine gate_builtin (b := .append) (xs := #[.tmp 18, .tmp 25]) rfl ?_); at_builtin; refine Kd.R_append (Kd.int .u64) (w0 := w) w.heap.size rfl (.tmp 18) (.tmp 25) 33 22 (.int .u64 0) 8 rfl Tryd.underlying33 info22 rfl (by decide) (by omega) u5 x5_1 t500 [.int .u64 t500] (fun _ => True) (fun _ => False) rfl rfl ?aP (fun _ hk => hk.elim) ?aF ?aO ?aB ?aS ?aL ?_; (case aP => exact rfl); (case aB => exact (bU_ HB.out)); (case aF => exact (fun _ _ => trivial)); (case aO => exact (rU_ HO_5.out)); (case aS => exact (below_size (bU_ HB.out))); (case aL => have := LMc8.out; omega); intro v502 w9 ho hb hg hat; rw [← Ny501.out] at ho; refine nx2_ (hb) (ho) ?_; clear HB HO_5; intro HB HO503; clear ho hb hg hat))
     go_roundg k1
     case measure => have := HK1.out; omega
     case rel => exact ⟨(y501), (wrap64 (x6_1 + 1)), gb_, H', ⟨by have := HK1.out; omega⟩, ⟨rU_ HO503.out⟩, ⟨bU_ HB.out⟩⟩
    rw [if_neg c5] at H
    have c5b0 := decide_eq_false c5
    clear c5
    have H' := ak H
    clear H
    obtain ⟨Ao10, co10, eo10⟩ := R_slice HO_5.out
    subst eo10
    go_wp2
    go_loopg [7] k1 (fun kq v7 w' => ∃ (x7_2 : Int), v7 = .int .i64 x7_2 ∧ Aside0 (attestorref03_Normal.l1 kq x5_1 x7_2 = some r) ∧ Aside0 (kq ≤ k1) ∧ Aside0 (Kd.R (Kd.int .u64) 22 w' w.heap.size (fun _ => True) (.slice Ao10 x5_1.length co10) x5_1) ∧ Aside0 (Below w.heap.size w w'))
    case atStart => exact ⟨((x5_1.length : Int)), gb_, H', ⟨Nat.le_refl _⟩, ⟨rU_ HO_5.out⟩, ⟨bU_ HB.out⟩⟩
    case round =>
     clear H'
     (try clear c1); (try clear p2); (try clear c4); (try clear p4); (try clear q4); (try clear hx4); (try clear c5); (try clear c5b0); (try clear c6); (try clear c6b0); (try clear p6); (try clear c7); (try clear c8); (try clear hx499_0); (try clear p499); (try clear q499)
     obtain ⟨x7_2, rfl, HA, HK2, HO_5, HB⟩ := hrel
     cases gk with
     | zero => exact absurd HA.out (by simp [attestorref03_Normal.l1])
     | succ k2 =>
      have H := HA.out
      clear HA
      simp only [attestorref03_Normal.l1] at H
      by_cases c11 : x7_2 > 0
      ·rw [if_pos c11] at H
       have c11b0 : decide (0 < x7_2) = true := decide_eq_true c11
       clear c11
       obtain ⟨ji12, hji12⟩ : ∃ j_ : Int, (wrap64 (x7_2 - 1)) = j_ := ⟨_, rfl⟩
       first | rw [hji12] at H | simp only [hji12] at H
       have hji12w : (IntKind.i64.wrap (x7_2 - 1)) = ji12 := (i64_w _).trans hji12
       obtain ⟨c13, H⟩ : (0 ≤ (ji12)) ∧ _ := it_ H
       have c13b0 := decide_eq_true c13
       clear c13
       obtain ⟨c14, H⟩ : ((ji12) < (x5_1.length : Int)) ∧ _ := it_ H
       have c14b0 := decide_eq_true c14
       clear c14
       by_cases c15 : (rd x5_1 (ji12)) = 0
       ·rw [if_pos c15] at H
        have c15b0 := beq_iff_eq.mpr c15
        have c15b1 := bne_eq_false_iff_eq.mpr c15
        clear c15
        have H' := ak H
        clear H
        have p504 : 0 ≤ ((ji12) : Int) := od_
        have q504 : (ji12) < (x5_1.length : Int) := od_
        obtain ⟨ad504, e504, hx504_0⟩ := Kd.at_int (R_reads' HO_5.out).2.2 (ji12) p504 q504
        cases e504
        replace p504 := eq_true p504
        replace q504 := eq_true q504
        go_wp2
        go_roundg k2
        case measure => have := HK1.out; have := HK2.out; omega
        case rel => exact ⟨(ji12), (by first | rfl | (simp; done) | (simp only [← hji12] <;> (first | rfl | simp)) | (simp [*]; done)), H', ⟨by have := HK1.out; have := HK2.out; omega⟩, ⟨rU_ HO_5.out⟩, ⟨bU_ HB.out⟩⟩
       rw [if_neg c15] at H
       have c15b0 := beq_eq_false_iff_ne.mpr c15
       have c15b1 := bne_iff_ne.mpr c15
       obtain ⟨c16, H⟩ : (0 ≤ x7_2) ∧ _ := it_ H
       have c16b0 := eq_true c16
       have c16b1 := decide_eq_true c16
       clear c16
       obtain ⟨c17, H⟩ : (x7_2 ≤ (x5_1.length : Int)) ∧ _ := it_ H
       have c17b0 := eq_true c17
       have c17b1 := decide_eq_true c17
       clear c17
       obtain ⟨y505, hy505⟩ : ∃ y_ : List Int, y_ = (x5_1.take (x7_2 : Int).toNat) := ⟨_, rfl⟩
       first | rw [Option.bind_some, ← hy505] at H | rw [← hy505] at H
       have Ny505 := ak hy505
       clear hy505
       obtain rfl := Option.some.inj H
       have p504 : 0 ≤ ((ji12) : Int) := od_
       have q504 : (ji12) < (x5_1.length : Int) := od_
       obtain ⟨ad504, e504, hx504_0⟩ := Kd.at_int (R_reads' HO_5.out).2.2 (ji12) p504 q504
       cases e504
       replace p504 := eq_true p504
       replace q504 := eq_true q504
       have q18 : (x7_2 : Int) ≤ ((x5_1.length : Int) : Int) := od_
       obtain ⟨i018, hi018, _, hsz18, _⟩ := info_parts info22
       have hcut18 := cut_to (P := Tryd.prog) 33 22 .i64 Tryd.underlying33 hi018 (some ad504) x5_1.length co10 x7_2 od_ q18 (R_reads' HO_5.out).2.1
       have hr18 := Kd.R_take (m := (x7_2 : Int).toNat) HO_5.out (by omega)
       have hy18 : y505.length = (x7_2 : Int).toNat := (by rw [Ny505.out, List.length_take]; omega)
       rw [← Ny505.out] at hr18
       rw [← hy18] at hr18 hcut18
       clear hy18 hi018 hsz18 HO_5
       have HO507 := ak hr18
       clear hr18
       replace q18 := eq_true q18
       go_wp2
       go_ret
       exact ⟨_, by first | rfl | (simp [errW_none, errW_some] <;> rfl) | (simp only [← hji12]; first | rfl | (simp [errW_none, errW_some] <;> rfl)) | (simp [*, errW_none, errW_some] <;> rfl), rU_ HO507.out, bU_ HB.out⟩
      rw [if_neg c11] at H
      have c11b0 : decide (0 < x7_2) = false := decide_eq_false c11
      clear c11
      obtain ⟨c19, H⟩ : (0 ≤ x7_2) ∧ _ := it_ H
      have c19b0 := eq_true c19
      have c19b1 := decide_eq_true c19
      clear c19
      obtain ⟨c20, H⟩ : (x7_2 ≤ (x5_1.length : Int)) ∧ _ := it_ H
      have c20b0 := eq_true c20
      have c20b1 := decide_eq_true c20
      clear c20
      obtain ⟨y508, hy508⟩ : ∃ y_ : List Int, y_ = (x5_1.take (x7_2 : Int).toNat) := ⟨_, rfl⟩
      first | rw [Option.bind_some, ← hy508] at H | rw [← hy508] at H
      have Ny508 := ak hy508
      clear hy508
      obtain rfl := Option.some.inj H
      have q21 : (x7_2 : Int) ≤ ((x5_1.length : Int) : Int) := od_
      obtain ⟨i021, hi021, _, hsz21, _⟩ := info_parts info22
      have hcut21 := cut_to (P := Tryd.prog) 33 22 .i64 Tryd.underlying33 hi021 Ao10 x5_1.length co10 x7_2 od_ q21 (R_reads' HO_5.out).2.1
      have hr21 := Kd.R_take (m := (x7_2 : Int).toNat) HO_5.out (by omega)
      have hy21 : y508.length = (x7_2 : Int).toNat := (by rw [Ny508.out, List.length_take]; omega)
      rw [← Ny508.out] at hr21
      rw [← hy21] at hr21 hcut21
      clear hy21 hi021 hsz21 HO_5
      have HO510 := ak hr21
      clear hr21
      replace q21 := eq_true q21
      go_wp2
      go_ret
      exact ⟨_, eW_, rU_ HO510.out, bU_ HB.out⟩
 replace c4 := Bool.eq_false_iff.mpr c4
 subst c4
 rw [if_neg (show ¬ (false = true) by decide)] at H
 obtain rfl := Option.some.inj H
 go_enter Tryd.func71, Tryd.ntmps71
 go_wp2_with (first | ((with_reducible refine gate_callee (f := 52) rfl ?_); refine gl_ (some 9) Tryd.func52 #[.int .i64 a0] ?_; (with_reducible refine (attestorref01_Valid.calls a0 false _ A3.out).mono ?_); rintro e w' ⟨rfl, ⟨nd, rfl⟩⟩; refine ⟨_, rfl, ?_⟩))
 go_ret
 exact ⟨_, eW_, by first | exact Kd.R_nil _ _ _ _ _ | exact Kd.N_nil _ _ _ _ _ | exact Kd.V_nil _ _ _ _ _ | exact Kd.Q_nil _ _ _ _ _ | exact Kd.S_nil _ _ _ _ _, bU_ HB.out⟩

end Go.Proofs.YtedapdagagkajaaDoor.Q

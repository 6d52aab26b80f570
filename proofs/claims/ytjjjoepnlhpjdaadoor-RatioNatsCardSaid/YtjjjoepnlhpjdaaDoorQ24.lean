-- Written by prx.py (this session's driver of the kit's print) out of the translation. Not trusted: Lean checks it.
import Derived.Test.YtjjjoepnlhpjdaaDoorQ0
import Derived.Test.YtjjjoepnlhpjdaaDoorQ1
import Derived.Test.YtjjjoepnlhpjdaaDoorQ3
import Derived.Test.YtjjjoepnlhpjdaaDoorQ4
import Derived.Test.YtjjjoepnlhpjdaaDoorQ6
import Derived.Test.YtjjjoepnlhpjdaaDoorQ7
import Derived.Test.YtjjjoepnlhpjdaaDoorQ9
import Derived.Test.YtjjjoepnlhpjdaaDoorQ17
import Derived.Test.YtjjjoepnlhpjdaaDoorQ19
import Derived.Test.YtjjjoepnlhpjdaaDoorQ21
import Derived.Test.YtjjjoepnlhpjdaaDoorQ23
namespace Go.Proofs.YtjjjoepnlhpjdaaDoor.Q
open Go.RowKit Go.Proofs.YtjjjoepnlhpjdaaDoorW.PrintWords Go.Proofs.YtjjjoepnlhpjdaaDoorW.PrintLast Go.Proofs.YtjjjoepnlhpjdaaDoorW.PrintMore
attribute [local go_sem] max2_int min2_int max_two min_two max_three min_three max_four min_four   -- for this text's walks alone
set_option linter.unusedVariables false
set_option linter.unusedSimpArgs false

/-! ### attestorref02_Value: function 47 -/
mutual
def attestorref02_Value.j0 : Nat → List Int → Bool → Option (Int × Bool)
 | 0, _, _ => none
 | k + 1, x0, x13 => if x13 = true then (some (0, false)) else (attestorref02_Value.l0 k x0 0 (wrap64 ((x0.length : Int) - 1)))
def attestorref02_Value.l0 : Nat → List Int → Int → Int → Option (Int × Bool)
 | 0, _, _, _ => none
 | k + 1, x0, x4, x5 => if x5 ≥ 0 then (if 0 ≤ x5 then (if x5 < (x0.length : Int) then (attestorref02_Value.l0 k x0 (IntKind.u64.wrap ((IntKind.u64.wrap (x4 * 4294967296)) + (IntKind.u64.wrap (rd x0 x5)))) (wrap64 (x5 - 1))) else (none)) else (none)) else (some (x4, true))
end
def attestorref02_Value.f (k : Nat) (l0 : List Int) : Option (Int × Bool) := (attestorref02_ValidNat.f l0).bind fun t1181 => (if t1181 = true then (attestorref02_Value.j0 k l0 (decide ((l0.length : Int) > 2))) else (attestorref02_Value.j0 k l0 true))
set_option maxHeartbeats 8000000 in
set_option maxRecDepth 100000 in
theorem attestorref02_Value.calls (k : Nat) (A0 : Option Addr) (c0 : Nat) (l0 : List Int) (r1 : Int) (r2 : Bool) (w : World) (hr0 : Kd.C (Kd.int .u32) w A0 l0.length l0) (hc0 : l0.length ≤ c0) (h : attestorref02_Value.f k l0 = some (r1, r2)) :
  Calls Tryd.prog 47 #[.slice A0 l0.length c0] w fun e w' => e = .returned (.tuple #[.int .u64 r1, .bool r2]) ∧ Drawn0 w w' := by
 have HR0 := ak hr0
 have HC0 := ak hc0
 clear hr0 hc0
 have H : ((attestorref02_ValidNat.f l0).bind fun t1181 => (if t1181 = true then (attestorref02_Value.j0 k l0 (decide ((l0.length : Int) > 2))) else (attestorref02_Value.j0 k l0 true))) = some (r1, r2) := h
 clear h
 have HC2 := ak H
 clear H
 go_enter Tryd.func47, Tryd.ntmps47
 go_upto_region 1 with (fail)
 go_cut [13] (fun v13 wc => ∃ (kq : Nat) (x13_1 : Bool), v13 = .bool x13_1 ∧ Aside0 (attestorref02_Value.j0 kq l0 x13_1 = some (r1, r2)) ∧ Aside0 (kq ≤ k) ∧ Drawn0 w wc)
 case first =>
  have H := HC2.out
  clear HC2
  revert H
  refine bd_ fun t1181 A3 H => ?_
  by_cases c4 : t1181 = true
  ·subst c4
   rw [if_pos rfl] at H
   have H' := ak H
   clear H
   go_wp2_with (first | ((with_reducible refine gate_callee (f := 48) rfl ?_); refine gl_ (some 7) Tryd.func48 #[.slice A0 l0.length c0] ?_; (with_reducible refine (attestorref02_ValidNat.calls _ _ l0 true _ ?side1 ?side2 A3.out).mono ?_); (case side1 => exact cU_ HR0.out); (case side2 => exact HC0.out); rintro e w' ⟨rfl, ⟨nd, rfl⟩⟩; refine ⟨_, rfl, ?_⟩))
   go_meet
   case rel => exact ⟨_, (decide ((l0.length : Int) > 2)), gb_, H', ⟨by first | omega | exact Nat.le_refl _⟩, by repeat (first | exact Drawn0.refl _ | apply Drawn0.step)⟩
  ·replace c4 := Bool.eq_false_iff.mpr c4
   subst c4
   rw [if_neg (show ¬ (false = true) by decide)] at H
   have H' := ak H
   clear H
   go_wp2_with (first | ((with_reducible refine gate_callee (f := 48) rfl ?_); refine gl_ (some 7) Tryd.func48 #[.slice A0 l0.length c0] ?_; (with_reducible refine (attestorref02_ValidNat.calls _ _ l0 false _ ?side1 ?side2 A3.out).mono ?_); (case side1 => exact cU_ HR0.out); (case side2 => exact HC0.out); rintro e w' ⟨rfl, ⟨nd, rfl⟩⟩; refine ⟨_, rfl, ?_⟩))
   go_meet
   case rel => exact ⟨_, (true), gb_, H', ⟨by first | omega | exact Nat.le_refl _⟩, by repeat (first | exact Drawn0.refl _ | apply Drawn0.step)⟩
 case rest =>
  clear HC2
  (try clear p2); (try clear c4)
  obtain ⟨kq, x13_1, rfl, HA, HJ1, ⟨mc1, rfl⟩⟩ := hcut
  cases kq with
  | zero => exact absurd HA.out (by simp [attestorref02_Value.j0])
  | succ kj1 =>
   have H := HA.out
   clear HA
   simp only [attestorref02_Value.j0] at H
   by_cases c5 : x13_1 = true
   ·subst c5
    rw [if_pos rfl] at H
    simp only [Option.some.injEq, Prod.mk.injEq] at H
    obtain ⟨rfl, rfl⟩ := H
    go_wp2
    go_ret2
    exact ⟨by first | rfl | (simp; done) | (simp [*]; done), by repeat (first | exact Drawn0.refl _ | apply Drawn0.step)⟩
   ·replace c5 := Bool.eq_false_iff.mpr c5
    subst c5
    rw [if_neg (show ¬ (false = true) by decide)] at H
    have H' := ak H
    clear H
    go_wp2
    go_loopg [4, 5] kj1 (fun kq v4 v5 w' => ∃ (x4_2 : Int) (x5_2 : Int), v4 = .int .u64 x4_2 ∧ v5 = .int .i64 x5_2 ∧ Aside0 (attestorref02_Value.l0 kq l0 x4_2 x5_2 = some (r1, r2)) ∧ Aside0 (kq ≤ kj1) ∧ Drawn0 w w')
    case atStart => exact ⟨(0), (wrap64 ((l0.length : Int) - 1)), gb_, gb_, H', ⟨Nat.le_refl _⟩, by repeat (first | exact Drawn0.refl _ | apply Drawn0.step)⟩
    case round =>
     clear H'
     (try clear c1); (try clear p2); (try clear c4); (try clear c5)
     obtain ⟨x4_2, x5_2, rfl, rfl, HA, HK2, ⟨m2, rfl⟩⟩ := hrel
     cases gk with
     | zero => exact absurd HA.out (by simp [attestorref02_Value.l0])
     | succ k2 =>
      have H := HA.out
      clear HA
      simp only [attestorref02_Value.l0] at H
      by_cases c6 : x5_2 ≥ 0
      ·rw [if_pos c6] at H
       have c6b0 : decide (0 ≤ x5_2) = true := decide_eq_true c6
       clear c6
       obtain ⟨c7, H⟩ : (0 ≤ x5_2) ∧ _ := it_ H
       have c7b0 := decide_eq_true c7
       clear c7
       obtain ⟨c8, H⟩ : (x5_2 < (l0.length : Int)) ∧ _ := it_ H
       have c8b0 := decide_eq_true c8
       clear c8
       have H' := ak H
       clear H
       have p1182 : 0 ≤ (x5_2 : Int) := od_
       have q1182 : x5_2 < (l0.length : Int) := od_
       obtain ⟨ad1182, e1182, hx1182_0⟩ := Kd.at_int HR0.out x5_2 p1182 q1182
       cases e1182
       replace p1182 := eq_true p1182
       replace q1182 := eq_true q1182
       go_wp2
       go_roundg k2
       case measure => have := HJ1.out; have := HK2.out; omega
       case rel => exact ⟨(IntKind.u64.wrap ((IntKind.u64.wrap (x4_2 * 4294967296)) + (IntKind.u64.wrap (rd l0 x5_2)))), (wrap64 (x5_2 - 1)), gb_, gb_, H', ⟨by have := HJ1.out; have := HK2.out; omega⟩, by repeat (first | exact Drawn0.refl _ | apply Drawn0.step)⟩
      ·rw [if_neg c6] at H
       have c6b0 : decide (0 ≤ x5_2) = false := decide_eq_false c6
       clear c6
       simp only [Option.some.injEq, Prod.mk.injEq] at H
       obtain ⟨rfl, rfl⟩ := H
       go_wp2
       go_ret2
       exact ⟨by first | rfl | (simp; done) | (simp [*]; done), by repeat (first | exact Drawn0.refl _ | apply Drawn0.step)⟩

/-! ### attestorref02_Compare: function 49 -/
def attestorref02_Compare.f (k : Nat) (l0 : List Int) (l1 : List Int) : Option (Int) := (attestorref02_ValidNat.f l0).bind fun t1183 => (if t1183 = true then ((attestorref02_ValidNat.f l1).bind fun t1184 => (if t1184 = true then ((attestorref02_order.f k l0 l1).bind fun t1185 => (some t1185)) else (some 0))) else (some 0))
set_option maxHeartbeats 8000000 in
set_option maxRecDepth 100000 in
theorem attestorref02_Compare.calls (k : Nat) (A0 : Option Addr) (c0 : Nat) (l0 : List Int) (A1 : Option Addr) (c1 : Nat) (l1 : List Int) (r : Int) (w : World) (hr0 : Kd.C (Kd.int .u32) w A0 l0.length l0) (hc0 : l0.length ≤ c0) (hr1 : Kd.C (Kd.int .u32) w A1 l1.length l1) (hc1 : l1.length ≤ c1) (h : attestorref02_Compare.f k l0 l1 = some r) :
  Calls Tryd.prog 49 #[.slice A0 l0.length c0, .slice A1 l1.length c1] w fun e w' => e = .returned (.int .i64 r) ∧ Drawn0 w w' := by
 have HR0 := ak hr0
 have HC0 := ak hc0
 clear hr0 hc0
 have HR1 := ak hr1
 have HC1 := ak hc1
 clear hr1 hc1
 have H : ((attestorref02_ValidNat.f l0).bind fun t1183 => (if t1183 = true then ((attestorref02_ValidNat.f l1).bind fun t1184 => (if t1184 = true then ((attestorref02_order.f k l0 l1).bind fun t1185 => (some t1185)) else (some 0))) else (some 0))) = some r := h
 clear h
 revert H
 refine bd_ fun t1183 A3 H => ?_
 by_cases c4 : t1183 = true
 ·subst c4
  rw [if_pos rfl] at H
  revert H
  refine bd_ fun t1184 A5 H => ?_
  by_cases c6 : t1184 = true
  ·subst c6
   rw [if_pos rfl] at H
   revert H
   refine bd_ fun t1185 A7 H => ?_
   obtain rfl := Option.some.inj H
   go_enter Tryd.func49, Tryd.ntmps49
   go_wp2_with (first | ((with_reducible refine gate_callee (f := 48) rfl ?_); refine gl_ (some 6) Tryd.func48 #[.slice A0 l0.length c0] ?_; (with_reducible refine (attestorref02_ValidNat.calls _ _ l0 true _ ?side1 ?side2 A3.out).mono ?_); (case side1 => exact cU_ HR0.out); (case side2 => exact HC0.out); rintro e w' ⟨rfl, ⟨nd, rfl⟩⟩; refine ⟨_, rfl, ?_⟩) | (go_at_call 48; (with_reducible refine (attestorref02_ValidNat.calls _ _ l1 true _ ?side1 ?side2 A5.out).mono ?_); (case side1 => exact cU_ HR1.out); (case side2 => exact HC1.out); rintro e w' ⟨rfl, ⟨nd, rfl⟩⟩) | ((with_reducible refine gate_callee (f := 80) rfl ?_); refine gl_ (some 15) Tryd.func80 #[.slice A0 l0.length c0, .slice A1 l1.length c1] ?_; (with_reducible refine (attestorref02_order.calls k _ _ l0 _ _ l1 t1185 _ ?side1 ?side2 ?side3 ?side4 A7.out).mono ?_); (case side1 => exact cU_ HR0.out); (case side2 => exact HC0.out); (case side3 => exact cU_ HR1.out); (case side4 => exact HC1.out); rintro e w' ⟨rfl, ⟨nd, rfl⟩⟩; refine ⟨_, rfl, ?_⟩))
   go_ret
   exact ⟨by first | rfl | (simp; done) | (simp [*]; done), by repeat (first | exact Drawn0.refl _ | apply Drawn0.step)⟩
  ·replace c6 := Bool.eq_false_iff.mpr c6
   subst c6
   rw [if_neg (show ¬ (false = true) by decide)] at H
   obtain rfl := Option.some.inj H
   go_enter Tryd.func49, Tryd.ntmps49
   go_wp2_with (first | ((with_reducible refine gate_callee (f := 48) rfl ?_); refine gl_ (some 6) Tryd.func48 #[.slice A0 l0.length c0] ?_; (with_reducible refine (attestorref02_ValidNat.calls _ _ l0 true _ ?side1 ?side2 A3.out).mono ?_); (case side1 => exact cU_ HR0.out); (case side2 => exact HC0.out); rintro e w' ⟨rfl, ⟨nd, rfl⟩⟩; refine ⟨_, rfl, ?_⟩) | (go_at_call 48; (with_reducible refine (attestorref02_ValidNat.calls _ _ l1 false _ ?side1 ?side2 A5.out).mono ?_); (case side1 => exact cU_ HR1.out); (case side2 => exact HC1.out); rintro e w' ⟨rfl, ⟨nd, rfl⟩⟩))
   go_ret
   exact ⟨by first | rfl | (simp; done) | (simp [*]; done), by repeat (first | exact Drawn0.refl _ | apply Drawn0.step)⟩
 ·replace c4 := Bool.eq_false_iff.mpr c4
  subst c4
  rw [if_neg (show ¬ (false = true) by decide)] at H
  obtain rfl := Option.some.inj H
  go_enter Tryd.func49, Tryd.ntmps49
  go_wp2_with (first | ((with_reducible refine gate_callee (f := 48) rfl ?_); refine gl_ (some 6) Tryd.func48 #[.slice A0 l0.length c0] ?_; (with_reducible refine (attestorref02_ValidNat.calls _ _ l0 false _ ?side1 ?side2 A3.out).mono ?_); (case side1 => exact cU_ HR0.out); (case side2 => exact HC0.out); rintro e w' ⟨rfl, ⟨nd, rfl⟩⟩; refine ⟨_, rfl, ?_⟩))
  go_ret
  exact ⟨by first | rfl | (simp; done) | (simp [*]; done), by repeat (first | exact Drawn0.refl _ | apply Drawn0.step)⟩

/-! ### attestorref02_Sum: function 51 -/
def attestorref02_Sum.j0 : Nat → List Int → List Int → Bool → Option (List Int × Int)
 | 0, _, _, _ => none
 | k + 1, x0, x1, x13 => if x13 = true then (some (([] : List Int), 1)) else ((attestorref02_sum.f k x0 x1).bind fun t1197 => ((attestorref02_bounded.f t1197).bind fun bt1200 => (some (bt1200.1, bt1200.2))))
def attestorref02_Sum.f (k : Nat) (l0 : List Int) (l1 : List Int) : Option (List Int × Int) := (attestorref02_ValidNat.f l0).bind fun t1195 => (if t1195 = true then ((attestorref02_ValidNat.f l1).bind fun t1196 => (attestorref02_Sum.j0 k l0 l1 (!t1196))) else (attestorref02_Sum.j0 k l0 l1 true))
set_option maxHeartbeats 8000000 in
set_option maxRecDepth 100000 in
theorem attestorref02_Sum.calls (k : Nat) (A0 : Option Addr) (c0 : Nat) (l0 : List Int) (A1 : Option Addr) (c1 : Nat) (l1 : List Int) (r1 : List Int) (r2 : Int) (w : World) (hr0 : Kd.C (Kd.int .u32) w A0 l0.length l0) (hc0 : l0.length ≤ c0) (hr1 : Kd.C (Kd.int .u32) w A1 l1.length l1) (hc1 : l1.length ≤ c1) (h : attestorref02_Sum.f k l0 l1 = some (r1, r2)) :
  Calls Tryd.prog 51 #[.slice A0 l0.length c0, .slice A1 l1.length c1] w fun e w' => ∃ v0_ : Value, e = .returned (.tuple #[v0_, .int .i64 r2]) ∧ Kd.V (Kd.int .u32) 44 w' w.heap.size (fun k_ => (w.heap.size ≤ k_)) v0_ r1 ∧ Below w.heap.size w w' := by
 have HR0 := ak hr0
 have HC0 := ak hc0
 clear hr0 hc0
 have HR1 := ak hr1
 have HC1 := ak hc1
 clear hr1 hc1
 have HB := ak (Below.refl w.heap.size w)
 have H : ((attestorref02_ValidNat.f l0).bind fun t1195 => (if t1195 = true then ((attestorref02_ValidNat.f l1).bind fun t1196 => (attestorref02_Sum.j0 k l0 l1 (!t1196))) else (attestorref02_Sum.j0 k l0 l1 true))) = some (r1, r2) := h
 clear h
 have HC3 := ak H
 clear H
 go_enter Tryd.func51, Tryd.ntmps51
 go_upto_region 1 with (fail)
 go_cut [13] (fun v13 wc => ∃ (kq : Nat) (x13_2 : Bool), v13 = .bool x13_2 ∧ Aside0 (attestorref02_Sum.j0 kq l0 l1 x13_2 = some (r1, r2)) ∧ Aside0 (kq ≤ k) ∧ Aside0 (Below w.heap.size w wc))
 case first =>
  have H := HC3.out
  clear HC3
  revert H
  refine bd_ fun t1195 A4 H => ?_
  by_cases c5 : t1195 = true
  ·subst c5
   rw [if_pos rfl] at H
   revert H
   refine bd_ fun t1196 A6 H => ?_
   have H' := ak H
   clear H
   go_wp2_with (first | ((with_reducible refine gate_callee (f := 48) rfl ?_); refine gl_ (some 7) Tryd.func48 #[.slice A0 l0.length c0] ?_; (with_reducible refine (attestorref02_ValidNat.calls _ _ l0 true _ ?side1 ?side2 A4.out).mono ?_); (case side1 => exact cU_ (Kd.C_below HR0.out HB.out)); (case side2 => exact HC0.out); rintro e w' ⟨rfl, ⟨nd, rfl⟩⟩; refine ⟨_, rfl, ?_⟩) | (go_at_call 48; (with_reducible refine (attestorref02_ValidNat.calls _ _ l1 t1196 _ ?side1 ?side2 A6.out).mono ?_); (case side1 => exact (Kd.C_below HR1.out (bU_ HB.out))); (case side2 => exact HC1.out); rintro e w' ⟨rfl, ⟨nd, rfl⟩⟩))
   go_meet
   case rel => exact ⟨_, (!t1196), gb_, H', ⟨by first | omega | exact Nat.le_refl _⟩, ⟨bU_ HB.out⟩⟩
  ·replace c5 := Bool.eq_false_iff.mpr c5
   subst c5
   rw [if_neg (show ¬ (false = true) by decide)] at H
   have H' := ak H
   clear H
   go_wp2_with (first | ((with_reducible refine gate_callee (f := 48) rfl ?_); refine gl_ (some 7) Tryd.func48 #[.slice A0 l0.length c0] ?_; (with_reducible refine (attestorref02_ValidNat.calls _ _ l0 false _ ?side1 ?side2 A4.out).mono ?_); (case side1 => exact cU_ (Kd.C_below HR0.out HB.out)); (case side2 => exact HC0.out); rintro e w' ⟨rfl, ⟨nd, rfl⟩⟩; refine ⟨_, rfl, ?_⟩))
   go_meet
   case rel => exact ⟨_, (true), gb_, H', ⟨by first | omega | exact Nat.le_refl _⟩, ⟨bU_ HB.out⟩⟩
 case rest =>
  clear HC3
  (try clear c1); (try clear p2); (try clear c4); (try clear c5)
  obtain ⟨kq, x13_2, rfl, HA, HJ2, HB⟩ := hcut
  cases kq with
  | zero => exact absurd HA.out (by simp [attestorref02_Sum.j0])
  | succ kj2 =>
   have H := HA.out
   clear HA
   simp only [attestorref02_Sum.j0] at H
   by_cases c7 : x13_2 = true
   ·subst c7
    rw [if_pos rfl] at H
    simp only [Option.some.injEq, Prod.mk.injEq] at H
    obtain ⟨rfl, rfl⟩ := H
    go_wp2
    go_ret2
    exact ⟨_, by first | rfl | (simp [errW_none, errW_some] <;> rfl) | (simp [*, errW_none, errW_some] <;> rfl), Kd.V_nil _ _ _ _ _, bU_ HB.out⟩
   ·replace c7 := Bool.eq_false_iff.mpr c7
    subst c7
    rw [if_neg (show ¬ (false = true) by decide)] at H
    revert H
    refine bd_ fun t1197 A8 H => ?_
    revert H
    refine bd2_ fun t1200 t1203 A9 H => ?_
    try dsimp only at H
    simp only [Option.some.injEq, Prod.mk.injEq] at H
    obtain ⟨rfl, rfl⟩ := H
    go_wp2_with (first | ((with_reducible refine gate_callee (f := 62) rfl ?_); refine gl_ (some 16) Tryd.func62 #[.slice A0 l0.length c0, .slice A1 l1.length c1] ?_; (with_reducible refine (attestorref02_sum.calls kj2 _ _ l0 _ _ l1 t1197 _ ?side1 ?side2 ?side3 ?side4 A8.out).mono ?_); (case side1 => exact cU_ (Kd.C_below HR0.out HB.out)); (case side2 => exact HC0.out); (case side3 => exact cU_ (Kd.C_below HR1.out HB.out)); (case side4 => exact HC1.out); rintro e w10 ⟨v1198, rfl, ho0, hb⟩; refine ⟨_, rfl, ?_⟩; refine nx2_ (Kd.R_lower (Kd.R_newM (M := fun k_ => (w.heap.size ≤ k_)) ho0 (below_size (bU_ HB.out)) (fun k_ h_ => h_)) (below_size (bU_ HB.out))) (below_step (bU_ HB.out) hb) ?_; clear HB; intro HO1199 HB; clear hb ho0; obtain ⟨Ao11, co11, eo11⟩ := Kd.R_slice HO1199.out; subst eo11) | ((with_reducible refine gate_callee (f := 64) rfl ?_); refine gl_ (some 17) Tryd.func64 #[.slice Ao11 t1197.length co11] ?_; (with_reducible refine (attestorref02_bounded.calls (fun k_ => some k_ = (.slice Ao11 t1197.length co11 : Value).ownBlock) _ _ t1197 t1200 t1203 _ ?side1 A9.out).mono ?_); (case side1 => exact Kd.R_V (Kd.R_tight rfl (HO1199.out))); rintro e w12 ⟨v1201, rfl, ho0, hb⟩; refine ⟨_, rfl, ?_⟩; refine nx3_ (Kd.R_below (rU_ HO1199.out) hb) (Kd.V_lower (Kd.V_mono (ok' := fun k_ => (w.heap.size ≤ k_)) ho0 (fun k_ hk_ => Or.elim hk_ (fun hs_ => ((HO1199.out).1 k_ hs_.symm).1) (fun hn_ => (Nat.le_trans (below_size (bU_ HB.out)) hn_)))) (below_size (bU_ HB.out))) (below_step (bU_ HB.out) hb) ?_; clear HO1199 HB; intro HO1199 HO1202 HB; clear hb ho0))
    go_ret2
    exact ⟨_, by first | rfl | (simp [errW_none, errW_some] <;> rfl) | (simp [*, errW_none, errW_some] <;> rfl), by (with_reducible repeat (first | apply Kd.V_alloc | apply Kd.V_drewN | apply Kd.V_drew)); exact HO1202.out, bU_ HB.out⟩

/-! ### attestorref02_Diff: function 52 -/
def attestorref02_Diff.j0 : Nat → List Int → List Int → Bool → Option (List Int × Int)
 | 0, _, _, _ => none
 | k + 1, x0, x1, x13 => if x13 = true then (some (([] : List Int), 1)) else ((attestorref02_order.f k x0 x1).bind fun t1206 => (if t1206 < 0 then (some (([] : List Int), 2)) else ((attestorref02_diff.f k x0 x1).bind fun t1207 => (some (t1207, 0)))))
def attestorref02_Diff.f (k : Nat) (l0 : List Int) (l1 : List Int) : Option (List Int × Int) := (attestorref02_ValidNat.f l0).bind fun t1204 => (if t1204 = true then ((attestorref02_ValidNat.f l1).bind fun t1205 => (attestorref02_Diff.j0 k l0 l1 (!t1205))) else (attestorref02_Diff.j0 k l0 l1 true))
set_option maxHeartbeats 8000000 in
set_option maxRecDepth 100000 in
theorem attestorref02_Diff.calls (k : Nat) (A0 : Option Addr) (c0 : Nat) (l0 : List Int) (A1 : Option Addr) (c1 : Nat) (l1 : List Int) (r1 : List Int) (r2 : Int) (w : World) (hr0 : Kd.C (Kd.int .u32) w A0 l0.length l0) (hc0 : l0.length ≤ c0) (hr1 : Kd.C (Kd.int .u32) w A1 l1.length l1) (hc1 : l1.length ≤ c1) (h : attestorref02_Diff.f k l0 l1 = some (r1, r2)) :
  Calls Tryd.prog 52 #[.slice A0 l0.length c0, .slice A1 l1.length c1] w fun e w' => ∃ v0_ : Value, e = .returned (.tuple #[v0_, .int .i64 r2]) ∧ Kd.R (Kd.int .u32) 44 w' w.heap.size (fun _ => True) v0_ r1 ∧ Below w.heap.size w w' := by
 have HR0 := ak hr0
 have HC0 := ak hc0
 clear hr0 hc0
 have HR1 := ak hr1
 have HC1 := ak hc1
 clear hr1 hc1
 have HB := ak (Below.refl w.heap.size w)
 have H : ((attestorref02_ValidNat.f l0).bind fun t1204 => (if t1204 = true then ((attestorref02_ValidNat.f l1).bind fun t1205 => (attestorref02_Diff.j0 k l0 l1 (!t1205))) else (attestorref02_Diff.j0 k l0 l1 true))) = some (r1, r2) := h
 clear h
 have HC3 := ak H
 clear H
 go_enter Tryd.func52, Tryd.ntmps52
 go_upto_region 1 with (fail)
 go_cut [13] (fun v13 wc => ∃ (kq : Nat) (x13_2 : Bool), v13 = .bool x13_2 ∧ Aside0 (attestorref02_Diff.j0 kq l0 l1 x13_2 = some (r1, r2)) ∧ Aside0 (kq ≤ k) ∧ Aside0 (Below w.heap.size w wc))
 case first =>
  have H := HC3.out
  clear HC3
  revert H
  refine bd_ fun t1204 A4 H => ?_
  by_cases c5 : t1204 = true
  ·subst c5
   rw [if_pos rfl] at H
   revert H
   refine bd_ fun t1205 A6 H => ?_
   have H' := ak H
   clear H
   go_wp2_with (first | ((with_reducible refine gate_callee (f := 48) rfl ?_); refine gl_ (some 7) Tryd.func48 #[.slice A0 l0.length c0] ?_; (with_reducible refine (attestorref02_ValidNat.calls _ _ l0 true _ ?side1 ?side2 A4.out).mono ?_); (case side1 => exact cU_ (Kd.C_below HR0.out HB.out)); (case side2 => exact HC0.out); rintro e w' ⟨rfl, ⟨nd, rfl⟩⟩; refine ⟨_, rfl, ?_⟩) | (go_at_call 48; (with_reducible refine (attestorref02_ValidNat.calls _ _ l1 t1205 _ ?side1 ?side2 A6.out).mono ?_); (case side1 => exact (Kd.C_below HR1.out (bU_ HB.out))); (case side2 => exact HC1.out); rintro e w' ⟨rfl, ⟨nd, rfl⟩⟩))
   go_meet
   case rel => exact ⟨_, (!t1205), gb_, H', ⟨by first | omega | exact Nat.le_refl _⟩, ⟨bU_ HB.out⟩⟩
  ·replace c5 := Bool.eq_false_iff.mpr c5
   subst c5
   rw [if_neg (show ¬ (false = true) by decide)] at H
   have H' := ak H
   clear H
   go_wp2_with (first | ((with_reducible refine gate_callee (f := 48) rfl ?_); refine gl_ (some 7) Tryd.func48 #[.slice A0 l0.length c0] ?_; (with_reducible refine (attestorref02_ValidNat.calls _ _ l0 false _ ?side1 ?side2 A4.out).mono ?_); (case side1 => exact cU_ (Kd.C_below HR0.out HB.out)); (case side2 => exact HC0.out); rintro e w' ⟨rfl, ⟨nd, rfl⟩⟩; refine ⟨_, rfl, ?_⟩))
   go_meet
   case rel => exact ⟨_, (true), gb_, H', ⟨by first | omega | exact Nat.le_refl _⟩, ⟨bU_ HB.out⟩⟩
 case rest =>
  clear HC3
  (try clear c1); (try clear p2); (try clear c4); (try clear c5)
  obtain ⟨kq, x13_2, rfl, HA, HJ2, HB⟩ := hcut
  cases kq with
  | zero => exact absurd HA.out (by simp [attestorref02_Diff.j0])
  | succ kj2 =>
   have H := HA.out
   clear HA
   simp only [attestorref02_Diff.j0] at H
   by_cases c7 : x13_2 = true
   ·subst c7
    rw [if_pos rfl] at H
    simp only [Option.some.injEq, Prod.mk.injEq] at H
    obtain ⟨rfl, rfl⟩ := H
    go_wp2
    go_ret2
    exact ⟨_, by first | rfl | (simp [errW_none, errW_some] <;> rfl) | (simp [*, errW_none, errW_some] <;> rfl), by first | exact Kd.R_nil _ _ _ _ _ | exact Kd.N_nil _ _ _ _ _ | exact Kd.V_nil _ _ _ _ _ | exact Kd.Q_nil _ _ _ _ _ | exact Kd.S_nil _ _ _ _ _, bU_ HB.out⟩
   ·replace c7 := Bool.eq_false_iff.mpr c7
    subst c7
    rw [if_neg (show ¬ (false = true) by decide)] at H
    revert H
    refine bd_ fun t1206 A8 H => ?_
    by_cases c9 : t1206 < 0
    ·rw [if_pos c9] at H
     have c9b0 := decide_eq_true c9
     clear c9
     simp only [Option.some.injEq, Prod.mk.injEq] at H
     obtain ⟨rfl, rfl⟩ := H
     go_wp2_with (first | ((with_reducible refine gate_callee (f := 80) rfl ?_); refine gl_ (some 16) Tryd.func80 #[.slice A0 l0.length c0, .slice A1 l1.length c1] ?_; (with_reducible refine (attestorref02_order.calls kj2 _ _ l0 _ _ l1 t1206 _ ?side1 ?side2 ?side3 ?side4 A8.out).mono ?_); (case side1 => exact cU_ (Kd.C_below HR0.out HB.out)); (case side2 => exact HC0.out); (case side3 => exact cU_ (Kd.C_below HR1.out HB.out)); (case side4 => exact HC1.out); rintro e w' ⟨rfl, ⟨nd, rfl⟩⟩; refine ⟨_, rfl, ?_⟩))
     go_ret2
     exact ⟨_, by first | rfl | (simp [errW_none, errW_some] <;> rfl) | (simp [*, errW_none, errW_some] <;> rfl), by first | exact Kd.R_nil _ _ _ _ _ | exact Kd.N_nil _ _ _ _ _ | exact Kd.V_nil _ _ _ _ _ | exact Kd.Q_nil _ _ _ _ _ | exact Kd.S_nil _ _ _ _ _, bU_ HB.out⟩
    ·rw [if_neg c9] at H
     have c9b0 := decide_eq_false c9
     clear c9
     revert H
     refine bd_ fun t1207 A10 H => ?_
     simp only [Option.some.injEq, Prod.mk.injEq] at H
     obtain ⟨rfl, rfl⟩ := H
     go_wp2_with (first | ((with_reducible refine gate_callee (f := 80) rfl ?_); refine gl_ (some 16) Tryd.func80 #[.slice A0 l0.length c0, .slice A1 l1.length c1] ?_; (with_reducible refine (attestorref02_order.calls kj2 _ _ l0 _ _ l1 t1206 _ ?side1 ?side2 ?side3 ?side4 A8.out).mono ?_); (case side1 => exact cU_ (Kd.C_below HR0.out HB.out)); (case side2 => exact HC0.out); (case side3 => exact cU_ (Kd.C_below HR1.out HB.out)); (case side4 => exact HC1.out); rintro e w' ⟨rfl, ⟨nd, rfl⟩⟩; refine ⟨_, rfl, ?_⟩) | ((with_reducible refine gate_callee (f := 82) rfl ?_); refine gl_ (some 20) Tryd.func82 #[.slice A0 l0.length c0, .slice A1 l1.length c1] ?_; (with_reducible refine (attestorref02_diff.calls kj2 _ _ l0 _ _ l1 t1207 _ ?side1 ?side2 ?side3 ?side4 A10.out).mono ?_); (case side1 => exact (Kd.C_below HR0.out (bU_ HB.out))); (case side2 => exact HC0.out); (case side3 => exact (Kd.C_below HR1.out (bU_ HB.out))); (case side4 => exact HC1.out); rintro e w11 ⟨v1208, rfl, ho0, hb⟩; refine ⟨_, rfl, ?_⟩; refine nx2_ (Kd.R_lower ho0 (below_size (bU_ HB.out))) (below_step (bU_ HB.out) hb) ?_; clear HB; intro HO1209 HB; clear hb ho0))
     go_ret2
     exact ⟨_, by first | rfl | (simp [errW_none, errW_some] <;> rfl) | (simp [*, errW_none, errW_some] <;> rfl), rU_ HO1209.out, bU_ HB.out⟩

/-! ### attestorref02_Product: function 53 -/
def attestorref02_Product.j0 : Nat → List Int → List Int → Bool → Option (List Int × Int)
 | 0, _, _, _ => none
 | k + 1, x0, x1, x13 => if x13 = true then (some (([] : List Int), 1)) else ((attestorref02_product.f k x0 x1).bind fun t1212 => ((attestorref02_bounded.f t1212).bind fun bt1215 => (some (bt1215.1, bt1215.2))))
def attestorref02_Product.f (k : Nat) (l0 : List Int) (l1 : List Int) : Option (List Int × Int) := (attestorref02_ValidNat.f l0).bind fun t1210 => (if t1210 = true then ((attestorref02_ValidNat.f l1).bind fun t1211 => (attestorref02_Product.j0 k l0 l1 (!t1211))) else (attestorref02_Product.j0 k l0 l1 true))
set_option maxHeartbeats 8000000 in
set_option maxRecDepth 100000 in
theorem attestorref02_Product.calls (k : Nat) (A0 : Option Addr) (c0 : Nat) (l0 : List Int) (A1 : Option Addr) (c1 : Nat) (l1 : List Int) (r1 : List Int) (r2 : Int) (w : World) (hr0 : Kd.C (Kd.int .u32) w A0 l0.length l0) (hc0 : l0.length ≤ c0) (hr1 : Kd.C (Kd.int .u32) w A1 l1.length l1) (hc1 : l1.length ≤ c1) (h : attestorref02_Product.f k l0 l1 = some (r1, r2)) :
  Calls Tryd.prog 53 #[.slice A0 l0.length c0, .slice A1 l1.length c1] w fun e w' => ∃ v0_ : Value, e = .returned (.tuple #[v0_, .int .i64 r2]) ∧ Kd.V (Kd.int .u32) 44 w' w.heap.size (fun k_ => (w.heap.size ≤ k_)) v0_ r1 ∧ Below w.heap.size w w' := by
 have HR0 := ak hr0
 have HC0 := ak hc0
 clear hr0 hc0
 have HR1 := ak hr1
 have HC1 := ak hc1
 clear hr1 hc1
 have HB := ak (Below.refl w.heap.size w)
 have H : ((attestorref02_ValidNat.f l0).bind fun t1210 => (if t1210 = true then ((attestorref02_ValidNat.f l1).bind fun t1211 => (attestorref02_Product.j0 k l0 l1 (!t1211))) else (attestorref02_Product.j0 k l0 l1 true))) = some (r1, r2) := h
 clear h
 have HC3 := ak H
 clear H
 go_enter Tryd.func53, Tryd.ntmps53
 go_upto_region 1 with (fail)
 go_cut [13] (fun v13 wc => ∃ (kq : Nat) (x13_2 : Bool), v13 = .bool x13_2 ∧ Aside0 (attestorref02_Product.j0 kq l0 l1 x13_2 = some (r1, r2)) ∧ Aside0 (kq ≤ k) ∧ Aside0 (Below w.heap.size w wc))
 case first =>
  have H := HC3.out
  clear HC3
  revert H
  refine bd_ fun t1210 A4 H => ?_
  by_cases c5 : t1210 = true
  ·subst c5
   rw [if_pos rfl] at H
   revert H
   refine bd_ fun t1211 A6 H => ?_
   have H' := ak H
   clear H
   go_wp2_with (first | ((with_reducible refine gate_callee (f := 48) rfl ?_); refine gl_ (some 7) Tryd.func48 #[.slice A0 l0.length c0] ?_; (with_reducible refine (attestorref02_ValidNat.calls _ _ l0 true _ ?side1 ?side2 A4.out).mono ?_); (case side1 => exact cU_ (Kd.C_below HR0.out HB.out)); (case side2 => exact HC0.out); rintro e w' ⟨rfl, ⟨nd, rfl⟩⟩; refine ⟨_, rfl, ?_⟩) | (go_at_call 48; (with_reducible refine (attestorref02_ValidNat.calls _ _ l1 t1211 _ ?side1 ?side2 A6.out).mono ?_); (case side1 => exact (Kd.C_below HR1.out (bU_ HB.out))); (case side2 => exact HC1.out); rintro e w' ⟨rfl, ⟨nd, rfl⟩⟩))
   go_meet
   case rel => exact ⟨_, (!t1211), gb_, H', ⟨by first | omega | exact Nat.le_refl _⟩, ⟨bU_ HB.out⟩⟩
  ·replace c5 := Bool.eq_false_iff.mpr c5
   subst c5
   rw [if_neg (show ¬ (false = true) by decide)] at H
   have H' := ak H
   clear H
   go_wp2_with (first | ((with_reducible refine gate_callee (f := 48) rfl ?_); refine gl_ (some 7) Tryd.func48 #[.slice A0 l0.length c0] ?_; (with_reducible refine (attestorref02_ValidNat.calls _ _ l0 false _ ?side1 ?side2 A4.out).mono ?_); (case side1 => exact cU_ (Kd.C_below HR0.out HB.out)); (case side2 => exact HC0.out); rintro e w' ⟨rfl, ⟨nd, rfl⟩⟩; refine ⟨_, rfl, ?_⟩))
   go_meet
   case rel => exact ⟨_, (true), gb_, H', ⟨by first | omega | exact Nat.le_refl _⟩, ⟨bU_ HB.out⟩⟩
 case rest =>
  clear HC3
  (try clear c1); (try clear p2); (try clear c4); (try clear c5)
  obtain ⟨kq, x13_2, rfl, HA, HJ2, HB⟩ := hcut
  cases kq with
  | zero => exact absurd HA.out (by simp [attestorref02_Product.j0])
  | succ kj2 =>
   have H := HA.out
   clear HA
   simp only [attestorref02_Product.j0] at H
   by_cases c7 : x13_2 = true
   ·subst c7
    rw [if_pos rfl] at H
    simp only [Option.some.injEq, Prod.mk.injEq] at H
    obtain ⟨rfl, rfl⟩ := H
    go_wp2
    go_ret2
    exact ⟨_, by first | rfl | (simp [errW_none, errW_some] <;> rfl) | (simp [*, errW_none, errW_some] <;> rfl), Kd.V_nil _ _ _ _ _, bU_ HB.out⟩
   ·replace c7 := Bool.eq_false_iff.mpr c7
    subst c7
    rw [if_neg (show ¬ (false = true) by decide)] at H
    revert H
    refine bd_ fun t1212 A8 H => ?_
    revert H
    refine bd2_ fun t1215 t1218 A9 H => ?_
    try dsimp only at H
    simp only [Option.some.injEq, Prod.mk.injEq] at H
    obtain ⟨rfl, rfl⟩ := H
    go_wp2_with (first | ((with_reducible refine gate_callee (f := 63) rfl ?_); refine gl_ (some 16) Tryd.func63 #[.slice A0 l0.length c0, .slice A1 l1.length c1] ?_; (with_reducible refine (attestorref02_product.calls kj2 _ _ l0 _ _ l1 t1212 _ ?side1 ?side2 ?side3 ?side4 A8.out).mono ?_); (case side1 => exact cU_ (Kd.C_below HR0.out HB.out)); (case side2 => exact HC0.out); (case side3 => exact cU_ (Kd.C_below HR1.out HB.out)); (case side4 => exact HC1.out); rintro e w10 ⟨v1213, rfl, ho0, hb⟩; refine ⟨_, rfl, ?_⟩; refine nx2_ (Kd.R_lower (Kd.R_newM (M := fun k_ => (w.heap.size ≤ k_)) ho0 (below_size (bU_ HB.out)) (fun k_ h_ => h_)) (below_size (bU_ HB.out))) (below_step (bU_ HB.out) hb) ?_; clear HB; intro HO1214 HB; clear hb ho0; obtain ⟨Ao11, co11, eo11⟩ := Kd.R_slice HO1214.out; subst eo11) | ((with_reducible refine gate_callee (f := 64) rfl ?_); refine gl_ (some 17) Tryd.func64 #[.slice Ao11 t1212.length co11] ?_; (with_reducible refine (attestorref02_bounded.calls (fun k_ => some k_ = (.slice Ao11 t1212.length co11 : Value).ownBlock) _ _ t1212 t1215 t1218 _ ?side1 A9.out).mono ?_); (case side1 => exact Kd.R_V (Kd.R_tight rfl (HO1214.out))); rintro e w12 ⟨v1216, rfl, ho0, hb⟩; refine ⟨_, rfl, ?_⟩; refine nx3_ (Kd.R_below (rU_ HO1214.out) hb) (Kd.V_lower (Kd.V_mono (ok' := fun k_ => (w.heap.size ≤ k_)) ho0 (fun k_ hk_ => Or.elim hk_ (fun hs_ => ((HO1214.out).1 k_ hs_.symm).1) (fun hn_ => (Nat.le_trans (below_size (bU_ HB.out)) hn_)))) (below_size (bU_ HB.out))) (below_step (bU_ HB.out) hb) ?_; clear HO1214 HB; intro HO1214 HO1217 HB; clear hb ho0))
    go_ret2
    exact ⟨_, by first | rfl | (simp [errW_none, errW_some] <;> rfl) | (simp [*, errW_none, errW_some] <;> rfl), by (with_reducible repeat (first | apply Kd.V_alloc | apply Kd.V_drewN | apply Kd.V_drew)); exact HO1217.out, bU_ HB.out⟩

/-! ### attestorref02_Quotient: function 54 -/
def attestorref02_Quotient.j0 : Nat → List Int → List Int → Bool → Option (List Int × List Int × Int)
 | 0, _, _, _ => none
 | k + 1, x0, x1, x16 => if x16 = true then (some (([] : List Int), ([] : List Int), 1)) else (if (x1.length : Int) = 0 then (some (([] : List Int), ([] : List Int), 2)) else ((attestorref02_quotient.f k x0 x1).bind fun bt1221 => (some (bt1221.1, bt1221.2, 0))))
def attestorref02_Quotient.f (k : Nat) (l0 : List Int) (l1 : List Int) : Option (List Int × List Int × Int) := (attestorref02_ValidNat.f l0).bind fun t1219 => (if t1219 = true then ((attestorref02_ValidNat.f l1).bind fun t1220 => (attestorref02_Quotient.j0 k l0 l1 (!t1220))) else (attestorref02_Quotient.j0 k l0 l1 true))
set_option maxHeartbeats 8000000 in
set_option maxRecDepth 100000 in
theorem attestorref02_Quotient.calls (k : Nat) (A0 : Option Addr) (c0 : Nat) (l0 : List Int) (A1 : Option Addr) (c1 : Nat) (l1 : List Int) (r1 : List Int) (r2 : List Int) (r3 : Int) (w : World) (hr0 : Kd.C (Kd.int .u32) w A0 l0.length l0) (hc0 : l0.length ≤ c0) (hr1 : Kd.C (Kd.int .u32) w A1 l1.length l1) (hc1 : l1.length ≤ c1) (h : attestorref02_Quotient.f k l0 l1 = some (r1, r2, r3)) :
  Calls Tryd.prog 54 #[.slice A0 l0.length c0, .slice A1 l1.length c1] w fun e w' => ∃ v0_ v1_ : Value, e = .returned (.tuple #[v0_, v1_, .int .i64 r3]) ∧ Kd.R (Kd.int .u32) 44 w' w.heap.size (fun k_ => some k_ ≠ (v1_ : Value).ownBlock) v0_ r1 ∧ Kd.R (Kd.int .u32) 44 w' w.heap.size (fun k_ => some k_ ≠ (v0_ : Value).ownBlock) v1_ r2 ∧ Below w.heap.size w w' := by
 have HR0 := ak hr0
 have HC0 := ak hc0
 clear hr0 hc0
 have HR1 := ak hr1
 have HC1 := ak hc1
 clear hr1 hc1
 have HB := ak (Below.refl w.heap.size w)
 have H : ((attestorref02_ValidNat.f l0).bind fun t1219 => (if t1219 = true then ((attestorref02_ValidNat.f l1).bind fun t1220 => (attestorref02_Quotient.j0 k l0 l1 (!t1220))) else (attestorref02_Quotient.j0 k l0 l1 true))) = some (r1, r2, r3) := h
 clear h
 have HC3 := ak H
 clear H
 go_enter Tryd.func54, Tryd.ntmps54
 go_upto_region 1 with (fail)
 go_cut [16] (fun v16 wc => ∃ (kq : Nat) (x16_2 : Bool), v16 = .bool x16_2 ∧ Aside0 (attestorref02_Quotient.j0 kq l0 l1 x16_2 = some (r1, r2, r3)) ∧ Aside0 (kq ≤ k) ∧ Aside0 (Below w.heap.size w wc))
 case first =>
  have H := HC3.out
  clear HC3
  revert H
  refine bd_ fun t1219 A4 H => ?_
  by_cases c5 : t1219 = true
  ·subst c5
   rw [if_pos rfl] at H
   revert H
   refine bd_ fun t1220 A6 H => ?_
   have H' := ak H
   clear H
   go_wp2_with (first | ((with_reducible refine gate_callee (f := 48) rfl ?_); refine gl_ (some 10) Tryd.func48 #[.slice A0 l0.length c0] ?_; (with_reducible refine (attestorref02_ValidNat.calls _ _ l0 true _ ?side1 ?side2 A4.out).mono ?_); (case side1 => exact cU_ (Kd.C_below HR0.out HB.out)); (case side2 => exact HC0.out); rintro e w' ⟨rfl, ⟨nd, rfl⟩⟩; refine ⟨_, rfl, ?_⟩) | (go_at_call 48; (with_reducible refine (attestorref02_ValidNat.calls _ _ l1 t1220 _ ?side1 ?side2 A6.out).mono ?_); (case side1 => exact (Kd.C_below HR1.out (bU_ HB.out))); (case side2 => exact HC1.out); rintro e w' ⟨rfl, ⟨nd, rfl⟩⟩))
   go_meet
   case rel => exact ⟨_, (!t1220), gb_, H', ⟨by first | omega | exact Nat.le_refl _⟩, ⟨bU_ HB.out⟩⟩
  ·replace c5 := Bool.eq_false_iff.mpr c5
   subst c5
   rw [if_neg (show ¬ (false = true) by decide)] at H
   have H' := ak H
   clear H
   go_wp2_with (first | ((with_reducible refine gate_callee (f := 48) rfl ?_); refine gl_ (some 10) Tryd.func48 #[.slice A0 l0.length c0] ?_; (with_reducible refine (attestorref02_ValidNat.calls _ _ l0 false _ ?side1 ?side2 A4.out).mono ?_); (case side1 => exact cU_ (Kd.C_below HR0.out HB.out)); (case side2 => exact HC0.out); rintro e w' ⟨rfl, ⟨nd, rfl⟩⟩; refine ⟨_, rfl, ?_⟩))
   go_meet
   case rel => exact ⟨_, (true), gb_, H', ⟨by first | omega | exact Nat.le_refl _⟩, ⟨bU_ HB.out⟩⟩
 case rest =>
  clear HC3
  (try clear c1); (try clear p2); (try clear c4); (try clear c5)
  obtain ⟨kq, x16_2, rfl, HA, HJ2, HB⟩ := hcut
  cases kq with
  | zero => exact absurd HA.out (by simp [attestorref02_Quotient.j0])
  | succ kj2 =>
   have H := HA.out
   clear HA
   simp only [attestorref02_Quotient.j0] at H
   by_cases c7 : x16_2 = true
   ·subst c7
    rw [if_pos rfl] at H
    simp only [Option.some.injEq, Prod.mk.injEq] at H
    obtain ⟨rfl, rfl, rfl⟩ := H
    go_wp2
    go_ret3
    exact ⟨_, _, by first | rfl | (simp [errW_none, errW_some] <;> rfl) | (simp [*, errW_none, errW_some] <;> rfl), by first | exact Kd.R_nil _ _ _ _ _ | exact Kd.N_nil _ _ _ _ _ | exact Kd.V_nil _ _ _ _ _ | exact Kd.Q_nil _ _ _ _ _ | exact Kd.S_nil _ _ _ _ _, by first | exact Kd.R_nil _ _ _ _ _ | exact Kd.N_nil _ _ _ _ _ | exact Kd.V_nil _ _ _ _ _ | exact Kd.Q_nil _ _ _ _ _ | exact Kd.S_nil _ _ _ _ _, bU_ HB.out⟩
   ·replace c7 := Bool.eq_false_iff.mpr c7
    subst c7
    rw [if_neg (show ¬ (false = true) by decide)] at H
    by_cases c8 : (l1.length : Int) = 0
    ·rw [if_pos c8] at H
     have c8b0 := beq_iff_eq.mpr c8
     have c8b1 := bne_eq_false_iff_eq.mpr c8
     clear c8
     simp only [Option.some.injEq, Prod.mk.injEq] at H
     obtain ⟨rfl, rfl, rfl⟩ := H
     go_wp2
     go_ret3
     exact ⟨_, _, by first | rfl | (simp [errW_none, errW_some] <;> rfl) | (simp [*, errW_none, errW_some] <;> rfl), by first | exact Kd.R_nil _ _ _ _ _ | exact Kd.N_nil _ _ _ _ _ | exact Kd.V_nil _ _ _ _ _ | exact Kd.Q_nil _ _ _ _ _ | exact Kd.S_nil _ _ _ _ _, by first | exact Kd.R_nil _ _ _ _ _ | exact Kd.N_nil _ _ _ _ _ | exact Kd.V_nil _ _ _ _ _ | exact Kd.Q_nil _ _ _ _ _ | exact Kd.S_nil _ _ _ _ _, bU_ HB.out⟩
    ·rw [if_neg c8] at H
     have c8b0 := beq_eq_false_iff_ne.mpr c8
     have c8b1 := bne_iff_ne.mpr c8
     have c8b2 : ¬ (l1 = []) := fun h_ => c8 (by rw [h_]; rfl)
     revert H
     refine bd2_ fun t1221 t1222 A9 H => ?_
     try dsimp only at H
     simp only [Option.some.injEq, Prod.mk.injEq] at H
     obtain ⟨rfl, rfl, rfl⟩ := H
     go_wp2_with (first | ((with_reducible refine gate_callee (f := 83) rfl ?_); refine gl_ (some 23) Tryd.func83 #[.slice A0 l0.length c0, .slice A1 l1.length c1] ?_; (with_reducible refine (attestorref02_quotient.calls kj2 _ _ l0 _ _ l1 t1221 t1222 _ ?side1 ?side2 ?side3 ?side4 A9.out).mono ?_); (case side1 => exact cU_ (Kd.C_below HR0.out HB.out)); (case side2 => exact HC0.out); (case side3 => exact cU_ (Kd.C_below HR1.out HB.out)); (case side4 => exact HC1.out); rintro e w10 ⟨v1223, v1225, rfl, ho0, ho1, hb⟩; refine ⟨_, rfl, ?_⟩; refine nx3_ (Kd.R_lower ho0 (below_size (bU_ HB.out))) (Kd.R_lower ho1 (below_size (bU_ HB.out))) (below_step (bU_ HB.out) hb) ?_; clear HB; intro HO1224 HO1226 HB; clear hb ho0 ho1))
     go_ret3
     exact ⟨_, _, by first | rfl | (simp [errW_none, errW_some] <;> rfl) | (simp [*, errW_none, errW_some] <;> rfl), rU_ HO1224.out, rU_ HO1226.out, bU_ HB.out⟩

/-! ### attestorref02_Gcd: function 55 -/
def attestorref02_Gcd.f (k : Nat) (l0 : List Int) (l1 : List Int) : Option (List Int) := (attestorref02_ValidNat.f l0).bind fun t1227 => (if t1227 = true then ((attestorref02_ValidNat.f l1).bind fun t1228 => (if t1228 = true then ((attestorref02_gcd.f k l0 l1).bind fun t1229 => (some t1229)) else (some ([] : List Int)))) else (some ([] : List Int)))
set_option maxHeartbeats 8000000 in
set_option maxRecDepth 100000 in
theorem attestorref02_Gcd.calls (k : Nat) (A0 : Option Addr) (c0 : Nat) (l0 : List Int) (A1 : Option Addr) (c1 : Nat) (l1 : List Int) (r : List Int) (w : World) (hr0 : Kd.C (Kd.int .u32) w A0 l0.length l0) (hc0 : l0.length ≤ c0) (hr1 : Kd.C (Kd.int .u32) w A1 l1.length l1) (hc1 : l1.length ≤ c1) (h : attestorref02_Gcd.f k l0 l1 = some r) :
  Calls Tryd.prog 55 #[.slice A0 l0.length c0, .slice A1 l1.length c1] w fun e w' => ∃ v0_ : Value, e = .returned (v0_) ∧ Kd.R (Kd.int .u32) 44 w' w.heap.size (fun _ => True) v0_ r ∧ Below w.heap.size w w' := by
 have HR0 := ak hr0
 have HC0 := ak hc0
 clear hr0 hc0
 have HR1 := ak hr1
 have HC1 := ak hc1
 clear hr1 hc1
 have HB := ak (Below.refl w.heap.size w)
 have H : ((attestorref02_ValidNat.f l0).bind fun t1227 => (if t1227 = true then ((attestorref02_ValidNat.f l1).bind fun t1228 => (if t1228 = true then ((attestorref02_gcd.f k l0 l1).bind fun t1229 => (some t1229)) else (some ([] : List Int)))) else (some ([] : List Int)))) = some r := h
 clear h
 revert H
 refine bd_ fun t1227 A3 H => ?_
 by_cases c4 : t1227 = true
 ·subst c4
  rw [if_pos rfl] at H
  revert H
  refine bd_ fun t1228 A5 H => ?_
  by_cases c6 : t1228 = true
  ·subst c6
   rw [if_pos rfl] at H
   revert H
   refine bd_ fun t1229 A7 H => ?_
   obtain rfl := Option.some.inj H
   go_enter Tryd.func55, Tryd.ntmps55
   go_wp2_with (first | ((with_reducible refine gate_callee (f := 48) rfl ?_); refine gl_ (some 6) Tryd.func48 #[.slice A0 l0.length c0] ?_; (with_reducible refine (attestorref02_ValidNat.calls _ _ l0 true _ ?side1 ?side2 A3.out).mono ?_); (case side1 => exact cU_ HR0.out); (case side2 => exact HC0.out); rintro e w' ⟨rfl, ⟨nd, rfl⟩⟩; refine ⟨_, rfl, ?_⟩) | (go_at_call 48; (with_reducible refine (attestorref02_ValidNat.calls _ _ l1 true _ ?side1 ?side2 A5.out).mono ?_); (case side1 => exact cU_ HR1.out); (case side2 => exact HC1.out); rintro e w' ⟨rfl, ⟨nd, rfl⟩⟩) | ((with_reducible refine gate_callee (f := 79) rfl ?_); refine gl_ (some 15) Tryd.func79 #[.slice A0 l0.length c0, .slice A1 l1.length c1] ?_; (with_reducible refine (attestorref02_gcd.calls k (fun k_ => k_ < w.heap.size) _ _ l0 (fun k_ => k_ < w.heap.size) _ _ l1 t1229 _ ?side1 ?side2 A7.out).mono ?_); (case side1 => exact Kd.V_mk HC0.out (Kd.F_below (Kd.C_F (Kd.heap_int .u32) HR0.out) (bU_ HB.out))); (case side2 => exact Kd.V_mk HC1.out (Kd.F_below (Kd.C_F (Kd.heap_int .u32) HR1.out) (bU_ HB.out))); rintro e w8 ⟨v1230, rfl, ho0, hb⟩; refine ⟨_, rfl, ?_⟩; refine nx2_ (Kd.R_lower (Kd.R_mono (ok' := fun k_ => True) ho0 (fun _ hk_ => trivial)) (below_size (bU_ HB.out))) (below_step (bU_ HB.out) hb) ?_; clear HB; intro HO1231 HB; clear hb ho0))
   go_ret
   exact ⟨_, by first | rfl | (simp [errW_none, errW_some] <;> rfl) | (simp [*, errW_none, errW_some] <;> rfl), rU_ HO1231.out, bU_ HB.out⟩
  ·replace c6 := Bool.eq_false_iff.mpr c6
   subst c6
   rw [if_neg (show ¬ (false = true) by decide)] at H
   obtain rfl := Option.some.inj H
   go_enter Tryd.func55, Tryd.ntmps55
   go_wp2_with (first | ((with_reducible refine gate_callee (f := 48) rfl ?_); refine gl_ (some 6) Tryd.func48 #[.slice A0 l0.length c0] ?_; (with_reducible refine (attestorref02_ValidNat.calls _ _ l0 true _ ?side1 ?side2 A3.out).mono ?_); (case side1 => exact cU_ HR0.out); (case side2 => exact HC0.out); rintro e w' ⟨rfl, ⟨nd, rfl⟩⟩; refine ⟨_, rfl, ?_⟩) | (go_at_call 48; (with_reducible refine (attestorref02_ValidNat.calls _ _ l1 false _ ?side1 ?side2 A5.out).mono ?_); (case side1 => exact cU_ HR1.out); (case side2 => exact HC1.out); rintro e w' ⟨rfl, ⟨nd, rfl⟩⟩))
   go_ret
   exact ⟨_, by first | rfl | (simp [errW_none, errW_some] <;> rfl) | (simp [*, errW_none, errW_some] <;> rfl), by first | exact Kd.R_nil _ _ _ _ _ | exact Kd.N_nil _ _ _ _ _ | exact Kd.V_nil _ _ _ _ _ | exact Kd.Q_nil _ _ _ _ _ | exact Kd.S_nil _ _ _ _ _, bU_ HB.out⟩
 ·replace c4 := Bool.eq_false_iff.mpr c4
  subst c4
  rw [if_neg (show ¬ (false = true) by decide)] at H
  obtain rfl := Option.some.inj H
  go_enter Tryd.func55, Tryd.ntmps55
  go_wp2_with (first | ((with_reducible refine gate_callee (f := 48) rfl ?_); refine gl_ (some 6) Tryd.func48 #[.slice A0 l0.length c0] ?_; (with_reducible refine (attestorref02_ValidNat.calls _ _ l0 false _ ?side1 ?side2 A3.out).mono ?_); (case side1 => exact cU_ HR0.out); (case side2 => exact HC0.out); rintro e w' ⟨rfl, ⟨nd, rfl⟩⟩; refine ⟨_, rfl, ?_⟩))
  go_ret
  exact ⟨_, by first | rfl | (simp [errW_none, errW_some] <;> rfl) | (simp [*, errW_none, errW_some] <;> rfl), by first | exact Kd.R_nil _ _ _ _ _ | exact Kd.N_nil _ _ _ _ _ | exact Kd.V_nil _ _ _ _ _ | exact Kd.Q_nil _ _ _ _ _ | exact Kd.S_nil _ _ _ _ _, bU_ HB.out⟩

/-! ### attestorlaw02_RatioNats: function 9 -/
mutual
def attestorlaw02_RatioNats.j0 : Nat → List Int → List Int → List Int → List Int → Option (Bool)
 | 0, _, _, _, _ => none
 | k + 1, x0, x1, x5, x6 => (ratio_Sum.f k x0 x1).bind fun bt1254 => ((attestorref02_Sum.f k x5 x6).bind fun bt1258 => (if bt1254.2 = bt1258.2 then ((attestorref02_SameNat.f k bt1254.1 bt1258.1).bind fun t1262 => (if t1262 = true then (attestorlaw02_RatioNats.j1 k x0 x1 x5 x6) else (none))) else (none)))
def attestorlaw02_RatioNats.j1 : Nat → List Int → List Int → List Int → List Int → Option (Bool)
 | 0, _, _, _, _ => none
 | k + 1, x0, x1, x5, x6 => (ratio_Diff.f k x0 x1).bind fun bt1263 => ((attestorref02_Diff.f k x5 x6).bind fun bt1267 => (if bt1263.2 = bt1267.2 then ((attestorref02_SameNat.f k bt1263.1 bt1267.1).bind fun t1271 => (if t1271 = true then (attestorlaw02_RatioNats.j2 k x0 x1 x5 x6) else (none))) else (none)))
def attestorlaw02_RatioNats.j2 : Nat → List Int → List Int → List Int → List Int → Option (Bool)
 | 0, _, _, _, _ => none
 | k + 1, x0, x1, x5, x6 => (ratio_Product.f k x0 x1).bind fun bt1272 => ((attestorref02_Product.f k x5 x6).bind fun bt1276 => (if bt1272.2 = bt1276.2 then ((attestorref02_SameNat.f k bt1272.1 bt1276.1).bind fun t1280 => (if t1280 = true then (attestorlaw02_RatioNats.j3 k x0 x1 x5 x6) else (none))) else (none)))
def attestorlaw02_RatioNats.j3 : Nat → List Int → List Int → List Int → List Int → Option (Bool)
 | 0, _, _, _, _ => none
 | k + 1, x0, x1, x5, x6 => (ratio_Quotient.f k x0 x1).bind fun bt1281 => ((attestorref02_Quotient.f k x5 x6).bind fun bt1288 => (if bt1281.2.2 = bt1288.2.2 then ((attestorref02_SameNat.f k bt1281.1 bt1288.1).bind fun t1295 => (if t1295 = true then ((attestorref02_SameNat.f k bt1281.2.1 bt1288.2.1).bind fun t1296 => (if t1296 = true then ((ratio_Gcd.f k x0 x1).bind fun t1297 => ((attestorref02_Gcd.f k x5 x6).bind fun t1300 => ((attestorref02_SameNat.f k t1297 t1300).bind fun t1303 => (if t1303 = true then ((attestorref02_SameNat.f k x0 x5).bind fun t1304 => (if t1304 = true then ((attestorref02_SameNat.f k x1 x6).bind fun t1305 => (if t1305 = true then ((attestorlaw02_works.f k).bind fun t1306 => (some t1306)) else (none))) else (none))) else (none))))) else (none))) else (none))) else (none)))
end
def attestorlaw02_RatioNats.f (k : Nat) (l0 : List Int) (l1 : List Int) : Option (Bool) := (attestorlaw02_own.f l0).bind fun t1232 => ((attestorlaw02_own.f l1).bind fun t1235 => ((attestorlaw02_own.f t1232).bind fun t1238 => ((attestorlaw02_own.f t1235).bind fun t1241 => ((ratio_Value.f k t1232).bind fun bt1244 => ((attestorref02_Value.f k t1238).bind fun bt1246 => ((ratio_ValidNat.f k t1232).bind fun t1248 => ((attestorref02_ValidNat.f t1238).bind fun t1249 => (if (t1248 != t1249) = true then (none) else (if bt1244.1 = bt1246.1 then (if (bt1244.2 != bt1246.2) = true then (none) else ((ratio_Compare.f k t1232 t1235).bind fun t1250 => ((attestorref02_Compare.f k t1238 t1241).bind fun t1251 => (if t1250 = t1251 then ((ratio_Text.f k t1232).bind fun t1252 => ((attestorref02_Text.f k t1238).bind fun t1253 => (if t1252.toList = t1253.toList then (attestorlaw02_RatioNats.j0 k t1232 t1235 t1238 t1241) else (none)))) else (none))))) else (none))))))))))
set_option maxHeartbeats 8000000 in
set_option maxRecDepth 100000 in
theorem attestorlaw02_RatioNats.calls (k : Nat) (A0 : Option Addr) (c0 : Nat) (l0 : List Int) (A1 : Option Addr) (c1 : Nat) (l1 : List Int) (r : Bool) (w : World) (hr0 : Kd.C (Kd.int .u32) w A0 l0.length l0) (hc0 : l0.length ≤ c0) (hr1 : Kd.C (Kd.int .u32) w A1 l1.length l1) (hc1 : l1.length ≤ c1) (h : attestorlaw02_RatioNats.f k l0 l1 = some r) :
  Calls Tryd.prog 9 #[.slice A0 l0.length c0, .slice A1 l1.length c1] w fun e w' => e = .returned (.bool r) ∧ Below w.heap.size w w' := by
 have HR0 := ak hr0
 have HC0 := ak hc0
 clear hr0 hc0
 have HR1 := ak hr1
 have HC1 := ak hc1
 clear hr1 hc1
 have HB := ak (Below.refl w.heap.size w)
 have H : ((attestorlaw02_own.f l0).bind fun t1232 => ((attestorlaw02_own.f l1).bind fun t1235 => ((attestorlaw02_own.f t1232).bind fun t1238 => ((attestorlaw02_own.f t1235).bind fun t1241 => ((ratio_Value.f k t1232).bind fun bt1244 => ((attestorref02_Value.f k t1238).bind fun bt1246 => ((ratio_ValidNat.f k t1232).bind fun t1248 => ((attestorref02_ValidNat.f t1238).bind fun t1249 => (if (t1248 != t1249) = true then (none) else (if bt1244.1 = bt1246.1 then (if (bt1244.2 != bt1246.2) = true then (none) else ((ratio_Compare.f k t1232 t1235).bind fun t1250 => ((attestorref02_Compare.f k t1238 t1241).bind fun t1251 => (if t1250 = t1251 then ((ratio_Text.f k t1232).bind fun t1252 => ((attestorref02_Text.f k t1238).bind fun t1253 => (if t1252.toList = t1253.toList then (attestorlaw02_RatioNats.j0 k t1232 t1235 t1238 t1241) else (none)))) else (none))))) else (none))))))))))) = some r := h
 clear h
 revert H
 refine bd_ fun t1232 A3 H => ?_
 revert H
 refine bd_ fun t1235 A4 H => ?_
 revert H
 refine bd_ fun t1238 A5 H => ?_
 revert H
 refine bd_ fun t1241 A6 H => ?_
 revert H
 refine bd2_ fun t1244 t1245 A7 H => ?_
 try dsimp only at H
 revert H
 refine bd2_ fun t1246 t1247 A8 H => ?_
 try dsimp only at H
 revert H
 refine bd_ fun t1248 A9 H => ?_
 revert H
 refine bd_ fun t1249 A10 H => ?_
 by_cases c11 : (t1248 != t1249) = true
 ·rw [if_pos c11] at H
  exact absurd H (by simp)
 ·rw [if_neg c11] at H
  have c11b0 : (t1248 != t1249) = false := by simpa using c11
  (try (have c11b1 : decide (t1248 = t1249) = true := by simpa using c11))
  (try (have c11b2 : (t1248 == t1249) = true := by simpa using c11))
  clear c11
  obtain ⟨c12, H⟩ : (t1244 = t1246) ∧ _ := it_ H
  have c12b0 := beq_iff_eq.mpr c12
  have c12b1 := bne_eq_false_iff_eq.mpr c12
  clear c12
  by_cases c13 : (t1245 != t1247) = true
  ·rw [if_pos c13] at H
   exact absurd H (by simp)
  ·rw [if_neg c13] at H
   have c13b0 : (t1245 != t1247) = false := by simpa using c13
   (try (have c13b1 : decide (t1245 = t1247) = true := by simpa using c13))
   (try (have c13b2 : (t1245 == t1247) = true := by simpa using c13))
   clear c13
   revert H
   refine bd_ fun t1250 A14 H => ?_
   revert H
   refine bd_ fun t1251 A15 H => ?_
   obtain ⟨c16, H⟩ : (t1250 = t1251) ∧ _ := it_ H
   have c16b0 := beq_iff_eq.mpr c16
   have c16b1 := bne_eq_false_iff_eq.mpr c16
   clear c16
   revert H
   refine bd_ fun t1252 A17 H => ?_
   revert H
   refine bd_ fun t1253 A18 H => ?_
   have HC19 := ak H
   clear H
   go_enter Tryd.func9, Tryd.ntmps9
   go_upto_if 65 with (first | ((with_reducible refine gate_callee (f := 37) rfl ?_); refine gl_ (some 18) Tryd.func37 #[.slice A0 l0.length c0] ?_; (with_reducible refine (attestorlaw02_own.calls _ _ l0 t1232 _ ?side1 ?side2 A3.out).mono ?_); (case side1 => exact cU_ HR0.out); (case side2 => exact HC0.out); rintro e w20 ⟨v1233, rfl, ho0, hb⟩; refine ⟨_, rfl, ?_⟩; refine nx2_ (Kd.R_lower ho0 (below_size (bU_ HB.out))) (below_step (bU_ HB.out) hb) ?_; clear HB; intro HO1234 HB; clear hb ho0) | ((with_reducible refine gate_callee (f := 37) rfl ?_); refine gl_ (some 20) Tryd.func37 #[.slice A1 l1.length c1] ?_; (with_reducible refine (attestorlaw02_own.calls _ _ l1 t1235 _ ?side1 ?side2 A4.out).mono ?_); (case side1 => exact cU_ (Kd.C_below HR1.out HB.out)); (case side2 => exact HC1.out); rintro e w21 ⟨v1236, rfl, ho0, hb⟩; refine ⟨_, rfl, ?_⟩; refine nx3_ (Kd.R_elder' (rU_ HO1234.out) (Kd.R_base ho0) hb) (Kd.R_lower (Kd.R_new' ho0 (Kd.R_lt (rU_ HO1234.out))) (below_size (bU_ HB.out))) (below_step (bU_ HB.out) hb) ?_; clear HO1234 HB; intro HO1234 HO1237 HB; clear hb ho0; obtain ⟨Ao22, co22, eo22⟩ := Kd.R_slice HO1234.out; subst eo22) | ((with_reducible refine gate_callee (f := 37) rfl ?_); refine gl_ (some 22) Tryd.func37 #[.slice Ao22 t1232.length co22] ?_; (with_reducible refine (attestorlaw02_own.calls _ _ t1232 t1238 _ ?side1 ?side2 A5.out).mono ?_); (case side1 => exact cU_ ((Kd.R_reads' HO1234.out).2.2)); (case side2 => exact (Kd.R_reads' HO1234.out).2.1); rintro e w23 ⟨v1239, rfl, ho0, hb⟩; refine ⟨_, rfl, ?_⟩; refine nx4_ (Kd.R_elder' (rU_ HO1234.out) (Kd.R_base ho0) hb) (Kd.R_elder' (rU_ HO1237.out) (Kd.R_base ho0) hb) (Kd.R_lower (Kd.R_new' (Kd.R_new' ho0 (Kd.R_lt (rU_ HO1234.out))) (Kd.R_lt (rU_ HO1237.out))) (below_size (bU_ HB.out))) (below_step (bU_ HB.out) hb) ?_; clear HO1234 HO1237 HB; intro HO1234 HO1237 HO1240 HB; clear hb ho0; obtain ⟨Ao24, co24, eo24⟩ := Kd.R_slice HO1237.out; subst eo24) | ((with_reducible refine gate_callee (f := 37) rfl ?_); refine gl_ (some 24) Tryd.func37 #[.slice Ao24 t1235.length co24] ?_; (with_reducible refine (attestorlaw02_own.calls _ _ t1235 t1241 _ ?side1 ?side2 A6.out).mono ?_); (case side1 => exact cU_ ((Kd.R_reads' HO1237.out).2.2)); (case side2 => exact (Kd.R_reads' HO1237.out).2.1); rintro e w25 ⟨v1242, rfl, ho0, hb⟩; refine ⟨_, rfl, ?_⟩; refine nx5_ (Kd.R_elder' (rU_ HO1234.out) (Kd.R_base ho0) hb) (Kd.R_elder' (rU_ HO1237.out) (Kd.R_base ho0) hb) (Kd.R_elder' (rU_ HO1240.out) (Kd.R_base ho0) hb) (Kd.R_lower (Kd.R_new' (Kd.R_new' (Kd.R_new' ho0 (Kd.R_lt (rU_ HO1234.out))) (Kd.R_lt (rU_ HO1237.out))) (Kd.R_lt (rU_ HO1240.out))) (below_size (bU_ HB.out))) (below_step (bU_ HB.out) hb) ?_; clear HO1234 HO1237 HO1240 HB; intro HO1234 HO1237 HO1240 HO1243 HB; clear hb ho0) | ((with_reducible refine gate_callee (f := 46) rfl ?_); refine gl_ (some 27) Tryd.func46 #[.slice Ao22 t1232.length co22] ?_; (with_reducible refine (ratio_Value.calls k _ _ t1232 t1244 t1245 _ ?side1 ?side2 A7.out).mono ?_); (case side1 => exact cU_ ((Kd.R_reads' HO1234.out).2.2)); (case side2 => exact (Kd.R_reads' HO1234.out).2.1); rintro e w26 ⟨rfl, hb⟩; refine ⟨_, rfl, ?_⟩; refine nx5_ (Kd.R_below (rU_ HO1234.out) hb) (Kd.R_below (rU_ HO1237.out) hb) (Kd.R_below (rU_ HO1240.out) hb) (Kd.R_below (rU_ HO1243.out) hb) (below_step (bU_ HB.out) hb) ?_; clear HO1234 HO1237 HO1240 HO1243 HB; intro HO1234 HO1237 HO1240 HO1243 HB; clear hb; obtain ⟨Ao27, co27, eo27⟩ := Kd.R_slice HO1240.out; subst eo27) | ((with_reducible refine gate_callee (f := 47) rfl ?_); refine gl_ (some 32) Tryd.func47 #[.slice Ao27 t1238.length co27] ?_; (with_reducible refine (attestorref02_Value.calls k _ _ t1238 t1246 t1247 _ ?side1 ?side2 A8.out).mono ?_); (case side1 => exact cU_ ((Kd.R_reads' HO1240.out).2.2)); (case side2 => exact (Kd.R_reads' HO1240.out).2.1); rintro e w' ⟨rfl, ⟨nd, rfl⟩⟩; refine ⟨_, rfl, ?_⟩) | ((with_reducible refine gate_callee (f := 27) rfl ?_); refine gl_ (some 36) Tryd.func27 #[.slice Ao22 t1232.length co22] ?_; (with_reducible refine (ratio_ValidNat.calls k _ _ t1232 t1248 _ ?side1 ?side2 A9.out).mono ?_); (case side1 => exact cU_ ((Kd.R_reads' HO1234.out).2.2)); (case side2 => exact (Kd.R_reads' HO1234.out).2.1); rintro e w28 ⟨rfl, hb⟩; refine ⟨_, rfl, ?_⟩; refine nx5_ (Kd.R_below (rU_ HO1234.out) hb) (Kd.R_below (rU_ HO1237.out) hb) (Kd.R_below (rU_ HO1240.out) hb) (Kd.R_below (rU_ HO1243.out) hb) (below_step (bU_ HB.out) hb) ?_; clear HO1234 HO1237 HO1240 HO1243 HB; intro HO1234 HO1237 HO1240 HO1243 HB; clear hb) | ((with_reducible refine gate_callee (f := 48) rfl ?_); refine gl_ (some 38) Tryd.func48 #[.slice Ao27 t1238.length co27] ?_; (with_reducible refine (attestorref02_ValidNat.calls _ _ t1238 t1249 _ ?side1 ?side2 A10.out).mono ?_); (case side1 => exact cU_ ((Kd.R_reads' HO1240.out).2.2)); (case side2 => exact (Kd.R_reads' HO1240.out).2.1); rintro e w' ⟨rfl, ⟨nd, rfl⟩⟩; refine ⟨_, rfl, ?_⟩) | (go_at_call 26; (with_reducible refine (ratio_Compare.calls k _ _ t1232 _ _ t1235 t1250 _ ?side1 ?side2 ?side3 ?side4 A14.out).mono ?_); (case side1 => exact cU_ ((Kd.R_reads' HO1234.out).2.2)); (case side2 => exact (Kd.R_reads' HO1234.out).2.1); (case side3 => exact cU_ ((Kd.R_reads' HO1237.out).2.2)); (case side4 => exact (Kd.R_reads' HO1237.out).2.1); rintro e w29 ⟨rfl, hb⟩; refine nx5_ (Kd.R_below (rU_ HO1234.out) hb) (Kd.R_below (rU_ HO1237.out) hb) (Kd.R_below (rU_ HO1240.out) hb) (Kd.R_below (rU_ HO1243.out) hb) (below_step (bU_ HB.out) hb) ?_; clear HO1234 HO1237 HO1240 HO1243 HB; intro HO1234 HO1237 HO1240 HO1243 HB; clear hb; obtain ⟨Ao30, co30, eo30⟩ := Kd.R_slice HO1243.out; subst eo30) | (go_at_call 49; (with_reducible refine (attestorref02_Compare.calls k _ _ t1238 _ _ t1241 t1251 _ ?side1 ?side2 ?side3 ?side4 A15.out).mono ?_); (case side1 => exact cU_ ((Kd.R_reads' HO1240.out).2.2)); (case side2 => exact (Kd.R_reads' HO1240.out).2.1); (case side3 => exact cU_ ((Kd.R_reads' HO1243.out).2.2)); (case side4 => exact (Kd.R_reads' HO1243.out).2.1); rintro e w' ⟨rfl, ⟨nd, rfl⟩⟩) | (go_at_call 21; (with_reducible refine (ratio_Text.calls k (fun k_ => some k_ = (.slice Ao22 t1232.length co22 : Value).ownBlock) _ _ t1232 t1252 _ ?side1 A17.out).mono ?_); (case side1 => exact Kd.R_V (Kd.R_tight rfl (HO1234.out))); rintro e w31 ⟨rfl, hb⟩; refine nx5_ (Kd.R_below (rU_ HO1234.out) hb) (Kd.R_below (rU_ HO1237.out) hb) (Kd.R_below (rU_ HO1240.out) hb) (Kd.R_below (rU_ HO1243.out) hb) (below_step (bU_ HB.out) hb) ?_; clear HO1234 HO1237 HO1240 HO1243 HB; intro HO1234 HO1237 HO1240 HO1243 HB; clear hb) | (go_at_call 50; (with_reducible refine (attestorref02_Text.calls k (fun k_ => some k_ = (.slice Ao27 t1238.length co27 : Value).ownBlock) _ _ t1238 t1253 _ ?side1 A18.out).mono ?_); (case side1 => exact Kd.R_V (Kd.R_tight rfl (HO1240.out))); rintro e w32 ⟨rfl, hb⟩; refine nx5_ (Kd.R_below (rU_ HO1234.out) hb) (Kd.R_below (rU_ HO1237.out) hb) (Kd.R_below (rU_ HO1240.out) hb) (Kd.R_below (rU_ HO1243.out) hb) (below_step (bU_ HB.out) hb) ?_; clear HO1234 HO1237 HO1240 HO1243 HB; intro HO1234 HO1237 HO1240 HO1243 HB; clear hb))
   (try simp only [Act.put, s1_, s2_, s3_])
   go_cut [] (fun wc => ∃ (kq : Nat), Aside0 (attestorlaw02_RatioNats.j0 kq t1232 t1235 t1238 t1241 = some r) ∧ Aside0 (kq ≤ k) ∧ Aside0 (Kd.R (Kd.int .u32) 44 wc w.heap.size (fun k_ => some k_ ≠ ((.slice Ao24 t1235.length co24) : Value).ownBlock ∧ some k_ ≠ ((.slice Ao27 t1238.length co27) : Value).ownBlock ∧ some k_ ≠ ((.slice Ao30 t1241.length co30) : Value).ownBlock) (.slice Ao22 t1232.length co22) t1232) ∧ Aside0 (Kd.R (Kd.int .u32) 44 wc w.heap.size (fun k_ => some k_ ≠ ((.slice Ao22 t1232.length co22) : Value).ownBlock ∧ some k_ ≠ ((.slice Ao27 t1238.length co27) : Value).ownBlock ∧ some k_ ≠ ((.slice Ao30 t1241.length co30) : Value).ownBlock) (.slice Ao24 t1235.length co24) t1235) ∧ Aside0 (Kd.R (Kd.int .u32) 44 wc w.heap.size (fun k_ => some k_ ≠ ((.slice Ao22 t1232.length co22) : Value).ownBlock ∧ some k_ ≠ ((.slice Ao24 t1235.length co24) : Value).ownBlock ∧ some k_ ≠ ((.slice Ao30 t1241.length co30) : Value).ownBlock) (.slice Ao27 t1238.length co27) t1238) ∧ Aside0 (Kd.R (Kd.int .u32) 44 wc w.heap.size (fun k_ => some k_ ≠ ((.slice Ao22 t1232.length co22) : Value).ownBlock ∧ some k_ ≠ ((.slice Ao24 t1235.length co24) : Value).ownBlock ∧ some k_ ≠ ((.slice Ao27 t1238.length co27) : Value).ownBlock) (.slice Ao30 t1241.length co30) t1241) ∧ Aside0 (Below w.heap.size w wc))
   case first =>
    have H := HC19.out
    clear HC19
    obtain ⟨c33, H⟩ : (t1252.toList = t1253.toList) ∧ _ := it_ H
    have c33b0 := beq_iff_eq.mpr c33
    have c33b1 := bne_eq_false_iff_eq.mpr c33
    clear c33
    (first | rw [c33b0] | (simp only [i64_w, i32_w]; rw [c33b0]) | rw [c33b1] | skip)
    have H' := ak H
    clear H
    go_wp2
    go_meet
    case rel => exact ⟨_, H', ⟨by first | omega | exact Nat.le_refl _⟩, ⟨Kd.R_mono (rU_ HO1234.out) (fun _ hk => ⟨hk.1.1.2, ⟨hk.1.2, hk.2⟩⟩)⟩, ⟨Kd.R_mono (rU_ HO1237.out) (fun _ hk => ⟨hk.1.1.2, ⟨hk.1.2, hk.2⟩⟩)⟩, ⟨Kd.R_mono (rU_ HO1240.out) (fun _ hk => ⟨hk.1.1.2, ⟨hk.1.2, hk.2⟩⟩)⟩, ⟨Kd.R_mono (rU_ HO1243.out) (fun _ hk => ⟨hk.1.1.2, ⟨hk.1.2, hk.2⟩⟩)⟩, ⟨bU_ HB.out⟩⟩
   case rest =>
    clear HC19
    (try clear c1); (try clear c2); (try clear p2); (try clear c3); (try clear c4); (try clear c9); (try clear c11); (try clear c11b0); (try clear c11b1); (try clear c11b2); (try clear c12); (try clear c12b0); (try clear c12b1); (try clear c13); (try clear c13b0); (try clear c13b1); (try clear c13b2); (try clear c16); (try clear c16b0); (try clear c16b1); (try clear c27); (try clear c33); (try clear c33b0); (try clear c33b1)
    obtain ⟨kq, HA, HJ18, HO_0, HO_1, HO_5, HO_6, HB⟩ := hcut
    cases kq with
    | zero => exact absurd HA.out (by simp [attestorlaw02_RatioNats.j0])
    | succ kj18 =>
     have H := HA.out
     clear HA
     simp only [attestorlaw02_RatioNats.j0] at H
     revert H
     refine bd2_ fun t1254 t1257 A34 H => ?_
     try dsimp only at H
     revert H
     refine bd2_ fun t1258 t1261 A35 H => ?_
     try dsimp only at H
     obtain ⟨c36, H⟩ : (t1257 = t1261) ∧ _ := it_ H
     have c36b0 := beq_iff_eq.mpr c36
     have c36b1 := bne_eq_false_iff_eq.mpr c36
     clear c36
     revert H
     refine bd_ fun t1262 A37 H => ?_
     have HC38 := ak H
     clear H
     go_upto_if 86 with (first | ((with_reducible refine gate_callee (f := 29) rfl ?_); refine gl_ (some 69) Tryd.func29 #[.slice Ao22 t1232.length co22, .slice Ao24 t1235.length co24] ?_; (with_reducible refine (ratio_Sum.calls kj18 (fun k_ => some k_ = (.slice Ao22 t1232.length co22 : Value).ownBlock) _ _ t1232 (fun k_ => some k_ = (.slice Ao24 t1235.length co24 : Value).ownBlock) _ _ t1235 t1254 t1257 _ ?side1 ?side2 A34.out).mono ?_); (case side1 => exact Kd.R_V (Kd.R_tight rfl (HO_0.out))); (case side2 => exact Kd.R_V (Kd.R_tight rfl (HO_1.out))); rintro e w39 ⟨v1255, rfl, ho0, hb⟩; refine ⟨_, rfl, ?_⟩; refine nx6_ (Kd.R_below (rU_ HO_0.out) hb) (Kd.R_below (rU_ HO_1.out) hb) (Kd.R_below (rU_ HO_5.out) hb) (Kd.R_below (rU_ HO_6.out) hb) (Kd.V_lower (Kd.V_mono (ok' := fun k_ => some k_ ≠ (.slice Ao27 t1238.length co27 : Value).ownBlock ∧ some k_ ≠ (.slice Ao30 t1241.length co30 : Value).ownBlock) ho0 (fun k_ hk_ => ⟨Or.elim hk_ (fun hs_ => Or.elim hs_ (fun hs_ => ((HO_0.out).1 k_ hs_.symm).2.1) (fun hs_ => ((HO_1.out).1 k_ hs_.symm).2.1)) (fun hn_ => (Kd.fresh' (Kd.R_lt (rU_ HO_5.out)) k_ hn_)), Or.elim hk_ (fun hs_ => Or.elim hs_ (fun hs_ => ((HO_0.out).1 k_ hs_.symm).2.2) (fun hs_ => ((HO_1.out).1 k_ hs_.symm).2.2)) (fun hn_ => (Kd.fresh' (Kd.R_lt (rU_ HO_6.out)) k_ hn_))⟩)) (below_size (bU_ HB.out))) (below_step (bU_ HB.out) hb) ?_; clear HO_0 HO_1 HO_5 HO_6 HB; intro HO_0 HO_1 HO_5 HO_6 HO1256 HB; clear hb ho0) | ((with_reducible refine gate_callee (f := 51) rfl ?_); refine gl_ (some 75) Tryd.func51 #[.slice Ao27 t1238.length co27, .slice Ao30 t1241.length co30] ?_; (with_reducible refine (attestorref02_Sum.calls kj18 _ _ t1238 _ _ t1241 t1258 t1261 _ ?side1 ?side2 ?side3 ?side4 A35.out).mono ?_); (case side1 => exact cU_ ((Kd.R_reads' HO_5.out).2.2)); (case side2 => exact (Kd.R_reads' HO_5.out).2.1); (case side3 => exact cU_ ((Kd.R_reads' HO_6.out).2.2)); (case side4 => exact (Kd.R_reads' HO_6.out).2.1); rintro e w40 ⟨v1259, rfl, ho0, hb⟩; refine ⟨_, rfl, ?_⟩; refine nx7_ (Kd.R_below (rU_ HO_0.out) hb) (Kd.R_below (rU_ HO_1.out) hb) (Kd.R_below (rU_ HO_5.out) hb) (Kd.R_below (rU_ HO_6.out) hb) (Kd.V_below (by (with_reducible repeat (first | apply Kd.V_alloc | apply Kd.V_drewN | apply Kd.V_drew)); exact HO1256.out) hb) (Kd.V_lower (Kd.V_mono (ok' := fun k_ => some k_ ≠ (.slice Ao22 t1232.length co22 : Value).ownBlock ∧ some k_ ≠ (.slice Ao24 t1235.length co24 : Value).ownBlock ∧ some k_ ≠ (.slice Ao27 t1238.length co27 : Value).ownBlock ∧ some k_ ≠ (.slice Ao30 t1241.length co30 : Value).ownBlock) ho0 (fun k_ hk_ => ⟨(Kd.fresh' (Kd.R_lt (rU_ HO_0.out)) k_ hk_), (Kd.fresh' (Kd.R_lt (rU_ HO_1.out)) k_ hk_), (Kd.fresh' (Kd.R_lt (rU_ HO_5.out)) k_ hk_), (Kd.fresh' (Kd.R_lt (rU_ HO_6.out)) k_ hk_)⟩)) (below_size (bU_ HB.out))) (below_step (bU_ HB.out) hb) ?_; clear HO_0 HO_1 HO_5 HO_6 HO1256 HB; intro HO_0 HO_1 HO_5 HO_6 HO1256 HO1260 HB; clear hb ho0; obtain ⟨Ao41, co41, eo41⟩ := Kd.V_slice HO1256.out; subst eo41; obtain ⟨Ao42, co42, eo42⟩ := Kd.V_slice HO1260.out; subst eo42) | (go_at_call 15; (with_reducible refine (attestorref02_SameNat.calls kj18 _ _ t1254 _ _ t1258 t1262 _ ?side1 ?side2 ?side3 ?side4 A37.out).mono ?_); (case side1 => exact cU_ ((Kd.V_reads' HO1256.out).2.2)); (case side2 => exact (Kd.V_reads' HO1256.out).2.1); (case side3 => exact cU_ ((Kd.V_reads' HO1260.out).2.2)); (case side4 => exact (Kd.V_reads' HO1260.out).2.1); rintro e w' ⟨rfl, ⟨nd, rfl⟩⟩))
     (try simp only [Act.put, s1_, s2_, s3_])
     go_cut [] (fun wc => ∃ (kq : Nat), Aside0 (attestorlaw02_RatioNats.j1 kq t1232 t1235 t1238 t1241 = some r) ∧ Aside0 (kq ≤ kj18) ∧ Aside0 (Kd.R (Kd.int .u32) 44 wc w.heap.size (fun k_ => some k_ ≠ ((.slice Ao24 t1235.length co24) : Value).ownBlock ∧ some k_ ≠ ((.slice Ao27 t1238.length co27) : Value).ownBlock ∧ some k_ ≠ ((.slice Ao30 t1241.length co30) : Value).ownBlock) (.slice Ao22 t1232.length co22) t1232) ∧ Aside0 (Kd.R (Kd.int .u32) 44 wc w.heap.size (fun k_ => some k_ ≠ ((.slice Ao22 t1232.length co22) : Value).ownBlock ∧ some k_ ≠ ((.slice Ao27 t1238.length co27) : Value).ownBlock ∧ some k_ ≠ ((.slice Ao30 t1241.length co30) : Value).ownBlock) (.slice Ao24 t1235.length co24) t1235) ∧ Aside0 (Kd.R (Kd.int .u32) 44 wc w.heap.size (fun k_ => some k_ ≠ ((.slice Ao22 t1232.length co22) : Value).ownBlock ∧ some k_ ≠ ((.slice Ao24 t1235.length co24) : Value).ownBlock ∧ some k_ ≠ ((.slice Ao30 t1241.length co30) : Value).ownBlock) (.slice Ao27 t1238.length co27) t1238) ∧ Aside0 (Kd.R (Kd.int .u32) 44 wc w.heap.size (fun k_ => some k_ ≠ ((.slice Ao22 t1232.length co22) : Value).ownBlock ∧ some k_ ≠ ((.slice Ao24 t1235.length co24) : Value).ownBlock ∧ some k_ ≠ ((.slice Ao27 t1238.length co27) : Value).ownBlock) (.slice Ao30 t1241.length co30) t1241) ∧ Aside0 (Below w.heap.size w wc))
     case first =>
      have H := HC38.out
      clear HC38
      by_cases c43 : t1262 = true
      ·subst c43
       rw [if_pos rfl] at H
       have H' := ak H
       clear H
       go_wp2
       go_meet
       case rel => exact ⟨_, H', ⟨by have := HJ18.out; first | omega | exact Nat.le_refl _⟩, ⟨rU_ HO_0.out⟩, ⟨rU_ HO_1.out⟩, ⟨rU_ HO_5.out⟩, ⟨rU_ HO_6.out⟩, ⟨bU_ HB.out⟩⟩
      ·replace c43 := Bool.eq_false_iff.mpr c43
       subst c43
       rw [if_neg (show ¬ (false = true) by decide)] at H
       exact absurd H (by simp)
     case rest =>
      clear HC38
      (try clear c1); (try clear c2); (try clear p2); (try clear c3); (try clear c4); (try clear c5); (try clear c9); (try clear c11); (try clear c11b0); (try clear c11b1); (try clear c11b2); (try clear c12); (try clear c12b0); (try clear c12b1); (try clear c13); (try clear c13b0); (try clear c13b1); (try clear c13b2); (try clear c16); (try clear c16b0); (try clear c16b1); (try clear c27); (try clear c29); (try clear c33); (try clear c33b0); (try clear c33b1); (try clear c36); (try clear c36b0); (try clear c36b1); (try clear c37); (try clear c43)
      obtain ⟨kq, HA, HJ37, HO_0, HO_1, HO_5, HO_6, HB⟩ := hcut
      cases kq with
      | zero => exact absurd HA.out (by simp [attestorlaw02_RatioNats.j1])
      | succ kj37 =>
       have H := HA.out
       clear HA
       simp only [attestorlaw02_RatioNats.j1] at H
       revert H
       refine bd2_ fun t1263 t1266 A44 H => ?_
       try dsimp only at H
       revert H
       refine bd2_ fun t1267 t1268 A45 H => ?_
       try dsimp only at H
       obtain ⟨c46, H⟩ : (t1266 = t1268) ∧ _ := it_ H
       have c46b0 := beq_iff_eq.mpr c46
       have c46b1 := bne_eq_false_iff_eq.mpr c46
       clear c46
       revert H
       refine bd_ fun t1271 A47 H => ?_
       have HC48 := ak H
       clear H
       go_upto_if 107 with (first | ((with_reducible refine gate_callee (f := 36) rfl ?_); refine gl_ (some 90) Tryd.func36 #[.slice Ao22 t1232.length co22, .slice Ao24 t1235.length co24] ?_; (with_reducible refine (ratio_Diff.calls kj37 _ _ t1232 _ _ t1235 t1263 t1266 _ ?side1 ?side2 ?side3 ?side4 A44.out).mono ?_); (case side1 => exact cU_ ((Kd.R_reads' HO_0.out).2.2)); (case side2 => exact (Kd.R_reads' HO_0.out).2.1); (case side3 => exact cU_ ((Kd.R_reads' HO_1.out).2.2)); (case side4 => exact (Kd.R_reads' HO_1.out).2.1); rintro e w49 ⟨v1264, rfl, ho0, hb⟩; refine ⟨_, rfl, ?_⟩; refine nx6_ (Kd.R_below (rU_ HO_0.out) hb) (Kd.R_below (rU_ HO_1.out) hb) (Kd.R_below (rU_ HO_5.out) hb) (Kd.R_below (rU_ HO_6.out) hb) (Kd.V_lower (Kd.V_mono (ok' := fun k_ => some k_ ≠ (.slice Ao22 t1232.length co22 : Value).ownBlock ∧ some k_ ≠ (.slice Ao24 t1235.length co24 : Value).ownBlock ∧ some k_ ≠ (.slice Ao27 t1238.length co27 : Value).ownBlock ∧ some k_ ≠ (.slice Ao30 t1241.length co30 : Value).ownBlock) ho0 (fun k_ hk_ => ⟨(Kd.fresh' (Kd.R_lt (rU_ HO_0.out)) k_ hk_), (Kd.fresh' (Kd.R_lt (rU_ HO_1.out)) k_ hk_), (Kd.fresh' (Kd.R_lt (rU_ HO_5.out)) k_ hk_), (Kd.fresh' (Kd.R_lt (rU_ HO_6.out)) k_ hk_)⟩)) (below_size (bU_ HB.out))) (below_step (bU_ HB.out) hb) ?_; clear HO_0 HO_1 HO_5 HO_6 HB; intro HO_0 HO_1 HO_5 HO_6 HO1265 HB; clear hb ho0) | ((with_reducible refine gate_callee (f := 52) rfl ?_); refine gl_ (some 96) Tryd.func52 #[.slice Ao27 t1238.length co27, .slice Ao30 t1241.length co30] ?_; (with_reducible refine (attestorref02_Diff.calls kj37 _ _ t1238 _ _ t1241 t1267 t1268 _ ?side1 ?side2 ?side3 ?side4 A45.out).mono ?_); (case side1 => exact cU_ ((Kd.R_reads' HO_5.out).2.2)); (case side2 => exact (Kd.R_reads' HO_5.out).2.1); (case side3 => exact cU_ ((Kd.R_reads' HO_6.out).2.2)); (case side4 => exact (Kd.R_reads' HO_6.out).2.1); rintro e w50 ⟨v1269, rfl, ho0, hb⟩; refine ⟨_, rfl, ?_⟩; refine nx7_ (Kd.R_elder' (rU_ HO_0.out) (Kd.R_base ho0) hb) (Kd.R_elder' (rU_ HO_1.out) (Kd.R_base ho0) hb) (Kd.R_elder' (rU_ HO_5.out) (Kd.R_base ho0) hb) (Kd.R_elder' (rU_ HO_6.out) (Kd.R_base ho0) hb) (Kd.V_elder' (by (with_reducible repeat (first | apply Kd.V_alloc | apply Kd.V_drewN | apply Kd.V_drew)); exact HO1265.out) (Kd.R_base ho0) hb) (Kd.R_lower (Kd.R_new' (Kd.R_new' (Kd.R_new' (Kd.R_new' ho0 (Kd.R_lt (rU_ HO_0.out))) (Kd.R_lt (rU_ HO_1.out))) (Kd.R_lt (rU_ HO_5.out))) (Kd.R_lt (rU_ HO_6.out))) (below_size (bU_ HB.out))) (below_step (bU_ HB.out) hb) ?_; clear HO_0 HO_1 HO_5 HO_6 HO1265 HB; intro HO_0 HO_1 HO_5 HO_6 HO1265 HO1270 HB; clear hb ho0; obtain ⟨Ao51, co51, eo51⟩ := Kd.V_slice HO1265.out; subst eo51; obtain ⟨Ao52, co52, eo52⟩ := Kd.R_slice HO1270.out; subst eo52) | (go_at_call 15; (with_reducible refine (attestorref02_SameNat.calls kj37 _ _ t1263 _ _ t1267 t1271 _ ?side1 ?side2 ?side3 ?side4 A47.out).mono ?_); (case side1 => exact cU_ ((Kd.V_reads' HO1265.out).2.2)); (case side2 => exact (Kd.V_reads' HO1265.out).2.1); (case side3 => exact cU_ ((Kd.R_reads' HO1270.out).2.2)); (case side4 => exact (Kd.R_reads' HO1270.out).2.1); rintro e w' ⟨rfl, ⟨nd, rfl⟩⟩))
       (try simp only [Act.put, s1_, s2_, s3_])
       go_cut [] (fun wc => ∃ (kq : Nat), Aside0 (attestorlaw02_RatioNats.j2 kq t1232 t1235 t1238 t1241 = some r) ∧ Aside0 (kq ≤ kj37) ∧ Aside0 (Kd.R (Kd.int .u32) 44 wc w.heap.size (fun k_ => some k_ ≠ ((.slice Ao24 t1235.length co24) : Value).ownBlock ∧ some k_ ≠ ((.slice Ao27 t1238.length co27) : Value).ownBlock ∧ some k_ ≠ ((.slice Ao30 t1241.length co30) : Value).ownBlock) (.slice Ao22 t1232.length co22) t1232) ∧ Aside0 (Kd.R (Kd.int .u32) 44 wc w.heap.size (fun k_ => some k_ ≠ ((.slice Ao22 t1232.length co22) : Value).ownBlock ∧ some k_ ≠ ((.slice Ao27 t1238.length co27) : Value).ownBlock ∧ some k_ ≠ ((.slice Ao30 t1241.length co30) : Value).ownBlock) (.slice Ao24 t1235.length co24) t1235) ∧ Aside0 (Kd.R (Kd.int .u32) 44 wc w.heap.size (fun k_ => some k_ ≠ ((.slice Ao22 t1232.length co22) : Value).ownBlock ∧ some k_ ≠ ((.slice Ao24 t1235.length co24) : Value).ownBlock ∧ some k_ ≠ ((.slice Ao30 t1241.length co30) : Value).ownBlock) (.slice Ao27 t1238.length co27) t1238) ∧ Aside0 (Kd.R (Kd.int .u32) 44 wc w.heap.size (fun k_ => some k_ ≠ ((.slice Ao22 t1232.length co22) : Value).ownBlock ∧ some k_ ≠ ((.slice Ao24 t1235.length co24) : Value).ownBlock ∧ some k_ ≠ ((.slice Ao27 t1238.length co27) : Value).ownBlock) (.slice Ao30 t1241.length co30) t1241) ∧ Aside0 (Below w.heap.size w wc))
       case first =>
        have H := HC48.out
        clear HC48
        by_cases c53 : t1271 = true
        ·subst c53
         rw [if_pos rfl] at H
         have H' := ak H
         clear H
         go_wp2
         go_meet
         case rel => exact ⟨_, H', ⟨by have := HJ18.out; have := HJ37.out; first | omega | exact Nat.le_refl _⟩, ⟨Kd.R_mono (rU_ HO_0.out) (fun _ hk => ⟨hk.1.1, ⟨hk.1.2.1, hk.1.2.2⟩⟩)⟩, ⟨Kd.R_mono (rU_ HO_1.out) (fun _ hk => ⟨hk.1.1, ⟨hk.1.2.1, hk.1.2.2⟩⟩)⟩, ⟨Kd.R_mono (rU_ HO_5.out) (fun _ hk => ⟨hk.1.1, ⟨hk.1.2.1, hk.1.2.2⟩⟩)⟩, ⟨Kd.R_mono (rU_ HO_6.out) (fun _ hk => ⟨hk.1.1, ⟨hk.1.2.1, hk.1.2.2⟩⟩)⟩, ⟨bU_ HB.out⟩⟩
        ·replace c53 := Bool.eq_false_iff.mpr c53
         subst c53
         rw [if_neg (show ¬ (false = true) by decide)] at H
         exact absurd H (by simp)
       case rest =>
        clear HC48
        (try clear c1); (try clear c2); (try clear p2); (try clear c3); (try clear c4); (try clear c5); (try clear c9); (try clear c11); (try clear c11b0); (try clear c11b1); (try clear c11b2); (try clear c12); (try clear c12b0); (try clear c12b1); (try clear c13); (try clear c13b0); (try clear c13b1); (try clear c13b2); (try clear c16); (try clear c16b0); (try clear c16b1); (try clear c27); (try clear c29); (try clear c33); (try clear c33b0); (try clear c33b1); (try clear c36); (try clear c36b0); (try clear c36b1); (try clear c37); (try clear c43); (try clear c46); (try clear c46b0); (try clear c46b1); (try clear c47); (try clear c48); (try clear c51); (try clear c52); (try clear c53)
        obtain ⟨kq, HA, HJ47, HO_0, HO_1, HO_5, HO_6, HB⟩ := hcut
        cases kq with
        | zero => exact absurd HA.out (by simp [attestorlaw02_RatioNats.j2])
        | succ kj47 =>
         have H := HA.out
         clear HA
         simp only [attestorlaw02_RatioNats.j2] at H
         revert H
         refine bd2_ fun t1272 t1275 A54 H => ?_
         try dsimp only at H
         revert H
         refine bd2_ fun t1276 t1279 A55 H => ?_
         try dsimp only at H
         obtain ⟨c56, H⟩ : (t1275 = t1279) ∧ _ := it_ H
         have c56b0 := beq_iff_eq.mpr c56
         have c56b1 := bne_eq_false_iff_eq.mpr c56
         clear c56
         revert H
         refine bd_ fun t1280 A57 H => ?_
         have HC58 := ak H
         clear H
         go_upto_if 128 with (first | ((with_reducible refine gate_callee (f := 28) rfl ?_); refine gl_ (some 111) Tryd.func28 #[.slice Ao22 t1232.length co22, .slice Ao24 t1235.length co24] ?_; (with_reducible refine (ratio_Product.calls kj47 _ _ t1232 _ _ t1235 t1272 t1275 _ ?side1 ?side2 ?side3 ?side4 A54.out).mono ?_); (case side1 => exact cU_ ((Kd.R_reads' HO_0.out).2.2)); (case side2 => exact (Kd.R_reads' HO_0.out).2.1); (case side3 => exact cU_ ((Kd.R_reads' HO_1.out).2.2)); (case side4 => exact (Kd.R_reads' HO_1.out).2.1); rintro e w59 ⟨v1273, rfl, ho0, hb⟩; refine ⟨_, rfl, ?_⟩; refine nx6_ (Kd.R_below (rU_ HO_0.out) hb) (Kd.R_below (rU_ HO_1.out) hb) (Kd.R_below (rU_ HO_5.out) hb) (Kd.R_below (rU_ HO_6.out) hb) (Kd.V_lower (Kd.V_mono (ok' := fun k_ => some k_ ≠ (.slice Ao22 t1232.length co22 : Value).ownBlock ∧ some k_ ≠ (.slice Ao24 t1235.length co24 : Value).ownBlock ∧ some k_ ≠ (.slice Ao27 t1238.length co27 : Value).ownBlock ∧ some k_ ≠ (.slice Ao30 t1241.length co30 : Value).ownBlock) ho0 (fun k_ hk_ => ⟨(Kd.fresh' (Kd.R_lt (rU_ HO_0.out)) k_ hk_), (Kd.fresh' (Kd.R_lt (rU_ HO_1.out)) k_ hk_), (Kd.fresh' (Kd.R_lt (rU_ HO_5.out)) k_ hk_), (Kd.fresh' (Kd.R_lt (rU_ HO_6.out)) k_ hk_)⟩)) (below_size (bU_ HB.out))) (below_step (bU_ HB.out) hb) ?_; clear HO_0 HO_1 HO_5 HO_6 HB; intro HO_0 HO_1 HO_5 HO_6 HO1274 HB; clear hb ho0) | ((with_reducible refine gate_callee (f := 53) rfl ?_); refine gl_ (some 117) Tryd.func53 #[.slice Ao27 t1238.length co27, .slice Ao30 t1241.length co30] ?_; (with_reducible refine (attestorref02_Product.calls kj47 _ _ t1238 _ _ t1241 t1276 t1279 _ ?side1 ?side2 ?side3 ?side4 A55.out).mono ?_); (case side1 => exact cU_ ((Kd.R_reads' HO_5.out).2.2)); (case side2 => exact (Kd.R_reads' HO_5.out).2.1); (case side3 => exact cU_ ((Kd.R_reads' HO_6.out).2.2)); (case side4 => exact (Kd.R_reads' HO_6.out).2.1); rintro e w60 ⟨v1277, rfl, ho0, hb⟩; refine ⟨_, rfl, ?_⟩; refine nx7_ (Kd.R_below (rU_ HO_0.out) hb) (Kd.R_below (rU_ HO_1.out) hb) (Kd.R_below (rU_ HO_5.out) hb) (Kd.R_below (rU_ HO_6.out) hb) (Kd.V_below (by (with_reducible repeat (first | apply Kd.V_alloc | apply Kd.V_drewN | apply Kd.V_drew)); exact HO1274.out) hb) (Kd.V_lower (Kd.V_mono (ok' := fun k_ => some k_ ≠ (.slice Ao22 t1232.length co22 : Value).ownBlock ∧ some k_ ≠ (.slice Ao24 t1235.length co24 : Value).ownBlock ∧ some k_ ≠ (.slice Ao27 t1238.length co27 : Value).ownBlock ∧ some k_ ≠ (.slice Ao30 t1241.length co30 : Value).ownBlock) ho0 (fun k_ hk_ => ⟨(Kd.fresh' (Kd.R_lt (rU_ HO_0.out)) k_ hk_), (Kd.fresh' (Kd.R_lt (rU_ HO_1.out)) k_ hk_), (Kd.fresh' (Kd.R_lt (rU_ HO_5.out)) k_ hk_), (Kd.fresh' (Kd.R_lt (rU_ HO_6.out)) k_ hk_)⟩)) (below_size (bU_ HB.out))) (below_step (bU_ HB.out) hb) ?_; clear HO_0 HO_1 HO_5 HO_6 HO1274 HB; intro HO_0 HO_1 HO_5 HO_6 HO1274 HO1278 HB; clear hb ho0; obtain ⟨Ao61, co61, eo61⟩ := Kd.V_slice HO1274.out; subst eo61; obtain ⟨Ao62, co62, eo62⟩ := Kd.V_slice HO1278.out; subst eo62) | (go_at_call 15; (with_reducible refine (attestorref02_SameNat.calls kj47 _ _ t1272 _ _ t1276 t1280 _ ?side1 ?side2 ?side3 ?side4 A57.out).mono ?_); (case side1 => exact cU_ ((Kd.V_reads' HO1274.out).2.2)); (case side2 => exact (Kd.V_reads' HO1274.out).2.1); (case side3 => exact cU_ ((Kd.V_reads' HO1278.out).2.2)); (case side4 => exact (Kd.V_reads' HO1278.out).2.1); rintro e w' ⟨rfl, ⟨nd, rfl⟩⟩))
         (try simp only [Act.put, s1_, s2_, s3_])
         go_cut [] (fun wc => ∃ (kq : Nat), Aside0 (attestorlaw02_RatioNats.j3 kq t1232 t1235 t1238 t1241 = some r) ∧ Aside0 (kq ≤ kj47) ∧ Aside0 (Kd.R (Kd.int .u32) 44 wc w.heap.size (fun k_ => some k_ ≠ ((.slice Ao24 t1235.length co24) : Value).ownBlock ∧ some k_ ≠ ((.slice Ao27 t1238.length co27) : Value).ownBlock ∧ some k_ ≠ ((.slice Ao30 t1241.length co30) : Value).ownBlock) (.slice Ao22 t1232.length co22) t1232) ∧ Aside0 (Kd.R (Kd.int .u32) 44 wc w.heap.size (fun k_ => some k_ ≠ ((.slice Ao22 t1232.length co22) : Value).ownBlock ∧ some k_ ≠ ((.slice Ao27 t1238.length co27) : Value).ownBlock ∧ some k_ ≠ ((.slice Ao30 t1241.length co30) : Value).ownBlock) (.slice Ao24 t1235.length co24) t1235) ∧ Aside0 (Kd.R (Kd.int .u32) 44 wc w.heap.size (fun k_ => some k_ ≠ ((.slice Ao22 t1232.length co22) : Value).ownBlock ∧ some k_ ≠ ((.slice Ao24 t1235.length co24) : Value).ownBlock ∧ some k_ ≠ ((.slice Ao30 t1241.length co30) : Value).ownBlock) (.slice Ao27 t1238.length co27) t1238) ∧ Aside0 (Kd.R (Kd.int .u32) 44 wc w.heap.size (fun k_ => some k_ ≠ ((.slice Ao22 t1232.length co22) : Value).ownBlock ∧ some k_ ≠ ((.slice Ao24 t1235.length co24) : Value).ownBlock ∧ some k_ ≠ ((.slice Ao27 t1238.length co27) : Value).ownBlock) (.slice Ao30 t1241.length co30) t1241) ∧ Aside0 (Below w.heap.size w wc))
         case first =>
          have H := HC58.out
          clear HC58
          by_cases c63 : t1280 = true
          ·subst c63
           rw [if_pos rfl] at H
           have H' := ak H
           clear H
           go_wp2
           go_meet
           case rel => exact ⟨_, H', ⟨by have := HJ18.out; have := HJ37.out; have := HJ47.out; first | omega | exact Nat.le_refl _⟩, ⟨rU_ HO_0.out⟩, ⟨rU_ HO_1.out⟩, ⟨rU_ HO_5.out⟩, ⟨rU_ HO_6.out⟩, ⟨bU_ HB.out⟩⟩
          ·replace c63 := Bool.eq_false_iff.mpr c63
           subst c63
           rw [if_neg (show ¬ (false = true) by decide)] at H
           exact absurd H (by simp)
         case rest =>
          clear HC58
          (try clear c1); (try clear c2); (try clear p2); (try clear c3); (try clear c4); (try clear c5); (try clear c6); (try clear c9); (try clear c11); (try clear c11b0); (try clear c11b1); (try clear c11b2); (try clear c12); (try clear c12b0); (try clear c12b1); (try clear c13); (try clear c13b0); (try clear c13b1); (try clear c13b2); (try clear c16); (try clear c16b0); (try clear c16b1); (try clear c27); (try clear c28); (try clear c29); (try clear c33); (try clear c33b0); (try clear c33b1); (try clear c36); (try clear c36b0); (try clear c36b1); (try clear c37); (try clear c43); (try clear c46); (try clear c46b0); (try clear c46b1); (try clear c47); (try clear c48); (try clear c51); (try clear c52); (try clear c53); (try clear c56); (try clear c56b0); (try clear c56b1); (try clear c63)
          obtain ⟨kq, HA, HJ57, HO_0, HO_1, HO_5, HO_6, HB⟩ := hcut
          cases kq with
          | zero => exact absurd HA.out (by simp [attestorlaw02_RatioNats.j3])
          | succ kj57 =>
           have H := HA.out
           clear HA
           simp only [attestorlaw02_RatioNats.j3] at H
           revert H
           refine bd3_ fun t1281 t1284 t1287 A64 H => ?_
           try dsimp only at H
           revert H
           refine bd3_ fun t1288 t1289 t1290 A65 H => ?_
           try dsimp only at H
           obtain ⟨c66, H⟩ : (t1287 = t1290) ∧ _ := it_ H
           have c66b0 := beq_iff_eq.mpr c66
           have c66b1 := bne_eq_false_iff_eq.mpr c66
           clear c66
           revert H
           refine bd_ fun t1295 A67 H => ?_
           by_cases c68 : t1295 = true
           ·subst c68
            rw [if_pos rfl] at H
            revert H
            refine bd_ fun t1296 A69 H => ?_
            by_cases c70 : t1296 = true
            ·subst c70
             rw [if_pos rfl] at H
             revert H
             refine bd_ fun t1297 A71 H => ?_
             revert H
             refine bd_ fun t1300 A72 H => ?_
             revert H
             refine bd_ fun t1303 A73 H => ?_
             by_cases c74 : t1303 = true
             ·subst c74
              rw [if_pos rfl] at H
              revert H
              refine bd_ fun t1304 A75 H => ?_
              by_cases c76 : t1304 = true
              ·subst c76
               rw [if_pos rfl] at H
               revert H
               refine bd_ fun t1305 A77 H => ?_
               by_cases c78 : t1305 = true
               ·subst c78
                rw [if_pos rfl] at H
                revert H
                refine bd_ fun t1306 A79 H => ?_
                obtain rfl := Option.some.inj H
                go_wp2_with (first | ((with_reducible refine gate_callee (f := 25) rfl ?_); refine gl_ (some 132) Tryd.func25 #[.slice Ao22 t1232.length co22, .slice Ao24 t1235.length co24] ?_; (with_reducible refine (ratio_Quotient.calls kj57 _ _ t1232 _ _ t1235 t1281 t1284 t1287 _ ?side1 ?side2 ?side3 ?side4 A64.out).mono ?_); (case side1 => exact cU_ ((Kd.R_reads' HO_0.out).2.2)); (case side2 => exact (Kd.R_reads' HO_0.out).2.1); (case side3 => exact cU_ ((Kd.R_reads' HO_1.out).2.2)); (case side4 => exact (Kd.R_reads' HO_1.out).2.1); rintro e w80 ⟨v1282, v1285, rfl, ho0, ho1, hb⟩; refine ⟨_, rfl, ?_⟩; refine nx7_ (Kd.R_below (rU_ HO_0.out) hb) (Kd.R_below (rU_ HO_1.out) hb) (Kd.R_below (rU_ HO_5.out) hb) (Kd.R_below (rU_ HO_6.out) hb) (Kd.V_lower (Kd.V_mono (ok' := fun k_ => some k_ ≠ (.slice Ao22 t1232.length co22 : Value).ownBlock ∧ some k_ ≠ (.slice Ao24 t1235.length co24 : Value).ownBlock ∧ some k_ ≠ (.slice Ao27 t1238.length co27 : Value).ownBlock ∧ some k_ ≠ (.slice Ao30 t1241.length co30 : Value).ownBlock) ho0 (fun k_ hk_ => ⟨(Kd.fresh' (Kd.R_lt (rU_ HO_0.out)) k_ hk_), (Kd.fresh' (Kd.R_lt (rU_ HO_1.out)) k_ hk_), (Kd.fresh' (Kd.R_lt (rU_ HO_5.out)) k_ hk_), (Kd.fresh' (Kd.R_lt (rU_ HO_6.out)) k_ hk_)⟩)) (below_size (bU_ HB.out))) (Kd.V_lower (Kd.V_mono (ok' := fun k_ => some k_ ≠ (.slice Ao22 t1232.length co22 : Value).ownBlock ∧ some k_ ≠ (.slice Ao24 t1235.length co24 : Value).ownBlock ∧ some k_ ≠ (.slice Ao27 t1238.length co27 : Value).ownBlock ∧ some k_ ≠ (.slice Ao30 t1241.length co30 : Value).ownBlock) ho1 (fun k_ hk_ => ⟨(Kd.fresh' (Kd.R_lt (rU_ HO_0.out)) k_ hk_), (Kd.fresh' (Kd.R_lt (rU_ HO_1.out)) k_ hk_), (Kd.fresh' (Kd.R_lt (rU_ HO_5.out)) k_ hk_), (Kd.fresh' (Kd.R_lt (rU_ HO_6.out)) k_ hk_)⟩)) (below_size (bU_ HB.out))) (below_step (bU_ HB.out) hb) ?_; clear HO_0 HO_1 HO_5 HO_6 HB; intro HO_0 HO_1 HO_5 HO_6 HO1283 HO1286 HB; clear hb ho0 ho1) | ((with_reducible refine gate_callee (f := 54) rfl ?_); refine gl_ (some 139) Tryd.func54 #[.slice Ao27 t1238.length co27, .slice Ao30 t1241.length co30] ?_; (with_reducible refine (attestorref02_Quotient.calls kj57 _ _ t1238 _ _ t1241 t1288 t1289 t1290 _ ?side1 ?side2 ?side3 ?side4 A65.out).mono ?_); (case side1 => exact cU_ ((Kd.R_reads' HO_5.out).2.2)); (case side2 => exact (Kd.R_reads' HO_5.out).2.1); (case side3 => exact cU_ ((Kd.R_reads' HO_6.out).2.2)); (case side4 => exact (Kd.R_reads' HO_6.out).2.1); rintro e w81 ⟨v1291, v1293, rfl, ho0, ho1, hb⟩; refine ⟨_, rfl, ?_⟩; refine nx9_ (Kd.R_mono (Kd.R_told (Kd.R_told (Kd.R_old (rU_ HO_0.out) hb) (Kd.R_base ho0)) (Kd.R_base ho1)) (fun _ h_ => h_.1)) (Kd.R_mono (Kd.R_told (Kd.R_told (Kd.R_old (rU_ HO_1.out) hb) (Kd.R_base ho0)) (Kd.R_base ho1)) (fun _ h_ => h_.1)) (Kd.R_mono (Kd.R_told (Kd.R_told (Kd.R_old (rU_ HO_5.out) hb) (Kd.R_base ho0)) (Kd.R_base ho1)) (fun _ h_ => h_.1)) (Kd.R_mono (Kd.R_told (Kd.R_told (Kd.R_old (rU_ HO_6.out) hb) (Kd.R_base ho0)) (Kd.R_base ho1)) (fun _ h_ => h_.1)) (Kd.V_mono (Kd.V_told (Kd.V_told (Kd.V_old (by (with_reducible repeat (first | apply Kd.V_alloc | apply Kd.V_drewN | apply Kd.V_drew)); exact HO1283.out) hb) (Kd.R_base ho0)) (Kd.R_base ho1)) (fun _ h_ => h_.1)) (Kd.V_mono (Kd.V_told (Kd.V_told (Kd.V_old (by (with_reducible repeat (first | apply Kd.V_alloc | apply Kd.V_drewN | apply Kd.V_drew)); exact HO1286.out) hb) (Kd.R_base ho0)) (Kd.R_base ho1)) (fun _ h_ => h_.1)) (Kd.R_lower (Kd.R_new' (Kd.R_new' (Kd.R_new' (Kd.R_new' ho0 (Kd.R_lt (rU_ HO_0.out))) (Kd.R_lt (rU_ HO_1.out))) (Kd.R_lt (rU_ HO_5.out))) (Kd.R_lt (rU_ HO_6.out))) (below_size (bU_ HB.out))) (Kd.R_lower (Kd.R_new' (Kd.R_new' (Kd.R_new' (Kd.R_new' ho1 (Kd.R_lt (rU_ HO_0.out))) (Kd.R_lt (rU_ HO_1.out))) (Kd.R_lt (rU_ HO_5.out))) (Kd.R_lt (rU_ HO_6.out))) (below_size (bU_ HB.out))) (below_step (bU_ HB.out) hb) ?_; clear HO_0 HO_1 HO_5 HO_6 HO1283 HO1286 HB; intro HO_0 HO_1 HO_5 HO_6 HO1283 HO1286 HO1292 HO1294 HB; clear hb ho0 ho1; obtain ⟨Ao82, co82, eo82⟩ := Kd.V_slice HO1283.out; subst eo82; obtain ⟨Ao83, co83, eo83⟩ := Kd.R_slice HO1292.out; subst eo83) | (go_at_call 15; (with_reducible refine (attestorref02_SameNat.calls kj57 _ _ t1281 _ _ t1288 true _ ?side1 ?side2 ?side3 ?side4 A67.out).mono ?_); (case side1 => exact cU_ ((Kd.V_reads' HO1283.out).2.2)); (case side2 => exact (Kd.V_reads' HO1283.out).2.1); (case side3 => exact cU_ ((Kd.R_reads' HO1292.out).2.2)); (case side4 => exact (Kd.R_reads' HO1292.out).2.1); rintro e w' ⟨rfl, ⟨nd, rfl⟩⟩; obtain ⟨Ao84, co84, eo84⟩ := Kd.V_slice HO1286.out; subst eo84; obtain ⟨Ao85, co85, eo85⟩ := Kd.R_slice HO1294.out; subst eo85) | (go_at_call 15; (with_reducible refine (attestorref02_SameNat.calls kj57 _ _ t1284 _ _ t1289 true _ ?side1 ?side2 ?side3 ?side4 A69.out).mono ?_); (case side1 => exact cU_ ((Kd.V_reads' HO1286.out).2.2)); (case side2 => exact (Kd.V_reads' HO1286.out).2.1); (case side3 => exact cU_ ((Kd.R_reads' HO1294.out).2.2)); (case side4 => exact (Kd.R_reads' HO1294.out).2.1); rintro e w' ⟨rfl, ⟨nd, rfl⟩⟩) | (go_at_call 31; (with_reducible refine (ratio_Gcd.calls kj57 _ _ t1232 _ _ t1235 t1297 _ ?side1 ?side2 ?side3 ?side4 A71.out).mono ?_); (case side1 => exact cU_ ((Kd.R_reads' HO_0.out).2.2)); (case side2 => exact (Kd.R_reads' HO_0.out).2.1); (case side3 => exact cU_ ((Kd.R_reads' HO_1.out).2.2)); (case side4 => exact (Kd.R_reads' HO_1.out).2.1); rintro e w86 ⟨v1298, rfl, ho0, hb⟩; refine nx10_ (Kd.R_elder' (rU_ HO_0.out) (Kd.R_base ho0) hb) (Kd.R_elder' (rU_ HO_1.out) (Kd.R_base ho0) hb) (Kd.R_elder' (rU_ HO_5.out) (Kd.R_base ho0) hb) (Kd.R_elder' (rU_ HO_6.out) (Kd.R_base ho0) hb) (Kd.V_elder' (by (with_reducible repeat (first | apply Kd.V_alloc | apply Kd.V_drewN | apply Kd.V_drew)); exact HO1283.out) (Kd.R_base ho0) hb) (Kd.V_elder' (by (with_reducible repeat (first | apply Kd.V_alloc | apply Kd.V_drewN | apply Kd.V_drew)); exact HO1286.out) (Kd.R_base ho0) hb) (Kd.R_elder' (rU_ HO1292.out) (Kd.R_base ho0) hb) (Kd.R_elder' (rU_ HO1294.out) (Kd.R_base ho0) hb) (Kd.R_lower (Kd.R_new' (Kd.R_new' (Kd.R_new' (Kd.R_new' (Kd.R_new' (Kd.R_new' ho0 (Kd.R_lt (rU_ HO_0.out))) (Kd.R_lt (rU_ HO_1.out))) (Kd.R_lt (rU_ HO_5.out))) (Kd.R_lt (rU_ HO_6.out))) (Kd.R_lt (rU_ HO1292.out))) (Kd.R_lt (rU_ HO1294.out))) (below_size (bU_ HB.out))) (below_step (bU_ HB.out) hb) ?_; clear HO_0 HO_1 HO_5 HO_6 HO1283 HO1286 HO1292 HO1294 HB; intro HO_0 HO_1 HO_5 HO_6 HO1283 HO1286 HO1292 HO1294 HO1299 HB; clear hb ho0) | (go_at_call 55; (with_reducible refine (attestorref02_Gcd.calls kj57 _ _ t1238 _ _ t1241 t1300 _ ?side1 ?side2 ?side3 ?side4 A72.out).mono ?_); (case side1 => exact cU_ ((Kd.R_reads' HO_5.out).2.2)); (case side2 => exact (Kd.R_reads' HO_5.out).2.1); (case side3 => exact cU_ ((Kd.R_reads' HO_6.out).2.2)); (case side4 => exact (Kd.R_reads' HO_6.out).2.1); rintro e w87 ⟨v1301, rfl, ho0, hb⟩; refine nx11_ (Kd.R_elder' (rU_ HO_0.out) (Kd.R_base ho0) hb) (Kd.R_elder' (rU_ HO_1.out) (Kd.R_base ho0) hb) (Kd.R_elder' (rU_ HO_5.out) (Kd.R_base ho0) hb) (Kd.R_elder' (rU_ HO_6.out) (Kd.R_base ho0) hb) (Kd.V_elder' (by (with_reducible repeat (first | apply Kd.V_alloc | apply Kd.V_drewN | apply Kd.V_drew)); exact HO1283.out) (Kd.R_base ho0) hb) (Kd.V_elder' (by (with_reducible repeat (first | apply Kd.V_alloc | apply Kd.V_drewN | apply Kd.V_drew)); exact HO1286.out) (Kd.R_base ho0) hb) (Kd.R_elder' (rU_ HO1292.out) (Kd.R_base ho0) hb) (Kd.R_elder' (rU_ HO1294.out) (Kd.R_base ho0) hb) (Kd.R_elder' (rU_ HO1299.out) (Kd.R_base ho0) hb) (Kd.R_lower (Kd.R_new' (Kd.R_new' (Kd.R_new' (Kd.R_new' (Kd.R_new' (Kd.R_new' (Kd.R_new' ho0 (Kd.R_lt (rU_ HO_0.out))) (Kd.R_lt (rU_ HO_1.out))) (Kd.R_lt (rU_ HO_5.out))) (Kd.R_lt (rU_ HO_6.out))) (Kd.R_lt (rU_ HO1292.out))) (Kd.R_lt (rU_ HO1294.out))) (Kd.R_lt (rU_ HO1299.out))) (below_size (bU_ HB.out))) (below_step (bU_ HB.out) hb) ?_; clear HO_0 HO_1 HO_5 HO_6 HO1283 HO1286 HO1292 HO1294 HO1299 HB; intro HO_0 HO_1 HO_5 HO_6 HO1283 HO1286 HO1292 HO1294 HO1299 HO1302 HB; clear hb ho0; obtain ⟨Ao88, co88, eo88⟩ := Kd.R_slice HO1299.out; subst eo88; obtain ⟨Ao89, co89, eo89⟩ := Kd.R_slice HO1302.out; subst eo89) | (go_at_call 15; (with_reducible refine (attestorref02_SameNat.calls kj57 _ _ t1297 _ _ t1300 true _ ?side1 ?side2 ?side3 ?side4 A73.out).mono ?_); (case side1 => exact cU_ ((Kd.R_reads' HO1299.out).2.2)); (case side2 => exact (Kd.R_reads' HO1299.out).2.1); (case side3 => exact cU_ ((Kd.R_reads' HO1302.out).2.2)); (case side4 => exact (Kd.R_reads' HO1302.out).2.1); rintro e w' ⟨rfl, ⟨nd, rfl⟩⟩) | ((with_reducible refine gate_callee (f := 15) rfl ?_); refine gl_ (some 170) Tryd.func15 #[.slice Ao22 t1232.length co22, .slice Ao27 t1238.length co27] ?_; (with_reducible refine (attestorref02_SameNat.calls kj57 _ _ t1232 _ _ t1238 true _ ?side1 ?side2 ?side3 ?side4 A75.out).mono ?_); (case side1 => exact cU_ ((Kd.R_reads' HO_0.out).2.2)); (case side2 => exact (Kd.R_reads' HO_0.out).2.1); (case side3 => exact cU_ ((Kd.R_reads' HO_5.out).2.2)); (case side4 => exact (Kd.R_reads' HO_5.out).2.1); rintro e w' ⟨rfl, ⟨nd, rfl⟩⟩; refine ⟨_, rfl, ?_⟩) | (go_at_call 15; (with_reducible refine (attestorref02_SameNat.calls kj57 _ _ t1235 _ _ t1241 true _ ?side1 ?side2 ?side3 ?side4 A77.out).mono ?_); (case side1 => exact cU_ ((Kd.R_reads' HO_1.out).2.2)); (case side2 => exact (Kd.R_reads' HO_1.out).2.1); (case side3 => exact cU_ ((Kd.R_reads' HO_6.out).2.2)); (case side4 => exact (Kd.R_reads' HO_6.out).2.1); rintro e w' ⟨rfl, ⟨nd, rfl⟩⟩) | (go_at_call 19; (with_reducible refine (attestorlaw02_works.calls kj57  t1306 _ A79.out).mono ?_); rintro e w90 ⟨rfl, hb⟩; refine nx11_ (Kd.R_below (rU_ HO_0.out) hb) (Kd.R_below (rU_ HO_1.out) hb) (Kd.R_below (rU_ HO_5.out) hb) (Kd.R_below (rU_ HO_6.out) hb) (Kd.V_below (by (with_reducible repeat (first | apply Kd.V_alloc | apply Kd.V_drewN | apply Kd.V_drew)); exact HO1283.out) hb) (Kd.V_below (by (with_reducible repeat (first | apply Kd.V_alloc | apply Kd.V_drewN | apply Kd.V_drew)); exact HO1286.out) hb) (Kd.R_below (rU_ HO1292.out) hb) (Kd.R_below (rU_ HO1294.out) hb) (Kd.R_below (rU_ HO1299.out) hb) (Kd.R_below (rU_ HO1302.out) hb) (below_step (bU_ HB.out) hb) ?_; clear HO_0 HO_1 HO_5 HO_6 HO1283 HO1286 HO1292 HO1294 HO1299 HO1302 HB; intro HO_0 HO_1 HO_5 HO_6 HO1283 HO1286 HO1292 HO1294 HO1299 HO1302 HB; clear hb))
                go_ret
                exact ⟨by first | rfl | (simp [errW_none, errW_some] <;> rfl) | (simp [*, errW_none, errW_some] <;> rfl), bU_ HB.out⟩
               ·replace c78 := Bool.eq_false_iff.mpr c78
                subst c78
                rw [if_neg (show ¬ (false = true) by decide)] at H
                exact absurd H (by simp)
              ·replace c76 := Bool.eq_false_iff.mpr c76
               subst c76
               rw [if_neg (show ¬ (false = true) by decide)] at H
               exact absurd H (by simp)
             ·replace c74 := Bool.eq_false_iff.mpr c74
              subst c74
              rw [if_neg (show ¬ (false = true) by decide)] at H
              exact absurd H (by simp)
            ·replace c70 := Bool.eq_false_iff.mpr c70
             subst c70
             rw [if_neg (show ¬ (false = true) by decide)] at H
             exact absurd H (by simp)
           ·replace c68 := Bool.eq_false_iff.mpr c68
            subst c68
            rw [if_neg (show ¬ (false = true) by decide)] at H
            exact absurd H (by simp)

/-- THE ONE PURE STATEMENT of attestorlaw02_RatioNats: yours. -/
def attestorlaw02_RatioNats.Pure : Prop := ∀ (l0 : List Int) (l1 : List Int), l0.length ≤ maxLen → l0.length * 4 ≤ 140737488351232 → (∀ x ∈ l0, (Lit.int .u32 x).wf = true) → l1.length ≤ maxLen → l1.length * 4 ≤ 140737488351232 → (∀ x ∈ l1, (Lit.int .u32 x).wf = true) → ∃ k, attestorlaw02_RatioNats.f k l0 l1 = some true
theorem attestorlaw02_RatioNats.walk (P : attestorlaw02_RatioNats.Pure) (a0 : Option Addr) (len0 cap0 : Nat) (z0 : List Int) (a1 : Option Addr) (len1 cap1 : Nat) (z1 : List Int) (w : World) (w0 : (a0 = none ∧ len0 = 0 ∧ cap0 = 0 ∧ z0 = []) ∨ ∃ x, a0 = some x ∧ len0 ≤ cap0 ∧ cap0 ≤ maxLen ∧ z0.length = cap0 ∧ (∀ i, i < z0.length → w.cell? (x.add i) = some (.int .u32 (z0.getD i 0))) ∧ ∀ n ∈ z0, (Lit.int .u32 n).wf = true) (y0 : len0 * 4 ≤ 140737488351232) (w1 : (a1 = none ∧ len1 = 0 ∧ cap1 = 0 ∧ z1 = []) ∨ ∃ x, a1 = some x ∧ len1 ≤ cap1 ∧ cap1 ≤ maxLen ∧ z1.length = cap1 ∧ (∀ i, i < z1.length → w.cell? (x.add i) = some (.int .u32 (z1.getD i 0))) ∧ ∀ n ∈ z1, (Lit.int .u32 n).wf = true) (y1 : len1 * 4 ≤ 140737488351232) :
  Calls Tryd.prog 9 #[.slice a0 len0 cap0, .slice a1 len1 cap1] w fun e w' => e = .returned (.bool true) ∧ Below w.heap.size w w' := by
 obtain ⟨l0, rfl, hr0, hm0, hw0, hc0⟩ := ReadsInt.ofRowC w0
 obtain ⟨l1, rfl, hr1, hm1, hw1, hc1⟩ := ReadsInt.ofRowC w1
 obtain ⟨k, h⟩ := P l0 l1 hm0 y0 hw0 hm1 y1 hw1
 refine (attestorlaw02_RatioNats.calls k _ _ l0 _ _ l1 true w (Kd.C_of_reads (d := (0 : Int)) (h1 := fun _ => rfl) hr0) hc0 (Kd.C_of_reads (d := (0 : Int)) (h1 := fun _ => rfl) hr1) hc1 h).mono ?_
 rintro e w' ⟨rfl, hd⟩
 exact ⟨rfl, hd⟩

end Go.Proofs.YtjjjoepnlhpjdaaDoor.Q

-- Written by prx.py (this session's driver of the kit's print) out of the translation. Not trusted: Lean checks it.
import Derived.Test.YtdjjdlkglinlgaaDoorQ0
import Derived.Test.YtdjjdlkglinlgaaDoorQ1
import Derived.Test.YtdjjdlkglinlgaaDoorQ2
import Derived.Test.YtdjjdlkglinlgaaDoorQ3
import Derived.Test.YtdjjdlkglinlgaaDoorQ4
import Derived.Test.YtdjjdlkglinlgaaDoorQ5
namespace Go.Proofs.YtdjjdlkglinlgaaDoor.Q
open Go.RowKit Go.Proofs.YtdjjdlkglinlgaaDoorW.PrintWords Go.Proofs.YtdjjdlkglinlgaaDoorW.PrintLast Go.Proofs.YtdjjdlkglinlgaaDoorW.PrintMore
attribute [local go_sem] max2_int min2_int max_two min_two max_three min_three max_four min_four   -- for this text's walks alone
set_option linter.unusedVariables false
set_option linter.unusedSimpArgs false

/-! ### attestorref04_Bits: function 46 -/
def attestorref04_Bits.l0 : Nat → Int → Int → Option (Int)
 | 0, _, _ => none
 | k + 1, x0, x3 => if x0 > 1 then (if (Int.tmod x0 2) = 0 then (attestorref04_Bits.l0 k (wrap64 (Int.tdiv x0 2)) (wrap64 (x3 + 1))) else (if x0 = 1 then (some x3) else (some (-1)))) else (if x0 = 1 then (some x3) else (some (-1)))
def attestorref04_Bits.f (k : Nat) (a0 : Int) : Option (Int) := attestorref04_Bits.l0 k a0 0
theorem attestorref04_Bits.mono_l : ∀ k, (∀ y0 y1, LeO (attestorref04_Bits.l0 k y0 y1) (attestorref04_Bits.l0 (k + 1) y0 y1))
 | 0 => fun _ _ r h => by simp [attestorref04_Bits.l0] at h
 | k + 1 => by
  have ih0 := attestorref04_Bits.mono_l k
  ·intro y0 y1
   unfold attestorref04_Bits.l0
   with_reducible repeat' first | apply ih0 | exact LeO.refl _ | exact LeO.none _ | refine LeO.ite ?_ ?_ | refine LeO.bind ?_ (fun _ => ?_)
theorem attestorref04_Bits.mono : ∀ a0 k, LeO (attestorref04_Bits.f k a0) (attestorref04_Bits.f (k + 1) a0) := by
 intro a0 k
 have ih0 := attestorref04_Bits.mono_l k
 unfold attestorref04_Bits.f
 with_reducible repeat' first | apply ih0 | exact LeO.refl _ | exact LeO.none _ | refine LeO.ite ?_ ?_ | refine LeO.bind ?_ (fun _ => ?_)
set_option maxHeartbeats 8000000 in
set_option maxRecDepth 100000 in
theorem attestorref04_Bits.calls (k : Nat) (a0 : Int) (r : Int) (w : World) (h : attestorref04_Bits.f k a0 = some r) :
  Calls Tryd.prog 46 #[.int .i64 a0] w fun e w' => e = .returned (.int .i64 r) ∧ Drawn0 w w' := by
 have H : (attestorref04_Bits.l0 k a0 0) = some r := h
 clear h
 have H' := ak H
 clear H
 go_enter Tryd.func46, Tryd.ntmps46
 go_wp2
 go_loopg [0, 3] k (fun kq v0 v3 w' => ∃ (x0_1 : Int) (x3_1 : Int), v0 = .int .i64 x0_1 ∧ v3 = .int .i64 x3_1 ∧ Aside0 (attestorref04_Bits.l0 kq x0_1 x3_1 = some r) ∧ Aside0 (kq ≤ k) ∧ Drawn0 w w')
 case atStart => exact ⟨(a0), (0), gb_, gb_, H', ⟨Nat.le_refl _⟩, by repeat (first | exact Drawn0.refl _ | apply Drawn0.step)⟩
 case round =>
  clear H'
  obtain ⟨x0_1, x3_1, rfl, rfl, HA, HK1, ⟨m1, rfl⟩⟩ := hrel
  cases gk with
  | zero => exact absurd HA.out (by simp [attestorref04_Bits.l0])
  | succ k1 =>
   have H := HA.out
   clear HA
   simp only [attestorref04_Bits.l0] at H
   by_cases c2 : x0_1 > 1
   ·rw [if_pos c2] at H
    have c2b0 : decide (1 < x0_1) = true := decide_eq_true c2
    clear c2
    by_cases c3 : (Int.tmod x0_1 2) = 0
    ·rw [if_pos c3] at H
     have c3b0 := beq_iff_eq.mpr c3
     have c3b1 := bne_eq_false_iff_eq.mpr c3
     clear c3
     have H' := ak H
     clear H
     go_wp2
     go_roundg k1
     case measure => have := HK1.out; omega
     case rel => exact ⟨(wrap64 (Int.tdiv x0_1 2)), (wrap64 (x3_1 + 1)), gb_, gb_, H', ⟨by have := HK1.out; omega⟩, by repeat (first | exact Drawn0.refl _ | apply Drawn0.step)⟩
    ·rw [if_neg c3] at H
     have c3b0 := beq_eq_false_iff_ne.mpr c3
     have c3b1 := bne_iff_ne.mpr c3
     by_cases c4 : x0_1 = 1
     ·rw [if_pos c4] at H
      have c4b0 := beq_iff_eq.mpr c4
      have c4b1 := bne_eq_false_iff_eq.mpr c4
      clear c4
      obtain rfl := Option.some.inj H
      go_wp2
      go_ret
      exact ⟨by first | rfl | (simp; done) | (simp [*]; done), by repeat (first | exact Drawn0.refl _ | apply Drawn0.step)⟩
     ·rw [if_neg c4] at H
      have c4b0 := beq_eq_false_iff_ne.mpr c4
      have c4b1 := bne_iff_ne.mpr c4
      obtain rfl := Option.some.inj H
      go_wp2
      go_ret
      exact ⟨by first | rfl | (simp; done) | (simp [*]; done), by repeat (first | exact Drawn0.refl _ | apply Drawn0.step)⟩
   ·rw [if_neg c2] at H
    have c2b0 : decide (1 < x0_1) = false := decide_eq_false c2
    clear c2
    by_cases c5 : x0_1 = 1
    ·rw [if_pos c5] at H
     have c5b0 := beq_iff_eq.mpr c5
     have c5b1 := bne_eq_false_iff_eq.mpr c5
     clear c5
     obtain rfl := Option.some.inj H
     go_wp2
     go_ret
     exact ⟨by first | rfl | (simp; done) | (simp [*]; done), by repeat (first | exact Drawn0.refl _ | apply Drawn0.step)⟩
    ·rw [if_neg c5] at H
     have c5b0 := beq_eq_false_iff_ne.mpr c5
     have c5b1 := bne_iff_ne.mpr c5
     obtain rfl := Option.some.inj H
     go_wp2
     go_ret
     exact ⟨by first | rfl | (simp; done) | (simp [*]; done), by repeat (first | exact Drawn0.refl _ | apply Drawn0.step)⟩

/-! ### attestorref01_Inv: function 47 -/
def attestorref01_Inv.f (k : Nat) (a0 : Int) (a1 : Int) : Option (Int) := (attestorref01_Valid.f a0).bind fun t356 => (if t356 = true then ((attestorref01_P.f a0).bind fun t357 => ((attestorref01_Pow.f k a0 a1 (IntKind.u64.wrap (t357 - 2))).bind fun t358 => (some t358))) else (some 0))
set_option maxHeartbeats 8000000 in
set_option maxRecDepth 100000 in
theorem attestorref01_Inv.calls (k : Nat) (a0 : Int) (a1 : Int) (r : Int) (w : World) (h : attestorref01_Inv.f k a0 a1 = some r) :
  Calls Tryd.prog 47 #[.int .i64 a0, .int .u64 a1] w fun e w' => e = .returned (.int .u64 r) ∧ Drawn0 w w' := by
 have H : ((attestorref01_Valid.f a0).bind fun t356 => (if t356 = true then ((attestorref01_P.f a0).bind fun t357 => ((attestorref01_Pow.f k a0 a1 (IntKind.u64.wrap (t357 - 2))).bind fun t358 => (some t358))) else (some 0))) = some r := h
 clear h
 revert H
 refine bd_ fun t356 A3 H => ?_
 by_cases c4 : t356 = true
 ·subst c4
  rw [if_pos rfl] at H
  revert H
  refine bd_ fun t357 A5 H => ?_
  revert H
  refine bd_ fun t358 A6 H => ?_
  obtain rfl := Option.some.inj H
  go_enter Tryd.func47, Tryd.ntmps47
  go_wp2_with (first | ((with_reducible refine gate_callee (f := 39) rfl ?_); refine gl_ (some 6) Tryd.func39 #[.int .i64 a0] ?_; (with_reducible refine (attestorref01_Valid.calls a0 true _ A3.out).mono ?_); rintro e w' ⟨rfl, ⟨nd, rfl⟩⟩; refine ⟨_, rfl, ?_⟩) | ((with_reducible refine gate_callee (f := 66) rfl ?_); refine gl_ (some 11) Tryd.func66 #[.int .i64 a0] ?_; (with_reducible refine (attestorref01_P.calls a0 t357 _ A5.out).mono ?_); rintro e w' ⟨rfl, ⟨nd, rfl⟩⟩; refine ⟨_, rfl, ?_⟩) | ((with_reducible refine gate_callee (f := 50) rfl ?_); refine gl_ (some 13) Tryd.func50 #[.int .i64 a0, .int .u64 a1, .int .u64 (IntKind.u64.wrap (t357 - 2))] ?_; (with_reducible refine (attestorref01_Pow.calls k a0 a1 (IntKind.u64.wrap (t357 - 2)) t358 _ A6.out).mono ?_); rintro e w' ⟨rfl, ⟨nd, rfl⟩⟩; refine ⟨_, rfl, ?_⟩))
  go_ret
  exact ⟨by first | rfl | (simp; done) | (simp [*]; done), by repeat (first | exact Drawn0.refl _ | apply Drawn0.step)⟩
 ·replace c4 := Bool.eq_false_iff.mpr c4
  subst c4
  rw [if_neg (show ¬ (false = true) by decide)] at H
  obtain rfl := Option.some.inj H
  go_enter Tryd.func47, Tryd.ntmps47
  go_wp2_with (first | ((with_reducible refine gate_callee (f := 39) rfl ?_); refine gl_ (some 6) Tryd.func39 #[.int .i64 a0] ?_; (with_reducible refine (attestorref01_Valid.calls a0 false _ A3.out).mono ?_); rintro e w' ⟨rfl, ⟨nd, rfl⟩⟩; refine ⟨_, rfl, ?_⟩))
  go_ret
  exact ⟨by first | rfl | (simp; done) | (simp [*]; done), by repeat (first | exact Drawn0.refl _ | apply Drawn0.step)⟩

/-! ### attestorref01_Div: function 51 -/
def attestorref01_Div.f (k : Nat) (a0 : Int) (a1 : Int) (a2 : Int) : Option (Int) := (attestorref01_Inv.f k a0 a2).bind fun t359 => ((attestorref01_Mul.f a0 a1 t359).bind fun t360 => (some t360))
set_option maxHeartbeats 8000000 in
set_option maxRecDepth 100000 in
theorem attestorref01_Div.calls (k : Nat) (a0 : Int) (a1 : Int) (a2 : Int) (r : Int) (w : World) (h : attestorref01_Div.f k a0 a1 a2 = some r) :
  Calls Tryd.prog 51 #[.int .i64 a0, .int .u64 a1, .int .u64 a2] w fun e w' => e = .returned (.int .u64 r) ∧ Drawn0 w w' := by
 have H : ((attestorref01_Inv.f k a0 a2).bind fun t359 => ((attestorref01_Mul.f a0 a1 t359).bind fun t360 => (some t360))) = some r := h
 clear h
 revert H
 refine bd_ fun t359 A4 H => ?_
 revert H
 refine bd_ fun t360 A5 H => ?_
 obtain rfl := Option.some.inj H
 go_enter Tryd.func51, Tryd.ntmps51
 go_wp2_with (first | ((with_reducible refine gate_callee (f := 47) rfl ?_); refine gl_ (some 11) Tryd.func47 #[.int .i64 a0, .int .u64 a2] ?_; (with_reducible refine (attestorref01_Inv.calls k a0 a2 t359 _ A4.out).mono ?_); rintro e w' ⟨rfl, ⟨nd, rfl⟩⟩; refine ⟨_, rfl, ?_⟩) | ((with_reducible refine gate_callee (f := 49) rfl ?_); refine gl_ (some 12) Tryd.func49 #[.int .i64 a0, .int .u64 a1, .int .u64 t359] ?_; (with_reducible refine (attestorref01_Mul.calls a0 a1 t359 t360 _ A5.out).mono ?_); rintro e w' ⟨rfl, ⟨nd, rfl⟩⟩; refine ⟨_, rfl, ?_⟩))
 go_ret
 exact ⟨by first | rfl | (simp; done) | (simp [*]; done), by repeat (first | exact Drawn0.refl _ | apply Drawn0.step)⟩

/-! ### attestorref04_Coefficients: function 17 -/
mutual
def attestorref04_Coefficients.j0 : Nat → Int → Int → List Int → Bool → Option (List Int × Int)
 | 0, _, _, _, _ => none
 | k + 1, x0, x1, x2, x22 => if x22 = true then (some (([] : List Int), 1)) else ((attestorref04_Bits.f k (x2.length : Int)).bind fun t363 => (if t363 < 0 then (attestorref04_Coefficients.j1 k x0 x1 x2 t363 true) else ((attestorref04_Greatest.f x0).bind fun t364 => (attestorref04_Coefficients.j1 k x0 x1 x2 t363 (decide (t363 > t364))))))
def attestorref04_Coefficients.j1 : Nat → Int → Int → List Int → Int → Bool → Option (List Int × Int)
 | 0, _, _, _, _, _ => none
 | k + 1, x0, x1, x2, x8, x33 => if x33 = true then (some (([] : List Int), 2)) else (attestorref04_Coefficients.l0 k x0 x1 x2 x8 ([] : List Int) 0)
def attestorref04_Coefficients.l0 : Nat → Int → Int → List Int → Int → List Int → Int → Option (List Int × Int)
 | 0, _, _, _, _, _, _ => none
 | k + 1, x0, x1, x2, x8, x9, x10 => if x10 < (x2.length : Int) then (attestorref04_Coefficients.l1 k x0 x1 x2 x8 x9 x10 0 0) else (some (x9, 0))
def attestorref04_Coefficients.l1 : Nat → Int → Int → List Int → Int → List Int → Int → Int → Int → Option (List Int × Int)
 | 0, _, _, _, _, _, _, _, _ => none
 | k + 1, x0, x1, x2, x8, x9, x10, x11, x12 => if x12 < (x2.length : Int) then ((attestorref04_Point.f k x0 x8 x1 x12).bind fun t369 => ((attestorref01_Inv.f k x0 t369).bind fun t370 => (if 0 ≤ x12 then ((attestorref01_Pow.f k x0 t370 (IntKind.u64.wrap (x10))).bind fun t372 => ((attestorref01_Mul.f x0 (rd x2 x12) t372).bind fun t373 => ((attestorref01_Add.f x0 x11 t373).bind fun t374 => (attestorref04_Coefficients.l1 k x0 x1 x2 x8 x9 x10 t374 (wrap64 (x12 + 1)))))) else (none)))) else ((attestorref01_Div.f k x0 x11 (IntKind.u64.wrap ((x2.length : Int)))).bind fun t365 => (if x9.length < 17592186044416 then (attestorref04_Coefficients.l0 k x0 x1 x2 x8 (x9 ++ [t365]) (wrap64 (x10 + 1))) else (none)))
end
def attestorref04_Coefficients.f (k : Nat) (a0 : Int) (a1 : Int) (l2 : List Int) : Option (List Int × Int) := (attestorref01_Valid.f a0).bind fun t361 => (if t361 = true then ((attestorref01_Reduce.f a0 a1).bind fun t362 => (attestorref04_Coefficients.j0 k a0 a1 l2 (t362 == 0))) else (attestorref04_Coefficients.j0 k a0 a1 l2 true))
set_option maxHeartbeats 8000000 in
set_option maxRecDepth 100000 in
theorem attestorref04_Coefficients.calls (k : Nat) (a0 : Int) (a1 : Int) (A2 : Option Addr) (c2 : Nat) (l2 : List Int) (r1 : List Int) (r2 : Int) (w : World) (hr2 : Kd.C (Kd.int .u64) w A2 l2.length l2) (hc2 : l2.length ≤ c2) (h : attestorref04_Coefficients.f k a0 a1 l2 = some (r1, r2)) :
  Calls Tryd.prog 17 #[.int .i64 a0, .int .u64 a1, .slice A2 l2.length c2] w fun e w' => ∃ v0_ : Value, e = .returned (.tuple #[v0_, .int .i64 r2]) ∧ Kd.R (Kd.int .u64) 22 w' w.heap.size (fun _ => True) v0_ r1 ∧ Below w.heap.size w w' := by
 have HR2 := ak hr2
 have HC2 := ak hc2
 clear hr2 hc2
 have HB := ak (Below.refl w.heap.size w)
 have H : ((attestorref01_Valid.f a0).bind fun t361 => (if t361 = true then ((attestorref01_Reduce.f a0 a1).bind fun t362 => (attestorref04_Coefficients.j0 k a0 a1 l2 (t362 == 0))) else (attestorref04_Coefficients.j0 k a0 a1 l2 true))) = some (r1, r2) := h
 clear h
 have HC4 := ak H
 clear H
 go_enter Tryd.func17, Tryd.ntmps17
 go_upto_region 1 with (fail)
 repeat (go_quiet (fail); go_upto_region 1 with (fail))
 go_cut [22] (fun v22 wc => ∃ (kq : Nat) (x22_3 : Bool), v22 = .bool x22_3 ∧ Aside0 (attestorref04_Coefficients.j0 kq a0 a1 l2 x22_3 = some (r1, r2)) ∧ Aside0 (kq ≤ k) ∧ Aside0 (Below w.heap.size w wc))
 case first =>
  have H := HC4.out
  clear HC4
  revert H
  refine bd_ fun t361 A5 H => ?_
  by_cases c6 : t361 = true
  ·subst c6
   rw [if_pos rfl] at H
   revert H
   refine bd_ fun t362 A7 H => ?_
   have H' := ak H
   clear H
   go_wp2_with (first | (go_at_call 39; (with_reducible refine (attestorref01_Valid.calls a0 true _ A5.out).mono ?_); rintro e w' ⟨rfl, ⟨nd, rfl⟩⟩; (try first | exact ⟨rfl, _, World.drewN_drewN _ _ _⟩ | exact ⟨rfl, _, Eq.trans (World.drewN_drewN _ _ _) (congrArg (World.drewN _) (Nat.add_assoc _ _ _))⟩)) | (go_at_call 40; (with_reducible refine (attestorref01_Reduce.calls a0 a1 t362 _ A7.out).mono ?_); rintro e w' ⟨rfl, ⟨nd, rfl⟩⟩; (try first | exact ⟨rfl, _, World.drewN_drewN _ _ _⟩ | exact ⟨rfl, _, Eq.trans (World.drewN_drewN _ _ _) (congrArg (World.drewN _) (Nat.add_assoc _ _ _))⟩)))
   repeat (go_quiet (first | (go_at_call 39; (with_reducible refine (attestorref01_Valid.calls a0 true _ A5.out).mono ?_); rintro e w' ⟨rfl, ⟨nd, rfl⟩⟩; (try first | exact ⟨rfl, _, World.drewN_drewN _ _ _⟩ | exact ⟨rfl, _, Eq.trans (World.drewN_drewN _ _ _) (congrArg (World.drewN _) (Nat.add_assoc _ _ _))⟩)) | (go_at_call 40; (with_reducible refine (attestorref01_Reduce.calls a0 a1 t362 _ A7.out).mono ?_); rintro e w' ⟨rfl, ⟨nd, rfl⟩⟩; (try first | exact ⟨rfl, _, World.drewN_drewN _ _ _⟩ | exact ⟨rfl, _, Eq.trans (World.drewN_drewN _ _ _) (congrArg (World.drewN _) (Nat.add_assoc _ _ _))⟩))); try go_wp2_with (first | (go_at_call 39; (with_reducible refine (attestorref01_Valid.calls a0 true _ A5.out).mono ?_); rintro e w' ⟨rfl, ⟨nd, rfl⟩⟩; (try first | exact ⟨rfl, _, World.drewN_drewN _ _ _⟩ | exact ⟨rfl, _, Eq.trans (World.drewN_drewN _ _ _) (congrArg (World.drewN _) (Nat.add_assoc _ _ _))⟩)) | (go_at_call 40; (with_reducible refine (attestorref01_Reduce.calls a0 a1 t362 _ A7.out).mono ?_); rintro e w' ⟨rfl, ⟨nd, rfl⟩⟩; (try first | exact ⟨rfl, _, World.drewN_drewN _ _ _⟩ | exact ⟨rfl, _, Eq.trans (World.drewN_drewN _ _ _) (congrArg (World.drewN _) (Nat.add_assoc _ _ _))⟩))))
   go_meet
   case rel => exact ⟨_, ((t362 == 0)), gb_, H', ⟨by first | omega | exact Nat.le_refl _⟩, ⟨bU_ HB.out⟩⟩
  ·replace c6 := Bool.eq_false_iff.mpr c6
   subst c6
   rw [if_neg (show ¬ (false = true) by decide)] at H
   have H' := ak H
   clear H
   go_wp2_with (first | (go_at_call 39; (with_reducible refine (attestorref01_Valid.calls a0 false _ A5.out).mono ?_); rintro e w' ⟨rfl, ⟨nd, rfl⟩⟩; (try first | exact ⟨rfl, _, World.drewN_drewN _ _ _⟩ | exact ⟨rfl, _, Eq.trans (World.drewN_drewN _ _ _) (congrArg (World.drewN _) (Nat.add_assoc _ _ _))⟩)))
   repeat (go_quiet (first | (go_at_call 39; (with_reducible refine (attestorref01_Valid.calls a0 false _ A5.out).mono ?_); rintro e w' ⟨rfl, ⟨nd, rfl⟩⟩; (try first | exact ⟨rfl, _, World.drewN_drewN _ _ _⟩ | exact ⟨rfl, _, Eq.trans (World.drewN_drewN _ _ _) (congrArg (World.drewN _) (Nat.add_assoc _ _ _))⟩))); try go_wp2_with (first | (go_at_call 39; (with_reducible refine (attestorref01_Valid.calls a0 false _ A5.out).mono ?_); rintro e w' ⟨rfl, ⟨nd, rfl⟩⟩; (try first | exact ⟨rfl, _, World.drewN_drewN _ _ _⟩ | exact ⟨rfl, _, Eq.trans (World.drewN_drewN _ _ _) (congrArg (World.drewN _) (Nat.add_assoc _ _ _))⟩))))
   go_meet
   case rel => exact ⟨_, (true), gb_, H', ⟨by first | omega | exact Nat.le_refl _⟩, ⟨bU_ HB.out⟩⟩
 case rest =>
  clear HC4
  (try clear c1); (try clear c2); (try clear p2); (try clear c6)
  obtain ⟨kq, x22_3, rfl, HA, HJ3, HB⟩ := hcut
  cases kq with
  | zero => exact absurd HA.out (by simp [attestorref04_Coefficients.j0])
  | succ kj3 =>
   have H := HA.out
   clear HA
   simp only [attestorref04_Coefficients.j0] at H
   by_cases c8 : x22_3 = true
   ·subst c8
    rw [if_pos rfl] at H
    simp only [Option.some.injEq, Prod.mk.injEq] at H
    obtain ⟨rfl, rfl⟩ := H
    go_wp2
    repeat (go_quiet (fail); try go_wp2)
    go_ret2
    exact ⟨_, by first | rfl | (simp [errW_none, errW_some] <;> rfl) | (simp [*, errW_none, errW_some] <;> rfl), by first | exact Kd.R_nil _ _ _ _ _ | exact Kd.N_nil _ _ _ _ _ | exact Kd.V_nil _ _ _ _ _ | exact Kd.Q_nil _ _ _ _ _ | exact Kd.S_nil _ _ _ _ _, bU_ HB.out⟩
   ·replace c8 := Bool.eq_false_iff.mpr c8
    subst c8
    rw [if_neg (show ¬ (false = true) by decide)] at H
    revert H
    refine bd_ fun t363 A9 H => ?_
    have HC10 := ak H
    clear H
    go_upto_region 4 with (first | (go_at_call 46; (with_reducible refine (attestorref04_Bits.calls kj3 (l2.length : Int) t363 _ A9.out).mono ?_); rintro e w' ⟨rfl, ⟨nd, rfl⟩⟩; (try first | exact ⟨rfl, _, World.drewN_drewN _ _ _⟩ | exact ⟨rfl, _, Eq.trans (World.drewN_drewN _ _ _) (congrArg (World.drewN _) (Nat.add_assoc _ _ _))⟩)))
    repeat (go_quiet (first | (go_at_call 46; (with_reducible refine (attestorref04_Bits.calls kj3 (l2.length : Int) t363 _ A9.out).mono ?_); rintro e w' ⟨rfl, ⟨nd, rfl⟩⟩; (try first | exact ⟨rfl, _, World.drewN_drewN _ _ _⟩ | exact ⟨rfl, _, Eq.trans (World.drewN_drewN _ _ _) (congrArg (World.drewN _) (Nat.add_assoc _ _ _))⟩))); go_upto_region 4 with (first | (go_at_call 46; (with_reducible refine (attestorref04_Bits.calls kj3 (l2.length : Int) t363 _ A9.out).mono ?_); rintro e w' ⟨rfl, ⟨nd, rfl⟩⟩; (try first | exact ⟨rfl, _, World.drewN_drewN _ _ _⟩ | exact ⟨rfl, _, Eq.trans (World.drewN_drewN _ _ _) (congrArg (World.drewN _) (Nat.add_assoc _ _ _))⟩))))
    (try simp only [Act.put, s1_, s2_, s3_])
    go_cut [33] (fun v33 wc => ∃ (kq : Nat) (x33_9 : Bool), v33 = .bool x33_9 ∧ Aside0 (attestorref04_Coefficients.j1 kq a0 a1 l2 t363 x33_9 = some (r1, r2)) ∧ Aside0 (kq ≤ kj3) ∧ Aside0 (Below w.heap.size w wc))
    case first =>
     have H := HC10.out
     clear HC10
     by_cases c11 : t363 < 0
     ·rw [if_pos c11] at H
      have c11b0 := decide_eq_true c11
      clear c11
      (first | rw [c11b0] | (simp only [i64_w, i32_w]; rw [c11b0]) | rw [c11b1] | skip)
      have H' := ak H
      clear H
      go_wp2
      repeat (go_quiet (fail); try go_wp2)
      go_meet
      case rel => exact ⟨_, (true), gb_, H', ⟨by have := HJ3.out; first | omega | exact Nat.le_refl _⟩, ⟨bU_ HB.out⟩⟩
     ·rw [if_neg c11] at H
      have c11b0 := decide_eq_false c11
      clear c11
      (first | rw [c11b0] | (simp only [i64_w, i32_w]; rw [c11b0]) | rw [c11b1] | skip)
      revert H
      refine bd_ fun t364 A12 H => ?_
      have H' := ak H
      clear H
      go_wp2_with (first | (go_at_call 10; (with_reducible refine (attestorref04_Greatest.calls a0 t364 _ A12.out).mono ?_); rintro e w13 ⟨rfl, hb⟩; refine nx1_ (below_step (bU_ HB.out) hb) ?_; clear HB; intro HB; clear hb))
      repeat (go_quiet (first | (go_at_call 10; (with_reducible refine (attestorref04_Greatest.calls a0 t364 _ A12.out).mono ?_); rintro e w13 ⟨rfl, hb⟩; refine nx1_ (below_step (bU_ HB.out) hb) ?_; clear HB; intro HB; clear hb)); try go_wp2_with (first | (go_at_call 10; (with_reducible refine (attestorref04_Greatest.calls a0 t364 _ A12.out).mono ?_); rintro e w13 ⟨rfl, hb⟩; refine nx1_ (below_step (bU_ HB.out) hb) ?_; clear HB; intro HB; clear hb)))
      go_meet
      case rel => exact ⟨_, (decide (t363 > t364)), gb_, H', ⟨by have := HJ3.out; first | omega | exact Nat.le_refl _⟩, ⟨bU_ HB.out⟩⟩
    case rest =>
     clear HC10
     (try clear c1); (try clear c2); (try clear p2); (try clear c6); (try clear c8); (try clear c11); (try clear c11b0); (try clear c11b1)
     obtain ⟨kq, x33_9, rfl, HA, HJ9, HB⟩ := hcut
     cases kq with
     | zero => exact absurd HA.out (by simp [attestorref04_Coefficients.j1])
     | succ kj9 =>
      have H := HA.out
      clear HA
      simp only [attestorref04_Coefficients.j1] at H
      by_cases c14 : x33_9 = true
      ·subst c14
       rw [if_pos rfl] at H
       simp only [Option.some.injEq, Prod.mk.injEq] at H
       obtain ⟨rfl, rfl⟩ := H
       go_wp2
       repeat (go_quiet (fail); try go_wp2)
       go_ret2
       exact ⟨_, by first | rfl | (simp [errW_none, errW_some] <;> rfl) | (simp [*, errW_none, errW_some] <;> rfl), by first | exact Kd.R_nil _ _ _ _ _ | exact Kd.N_nil _ _ _ _ _ | exact Kd.V_nil _ _ _ _ _ | exact Kd.Q_nil _ _ _ _ _ | exact Kd.S_nil _ _ _ _ _, bU_ HB.out⟩
      ·replace c14 := Bool.eq_false_iff.mpr c14
       subst c14
       rw [if_neg (show ¬ (false = true) by decide)] at H
       have H' := ak H
       clear H
       go_wp2
       repeat (go_quiet (fail); try go_wp2)
       go_loopg [9, 10] kj9 (fun kq v9 v10 w' => ∃ (x9_3 : List Int) (x10_3 : Int), v10 = .int .i64 x10_3 ∧ Aside0 (attestorref04_Coefficients.l0 kq a0 a1 l2 t363 x9_3 x10_3 = some (r1, r2)) ∧ Aside0 (kq ≤ kj9) ∧ Aside0 (Kd.R (Kd.int .u64) 22 w' w.heap.size (fun _ => True) v9 x9_3) ∧ Aside0 (Below w.heap.size w w'))
       case atStart => exact ⟨(([] : List Int)), (0), gb_, H', ⟨Nat.le_refl _⟩, ⟨by first | exact Kd.R_nil _ _ _ _ _ | exact Kd.N_nil _ _ _ _ _ | exact Kd.V_nil _ _ _ _ _ | exact Kd.Q_nil _ _ _ _ _ | exact Kd.S_nil _ _ _ _ _⟩, ⟨bU_ HB.out⟩⟩
       case round =>
        clear H'
        (try clear c1); (try clear c2); (try clear p2); (try clear c6); (try clear c8); (try clear c11); (try clear c11b0); (try clear c11b1); (try clear c14)
        obtain ⟨x9_3, x10_3, rfl, HA, HK3, HO_9, HB⟩ := hrel
        cases gk with
        | zero => exact absurd HA.out (by simp [attestorref04_Coefficients.l0])
        | succ k3 =>
         have H := HA.out
         clear HA
         simp only [attestorref04_Coefficients.l0] at H
         by_cases c15 : x10_3 < (l2.length : Int)
         ·rw [if_pos c15] at H
          have c15b0 := decide_eq_true c15
          clear c15
          have H' := ak H
          clear H
          go_wp2
          repeat (go_quiet (fail); try go_wp2)
          go_loopg [11, 12] k3 (fun kq v11 v12 w' => ∃ (x11_4 : Int) (x12_4 : Int), v11 = .int .u64 x11_4 ∧ v12 = .int .i64 x12_4 ∧ Aside0 (attestorref04_Coefficients.l1 kq a0 a1 l2 t363 x9_3 x10_3 x11_4 x12_4 = some (r1, r2)) ∧ Aside0 (kq ≤ k3) ∧ Aside0 (Kd.R (Kd.int .u64) 22 w' w.heap.size (fun _ => True) u9 x9_3) ∧ Aside0 (Below w.heap.size w w'))
          case atStart => exact ⟨(0), (0), gb_, gb_, H', ⟨Nat.le_refl _⟩, ⟨rU_ HO_9.out⟩, ⟨bU_ HB.out⟩⟩
          case round =>
           clear H'
           (try clear c1); (try clear c2); (try clear p2); (try clear c6); (try clear c8); (try clear c11); (try clear c11b0); (try clear c11b1); (try clear c14); (try clear c15); (try clear c15b0)
           obtain ⟨x11_4, x12_4, rfl, rfl, HA, HK4, HO_9, HB⟩ := hrel
           cases gk with
           | zero => exact absurd HA.out (by simp [attestorref04_Coefficients.l1])
           | succ k4 =>
            have H := HA.out
            clear HA
            simp only [attestorref04_Coefficients.l1] at H
            by_cases c16 : x12_4 < (l2.length : Int)
            ·rw [if_pos c16] at H
             have c16b0 := decide_eq_true c16
             clear c16
             revert H
             refine bd_ fun t369 A17 H => ?_
             revert H
             refine bd_ fun t370 A18 H => ?_
             obtain ⟨c19, H⟩ : (0 ≤ x12_4) ∧ _ := it_ H
             have c19b0 := decide_eq_true c19
             clear c19
             revert H
             refine bd_ fun t372 A20 H => ?_
             revert H
             refine bd_ fun t373 A21 H => ?_
             revert H
             refine bd_ fun t374 A22 H => ?_
             have H' := ak H
             clear H
             go_wp2_with (first | (go_at_call 43; (with_reducible refine (attestorref04_Point.calls k4 a0 t363 a1 x12_4 t369 _ A17.out).mono ?_); rintro e w' ⟨rfl, ⟨nd, rfl⟩⟩; (try first | exact ⟨rfl, _, World.drewN_drewN _ _ _⟩ | exact ⟨rfl, _, Eq.trans (World.drewN_drewN _ _ _) (congrArg (World.drewN _) (Nat.add_assoc _ _ _))⟩)) | (go_at_call 47; (with_reducible refine (attestorref01_Inv.calls k4 a0 t369 t370 _ A18.out).mono ?_); rintro e w' ⟨rfl, ⟨nd, rfl⟩⟩; (try first | exact ⟨rfl, _, World.drewN_drewN _ _ _⟩ | exact ⟨rfl, _, Eq.trans (World.drewN_drewN _ _ _) (congrArg (World.drewN _) (Nat.add_assoc _ _ _))⟩); have p371 : 0 ≤ (x12_4 : Int) := od_; have q371 : x12_4 < (l2.length : Int) := od_; obtain ⟨ad371, e371, hx371_0⟩ := Kd.at_int HR2.out x12_4 p371 q371; cases e371; replace hx371_0 := (HB.out.cell (World.block_lt_of_cell? w _ hx371_0)).trans hx371_0; replace p371 := eq_true p371; replace q371 := eq_true q371) | (go_at_call 50; (with_reducible refine (attestorref01_Pow.calls k4 a0 t370 (IntKind.u64.wrap (x10_3)) t372 _ A20.out).mono ?_); rintro e w' ⟨rfl, ⟨nd, rfl⟩⟩; (try first | exact ⟨rfl, _, World.drewN_drewN _ _ _⟩ | exact ⟨rfl, _, Eq.trans (World.drewN_drewN _ _ _) (congrArg (World.drewN _) (Nat.add_assoc _ _ _))⟩)) | (go_at_call 49; (with_reducible refine (attestorref01_Mul.calls a0 (rd l2 x12_4) t372 t373 _ A21.out).mono ?_); rintro e w' ⟨rfl, ⟨nd, rfl⟩⟩; (try first | exact ⟨rfl, _, World.drewN_drewN _ _ _⟩ | exact ⟨rfl, _, Eq.trans (World.drewN_drewN _ _ _) (congrArg (World.drewN _) (Nat.add_assoc _ _ _))⟩)) | (go_at_call 48; (with_reducible refine (attestorref01_Add.calls a0 x11_4 t373 t374 _ A22.out).mono ?_); rintro e w' ⟨rfl, ⟨nd, rfl⟩⟩; (try first | exact ⟨rfl, _, World.drewN_drewN _ _ _⟩ | exact ⟨rfl, _, Eq.trans (World.drewN_drewN _ _ _) (congrArg (World.drewN _) (Nat.add_assoc _ _ _))⟩)))
             repeat (go_quiet (first | (go_at_call 43; (with_reducible refine (attestorref04_Point.calls k4 a0 t363 a1 x12_4 t369 _ A17.out).mono ?_); rintro e w' ⟨rfl, ⟨nd, rfl⟩⟩; (try first | exact ⟨rfl, _, World.drewN_drewN _ _ _⟩ | exact ⟨rfl, _, Eq.trans (World.drewN_drewN _ _ _) (congrArg (World.drewN _) (Nat.add_assoc _ _ _))⟩)) | (go_at_call 47; (with_reducible refine (attestorref01_Inv.calls k4 a0 t369 t370 _ A18.out).mono ?_); rintro e w' ⟨rfl, ⟨nd, rfl⟩⟩; (try first | exact ⟨rfl, _, World.drewN_drewN _ _ _⟩ | exact ⟨rfl, _, Eq.trans (World.drewN_drewN _ _ _) (congrArg (World.drewN _) (Nat.add_assoc _ _ _))⟩); have p371 : 0 ≤ (x12_4 : Int) := od_; have q371 : x12_4 < (l2.length : Int) := od_; obtain ⟨ad371, e371, hx371_0⟩ := Kd.at_int HR2.out x12_4 p371 q371; cases e371; replace hx371_0 := (HB.out.cell (World.block_lt_of_cell? w _ hx371_0)).trans hx371_0; replace p371 := eq_true p371; replace q371 := eq_true q371) | (go_at_call 50; (with_reducible refine (attestorref01_Pow.calls k4 a0 t370 (IntKind.u64.wrap (x10_3)) t372 _ A20.out).mono ?_); rintro e w' ⟨rfl, ⟨nd, rfl⟩⟩; (try first | exact ⟨rfl, _, World.drewN_drewN _ _ _⟩ | exact ⟨rfl, _, Eq.trans (World.drewN_drewN _ _ _) (congrArg (World.drewN _) (Nat.add_assoc _ _ _))⟩)) | (go_at_call 49; (with_reducible refine (attestorref01_Mul.calls a0 (rd l2 x12_4) t372 t373 _ A21.out).mono ?_); rintro e w' ⟨rfl, ⟨nd, rfl⟩⟩; (try first | exact ⟨rfl, _, World.drewN_drewN _ _ _⟩ | exact ⟨rfl, _, Eq.trans (World.drewN_drewN _ _ _) (congrArg (World.drewN _) (Nat.add_assoc _ _ _))⟩)) | (go_at_call 48; (with_reducible refine (attestorref01_Add.calls a0 x11_4 t373 t374 _ A22.out).mono ?_); rintro e w' ⟨rfl, ⟨nd, rfl⟩⟩; (try first | exact ⟨rfl, _, World.drewN_drewN _ _ _⟩ | exact ⟨rfl, _, Eq.trans (World.drewN_drewN _ _ _) (congrArg (World.drewN _) (Nat.add_assoc _ _ _))⟩))); try go_wp2_with (first | (go_at_call 43; (with_reducible refine (attestorref04_Point.calls k4 a0 t363 a1 x12_4 t369 _ A17.out).mono ?_); rintro e w' ⟨rfl, ⟨nd, rfl⟩⟩; (try first | exact ⟨rfl, _, World.drewN_drewN _ _ _⟩ | exact ⟨rfl, _, Eq.trans (World.drewN_drewN _ _ _) (congrArg (World.drewN _) (Nat.add_assoc _ _ _))⟩)) | (go_at_call 47; (with_reducible refine (attestorref01_Inv.calls k4 a0 t369 t370 _ A18.out).mono ?_); rintro e w' ⟨rfl, ⟨nd, rfl⟩⟩; (try first | exact ⟨rfl, _, World.drewN_drewN _ _ _⟩ | exact ⟨rfl, _, Eq.trans (World.drewN_drewN _ _ _) (congrArg (World.drewN _) (Nat.add_assoc _ _ _))⟩); have p371 : 0 ≤ (x12_4 : Int) := od_; have q371 : x12_4 < (l2.length : Int) := od_; obtain ⟨ad371, e371, hx371_0⟩ := Kd.at_int HR2.out x12_4 p371 q371; cases e371; replace hx371_0 := (HB.out.cell (World.block_lt_of_cell? w _ hx371_0)).trans hx371_0; replace p371 := eq_true p371; replace q371 := eq_true q371) | (go_at_call 50; (with_reducible refine (attestorref01_Pow.calls k4 a0 t370 (IntKind.u64.wrap (x10_3)) t372 _ A20.out).mono ?_); rintro e w' ⟨rfl, ⟨nd, rfl⟩⟩; (try first | exact ⟨rfl, _, World.drewN_drewN _ _ _⟩ | exact ⟨rfl, _, Eq.trans (World.drewN_drewN _ _ _) (congrArg (World.drewN _) (Nat.add_assoc _ _ _))⟩)) | (go_at_call 49; (with_reducible refine (attestorref01_Mul.calls a0 (rd l2 x12_4) t372 t373 _ A21.out).mono ?_); rintro e w' ⟨rfl, ⟨nd, rfl⟩⟩; (try first | exact ⟨rfl, _, World.drewN_drewN _ _ _⟩ | exact ⟨rfl, _, Eq.trans (World.drewN_drewN _ _ _) (congrArg (World.drewN _) (Nat.add_assoc _ _ _))⟩)) | (go_at_call 48; (with_reducible refine (attestorref01_Add.calls a0 x11_4 t373 t374 _ A22.out).mono ?_); rintro e w' ⟨rfl, ⟨nd, rfl⟩⟩; (try first | exact ⟨rfl, _, World.drewN_drewN _ _ _⟩ | exact ⟨rfl, _, Eq.trans (World.drewN_drewN _ _ _) (congrArg (World.drewN _) (Nat.add_assoc _ _ _))⟩))))
             go_roundg k4
             case measure => have := HJ3.out; have := HJ9.out; have := HK3.out; have := HK4.out; omega
             case rel => exact ⟨(t374), (wrap64 (x12_4 + 1)), gb_, gb_, H', ⟨by have := HJ3.out; have := HJ9.out; have := HK3.out; have := HK4.out; omega⟩, ⟨rU_ HO_9.out⟩, ⟨bU_ HB.out⟩⟩
            ·rw [if_neg c16] at H
             have c16b0 := decide_eq_false c16
             clear c16
             revert H
             refine bd_ fun t365 A23 H => ?_
             obtain ⟨c24, H⟩ : (x9_3.length < 17592186044416) ∧ _ := it_ H
             have LMc24 := ak c24
             clear c24
             obtain ⟨y366, hy366⟩ : ∃ y_ : List Int, y_ = (x9_3 ++ [t365]) := ⟨_, rfl⟩
             first | rw [Option.bind_some, ← hy366] at H | rw [← hy366] at H
             have Ny366 := ak hy366
             clear hy366
             have H' := ak H
             clear H
             go_wp2_with (first | (go_at_call 51; (with_reducible refine (attestorref01_Div.calls k4 a0 x11_4 (IntKind.u64.wrap ((l2.length : Int))) t365 _ A23.out).mono ?_); rintro e w' ⟨rfl, ⟨nd, rfl⟩⟩; (try first | exact ⟨rfl, _, World.drewN_drewN _ _ _⟩ | exact ⟨rfl, _, Eq.trans (World.drewN_drewN _ _ _) (congrArg (World.drewN _) (Nat.add_assoc _ _ _))⟩)) | ((with_reducible refine gate_builtin (b := .append) (xs := #[.tmp 67, .tmp 74]) rfl ?_); at_builtin; refine Kd.R_append (Kd.int .u64) (w0 := w) w.heap.size rfl (.tmp 67) (.tmp 74) 23 22 (.int .u64 0) 8 rfl Tryd.underlying23 info22 rfl (by decide) (by omega) u9 x9_3 t365 [.int .u64 t365] (fun _ => True) (fun _ => False) rfl rfl ?aP (fun _ hk => hk.elim) ?aF ?aO ?aB ?aS ?aL ?_; (case aP => exact rfl); (case aB => exact (bU_ HB.out)); (case aF => exact (fun _ _ => trivial)); (case aO => exact (rU_ HO_9.out)); (case aS => exact (below_size (bU_ HB.out))); (case aL => have := LMc24.out; omega); intro v367 w25 ho hb hg hat; rw [← Ny366.out] at ho; refine nx2_ (hb) (ho) ?_; clear HB HO_9; intro HB HO368; clear ho hb hg hat))
             repeat (go_quiet (first | (go_at_call 51; (with_reducible refine (attestorref01_Div.calls k4 a0 x11_4 (IntKind.u64.wrap ((l2.length : Int))) t365 _ A23.out).mono ?_); rintro e w' ⟨rfl, ⟨nd, rfl⟩⟩; (try first | exact ⟨rfl, _, World.drewN_drewN _ _ _⟩ | exact ⟨rfl, _, Eq.trans (World.drewN_drewN _ _ _) (congrArg (World.drewN _) (Nat.add_assoc _ _ _))⟩)) | ((with_reducible refine gate_builtin (b := .append) (xs := #[.tmp 67, .tmp 74]) rfl ?_); at_builtin; refine Kd.R_append (Kd.int .u64) (w0 := w) w.heap.size rfl (.tmp 67) (.tmp 74) 23 22 (.int .u64 0) 8 rfl Tryd.underlying23 info22 rfl (by decide) (by omega) u9 x9_3 t365 [.int .u64 t365] (fun _ => True) (fun _ => False) rfl rfl ?aP (fun _ hk => hk.elim) ?aF ?aO ?aB ?aS ?aL ?_; (case aP => exact rfl); (case aB => exact (bU_ HB.out)); (case aF => exact (fun _ _ => trivial)); (case aO => exact (rU_ HO_9.out)); (case aS => exact (below_size (bU_ HB.out))); (case aL => have := LMc24.out; omega); intro v367 w25 ho hb hg hat; rw [← Ny366.out] at ho; refine nx2_ (hb) (ho) ?_; clear HB HO_9; intro HB HO368; clear ho hb hg hat)); try go_wp2_with (first | (go_at_call 51; (with_reducible refine (attestorref01_Div.calls k4 a0 x11_4 (IntKind.u64.wrap ((l2.length : Int))) t365 _ A23.out).mono ?_); rintro e w' ⟨rfl, ⟨nd, rfl⟩⟩; (try first | exact ⟨rfl, _, World.drewN_drewN _ _ _⟩ | exact ⟨rfl, _, Eq.trans (World.drewN_drewN _ _ _) (congrArg (World.drewN _) (Nat.add_assoc _ _ _))⟩)) | ((with_reducible refine gate_builtin (b := .append) (xs := #[.tmp 67, .tmp 74]) rfl ?_); at_builtin; refine Kd.R_append (Kd.int .u64) (w0 := w) w.heap.size rfl (.tmp 67) (.tmp 74) 23 22 (.int .u64 0) 8 rfl Tryd.underlying23 info22 rfl (by decide) (by omega) u9 x9_3 t365 [.int .u64 t365] (fun _ => True) (fun _ => False) rfl rfl ?aP (fun _ hk => hk.elim) ?aF ?aO ?aB ?aS ?aL ?_; (case aP => exact rfl); (case aB => exact (bU_ HB.out)); (case aF => exact (fun _ _ => trivial)); (case aO => exact (rU_ HO_9.out)); (case aS => exact (below_size (bU_ HB.out))); (case aL => have := LMc24.out; omega); intro v367 w25 ho hb hg hat; rw [← Ny366.out] at ho; refine nx2_ (hb) (ho) ?_; clear HB HO_9; intro HB HO368; clear ho hb hg hat)))
             go_roundg k4
             case measure => have := HJ3.out; have := HJ9.out; have := HK3.out; have := HK4.out; omega
             case rel => exact ⟨(y366), (wrap64 (x10_3 + 1)), gb_, H', ⟨by have := HJ3.out; have := HJ9.out; have := HK3.out; have := HK4.out; omega⟩, ⟨rU_ HO368.out⟩, ⟨bU_ HB.out⟩⟩
         ·rw [if_neg c15] at H
          have c15b0 := decide_eq_false c15
          clear c15
          simp only [Option.some.injEq, Prod.mk.injEq] at H
          obtain ⟨rfl, rfl⟩ := H
          go_wp2
          repeat (go_quiet (fail); try go_wp2)
          go_ret2
          exact ⟨_, by first | rfl | (simp [errW_none, errW_some] <;> rfl) | (simp [*, errW_none, errW_some] <;> rfl), rU_ HO_9.out, bU_ HB.out⟩

/-! ### attestorref04_Widen: function 19 -/
def attestorref04_Widen.j0 : Nat → Int → List Int → Int → Int → Bool → Option (List Int × Int)
 | 0, _, _, _, _, _ => none
 | k + 1, x0, x1, x2, x8, x36 => if x36 = true then (some (([] : List Int), 2)) else ((attestorref04_Coefficients.f k x0 1 x1).bind fun bt379 => ((attestorref01_Generator.f k x0).bind fun t383 => ((attestorref04_Values.f k x0 (wrap64 (x8 + x2)) t383 bt379.1).bind fun bt384 => (some (bt384.1, bt384.2)))))
def attestorref04_Widen.f (k : Nat) (a0 : Int) (l1 : List Int) (a2 : Int) : Option (List Int × Int) := (attestorref01_Valid.f a0).bind fun t375 => (if t375 = true then ((attestorref04_Bits.f k (l1.length : Int)).bind fun t376 => (if t376 < 0 then (attestorref04_Widen.j0 k a0 l1 a2 t376 true) else (if a2 < 0 then (attestorref04_Widen.j0 k a0 l1 a2 t376 true) else ((attestorref04_Greatest.f a0).bind fun t377 => (if a2 > t377 then (attestorref04_Widen.j0 k a0 l1 a2 t376 true) else ((attestorref04_Greatest.f a0).bind fun t378 => (attestorref04_Widen.j0 k a0 l1 a2 t376 (decide ((wrap64 (t376 + a2)) > t378))))))))) else (some (([] : List Int), 1)))
set_option maxHeartbeats 8000000 in
set_option maxRecDepth 100000 in
theorem attestorref04_Widen.calls (k : Nat) (a0 : Int) (A1 : Option Addr) (c1 : Nat) (l1 : List Int) (a2 : Int) (r1 : List Int) (r2 : Int) (w : World) (hr1 : Kd.C (Kd.int .u64) w A1 l1.length l1) (hc1 : l1.length ≤ c1) (h : attestorref04_Widen.f k a0 l1 a2 = some (r1, r2)) :
  Calls Tryd.prog 19 #[.int .i64 a0, .slice A1 l1.length c1, .int .i64 a2] w fun e w' => ∃ v0_ : Value, e = .returned (.tuple #[v0_, .int .i64 r2]) ∧ Kd.R (Kd.int .u64) 22 w' w.heap.size (fun _ => True) v0_ r1 ∧ Below w.heap.size w w' := by
 have HR1 := ak hr1
 have HC1 := ak hc1
 clear hr1 hc1
 have HB := ak (Below.refl w.heap.size w)
 have H : ((attestorref01_Valid.f a0).bind fun t375 => (if t375 = true then ((attestorref04_Bits.f k (l1.length : Int)).bind fun t376 => (if t376 < 0 then (attestorref04_Widen.j0 k a0 l1 a2 t376 true) else (if a2 < 0 then (attestorref04_Widen.j0 k a0 l1 a2 t376 true) else ((attestorref04_Greatest.f a0).bind fun t377 => (if a2 > t377 then (attestorref04_Widen.j0 k a0 l1 a2 t376 true) else ((attestorref04_Greatest.f a0).bind fun t378 => (attestorref04_Widen.j0 k a0 l1 a2 t376 (decide ((wrap64 (t376 + a2)) > t378))))))))) else (some (([] : List Int), 1)))) = some (r1, r2) := h
 clear h
 revert H
 refine bd_ fun t375 A4 H => ?_
 by_cases c5 : t375 = true
 ·subst c5
  rw [if_pos rfl] at H
  revert H
  refine bd_ fun t376 A6 H => ?_
  have HC7 := ak H
  clear H
  go_enter Tryd.func19, Tryd.ntmps19
  go_upto_region 4 with (first | ((with_reducible refine gate_callee (f := 39) rfl ?_); refine gl_ (some 12) Tryd.func39 #[.int .i64 a0] ?_; (with_reducible refine (attestorref01_Valid.calls a0 true _ A4.out).mono ?_); rintro e w' ⟨rfl, ⟨nd, rfl⟩⟩; refine ⟨_, rfl, ?_⟩) | ((with_reducible refine gate_callee (f := 46) rfl ?_); refine gl_ (some 16) Tryd.func46 #[.int .i64 (l1.length : Int)] ?_; (with_reducible refine (attestorref04_Bits.calls k (l1.length : Int) t376 _ A6.out).mono ?_); rintro e w' ⟨rfl, ⟨nd, rfl⟩⟩; refine ⟨_, rfl, ?_⟩))
  (try simp only [Act.put, s1_, s2_, s3_])
  go_cut [36] (fun v36 wc => ∃ (kq : Nat) (x36_6 : Bool), v36 = .bool x36_6 ∧ Aside0 (attestorref04_Widen.j0 kq a0 l1 a2 t376 x36_6 = some (r1, r2)) ∧ Aside0 (kq ≤ k) ∧ Aside0 (Below w.heap.size w wc))
  case first =>
   have H := HC7.out
   clear HC7
   by_cases c8 : t376 < 0
   ·rw [if_pos c8] at H
    have c8b0 := decide_eq_true c8
    clear c8
    (first | rw [c8b0] | (simp only [i64_w, i32_w]; rw [c8b0]) | rw [c8b1] | skip)
    have H' := ak H
    clear H
    go_wp2
    go_meet
    case rel => exact ⟨_, (true), gb_, H', ⟨by first | omega | exact Nat.le_refl _⟩, ⟨bU_ HB.out⟩⟩
   ·rw [if_neg c8] at H
    have c8b0 := decide_eq_false c8
    clear c8
    (first | rw [c8b0] | (simp only [i64_w, i32_w]; rw [c8b0]) | rw [c8b1] | skip)
    by_cases c9 : a2 < 0
    ·rw [if_pos c9] at H
     have c9b0 := decide_eq_true c9
     clear c9
     have H' := ak H
     clear H
     go_wp2
     go_meet
     case rel => exact ⟨_, (true), gb_, H', ⟨by first | omega | exact Nat.le_refl _⟩, ⟨bU_ HB.out⟩⟩
    ·rw [if_neg c9] at H
     have c9b0 := decide_eq_false c9
     clear c9
     revert H
     refine bd_ fun t377 A10 H => ?_
     by_cases c11 : a2 > t377
     ·rw [if_pos c11] at H
      have c11b0 : decide (t377 < a2) = true := decide_eq_true c11
      clear c11
      have H' := ak H
      clear H
      go_wp2_with (first | (go_at_call 10; (with_reducible refine (attestorref04_Greatest.calls a0 t377 _ A10.out).mono ?_); rintro e w12 ⟨rfl, hb⟩; refine nx1_ (below_step (bU_ HB.out) hb) ?_; clear HB; intro HB; clear hb))
      go_meet
      case rel => exact ⟨_, (true), gb_, H', ⟨by first | omega | exact Nat.le_refl _⟩, ⟨bU_ HB.out⟩⟩
     ·rw [if_neg c11] at H
      have c11b0 : decide (t377 < a2) = false := decide_eq_false c11
      clear c11
      revert H
      refine bd_ fun t378 A13 H => ?_
      have H' := ak H
      clear H
      obtain rfl : t377 = t378 := Option.some.inj (A10.out.symm.trans A13.out)
      go_wp2_with (first | (go_at_call 10; (with_reducible refine (attestorref04_Greatest.calls a0 t377 _ A10.out).mono ?_); rintro e w14 ⟨rfl, hb⟩; refine nx1_ (below_step (bU_ HB.out) hb) ?_; clear HB; intro HB; clear hb) | (go_at_call 10; (with_reducible refine (attestorref04_Greatest.calls a0 t377 _ A13.out).mono ?_); rintro e w15 ⟨rfl, hb⟩; refine nx1_ (below_step (bU_ HB.out) hb) ?_; clear HB; intro HB; clear hb))
      go_meet
      case rel => exact ⟨_, (decide ((wrap64 (t376 + a2)) > t377)), gb_, H', ⟨by first | omega | exact Nat.le_refl _⟩, ⟨bU_ HB.out⟩⟩
  case rest =>
   clear HC7
   (try clear c1); (try clear p2); (try clear c3); (try clear c4); (try clear c5); (try clear p6); (try clear c8); (try clear c8b0); (try clear c8b1); (try clear c9); (try clear c9b0); (try clear c11); (try clear c11b0)
   obtain ⟨kq, x36_6, rfl, HA, HJ6, HB⟩ := hcut
   cases kq with
   | zero => exact absurd HA.out (by simp [attestorref04_Widen.j0])
   | succ kj6 =>
    have H := HA.out
    clear HA
    simp only [attestorref04_Widen.j0] at H
    by_cases c16 : x36_6 = true
    ·subst c16
     rw [if_pos rfl] at H
     simp only [Option.some.injEq, Prod.mk.injEq] at H
     obtain ⟨rfl, rfl⟩ := H
     go_wp2
     go_ret2
     exact ⟨_, by first | rfl | (simp [errW_none, errW_some] <;> rfl) | (simp [*, errW_none, errW_some] <;> rfl), by first | exact Kd.R_nil _ _ _ _ _ | exact Kd.N_nil _ _ _ _ _ | exact Kd.V_nil _ _ _ _ _ | exact Kd.Q_nil _ _ _ _ _ | exact Kd.S_nil _ _ _ _ _, bU_ HB.out⟩
    ·replace c16 := Bool.eq_false_iff.mpr c16
     subst c16
     rw [if_neg (show ¬ (false = true) by decide)] at H
     revert H
     refine bd2_ fun t379 t380 A17 H => ?_
     try dsimp only at H
     revert H
     refine bd_ fun t383 A18 H => ?_
     revert H
     refine bd2_ fun t384 t385 A19 H => ?_
     try dsimp only at H
     simp only [Option.some.injEq, Prod.mk.injEq] at H
     obtain ⟨rfl, rfl⟩ := H
     go_wp2_with (first | ((with_reducible refine gate_callee (f := 17) rfl ?_); refine gl_ (some 40) Tryd.func17 #[.int .i64 a0, .int .u64 1, .slice A1 l1.length c1] ?_; (with_reducible refine (attestorref04_Coefficients.calls kj6 a0 1 _ _ l1 t379 t380 _ ?side1 ?side2 A17.out).mono ?_); (case side1 => exact cU_ (Kd.C_below HR1.out HB.out)); (case side2 => exact HC1.out); rintro e w20 ⟨v381, rfl, ho0, hb⟩; refine ⟨_, rfl, ?_⟩; refine nx2_ (Kd.R_lower ho0 (below_size (bU_ HB.out))) (below_step (bU_ HB.out) hb) ?_; clear HB; intro HO382 HB; clear hb ho0) | ((with_reducible refine gate_callee (f := 53) rfl ?_); refine gl_ (some 48) Tryd.func53 #[.int .i64 a0] ?_; (with_reducible refine (attestorref01_Generator.calls kj6 a0 t383 _ A18.out).mono ?_); rintro e w' ⟨rfl, ⟨nd, rfl⟩⟩; refine ⟨_, rfl, ?_⟩; obtain ⟨Ao21, co21, eo21⟩ := Kd.R_slice HO382.out; subst eo21) | ((with_reducible refine gate_callee (f := 13) rfl ?_); refine gl_ (some 50) Tryd.func13 #[.int .i64 a0, .int .i64 (wrap64 (t376 + a2)), .int .u64 t383, .slice Ao21 t379.length co21] ?_; (with_reducible refine (attestorref04_Values.calls kj6 a0 (wrap64 (t376 + a2)) t383 _ _ t379 t384 t385 _ ?side1 ?side2 A19.out).mono ?_); (case side1 => exact cU_ ((Kd.R_reads' HO382.out).2.2)); (case side2 => exact (Kd.R_reads' HO382.out).2.1); rintro e w22 ⟨v386, rfl, ho0, hb⟩; refine ⟨_, rfl, ?_⟩; refine nx3_ (Kd.R_elder' (rU_ HO382.out) (Kd.R_base ho0) hb) (Kd.R_lower (Kd.R_new' ho0 (Kd.R_lt (rU_ HO382.out))) (below_size (bU_ HB.out))) (below_step (bU_ HB.out) hb) ?_; clear HO382 HB; intro HO382 HO387 HB; clear hb ho0))
     go_ret2
     exact ⟨_, by first | rfl | (simp [errW_none, errW_some] <;> rfl) | (simp [*, errW_none, errW_some] <;> rfl), Kd.R_mono (rU_ HO387.out) (fun _ hk => trivial), bU_ HB.out⟩
 ·replace c5 := Bool.eq_false_iff.mpr c5
  subst c5
  rw [if_neg (show ¬ (false = true) by decide)] at H
  simp only [Option.some.injEq, Prod.mk.injEq] at H
  obtain ⟨rfl, rfl⟩ := H
  go_enter Tryd.func19, Tryd.ntmps19
  go_wp2_with (first | ((with_reducible refine gate_callee (f := 39) rfl ?_); refine gl_ (some 12) Tryd.func39 #[.int .i64 a0] ?_; (with_reducible refine (attestorref01_Valid.calls a0 false _ A4.out).mono ?_); rintro e w' ⟨rfl, ⟨nd, rfl⟩⟩; refine ⟨_, rfl, ?_⟩))
  go_ret2
  exact ⟨_, by first | rfl | (simp [errW_none, errW_some] <;> rfl) | (simp [*, errW_none, errW_some] <;> rfl), by first | exact Kd.R_nil _ _ _ _ _ | exact Kd.N_nil _ _ _ _ _ | exact Kd.V_nil _ _ _ _ _ | exact Kd.Q_nil _ _ _ _ _ | exact Kd.S_nil _ _ _ _ _, bU_ HB.out⟩

/-! ### attestorlaw04_TransformBack: function 4 -/
mutual
def attestorlaw04_TransformBack.j0 : Nat → Int → Int → Int → List Int → List Int → Option (Bool)
 | 0, _, _, _, _, _ => none
 | k + 1, x0, x1, x2, x3, x9 => (transform_Coefficients.f k x0 x2 x3).bind fun bt395 => ((attestorref04_Coefficients.f k x0 x2 x9).bind fun bt399 => ((transform_Widen.f k x0 x3 x1).bind fun bt403 => ((attestorref04_Widen.f k x0 x9 x1).bind fun bt407 => (if bt395.2 = bt399.2 then ((attestorref01_Same.f k bt395.1 bt399.1).bind fun t411 => (if t411 = true then (if bt403.2 = bt407.2 then ((attestorref01_Same.f k bt403.1 bt407.1).bind fun t412 => (if t412 = true then ((attestorref01_Same.f k x3 x9).bind fun t413 => (if t413 = true then ((attestorlaw04_works.f k).bind fun t414 => (some t414)) else (none))) else (none))) else (none)) else (none))) else (none)))))
def attestorlaw04_TransformBack.j1 : Nat → Int → Int → Int → List Int → List Int → Option (Bool)
 | 0, _, _, _, _, _ => none
 | k + 1, x0, x1, x2, x3, x9 => (transform_Coefficients.f k x0 x2 x3).bind fun bt415 => ((attestorref04_Coefficients.f k x0 x2 x9).bind fun bt419 => ((transform_Widen.f k x0 x3 x1).bind fun bt423 => ((attestorref04_Widen.f k x0 x9 x1).bind fun bt427 => (if bt415.2 = bt419.2 then ((attestorref01_Same.f k bt415.1 bt419.1).bind fun t431 => (if t431 = true then (if bt423.2 = bt427.2 then ((attestorref01_Same.f k bt423.1 bt427.1).bind fun t432 => (if t432 = true then ((attestorref01_Same.f k x3 x9).bind fun t433 => (if t433 = true then ((attestorlaw04_works.f k).bind fun t434 => (some t434)) else (none))) else (none))) else (none)) else (none))) else (none)))))
def attestorlaw04_TransformBack.j2 : Nat → Int → Int → Int → List Int → List Int → Option (Bool)
 | 0, _, _, _, _, _ => none
 | k + 1, x0, x1, x2, x3, x9 => (transform_Coefficients.f k x0 x2 x3).bind fun bt435 => ((attestorref04_Coefficients.f k x0 x2 x9).bind fun bt439 => ((transform_Widen.f k x0 x3 x1).bind fun bt443 => ((attestorref04_Widen.f k x0 x9 x1).bind fun bt447 => (if bt435.2 = bt439.2 then ((attestorref01_Same.f k bt435.1 bt439.1).bind fun t451 => (if t451 = true then (if bt443.2 = bt447.2 then ((attestorref01_Same.f k bt443.1 bt447.1).bind fun t452 => (if t452 = true then ((attestorref01_Same.f k x3 x9).bind fun t453 => (if t453 = true then ((attestorlaw04_works.f k).bind fun t454 => (some t454)) else (none))) else (none))) else (none)) else (none))) else (none)))))
end
def attestorlaw04_TransformBack.f (k : Nat) (a0 : Int) (a1 : Int) (a2 : Int) (l3 : List Int) : Option (Bool) := (attestorlaw04_own.f l3 64).bind fun t388 => ((attestorlaw04_own.f t388 64).bind fun t391 => (if a1 > 1 then ((attestorref04_Greatest.f a0).bind fun t394 => (if a1 ≤ t394 then (if 0 ≤ (IntKind.u64.wrap (a1)) then (if (shl .i64 (t388.length : Int) (IntKind.u64.wrap (a1))) > 128 then (attestorlaw04_TransformBack.j0 k a0 (Int.tmod a1 2) a2 t388 t391) else (attestorlaw04_TransformBack.j0 k a0 a1 a2 t388 t391)) else (none)) else (attestorlaw04_TransformBack.j1 k a0 a1 a2 t388 t391))) else (attestorlaw04_TransformBack.j2 k a0 a1 a2 t388 t391)))
set_option maxHeartbeats 8000000 in
set_option maxRecDepth 100000 in
theorem attestorlaw04_TransformBack.calls (k : Nat) (a0 : Int) (a1 : Int) (a2 : Int) (A3 : Option Addr) (c3 : Nat) (l3 : List Int) (r : Bool) (w : World) (hG : Fld w) (hr3 : Kd.C (Kd.int .u64) w A3 l3.length l3) (hc3 : l3.length ≤ c3) (h : attestorlaw04_TransformBack.f k a0 a1 a2 l3 = some r) :
  Calls Tryd.prog 4 #[.int .i64 a0, .int .i64 a1, .int .u64 a2, .slice A3 l3.length c3] w fun e w' => e = .returned (.bool r) ∧ Below w.heap.size w w' := by
 have HG := ak hG
 clear hG
 have HR3 := ak hr3
 have HC3 := ak hc3
 clear hr3 hc3
 have HB := ak (Below.refl w.heap.size w)
 have H : ((attestorlaw04_own.f l3 64).bind fun t388 => ((attestorlaw04_own.f t388 64).bind fun t391 => (if a1 > 1 then ((attestorref04_Greatest.f a0).bind fun t394 => (if a1 ≤ t394 then (if 0 ≤ (IntKind.u64.wrap (a1)) then (if (shl .i64 (t388.length : Int) (IntKind.u64.wrap (a1))) > 128 then (attestorlaw04_TransformBack.j0 k a0 (Int.tmod a1 2) a2 t388 t391) else (attestorlaw04_TransformBack.j0 k a0 a1 a2 t388 t391)) else (none)) else (attestorlaw04_TransformBack.j1 k a0 a1 a2 t388 t391))) else (attestorlaw04_TransformBack.j2 k a0 a1 a2 t388 t391)))) = some r := h
 clear h
 revert H
 refine bd_ fun t388 A5 H => ?_
 revert H
 refine bd_ fun t391 A6 H => ?_
 by_cases c7 : a1 > 1
 ·rw [if_pos c7] at H
  have c7b0 : decide (1 < a1) = true := decide_eq_true c7
  clear c7
  revert H
  refine bd_ fun t394 A8 H => ?_
  by_cases c9 : a1 ≤ t394
  ·rw [if_pos c9] at H
   have c9b0 := decide_eq_true c9
   clear c9
   obtain ⟨ji10, hji10⟩ : ∃ j_ : Int, (IntKind.u64.wrap (a1)) = j_ := ⟨_, rfl⟩
   first | rw [hji10] at H | simp only [hji10] at H
   (try rw [hji10] at A5)
   (try rw [hji10] at A6)
   (try rw [hji10] at A8)
   obtain ⟨c11, H⟩ : (0 ≤ (ji10)) ∧ _ := it_ H
   have c11b0 := eq_true c11
   have c11b1 := decide_eq_true c11
   clear c11
   obtain ⟨ji12, hji12⟩ : ∃ j_ : Int, (shl .i64 (t388.length : Int) (ji10)) = j_ := ⟨_, rfl⟩
   first | rw [hji12] at H | simp only [hji12] at H
   (try rw [hji12] at A5)
   (try rw [hji12] at A6)
   (try rw [hji12] at A8)
   have hji12_ : (IntKind.i64.wrap ((t388.length : Int) * 2 ^ min (ji10).toNat 64)) = ji12 := hji12
   have hji12z : (ji10) ≤ 64 → (IntKind.i64.wrap ((t388.length : Int) * 2 ^ (ji10).toNat)) = ji12 := shl_small hji12
   have hji12y : (wrap64 ((t388.length : Int) * 2 ^ min (ji10).toNat 64)) = ji12 := (i64_w _).symm.trans hji12_
   have hji12x : (ji10) ≤ 64 → (wrap64 ((t388.length : Int) * 2 ^ (ji10).toNat)) = ji12 := fun h_ => (i64_w _).symm.trans (hji12z h_)
   have HC13 := ak H
   clear H
   go_enter Tryd.func4, Tryd.ntmps4
   go_upto_if 37 with (first | ((with_reducible refine gate_callee (f := 11) rfl ?_); refine gl_ (some 19) Tryd.func11 #[.slice A3 l3.length c3, .int .i64 64] ?_; (with_reducible refine (attestorlaw04_own.calls _ _ l3 64 t388 _ ?side1 ?side2 A5.out).mono ?_); (case side1 => exact cU_ HR3.out); (case side2 => exact HC3.out); rintro e w14 ⟨v389, rfl, ho0, hb⟩; refine ⟨_, rfl, ?_⟩; refine nx2_ (Kd.R_lower ho0 (below_size (bU_ HB.out))) (below_step (bU_ HB.out) hb) ?_; clear HB; intro HO390 HB; clear hb ho0; obtain ⟨Ao15, co15, eo15⟩ := Kd.R_slice HO390.out; subst eo15) | ((with_reducible refine gate_callee (f := 11) rfl ?_); refine gl_ (some 21) Tryd.func11 #[.slice Ao15 t388.length co15, .int .i64 64] ?_; (with_reducible refine (attestorlaw04_own.calls _ _ t388 64 t391 _ ?side1 ?side2 A6.out).mono ?_); (case side1 => exact cU_ ((Kd.R_reads' HO390.out).2.2)); (case side2 => exact (Kd.R_reads' HO390.out).2.1); rintro e w16 ⟨v392, rfl, ho0, hb⟩; refine ⟨_, rfl, ?_⟩; refine nx3_ (Kd.R_elder' (rU_ HO390.out) (Kd.R_base ho0) hb) (Kd.R_lower (Kd.R_new' ho0 (Kd.R_lt (rU_ HO390.out))) (below_size (bU_ HB.out))) (below_step (bU_ HB.out) hb) ?_; clear HO390 HB; intro HO390 HO393 HB; clear hb ho0) | (go_at_call 10; (with_reducible refine (attestorref04_Greatest.calls a0 t394 _ A8.out).mono ?_); rintro e w17 ⟨rfl, hb⟩; refine nx3_ (Kd.R_below (rU_ HO390.out) hb) (Kd.R_below (rU_ HO393.out) hb) (below_step (bU_ HB.out) hb) ?_; clear HO390 HO393 HB; intro HO390 HO393 HB; clear hb))
   (try simp only [Act.put, s1_, s2_, s3_])
   go_cut [1] (fun v1 wc => ∃ (kq : Nat) (x1_12 : Int), v1 = .int .i64 x1_12 ∧ Aside0 (attestorlaw04_TransformBack.j0 kq a0 x1_12 a2 t388 t391 = some r) ∧ Aside0 (kq ≤ k) ∧ Aside0 (Kd.R (Kd.int .u64) 22 wc w.heap.size (fun k_ => some k_ ≠ (v392 : Value).ownBlock) (.slice Ao15 t388.length co15) t388) ∧ Aside0 (Kd.R (Kd.int .u64) 22 wc w.heap.size (fun k_ => some k_ ≠ ((.slice Ao15 t388.length co15) : Value).ownBlock) v392 t391) ∧ Aside0 (Below w.heap.size w wc))
   case first =>
    have H := HC13.out
    clear HC13
    by_cases c18 : (ji12) > 128
    ·rw [if_pos c18] at H
     have c18b0 : decide (128 < (ji12)) = true := decide_eq_true c18
     clear c18
     (first | rw [c18b0] | (simp only [i64_w, i32_w]; rw [c18b0]) | rw [c18b1] | skip)
     have H' := ak H
     clear H
     go_wp2
     go_meet
     case rel => exact ⟨_, (Int.tmod a1 2), gb_, H', ⟨by first | omega | exact Nat.le_refl _⟩, ⟨Kd.R_mono (rU_ HO390.out) (fun _ hk => hk.2)⟩, ⟨Kd.R_mono (rU_ HO393.out) (fun _ hk => hk.2)⟩, ⟨bU_ HB.out⟩⟩
    ·rw [if_neg c18] at H
     have c18b0 : decide (128 < (ji12)) = false := decide_eq_false c18
     clear c18
     (first | rw [c18b0] | (simp only [i64_w, i32_w]; rw [c18b0]) | rw [c18b1] | skip)
     have H' := ak H
     clear H
     go_wp2
     go_meet
     case rel => exact ⟨_, (a1), gb_, H', ⟨by first | omega | exact Nat.le_refl _⟩, ⟨Kd.R_mono (rU_ HO390.out) (fun _ hk => hk.2)⟩, ⟨Kd.R_mono (rU_ HO393.out) (fun _ hk => hk.2)⟩, ⟨bU_ HB.out⟩⟩
   case rest =>
    clear HC13
    (try clear c1); (try clear p2); (try clear c3); (try clear c4); (try clear p6); (try clear c7); (try clear c7b0); (try clear c9); (try clear c9b0); (try clear c11); (try clear c11b0); (try clear c11b1); (try clear c18); (try clear c18b0); (try clear c18b1)
    obtain ⟨kq, x1_12, rfl, HA, HJ12, HO_3, HO_9, HB⟩ := hcut
    cases kq with
    | zero => exact absurd HA.out (by simp [attestorlaw04_TransformBack.j0])
    | succ kj12 =>
     have H := HA.out
     clear HA
     simp only [attestorlaw04_TransformBack.j0] at H
     revert H
     refine bd2_ fun t395 t396 A19 H => ?_
     try dsimp only at H
     revert H
     refine bd2_ fun t399 t400 A20 H => ?_
     try dsimp only at H
     revert H
     refine bd2_ fun t403 t404 A21 H => ?_
     try dsimp only at H
     revert H
     refine bd2_ fun t407 t408 A22 H => ?_
     try dsimp only at H
     obtain ⟨c23, H⟩ : (t396 = t400) ∧ _ := it_ H
     have c23b0 := beq_iff_eq.mpr c23
     have c23b1 := bne_eq_false_iff_eq.mpr c23
     clear c23
     revert H
     refine bd_ fun t411 A24 H => ?_
     by_cases c25 : t411 = true
     ·subst c25
      rw [if_pos rfl] at H
      obtain ⟨c26, H⟩ : (t404 = t408) ∧ _ := it_ H
      have c26b0 := beq_iff_eq.mpr c26
      have c26b1 := bne_eq_false_iff_eq.mpr c26
      clear c26
      revert H
      refine bd_ fun t412 A27 H => ?_
      by_cases c28 : t412 = true
      ·subst c28
       rw [if_pos rfl] at H
       revert H
       refine bd_ fun t413 A29 H => ?_
       by_cases c30 : t413 = true
       ·subst c30
        rw [if_pos rfl] at H
        revert H
        refine bd_ fun t414 A31 H => ?_
        obtain rfl := Option.some.inj H
        go_wp2_with (first | ((with_reducible refine gate_callee (f := 16) rfl ?_); refine gl_ (some 44) Tryd.func16 #[.int .i64 a0, .int .u64 a2, .slice Ao15 t388.length co15] ?_; (with_reducible refine (transform_Coefficients.calls kj12 a0 a2 _ _ t388 t395 t396 _ ?side1 ?side2 ?side3 A19.out).mono ?_); (case side1 => exact fU_ HG.out HB.out); (case side2 => exact cU_ ((Kd.R_reads' HO_3.out).2.2)); (case side3 => exact (Kd.R_reads' HO_3.out).2.1); rintro e w32 ⟨v397, rfl, ho0, hb⟩; refine ⟨_, rfl, ?_⟩; refine nx4_ (Kd.R_elder' (rU_ HO_3.out) (Kd.R_base ho0) hb) (Kd.R_elder' (rU_ HO_9.out) (Kd.R_base ho0) hb) (Kd.R_lower (Kd.R_new' (Kd.R_new' ho0 (Kd.R_lt (rU_ HO_3.out))) (Kd.R_lt (rU_ HO_9.out))) (below_size (bU_ HB.out))) (below_step (bU_ HB.out) hb) ?_; clear HO_3 HO_9 HB; intro HO_3 HO_9 HO398 HB; clear hb ho0; obtain ⟨Ao33, co33, eo33⟩ := Kd.R_slice HO_9.out; subst eo33) | ((with_reducible refine gate_callee (f := 17) rfl ?_); refine gl_ (some 51) Tryd.func17 #[.int .i64 a0, .int .u64 a2, .slice Ao33 t391.length co33] ?_; (with_reducible refine (attestorref04_Coefficients.calls kj12 a0 a2 _ _ t391 t399 t400 _ ?side1 ?side2 A20.out).mono ?_); (case side1 => exact cU_ ((Kd.R_reads' HO_9.out).2.2)); (case side2 => exact (Kd.R_reads' HO_9.out).2.1); rintro e w34 ⟨v401, rfl, ho0, hb⟩; refine ⟨_, rfl, ?_⟩; refine nx5_ (Kd.R_elder' (rU_ HO_3.out) (Kd.R_base ho0) hb) (Kd.R_elder' (rU_ HO_9.out) (Kd.R_base ho0) hb) (Kd.R_elder' (rU_ HO398.out) (Kd.R_base ho0) hb) (Kd.R_lower (Kd.R_new' (Kd.R_new' (Kd.R_new' ho0 (Kd.R_lt (rU_ HO_3.out))) (Kd.R_lt (rU_ HO_9.out))) (Kd.R_lt (rU_ HO398.out))) (below_size (bU_ HB.out))) (below_step (bU_ HB.out) hb) ?_; clear HO_3 HO_9 HO398 HB; intro HO_3 HO_9 HO398 HO402 HB; clear hb ho0) | ((with_reducible refine gate_callee (f := 18) rfl ?_); refine gl_ (some 58) Tryd.func18 #[.int .i64 a0, .slice Ao15 t388.length co15, .int .i64 x1_12] ?_; (with_reducible refine (transform_Widen.calls kj12 a0 _ _ t388 x1_12 t403 t404 _ ?side1 ?side2 ?side3 A21.out).mono ?_); (case side1 => exact fU_ HG.out HB.out); (case side2 => exact cU_ ((Kd.R_reads' HO_3.out).2.2)); (case side3 => exact (Kd.R_reads' HO_3.out).2.1); rintro e w35 ⟨v405, rfl, ho0, hb⟩; refine ⟨_, rfl, ?_⟩; refine nx6_ (Kd.R_elder' (rU_ HO_3.out) (Kd.R_base ho0) hb) (Kd.R_elder' (rU_ HO_9.out) (Kd.R_base ho0) hb) (Kd.R_elder' (rU_ HO398.out) (Kd.R_base ho0) hb) (Kd.R_elder' (rU_ HO402.out) (Kd.R_base ho0) hb) (Kd.R_lower (Kd.R_new' (Kd.R_new' (Kd.R_new' (Kd.R_new' ho0 (Kd.R_lt (rU_ HO_3.out))) (Kd.R_lt (rU_ HO_9.out))) (Kd.R_lt (rU_ HO398.out))) (Kd.R_lt (rU_ HO402.out))) (below_size (bU_ HB.out))) (below_step (bU_ HB.out) hb) ?_; clear HO_3 HO_9 HO398 HO402 HB; intro HO_3 HO_9 HO398 HO402 HO406 HB; clear hb ho0) | ((with_reducible refine gate_callee (f := 19) rfl ?_); refine gl_ (some 65) Tryd.func19 #[.int .i64 a0, .slice Ao33 t391.length co33, .int .i64 x1_12] ?_; (with_reducible refine (attestorref04_Widen.calls kj12 a0 _ _ t391 x1_12 t407 t408 _ ?side1 ?side2 A22.out).mono ?_); (case side1 => exact cU_ ((Kd.R_reads' HO_9.out).2.2)); (case side2 => exact (Kd.R_reads' HO_9.out).2.1); rintro e w36 ⟨v409, rfl, ho0, hb⟩; refine ⟨_, rfl, ?_⟩; refine nx7_ (Kd.R_elder' (rU_ HO_3.out) (Kd.R_base ho0) hb) (Kd.R_elder' (rU_ HO_9.out) (Kd.R_base ho0) hb) (Kd.R_elder' (rU_ HO398.out) (Kd.R_base ho0) hb) (Kd.R_elder' (rU_ HO402.out) (Kd.R_base ho0) hb) (Kd.R_elder' (rU_ HO406.out) (Kd.R_base ho0) hb) (Kd.R_lower (Kd.R_new' (Kd.R_new' (Kd.R_new' (Kd.R_new' (Kd.R_new' ho0 (Kd.R_lt (rU_ HO_3.out))) (Kd.R_lt (rU_ HO_9.out))) (Kd.R_lt (rU_ HO398.out))) (Kd.R_lt (rU_ HO402.out))) (Kd.R_lt (rU_ HO406.out))) (below_size (bU_ HB.out))) (below_step (bU_ HB.out) hb) ?_; clear HO_3 HO_9 HO398 HO402 HO406 HB; intro HO_3 HO_9 HO398 HO402 HO406 HO410 HB; clear hb ho0; obtain ⟨Ao37, co37, eo37⟩ := Kd.R_slice HO398.out; subst eo37; obtain ⟨Ao38, co38, eo38⟩ := Kd.R_slice HO402.out; subst eo38) | (go_at_call 14; (with_reducible refine (attestorref01_Same.calls kj12 _ _ t395 _ _ t399 true _ ?side1 ?side2 ?side3 ?side4 A24.out).mono ?_); (case side1 => exact cU_ ((Kd.R_reads' HO398.out).2.2)); (case side2 => exact (Kd.R_reads' HO398.out).2.1); (case side3 => exact cU_ ((Kd.R_reads' HO402.out).2.2)); (case side4 => exact (Kd.R_reads' HO402.out).2.1); rintro e w' ⟨rfl, ⟨nd, rfl⟩⟩; obtain ⟨Ao39, co39, eo39⟩ := Kd.R_slice HO406.out; subst eo39; obtain ⟨Ao40, co40, eo40⟩ := Kd.R_slice HO410.out; subst eo40) | (go_at_call 14; (with_reducible refine (attestorref01_Same.calls kj12 _ _ t403 _ _ t407 true _ ?side1 ?side2 ?side3 ?side4 A27.out).mono ?_); (case side1 => exact cU_ ((Kd.R_reads' HO406.out).2.2)); (case side2 => exact (Kd.R_reads' HO406.out).2.1); (case side3 => exact cU_ ((Kd.R_reads' HO410.out).2.2)); (case side4 => exact (Kd.R_reads' HO410.out).2.1); rintro e w' ⟨rfl, ⟨nd, rfl⟩⟩) | (go_at_call 14; (with_reducible refine (attestorref01_Same.calls kj12 _ _ t388 _ _ t391 true _ ?side1 ?side2 ?side3 ?side4 A29.out).mono ?_); (case side1 => exact cU_ ((Kd.R_reads' HO_3.out).2.2)); (case side2 => exact (Kd.R_reads' HO_3.out).2.1); (case side3 => exact cU_ ((Kd.R_reads' HO_9.out).2.2)); (case side4 => exact (Kd.R_reads' HO_9.out).2.1); rintro e w' ⟨rfl, ⟨nd, rfl⟩⟩) | (go_at_call 15; (with_reducible refine (attestorlaw04_works.calls kj12  t414 _ ?side1 A31.out).mono ?_); (case side1 => exact fU_ HG.out HB.out); rintro e w41 ⟨rfl, hb⟩; refine nx7_ (Kd.R_below (rU_ HO_3.out) hb) (Kd.R_below (rU_ HO_9.out) hb) (Kd.R_below (rU_ HO398.out) hb) (Kd.R_below (rU_ HO402.out) hb) (Kd.R_below (rU_ HO406.out) hb) (Kd.R_below (rU_ HO410.out) hb) (below_step (bU_ HB.out) hb) ?_; clear HO_3 HO_9 HO398 HO402 HO406 HO410 HB; intro HO_3 HO_9 HO398 HO402 HO406 HO410 HB; clear hb))
        go_ret
        exact ⟨by first | rfl | (simp [errW_none, errW_some] <;> rfl) | (simp only [← hji10, ← hji12]; first | rfl | (simp [errW_none, errW_some] <;> rfl)) | (simp [*, errW_none, errW_some] <;> rfl), bU_ HB.out⟩
       ·replace c30 := Bool.eq_false_iff.mpr c30
        subst c30
        rw [if_neg (show ¬ (false = true) by decide)] at H
        exact absurd H (by simp)
      ·replace c28 := Bool.eq_false_iff.mpr c28
       subst c28
       rw [if_neg (show ¬ (false = true) by decide)] at H
       exact absurd H (by simp)
     ·replace c25 := Bool.eq_false_iff.mpr c25
      subst c25
      rw [if_neg (show ¬ (false = true) by decide)] at H
      exact absurd H (by simp)
  ·rw [if_neg c9] at H
   have c9b0 := decide_eq_false c9
   clear c9
   have HC42 := ak H
   clear H
   go_enter Tryd.func4, Tryd.ntmps4
   go_upto_if 37 with (first | ((with_reducible refine gate_callee (f := 11) rfl ?_); refine gl_ (some 19) Tryd.func11 #[.slice A3 l3.length c3, .int .i64 64] ?_; (with_reducible refine (attestorlaw04_own.calls _ _ l3 64 t388 _ ?side1 ?side2 A5.out).mono ?_); (case side1 => exact cU_ HR3.out); (case side2 => exact HC3.out); rintro e w43 ⟨v389, rfl, ho0, hb⟩; refine ⟨_, rfl, ?_⟩; refine nx2_ (Kd.R_lower ho0 (below_size (bU_ HB.out))) (below_step (bU_ HB.out) hb) ?_; clear HB; intro HO390 HB; clear hb ho0; obtain ⟨Ao44, co44, eo44⟩ := Kd.R_slice HO390.out; subst eo44) | ((with_reducible refine gate_callee (f := 11) rfl ?_); refine gl_ (some 21) Tryd.func11 #[.slice Ao44 t388.length co44, .int .i64 64] ?_; (with_reducible refine (attestorlaw04_own.calls _ _ t388 64 t391 _ ?side1 ?side2 A6.out).mono ?_); (case side1 => exact cU_ ((Kd.R_reads' HO390.out).2.2)); (case side2 => exact (Kd.R_reads' HO390.out).2.1); rintro e w45 ⟨v392, rfl, ho0, hb⟩; refine ⟨_, rfl, ?_⟩; refine nx3_ (Kd.R_elder' (rU_ HO390.out) (Kd.R_base ho0) hb) (Kd.R_lower (Kd.R_new' ho0 (Kd.R_lt (rU_ HO390.out))) (below_size (bU_ HB.out))) (below_step (bU_ HB.out) hb) ?_; clear HO390 HB; intro HO390 HO393 HB; clear hb ho0) | (go_at_call 10; (with_reducible refine (attestorref04_Greatest.calls a0 t394 _ A8.out).mono ?_); rintro e w46 ⟨rfl, hb⟩; refine nx3_ (Kd.R_below (rU_ HO390.out) hb) (Kd.R_below (rU_ HO393.out) hb) (below_step (bU_ HB.out) hb) ?_; clear HO390 HO393 HB; intro HO390 HO393 HB; clear hb))
   (try simp only [Act.put, s1_, s2_, s3_])
   go_cut [1] (fun v1 wc => ∃ (kq : Nat) (x1_41 : Int), v1 = .int .i64 x1_41 ∧ Aside0 (attestorlaw04_TransformBack.j1 kq a0 x1_41 a2 t388 t391 = some r) ∧ Aside0 (kq ≤ k) ∧ Aside0 (Kd.R (Kd.int .u64) 22 wc w.heap.size (fun k_ => some k_ ≠ (v392 : Value).ownBlock) (.slice Ao44 t388.length co44) t388) ∧ Aside0 (Kd.R (Kd.int .u64) 22 wc w.heap.size (fun k_ => some k_ ≠ ((.slice Ao44 t388.length co44) : Value).ownBlock) v392 t391) ∧ Aside0 (Below w.heap.size w wc))
   case first =>
    have H := HC42.out
    clear HC42
    have H' := ak H
    clear H
    go_wp2
    go_meet
    case rel => exact ⟨_, (a1), gb_, H', ⟨by first | omega | exact Nat.le_refl _⟩, ⟨Kd.R_mono (rU_ HO390.out) (fun _ hk => hk.2)⟩, ⟨Kd.R_mono (rU_ HO393.out) (fun _ hk => hk.2)⟩, ⟨bU_ HB.out⟩⟩
   case rest =>
    clear HC42
    (try clear c1); (try clear c2); (try clear p2); (try clear c3); (try clear c4); (try clear p6); (try clear c7); (try clear c7b0); (try clear c9); (try clear c9b0); (try clear c11); (try clear c11b0); (try clear c11b1); (try clear c16); (try clear c17); (try clear c18); (try clear c18b0); (try clear c18b1); (try clear c19); (try clear c23); (try clear c23b0); (try clear c23b1); (try clear c25); (try clear c26); (try clear c26b0); (try clear c26b1); (try clear c28); (try clear c30)
    obtain ⟨kq, x1_41, rfl, HA, HJ41, HO_3, HO_9, HB⟩ := hcut
    cases kq with
    | zero => exact absurd HA.out (by simp [attestorlaw04_TransformBack.j1])
    | succ kj41 =>
     have H := HA.out
     clear HA
     simp only [attestorlaw04_TransformBack.j1] at H
     revert H
     refine bd2_ fun t415 t416 A47 H => ?_
     try dsimp only at H
     revert H
     refine bd2_ fun t419 t420 A48 H => ?_
     try dsimp only at H
     revert H
     refine bd2_ fun t423 t424 A49 H => ?_
     try dsimp only at H
     revert H
     refine bd2_ fun t427 t428 A50 H => ?_
     try dsimp only at H
     obtain ⟨c51, H⟩ : (t416 = t420) ∧ _ := it_ H
     have c51b0 := beq_iff_eq.mpr c51
     have c51b1 := bne_eq_false_iff_eq.mpr c51
     clear c51
     revert H
     refine bd_ fun t431 A52 H => ?_
     by_cases c53 : t431 = true
     ·subst c53
      rw [if_pos rfl] at H
      obtain ⟨c54, H⟩ : (t424 = t428) ∧ _ := it_ H
      have c54b0 := beq_iff_eq.mpr c54
      have c54b1 := bne_eq_false_iff_eq.mpr c54
      clear c54
      revert H
      refine bd_ fun t432 A55 H => ?_
      by_cases c56 : t432 = true
      ·subst c56
       rw [if_pos rfl] at H
       revert H
       refine bd_ fun t433 A57 H => ?_
       by_cases c58 : t433 = true
       ·subst c58
        rw [if_pos rfl] at H
        revert H
        refine bd_ fun t434 A59 H => ?_
        obtain rfl := Option.some.inj H
        go_wp2_with (first | ((with_reducible refine gate_callee (f := 16) rfl ?_); refine gl_ (some 44) Tryd.func16 #[.int .i64 a0, .int .u64 a2, .slice Ao44 t388.length co44] ?_; (with_reducible refine (transform_Coefficients.calls kj41 a0 a2 _ _ t388 t415 t416 _ ?side1 ?side2 ?side3 A47.out).mono ?_); (case side1 => exact fU_ HG.out HB.out); (case side2 => exact cU_ ((Kd.R_reads' HO_3.out).2.2)); (case side3 => exact (Kd.R_reads' HO_3.out).2.1); rintro e w60 ⟨v417, rfl, ho0, hb⟩; refine ⟨_, rfl, ?_⟩; refine nx4_ (Kd.R_elder' (rU_ HO_3.out) (Kd.R_base ho0) hb) (Kd.R_elder' (rU_ HO_9.out) (Kd.R_base ho0) hb) (Kd.R_lower (Kd.R_new' (Kd.R_new' ho0 (Kd.R_lt (rU_ HO_3.out))) (Kd.R_lt (rU_ HO_9.out))) (below_size (bU_ HB.out))) (below_step (bU_ HB.out) hb) ?_; clear HO_3 HO_9 HB; intro HO_3 HO_9 HO418 HB; clear hb ho0; obtain ⟨Ao61, co61, eo61⟩ := Kd.R_slice HO_9.out; subst eo61) | ((with_reducible refine gate_callee (f := 17) rfl ?_); refine gl_ (some 51) Tryd.func17 #[.int .i64 a0, .int .u64 a2, .slice Ao61 t391.length co61] ?_; (with_reducible refine (attestorref04_Coefficients.calls kj41 a0 a2 _ _ t391 t419 t420 _ ?side1 ?side2 A48.out).mono ?_); (case side1 => exact cU_ ((Kd.R_reads' HO_9.out).2.2)); (case side2 => exact (Kd.R_reads' HO_9.out).2.1); rintro e w62 ⟨v421, rfl, ho0, hb⟩; refine ⟨_, rfl, ?_⟩; refine nx5_ (Kd.R_elder' (rU_ HO_3.out) (Kd.R_base ho0) hb) (Kd.R_elder' (rU_ HO_9.out) (Kd.R_base ho0) hb) (Kd.R_elder' (rU_ HO418.out) (Kd.R_base ho0) hb) (Kd.R_lower (Kd.R_new' (Kd.R_new' (Kd.R_new' ho0 (Kd.R_lt (rU_ HO_3.out))) (Kd.R_lt (rU_ HO_9.out))) (Kd.R_lt (rU_ HO418.out))) (below_size (bU_ HB.out))) (below_step (bU_ HB.out) hb) ?_; clear HO_3 HO_9 HO418 HB; intro HO_3 HO_9 HO418 HO422 HB; clear hb ho0) | ((with_reducible refine gate_callee (f := 18) rfl ?_); refine gl_ (some 58) Tryd.func18 #[.int .i64 a0, .slice Ao44 t388.length co44, .int .i64 x1_41] ?_; (with_reducible refine (transform_Widen.calls kj41 a0 _ _ t388 x1_41 t423 t424 _ ?side1 ?side2 ?side3 A49.out).mono ?_); (case side1 => exact fU_ HG.out HB.out); (case side2 => exact cU_ ((Kd.R_reads' HO_3.out).2.2)); (case side3 => exact (Kd.R_reads' HO_3.out).2.1); rintro e w63 ⟨v425, rfl, ho0, hb⟩; refine ⟨_, rfl, ?_⟩; refine nx6_ (Kd.R_elder' (rU_ HO_3.out) (Kd.R_base ho0) hb) (Kd.R_elder' (rU_ HO_9.out) (Kd.R_base ho0) hb) (Kd.R_elder' (rU_ HO418.out) (Kd.R_base ho0) hb) (Kd.R_elder' (rU_ HO422.out) (Kd.R_base ho0) hb) (Kd.R_lower (Kd.R_new' (Kd.R_new' (Kd.R_new' (Kd.R_new' ho0 (Kd.R_lt (rU_ HO_3.out))) (Kd.R_lt (rU_ HO_9.out))) (Kd.R_lt (rU_ HO418.out))) (Kd.R_lt (rU_ HO422.out))) (below_size (bU_ HB.out))) (below_step (bU_ HB.out) hb) ?_; clear HO_3 HO_9 HO418 HO422 HB; intro HO_3 HO_9 HO418 HO422 HO426 HB; clear hb ho0) | ((with_reducible refine gate_callee (f := 19) rfl ?_); refine gl_ (some 65) Tryd.func19 #[.int .i64 a0, .slice Ao61 t391.length co61, .int .i64 x1_41] ?_; (with_reducible refine (attestorref04_Widen.calls kj41 a0 _ _ t391 x1_41 t427 t428 _ ?side1 ?side2 A50.out).mono ?_); (case side1 => exact cU_ ((Kd.R_reads' HO_9.out).2.2)); (case side2 => exact (Kd.R_reads' HO_9.out).2.1); rintro e w64 ⟨v429, rfl, ho0, hb⟩; refine ⟨_, rfl, ?_⟩; refine nx7_ (Kd.R_elder' (rU_ HO_3.out) (Kd.R_base ho0) hb) (Kd.R_elder' (rU_ HO_9.out) (Kd.R_base ho0) hb) (Kd.R_elder' (rU_ HO418.out) (Kd.R_base ho0) hb) (Kd.R_elder' (rU_ HO422.out) (Kd.R_base ho0) hb) (Kd.R_elder' (rU_ HO426.out) (Kd.R_base ho0) hb) (Kd.R_lower (Kd.R_new' (Kd.R_new' (Kd.R_new' (Kd.R_new' (Kd.R_new' ho0 (Kd.R_lt (rU_ HO_3.out))) (Kd.R_lt (rU_ HO_9.out))) (Kd.R_lt (rU_ HO418.out))) (Kd.R_lt (rU_ HO422.out))) (Kd.R_lt (rU_ HO426.out))) (below_size (bU_ HB.out))) (below_step (bU_ HB.out) hb) ?_; clear HO_3 HO_9 HO418 HO422 HO426 HB; intro HO_3 HO_9 HO418 HO422 HO426 HO430 HB; clear hb ho0; obtain ⟨Ao65, co65, eo65⟩ := Kd.R_slice HO418.out; subst eo65; obtain ⟨Ao66, co66, eo66⟩ := Kd.R_slice HO422.out; subst eo66) | (go_at_call 14; (with_reducible refine (attestorref01_Same.calls kj41 _ _ t415 _ _ t419 true _ ?side1 ?side2 ?side3 ?side4 A52.out).mono ?_); (case side1 => exact cU_ ((Kd.R_reads' HO418.out).2.2)); (case side2 => exact (Kd.R_reads' HO418.out).2.1); (case side3 => exact cU_ ((Kd.R_reads' HO422.out).2.2)); (case side4 => exact (Kd.R_reads' HO422.out).2.1); rintro e w' ⟨rfl, ⟨nd, rfl⟩⟩; obtain ⟨Ao67, co67, eo67⟩ := Kd.R_slice HO426.out; subst eo67; obtain ⟨Ao68, co68, eo68⟩ := Kd.R_slice HO430.out; subst eo68) | (go_at_call 14; (with_reducible refine (attestorref01_Same.calls kj41 _ _ t423 _ _ t427 true _ ?side1 ?side2 ?side3 ?side4 A55.out).mono ?_); (case side1 => exact cU_ ((Kd.R_reads' HO426.out).2.2)); (case side2 => exact (Kd.R_reads' HO426.out).2.1); (case side3 => exact cU_ ((Kd.R_reads' HO430.out).2.2)); (case side4 => exact (Kd.R_reads' HO430.out).2.1); rintro e w' ⟨rfl, ⟨nd, rfl⟩⟩) | (go_at_call 14; (with_reducible refine (attestorref01_Same.calls kj41 _ _ t388 _ _ t391 true _ ?side1 ?side2 ?side3 ?side4 A57.out).mono ?_); (case side1 => exact cU_ ((Kd.R_reads' HO_3.out).2.2)); (case side2 => exact (Kd.R_reads' HO_3.out).2.1); (case side3 => exact cU_ ((Kd.R_reads' HO_9.out).2.2)); (case side4 => exact (Kd.R_reads' HO_9.out).2.1); rintro e w' ⟨rfl, ⟨nd, rfl⟩⟩) | (go_at_call 15; (with_reducible refine (attestorlaw04_works.calls kj41  t434 _ ?side1 A59.out).mono ?_); (case side1 => exact fU_ HG.out HB.out); rintro e w69 ⟨rfl, hb⟩; refine nx7_ (Kd.R_below (rU_ HO_3.out) hb) (Kd.R_below (rU_ HO_9.out) hb) (Kd.R_below (rU_ HO418.out) hb) (Kd.R_below (rU_ HO422.out) hb) (Kd.R_below (rU_ HO426.out) hb) (Kd.R_below (rU_ HO430.out) hb) (below_step (bU_ HB.out) hb) ?_; clear HO_3 HO_9 HO418 HO422 HO426 HO430 HB; intro HO_3 HO_9 HO418 HO422 HO426 HO430 HB; clear hb))
        go_ret
        exact ⟨by first | rfl | (simp [errW_none, errW_some] <;> rfl) | (simp [*, errW_none, errW_some] <;> rfl), bU_ HB.out⟩
       ·replace c58 := Bool.eq_false_iff.mpr c58
        subst c58
        rw [if_neg (show ¬ (false = true) by decide)] at H
        exact absurd H (by simp)
      ·replace c56 := Bool.eq_false_iff.mpr c56
       subst c56
       rw [if_neg (show ¬ (false = true) by decide)] at H
       exact absurd H (by simp)
     ·replace c53 := Bool.eq_false_iff.mpr c53
      subst c53
      rw [if_neg (show ¬ (false = true) by decide)] at H
      exact absurd H (by simp)
 ·rw [if_neg c7] at H
  have c7b0 : decide (1 < a1) = false := decide_eq_false c7
  clear c7
  have HC70 := ak H
  clear H
  go_enter Tryd.func4, Tryd.ntmps4
  go_upto_if 37 with (first | ((with_reducible refine gate_callee (f := 11) rfl ?_); refine gl_ (some 19) Tryd.func11 #[.slice A3 l3.length c3, .int .i64 64] ?_; (with_reducible refine (attestorlaw04_own.calls _ _ l3 64 t388 _ ?side1 ?side2 A5.out).mono ?_); (case side1 => exact cU_ HR3.out); (case side2 => exact HC3.out); rintro e w71 ⟨v389, rfl, ho0, hb⟩; refine ⟨_, rfl, ?_⟩; refine nx2_ (Kd.R_lower ho0 (below_size (bU_ HB.out))) (below_step (bU_ HB.out) hb) ?_; clear HB; intro HO390 HB; clear hb ho0; obtain ⟨Ao72, co72, eo72⟩ := Kd.R_slice HO390.out; subst eo72) | ((with_reducible refine gate_callee (f := 11) rfl ?_); refine gl_ (some 21) Tryd.func11 #[.slice Ao72 t388.length co72, .int .i64 64] ?_; (with_reducible refine (attestorlaw04_own.calls _ _ t388 64 t391 _ ?side1 ?side2 A6.out).mono ?_); (case side1 => exact cU_ ((Kd.R_reads' HO390.out).2.2)); (case side2 => exact (Kd.R_reads' HO390.out).2.1); rintro e w73 ⟨v392, rfl, ho0, hb⟩; refine ⟨_, rfl, ?_⟩; refine nx3_ (Kd.R_elder' (rU_ HO390.out) (Kd.R_base ho0) hb) (Kd.R_lower (Kd.R_new' ho0 (Kd.R_lt (rU_ HO390.out))) (below_size (bU_ HB.out))) (below_step (bU_ HB.out) hb) ?_; clear HO390 HB; intro HO390 HO393 HB; clear hb ho0))
  (try simp only [Act.put, s1_, s2_, s3_])
  go_cut [1] (fun v1 wc => ∃ (kq : Nat) (x1_69 : Int), v1 = .int .i64 x1_69 ∧ Aside0 (attestorlaw04_TransformBack.j2 kq a0 x1_69 a2 t388 t391 = some r) ∧ Aside0 (kq ≤ k) ∧ Aside0 (Kd.R (Kd.int .u64) 22 wc w.heap.size (fun k_ => some k_ ≠ (v392 : Value).ownBlock) (.slice Ao72 t388.length co72) t388) ∧ Aside0 (Kd.R (Kd.int .u64) 22 wc w.heap.size (fun k_ => some k_ ≠ ((.slice Ao72 t388.length co72) : Value).ownBlock) v392 t391) ∧ Aside0 (Below w.heap.size w wc))
  case first =>
   have H := HC70.out
   clear HC70
   have H' := ak H
   clear H
   go_wp2
   go_meet
   case rel => exact ⟨_, (a1), gb_, H', ⟨by first | omega | exact Nat.le_refl _⟩, ⟨Kd.R_mono (rU_ HO390.out) (fun _ hk => hk.2)⟩, ⟨Kd.R_mono (rU_ HO393.out) (fun _ hk => hk.2)⟩, ⟨bU_ HB.out⟩⟩
  case rest =>
   clear HC70
   (try clear c1); (try clear c2); (try clear p2); (try clear c3); (try clear c4); (try clear c5); (try clear p6); (try clear c7); (try clear c7b0); (try clear c9); (try clear c9b0); (try clear c11); (try clear c11b0); (try clear c11b1); (try clear c16); (try clear c17); (try clear c18); (try clear c18b0); (try clear c18b1); (try clear c19); (try clear c23); (try clear c23b0); (try clear c23b1); (try clear c25); (try clear c26); (try clear c26b0); (try clear c26b1); (try clear c28); (try clear c30); (try clear c51); (try clear c51b0); (try clear c51b1); (try clear c53); (try clear c54); (try clear c54b0); (try clear c54b1); (try clear c56); (try clear c58); (try clear p64)
   obtain ⟨kq, x1_69, rfl, HA, HJ69, HO_3, HO_9, HB⟩ := hcut
   cases kq with
   | zero => exact absurd HA.out (by simp [attestorlaw04_TransformBack.j2])
   | succ kj69 =>
    have H := HA.out
    clear HA
    simp only [attestorlaw04_TransformBack.j2] at H
    revert H
    refine bd2_ fun t435 t436 A74 H => ?_
    try dsimp only at H
    revert H
    refine bd2_ fun t439 t440 A75 H => ?_
    try dsimp only at H
    revert H
    refine bd2_ fun t443 t444 A76 H => ?_
    try dsimp only at H
    revert H
    refine bd2_ fun t447 t448 A77 H => ?_
    try dsimp only at H
    obtain ⟨c78, H⟩ : (t436 = t440) ∧ _ := it_ H
    have c78b0 := beq_iff_eq.mpr c78
    have c78b1 := bne_eq_false_iff_eq.mpr c78
    clear c78
    revert H
    refine bd_ fun t451 A79 H => ?_
    by_cases c80 : t451 = true
    ·subst c80
     rw [if_pos rfl] at H
     obtain ⟨c81, H⟩ : (t444 = t448) ∧ _ := it_ H
     have c81b0 := beq_iff_eq.mpr c81
     have c81b1 := bne_eq_false_iff_eq.mpr c81
     clear c81
     revert H
     refine bd_ fun t452 A82 H => ?_
     by_cases c83 : t452 = true
     ·subst c83
      rw [if_pos rfl] at H
      revert H
      refine bd_ fun t453 A84 H => ?_
      by_cases c85 : t453 = true
      ·subst c85
       rw [if_pos rfl] at H
       revert H
       refine bd_ fun t454 A86 H => ?_
       obtain rfl := Option.some.inj H
       go_wp2_with (first | ((with_reducible refine gate_callee (f := 16) rfl ?_); refine gl_ (some 44) Tryd.func16 #[.int .i64 a0, .int .u64 a2, .slice Ao72 t388.length co72] ?_; (with_reducible refine (transform_Coefficients.calls kj69 a0 a2 _ _ t388 t435 t436 _ ?side1 ?side2 ?side3 A74.out).mono ?_); (case side1 => exact fU_ HG.out HB.out); (case side2 => exact cU_ ((Kd.R_reads' HO_3.out).2.2)); (case side3 => exact (Kd.R_reads' HO_3.out).2.1); rintro e w87 ⟨v437, rfl, ho0, hb⟩; refine ⟨_, rfl, ?_⟩; refine nx4_ (Kd.R_elder' (rU_ HO_3.out) (Kd.R_base ho0) hb) (Kd.R_elder' (rU_ HO_9.out) (Kd.R_base ho0) hb) (Kd.R_lower (Kd.R_new' (Kd.R_new' ho0 (Kd.R_lt (rU_ HO_3.out))) (Kd.R_lt (rU_ HO_9.out))) (below_size (bU_ HB.out))) (below_step (bU_ HB.out) hb) ?_; clear HO_3 HO_9 HB; intro HO_3 HO_9 HO438 HB; clear hb ho0; obtain ⟨Ao88, co88, eo88⟩ := Kd.R_slice HO_9.out; subst eo88) | ((with_reducible refine gate_callee (f := 17) rfl ?_); refine gl_ (some 51) Tryd.func17 #[.int .i64 a0, .int .u64 a2, .slice Ao88 t391.length co88] ?_; (with_reducible refine (attestorref04_Coefficients.calls kj69 a0 a2 _ _ t391 t439 t440 _ ?side1 ?side2 A75.out).mono ?_); (case side1 => exact cU_ ((Kd.R_reads' HO_9.out).2.2)); (case side2 => exact (Kd.R_reads' HO_9.out).2.1); rintro e w89 ⟨v441, rfl, ho0, hb⟩; refine ⟨_, rfl, ?_⟩; refine nx5_ (Kd.R_elder' (rU_ HO_3.out) (Kd.R_base ho0) hb) (Kd.R_elder' (rU_ HO_9.out) (Kd.R_base ho0) hb) (Kd.R_elder' (rU_ HO438.out) (Kd.R_base ho0) hb) (Kd.R_lower (Kd.R_new' (Kd.R_new' (Kd.R_new' ho0 (Kd.R_lt (rU_ HO_3.out))) (Kd.R_lt (rU_ HO_9.out))) (Kd.R_lt (rU_ HO438.out))) (below_size (bU_ HB.out))) (below_step (bU_ HB.out) hb) ?_; clear HO_3 HO_9 HO438 HB; intro HO_3 HO_9 HO438 HO442 HB; clear hb ho0) | ((with_reducible refine gate_callee (f := 18) rfl ?_); refine gl_ (some 58) Tryd.func18 #[.int .i64 a0, .slice Ao72 t388.length co72, .int .i64 x1_69] ?_; (with_reducible refine (transform_Widen.calls kj69 a0 _ _ t388 x1_69 t443 t444 _ ?side1 ?side2 ?side3 A76.out).mono ?_); (case side1 => exact fU_ HG.out HB.out); (case side2 => exact cU_ ((Kd.R_reads' HO_3.out).2.2)); (case side3 => exact (Kd.R_reads' HO_3.out).2.1); rintro e w90 ⟨v445, rfl, ho0, hb⟩; refine ⟨_, rfl, ?_⟩; refine nx6_ (Kd.R_elder' (rU_ HO_3.out) (Kd.R_base ho0) hb) (Kd.R_elder' (rU_ HO_9.out) (Kd.R_base ho0) hb) (Kd.R_elder' (rU_ HO438.out) (Kd.R_base ho0) hb) (Kd.R_elder' (rU_ HO442.out) (Kd.R_base ho0) hb) (Kd.R_lower (Kd.R_new' (Kd.R_new' (Kd.R_new' (Kd.R_new' ho0 (Kd.R_lt (rU_ HO_3.out))) (Kd.R_lt (rU_ HO_9.out))) (Kd.R_lt (rU_ HO438.out))) (Kd.R_lt (rU_ HO442.out))) (below_size (bU_ HB.out))) (below_step (bU_ HB.out) hb) ?_; clear HO_3 HO_9 HO438 HO442 HB; intro HO_3 HO_9 HO438 HO442 HO446 HB; clear hb ho0) | ((with_reducible refine gate_callee (f := 19) rfl ?_); refine gl_ (some 65) Tryd.func19 #[.int .i64 a0, .slice Ao88 t391.length co88, .int .i64 x1_69] ?_; (with_reducible refine (attestorref04_Widen.calls kj69 a0 _ _ t391 x1_69 t447 t448 _ ?side1 ?side2 A77.out).mono ?_); (case side1 => exact cU_ ((Kd.R_reads' HO_9.out).2.2)); (case side2 => exact (Kd.R_reads' HO_9.out).2.1); rintro e w91 ⟨v449, rfl, ho0, hb⟩; refine ⟨_, rfl, ?_⟩; refine nx7_ (Kd.R_elder' (rU_ HO_3.out) (Kd.R_base ho0) hb) (Kd.R_elder' (rU_ HO_9.out) (Kd.R_base ho0) hb) (Kd.R_elder' (rU_ HO438.out) (Kd.R_base ho0) hb) (Kd.R_elder' (rU_ HO442.out) (Kd.R_base ho0) hb) (Kd.R_elder' (rU_ HO446.out) (Kd.R_base ho0) hb) (Kd.R_lower (Kd.R_new' (Kd.R_new' (Kd.R_new' (Kd.R_new' (Kd.R_new' ho0 (Kd.R_lt (rU_ HO_3.out))) (Kd.R_lt (rU_ HO_9.out))) (Kd.R_lt (rU_ HO438.out))) (Kd.R_lt (rU_ HO442.out))) (Kd.R_lt (rU_ HO446.out))) (below_size (bU_ HB.out))) (below_step (bU_ HB.out) hb) ?_; clear HO_3 HO_9 HO438 HO442 HO446 HB; intro HO_3 HO_9 HO438 HO442 HO446 HO450 HB; clear hb ho0; obtain ⟨Ao92, co92, eo92⟩ := Kd.R_slice HO438.out; subst eo92; obtain ⟨Ao93, co93, eo93⟩ := Kd.R_slice HO442.out; subst eo93) | (go_at_call 14; (with_reducible refine (attestorref01_Same.calls kj69 _ _ t435 _ _ t439 true _ ?side1 ?side2 ?side3 ?side4 A79.out).mono ?_); (case side1 => exact cU_ ((Kd.R_reads' HO438.out).2.2)); (case side2 => exact (Kd.R_reads' HO438.out).2.1); (case side3 => exact cU_ ((Kd.R_reads' HO442.out).2.2)); (case side4 => exact (Kd.R_reads' HO442.out).2.1); rintro e w' ⟨rfl, ⟨nd, rfl⟩⟩; obtain ⟨Ao94, co94, eo94⟩ := Kd.R_slice HO446.out; subst eo94; obtain ⟨Ao95, co95, eo95⟩ := Kd.R_slice HO450.out; subst eo95) | (go_at_call 14; (with_reducible refine (attestorref01_Same.calls kj69 _ _ t443 _ _ t447 true _ ?side1 ?side2 ?side3 ?side4 A82.out).mono ?_); (case side1 => exact cU_ ((Kd.R_reads' HO446.out).2.2)); (case side2 => exact (Kd.R_reads' HO446.out).2.1); (case side3 => exact cU_ ((Kd.R_reads' HO450.out).2.2)); (case side4 => exact (Kd.R_reads' HO450.out).2.1); rintro e w' ⟨rfl, ⟨nd, rfl⟩⟩) | (go_at_call 14; (with_reducible refine (attestorref01_Same.calls kj69 _ _ t388 _ _ t391 true _ ?side1 ?side2 ?side3 ?side4 A84.out).mono ?_); (case side1 => exact cU_ ((Kd.R_reads' HO_3.out).2.2)); (case side2 => exact (Kd.R_reads' HO_3.out).2.1); (case side3 => exact cU_ ((Kd.R_reads' HO_9.out).2.2)); (case side4 => exact (Kd.R_reads' HO_9.out).2.1); rintro e w' ⟨rfl, ⟨nd, rfl⟩⟩) | (go_at_call 15; (with_reducible refine (attestorlaw04_works.calls kj69  t454 _ ?side1 A86.out).mono ?_); (case side1 => exact fU_ HG.out HB.out); rintro e w96 ⟨rfl, hb⟩; refine nx7_ (Kd.R_below (rU_ HO_3.out) hb) (Kd.R_below (rU_ HO_9.out) hb) (Kd.R_below (rU_ HO438.out) hb) (Kd.R_below (rU_ HO442.out) hb) (Kd.R_below (rU_ HO446.out) hb) (Kd.R_below (rU_ HO450.out) hb) (below_step (bU_ HB.out) hb) ?_; clear HO_3 HO_9 HO438 HO442 HO446 HO450 HB; intro HO_3 HO_9 HO438 HO442 HO446 HO450 HB; clear hb))
       go_ret
       exact ⟨by first | rfl | (simp [errW_none, errW_some] <;> rfl) | (simp [*, errW_none, errW_some] <;> rfl), bU_ HB.out⟩
      ·replace c85 := Bool.eq_false_iff.mpr c85
       subst c85
       rw [if_neg (show ¬ (false = true) by decide)] at H
       exact absurd H (by simp)
     ·replace c83 := Bool.eq_false_iff.mpr c83
      subst c83
      rw [if_neg (show ¬ (false = true) by decide)] at H
      exact absurd H (by simp)
    ·replace c80 := Bool.eq_false_iff.mpr c80
     subst c80
     rw [if_neg (show ¬ (false = true) by decide)] at H
     exact absurd H (by simp)

/-- THE ONE PURE STATEMENT of attestorlaw04_TransformBack: yours. -/
def attestorlaw04_TransformBack.Pure : Prop := ∀ (a0 : Int) (a1 : Int) (a2 : Int) (l3 : List Int), (Lit.int .i64 a0).wf = true → (Lit.int .i64 a1).wf = true → (Lit.int .u64 a2).wf = true → l3.length ≤ maxLen → l3.length * 8 ≤ 140737488351232 → (∀ x ∈ l3, (Lit.int .u64 x).wf = true) → ∃ k, attestorlaw04_TransformBack.f k a0 a1 a2 l3 = some true
theorem attestorlaw04_TransformBack.walk (P : attestorlaw04_TransformBack.Pure) (a0 : Int) (a1 : Int) (a2 : Int) (a3 : Option Addr) (len3 cap3 : Nat) (z3 : List Int) (w : World) (hG : Fld w) (w0 : (Lit.int .i64 a0).wf = true) (w1 : (Lit.int .i64 a1).wf = true) (w2 : (Lit.int .u64 a2).wf = true) (w3 : (a3 = none ∧ len3 = 0 ∧ cap3 = 0 ∧ z3 = []) ∨ ∃ x, a3 = some x ∧ len3 ≤ cap3 ∧ cap3 ≤ maxLen ∧ z3.length = cap3 ∧ (∀ i, i < z3.length → w.cell? (x.add i) = some (.int .u64 (z3.getD i 0))) ∧ ∀ n ∈ z3, (Lit.int .u64 n).wf = true) (y3 : len3 * 8 ≤ 140737488351232) :
  Calls Tryd.prog 4 #[.int .i64 a0, .int .i64 a1, .int .u64 a2, .slice a3 len3 cap3] w fun e w' => e = .returned (.bool true) ∧ Below w.heap.size w w' := by
 obtain ⟨l3, rfl, hr3, hm3, hw3, hc3⟩ := ReadsInt.ofRowC w3
 obtain ⟨k, h⟩ := P a0 a1 a2 l3 w0 w1 w2 hm3 y3 hw3
 refine (attestorlaw04_TransformBack.calls k a0 a1 a2 _ _ l3 true w hG (Kd.C_of_reads (d := (0 : Int)) (h1 := fun _ => rfl) hr3) hc3 h).mono ?_
 rintro e w' ⟨rfl, hd⟩
 exact ⟨rfl, hd⟩

end Go.Proofs.YtdjjdlkglinlgaaDoor.Q

import Derived.Test.YtedapdagagkajaaDoorQ0
import Derived.Test.YtedapdagagkajaaDoorQ7
import Derived.Test.YtedapdagagkajaaDoorQ13
namespace Go.Proofs.YtedapdagagkajaaDoor.Q
open Go.RowKit Go.Proofs.YtedapdagagkajaaDoorW.PrintWords Go.Proofs.YtedapdagagkajaaDoorW.PrintLast Go.Proofs.YtedapdagagkajaaDoorW.PrintMore
attribute [local go_sem] max2_int min2_int max_two min_two max_three min_three max_four min_four   -- for this text's walks alone
set_option linter.unusedVariables false
set_option linter.unusedSimpArgs false

def attestorref04_Bits.l0 : Nat → Int → Int → Option (Int)
 | 0, _, _ => none
 | k + 1, x0, x3 => if x0 > 1 then (if (Int.tmod x0 2) = 0 then (attestorref04_Bits.l0 k (wrap64 (Int.tdiv x0 2)) (wrap64 (x3 + 1))) else (if x0 = 1 then (some x3) else (some (-1)))) else (if x0 = 1 then (some x3) else (some (-1)))
def attestorref04_Bits.f (k : Nat) (a0 : Int) : Option (Int) := attestorref04_Bits.l0 k a0 0
theorem attestorref04_Bits.mono_l : ∀ k, (∀ y0 y1, LeO (attestorref04_Bits.l0 k y0 y1) (attestorref04_Bits.l0 (k + 1) y0 y1))
 | 0 => fun _ _ r h => by simp [attestorref04_Bits.l0] at h
 | k + 1 => by
  have ih0 := attestorref04_Bits.mono_l k
  ·intro y0 y1
   unfold attestorref04_Bits.l0
   with_reducible repeat' first | apply ih0 | exact LeO.refl _ | exact LeO.none _ | refine LeO.ite ?_ ?_ | refine LeO.bind ?_ (fun _ => ?_)
theorem attestorref04_Bits.mono : ∀ a0 k, LeO (attestorref04_Bits.f k a0) (attestorref04_Bits.f (k + 1) a0) := by
 intro a0 k
 have ih0 := attestorref04_Bits.mono_l k
 unfold attestorref04_Bits.f
 with_reducible repeat' first | apply ih0 | exact LeO.refl _ | exact LeO.none _ | refine LeO.ite ?_ ?_ | refine LeO.bind ?_ (fun _ => ?_)
set_option maxHeartbeats 8000000 in
set_option maxRecDepth 100000 in
theorem attestorref04_Bits.calls (k : Nat) (a0 : Int) (r : Int) (w : World) (h : attestorref04_Bits.f k a0 = some r) :
  Calls Tryd.prog 85 #[.int .i64 a0] w fun e w' => e = .returned (.int .i64 r) ∧ Drawn0 w w' := by
 have H : (attestorref04_Bits.l0 k a0 0) = some r := h
 clear h
 have H' := ak H
 clear H
 go_enter Tryd.func85, Tryd.ntmps85
 go_wp2
 go_loopg [0, 3] k (fun kq v0 v3 w' => ∃ (x0_1 : Int) (x3_1 : Int), v0 = .int .i64 x0_1 ∧ v3 = .int .i64 x3_1 ∧ Aside0 (attestorref04_Bits.l0 kq x0_1 x3_1 = some r) ∧ Aside0 (kq ≤ k) ∧ Drawn0 w w')
 case atStart => exact ⟨(a0), (0), gb_, gb_, H', ⟨Nat.le_refl _⟩, by repeat (first | exact Drawn0.refl _ | apply Drawn0.step)⟩
 case round =>
  clear H'
  obtain ⟨x0_1, x3_1, rfl, rfl, HA, HK1, ⟨m1, rfl⟩⟩ := hrel
  cases gk with
  | zero => exact absurd HA.out (by simp [attestorref04_Bits.l0])
  | succ k1 =>
   have H := HA.out
   clear HA
   simp only [attestorref04_Bits.l0] at H
   by_cases c2 : x0_1 > 1
   ·rw [if_pos c2] at H
    have c2b0 : decide (1 < x0_1) = true := decide_eq_true c2
    clear c2
    by_cases c3 : (Int.tmod x0_1 2) = 0
    ·rw [if_pos c3] at H
     have c3b0 := beq_iff_eq.mpr c3
     have c3b1 := bne_eq_false_iff_eq.mpr c3
     clear c3
     have H' := ak H
     clear H
     go_wp2
     go_roundg k1
     case measure => have := HK1.out; omega
     case rel => exact ⟨(wrap64 (Int.tdiv x0_1 2)), (wrap64 (x3_1 + 1)), gb_, gb_, H', ⟨by have := HK1.out; omega⟩, by repeat (first | exact Drawn0.refl _ | apply Drawn0.step)⟩
    rw [if_neg c3] at H
    have c3b0 := beq_eq_false_iff_ne.mpr c3
    have c3b1 := bne_iff_ne.mpr c3
    by_cases c4 : x0_1 = 1
    ·rw [if_pos c4] at H
     have c4b0 := beq_iff_eq.mpr c4
     have c4b1 := bne_eq_false_iff_eq.mpr c4
     clear c4
     obtain rfl := Option.some.inj H
     go_wp2
     go_ret
     exact ⟨by first | rfl | (simp; done) | (simp [*]; done), by repeat (first | exact Drawn0.refl _ | apply Drawn0.step)⟩
    rw [if_neg c4] at H
    have c4b0 := beq_eq_false_iff_ne.mpr c4
    have c4b1 := bne_iff_ne.mpr c4
    obtain rfl := Option.some.inj H
    go_wp2
    go_ret
    exact ⟨by first | rfl | (simp; done) | (simp [*]; done), by repeat (first | exact Drawn0.refl _ | apply Drawn0.step)⟩
   rw [if_neg c2] at H
   have c2b0 : decide (1 < x0_1) = false := decide_eq_false c2
   clear c2
   by_cases c5 : x0_1 = 1
   ·rw [if_pos c5] at H
    have c5b0 := beq_iff_eq.mpr c5
    have c5b1 := bne_eq_false_iff_eq.mpr c5
    clear c5
    obtain rfl := Option.some.inj H
    go_wp2
    go_ret
    exact ⟨by first | rfl | (simp; done) | (simp [*]; done), by repeat (first | exact Drawn0.refl _ | apply Drawn0.step)⟩
   rw [if_neg c5] at H
   have c5b0 := beq_eq_false_iff_ne.mpr c5
   have c5b1 := bne_iff_ne.mpr c5
   obtain rfl := Option.some.inj H
   go_wp2
   go_ret
   exact ⟨by first | rfl | (simp; done) | (simp [*]; done), by repeat (first | exact Drawn0.refl _ | apply Drawn0.step)⟩

mutual
def attestorref04_Coefficients.j0 : Nat → Int → Int → List Int → Bool → Option (List Int × Int)
 | 0, _, _, _, _ => none
 | k + 1, x0, x1, x2, x22 => if x22 = true then (some (([] : List Int), 1)) else ((attestorref04_Bits.f k (x2.length : Int)).bind fun t482 => (if t482 < 0 then (attestorref04_Coefficients.j1 k x0 x1 x2 t482 true) else ((attestorref04_Greatest.f x0).bind fun t483 => (attestorref04_Coefficients.j1 k x0 x1 x2 t482 (decide (t482 > t483))))))
def attestorref04_Coefficients.j1 : Nat → Int → Int → List Int → Int → Bool → Option (List Int × Int)
 | 0, _, _, _, _, _ => none
 | k + 1, x0, x1, x2, x8, x33 => if x33 = true then (some (([] : List Int), 2)) else (attestorref04_Coefficients.l0 k x0 x1 x2 x8 ([] : List Int) 0)
def attestorref04_Coefficients.l0 : Nat → Int → Int → List Int → Int → List Int → Int → Option (List Int × Int)
 | 0, _, _, _, _, _, _ => none
 | k + 1, x0, x1, x2, x8, x9, x10 => if x10 < (x2.length : Int) then (attestorref04_Coefficients.l1 k x0 x1 x2 x8 x9 x10 0 0) else (some (x9, 0))
def attestorref04_Coefficients.l1 : Nat → Int → Int → List Int → Int → List Int → Int → Int → Int → Option (List Int × Int)
 | 0, _, _, _, _, _, _, _, _ => none
 | k + 1, x0, x1, x2, x8, x9, x10, x11, x12 => if x12 < (x2.length : Int) then ((attestorref04_Point.f k x0 x8 x1 x12).bind fun t488 => ((attestorref01_Inv.f k x0 t488).bind fun t489 => (if 0 ≤ x12 then ((attestorref01_Pow.f k x0 t489 (IntKind.u64.wrap (x10))).bind fun t491 => ((attestorref01_Mul.f x0 (rd x2 x12) t491).bind fun t492 => ((attestorref01_Add.f x0 x11 t492).bind fun t493 => (attestorref04_Coefficients.l1 k x0 x1 x2 x8 x9 x10 t493 (wrap64 (x12 + 1)))))) else (none)))) else ((attestorref01_Div.f k x0 x11 (IntKind.u64.wrap ((x2.length : Int)))).bind fun t484 => (if x9.length < 17592186044416 then (attestorref04_Coefficients.l0 k x0 x1 x2 x8 (x9 ++ [t484]) (wrap64 (x10 + 1))) else (none)))
end
def attestorref04_Coefficients.f (k : Nat) (a0 : Int) (a1 : Int) (l2 : List Int) : Option (List Int × Int) := (attestorref01_Valid.f a0).bind fun t480 => (if t480 = true then ((attestorref01_Reduce.f a0 a1).bind fun t481 => (attestorref04_Coefficients.j0 k a0 a1 l2 (t481 == 0))) else (attestorref04_Coefficients.j0 k a0 a1 l2 true))
set_option maxHeartbeats 8000000 in
set_option maxRecDepth 100000 in
theorem attestorref04_Coefficients.calls (k : Nat) (a0 : Int) (a1 : Int) (A2 : Option Addr) (c2 : Nat) (l2 : List Int) (r1 : List Int) (r2 : Int) (w : World) (hr2 : Kd.C (Kd.int .u64) w A2 l2.length l2) (hc2 : l2.length ≤ c2) (h : attestorref04_Coefficients.f k a0 a1 l2 = some (r1, r2)) :
  Calls Tryd.prog 70 #[.int .i64 a0, .int .u64 a1, .slice A2 l2.length c2] w fun e w' => ∃ v0_ : Value, e = .returned (.tuple #[v0_, .int .i64 r2]) ∧ Kd.R (Kd.int .u64) 22 w' w.heap.size (fun _ => True) v0_ r1 ∧ Below w.heap.size w w' := by
 have HR2 := ak hr2
 have HC2 := ak hc2
 clear hr2 hc2
 have HB := ak (Below.refl w.heap.size w)
 have H := h
 clear h
 unfold attestorref04_Coefficients.f at H
 have HC4 := ak H
 clear H
 go_enter Tryd.func70, Tryd.ntmps70
 go_upto_region 1 with (fail)
 repeat (go_quiet (fail); go_upto_region 1 with (fail))
 go_cut [22] (fun v22 wc => ∃ (kq : Nat) (x22_3 : Bool), v22 = .bool x22_3 ∧ Aside0 (attestorref04_Coefficients.j0 kq a0 a1 l2 x22_3 = some (r1, r2)) ∧ Aside0 (kq ≤ k) ∧ Aside0 (Below w.heap.size w wc))
 case first =>
  have H := HC4.out
  clear HC4
  revert H
  refine bd_ fun t480 A5 H => ?_
  by_cases c6 : t480 = true
  ·subst c6
   rw [if_pos rfl] at H
   revert H
   refine bd_ fun t481 A7 H => ?_
   have H' := ak H
   clear H
   go_wp2_with (first | (go_at_call 52; (with_reducible refine (attestorref01_Valid.calls a0 true _ A5.out).mono ?_); rintro e w' ⟨rfl, ⟨nd, rfl⟩⟩; (try first | exact ⟨rfl, _, World.drewN_drewN _ _ _⟩ | exact ⟨rfl, _, dd_⟩)) | (go_at_call 68; (with_reducible refine (attestorref01_Reduce.calls a0 a1 t481 _ A7.out).mono ?_); rintro e w' ⟨rfl, ⟨nd, rfl⟩⟩; (try first | exact ⟨rfl, _, World.drewN_drewN _ _ _⟩ | exact ⟨rfl, _, dd_⟩)))
   repeat (go_quiet (first | (go_at_call 52; (with_reducible refine (attestorref01_Valid.calls a0 true _ A5.out).mono ?_); rintro e w' ⟨rfl, ⟨nd, rfl⟩⟩; (try first | exact ⟨rfl, _, World.drewN_drewN _ _ _⟩ | exact ⟨rfl, _, dd_⟩)) | (go_at_call 68; (with_reducible refine (attestorref01_Reduce.calls a0 a1 t481 _ A7.out).mono ?_); rintro e w' ⟨rfl, ⟨nd, rfl⟩⟩; (try first | exact ⟨rfl, _, World.drewN_drewN _ _ _⟩ | exact ⟨rfl, _, dd_⟩))); try go_wp2_with (first | (go_at_call 52; (with_reducible refine (attestorref01_Valid.calls a0 true _ A5.out).mono ?_); rintro e w' ⟨rfl, ⟨nd, rfl⟩⟩; (try first | exact ⟨rfl, _, World.drewN_drewN _ _ _⟩ | exact ⟨rfl, _, dd_⟩)) | (go_at_call 68; (with_reducible refine (attestorref01_Reduce.calls a0 a1 t481 _ A7.out).mono ?_); rintro e w' ⟨rfl, ⟨nd, rfl⟩⟩; (try first | exact ⟨rfl, _, World.drewN_drewN _ _ _⟩ | exact ⟨rfl, _, dd_⟩))))
   go_meet
   case rel => exact ⟨_, ((t481 == 0)), gb_, H', ⟨by first | omega | exact Nat.le_refl _⟩, ⟨bU_ HB.out⟩⟩
  replace c6 := Bool.eq_false_iff.mpr c6
  subst c6
  rw [if_neg (show ¬ (false = true) by decide)] at H
  have H' := ak H
  clear H
  go_wp2_with (first | (go_at_call 52; (with_reducible refine (attestorref01_Valid.calls a0 false _ A5.out).mono ?_); rintro e w' ⟨rfl, ⟨nd, rfl⟩⟩; (try first | exact ⟨rfl, _, World.drewN_drewN _ _ _⟩ | exact ⟨rfl, _, dd_⟩)))
  repeat (go_quiet (first | (go_at_call 52; (with_reducible refine (attestorref01_Valid.calls a0 false _ A5.out).mono ?_); rintro e w' ⟨rfl, ⟨nd, rfl⟩⟩; (try first | exact ⟨rfl, _, World.drewN_drewN _ _ _⟩ | exact ⟨rfl, _, dd_⟩))); try go_wp2_with (first | (go_at_call 52; (with_reducible refine (attestorref01_Valid.calls a0 false _ A5.out).mono ?_); rintro e w' ⟨rfl, ⟨nd, rfl⟩⟩; (try first | exact ⟨rfl, _, World.drewN_drewN _ _ _⟩ | exact ⟨rfl, _, dd_⟩))))
  go_meet
  case rel => exact ⟨_, (true), gb_, H', ⟨by first | omega | exact Nat.le_refl _⟩, ⟨bU_ HB.out⟩⟩
 case rest =>
  clear HC4
  (try clear c2); (try clear p2); (try clear c6); (try clear c7)
  obtain ⟨kq, x22_3, rfl, HA, HJ3, HB⟩ := hcut
  cases kq with
  | zero => exact absurd HA.out (by simp [attestorref04_Coefficients.j0])
  | succ kj3 =>
   have H := HA.out
   clear HA
   simp only [attestorref04_Coefficients.j0] at H
   by_cases c8 : x22_3 = true
   ·subst c8
    rw [if_pos rfl] at H
    simp only [Option.some.injEq, Prod.mk.injEq] at H
    obtain ⟨rfl, rfl⟩ := H
    go_wp2
    repeat (go_quiet (fail); try go_wp2)
    go_ret2
    exact ⟨_, eW_, by first | exact Kd.R_nil _ _ _ _ _ | exact Kd.N_nil _ _ _ _ _ | exact Kd.V_nil _ _ _ _ _ | exact Kd.Q_nil _ _ _ _ _ | exact Kd.S_nil _ _ _ _ _, bU_ HB.out⟩
   replace c8 := Bool.eq_false_iff.mpr c8
   subst c8
   rw [if_neg (show ¬ (false = true) by decide)] at H
   revert H
   refine bd_ fun t482 A9 H => ?_
   have HC10 := ak H
   clear H
   go_upto_region 4 with (first | (go_at_call 85; (with_reducible refine (attestorref04_Bits.calls kj3 (l2.length : Int) t482 _ A9.out).mono ?_); rintro e w' ⟨rfl, ⟨nd, rfl⟩⟩; (try first | exact ⟨rfl, _, World.drewN_drewN _ _ _⟩ | exact ⟨rfl, _, dd_⟩)))
   repeat (go_quiet (first | (go_at_call 85; (with_reducible refine (attestorref04_Bits.calls kj3 (l2.length : Int) t482 _ A9.out).mono ?_); rintro e w' ⟨rfl, ⟨nd, rfl⟩⟩; (try first | exact ⟨rfl, _, World.drewN_drewN _ _ _⟩ | exact ⟨rfl, _, dd_⟩))); go_upto_region 4 with (first | (go_at_call 85; (with_reducible refine (attestorref04_Bits.calls kj3 (l2.length : Int) t482 _ A9.out).mono ?_); rintro e w' ⟨rfl, ⟨nd, rfl⟩⟩; (try first | exact ⟨rfl, _, World.drewN_drewN _ _ _⟩ | exact ⟨rfl, _, dd_⟩))))
   (try simp only [Act.put, s1_, s2_, s3_])
   go_cut [33] (fun v33 wc => ∃ (kq : Nat) (x33_9 : Bool), v33 = .bool x33_9 ∧ Aside0 (attestorref04_Coefficients.j1 kq a0 a1 l2 t482 x33_9 = some (r1, r2)) ∧ Aside0 (kq ≤ kj3) ∧ Aside0 (Below w.heap.size w wc))
   case first =>
    have H := HC10.out
    clear HC10
    by_cases c11 : t482 < 0
    ·rw [if_pos c11] at H
     have c11b0 := decide_eq_true c11
     clear c11
     (first | rw [c11b0] | (simp only [i64_w, i32_w]; rw [c11b0]) | rw [c11b1] | skip)
     have H' := ak H
     clear H
     go_wp2
     repeat (go_quiet (fail); try go_wp2)
     go_meet
     case rel => exact ⟨_, (true), gb_, H', ⟨by have := HJ3.out; first | omega | exact Nat.le_refl _⟩, ⟨bU_ HB.out⟩⟩
    rw [if_neg c11] at H
    have c11b0 := decide_eq_false c11
    clear c11
    (first | rw [c11b0] | (simp only [i64_w, i32_w]; rw [c11b0]) | rw [c11b1] | skip)
    revert H
    refine bd_ fun t483 A12 H => ?_
    have H' := ak H
    clear H
    go_wp2_with (first | (go_at_call 53; (with_reducible refine (attestorref04_Greatest.calls a0 t483 _ A12.out).mono ?_); rintro e w13 ⟨rfl, hb⟩; refine nx1_ (below_step (bU_ HB.out) hb) ?_; clear HB; intro HB; clear hb))
    repeat (go_quiet (first | (go_at_call 53; (with_reducible refine (attestorref04_Greatest.calls a0 t483 _ A12.out).mono ?_); rintro e w13 ⟨rfl, hb⟩; refine nx1_ (below_step (bU_ HB.out) hb) ?_; clear HB; intro HB; clear hb)); try go_wp2_with (first | (go_at_call 53; (with_reducible refine (attestorref04_Greatest.calls a0 t483 _ A12.out).mono ?_); rintro e w13 ⟨rfl, hb⟩; refine nx1_ (below_step (bU_ HB.out) hb) ?_; clear HB; intro HB; clear hb)))
    go_meet
    case rel => exact ⟨_, (decide (t482 > t483)), gb_, H', ⟨by have := HJ3.out; first | omega | exact Nat.le_refl _⟩, ⟨bU_ HB.out⟩⟩
   case rest =>
    clear HC10
    (try clear c1); (try clear c2); (try clear p2); (try clear c6); (try clear c7); (try clear c8); (try clear c11); (try clear c11b0); (try clear c11b1)
    obtain ⟨kq, x33_9, rfl, HA, HJ9, HB⟩ := hcut
    cases kq with
    | zero => exact absurd HA.out (by simp [attestorref04_Coefficients.j1])
    | succ kj9 =>
     have H := HA.out
     clear HA
     simp only [attestorref04_Coefficients.j1] at H
     by_cases c14 : x33_9 = true
     ·subst c14
      rw [if_pos rfl] at H
      simp only [Option.some.injEq, Prod.mk.injEq] at H
      obtain ⟨rfl, rfl⟩ := H
      go_wp2
      repeat (go_quiet (fail); try go_wp2)
      go_ret2
      exact ⟨_, eW_, by first | exact Kd.R_nil _ _ _ _ _ | exact Kd.N_nil _ _ _ _ _ | exact Kd.V_nil _ _ _ _ _ | exact Kd.Q_nil _ _ _ _ _ | exact Kd.S_nil _ _ _ _ _, bU_ HB.out⟩
     replace c14 := Bool.eq_false_iff.mpr c14
     subst c14
     rw [if_neg (show ¬ (false = true) by decide)] at H
     have H' := ak H
     clear H
     go_wp2
     repeat (go_quiet (fail); try go_wp2)
     go_loopg [9, 10] kj9 (fun kq v9 v10 w' => ∃ (x9_3 : List Int) (x10_3 : Int), v10 = .int .i64 x10_3 ∧ Aside0 (attestorref04_Coefficients.l0 kq a0 a1 l2 t482 x9_3 x10_3 = some (r1, r2)) ∧ Aside0 (kq ≤ kj9) ∧ Aside0 (Kd.R (Kd.int .u64) 22 w' w.heap.size (fun _ => True) v9 x9_3) ∧ Aside0 (Below w.heap.size w w'))
     case atStart => exact ⟨(([] : List Int)), (0), gb_, H', ⟨Nat.le_refl _⟩, ⟨by first | exact Kd.R_nil _ _ _ _ _ | exact Kd.N_nil _ _ _ _ _ | exact Kd.V_nil _ _ _ _ _ | exact Kd.Q_nil _ _ _ _ _ | exact Kd.S_nil _ _ _ _ _⟩, ⟨bU_ HB.out⟩⟩
     case round =>
      clear H'
      (try clear c1); (try clear c2); (try clear p2); (try clear c6); (try clear c7); (try clear c8); (try clear c11); (try clear c11b0); (try clear c11b1); (try clear c14)
      obtain ⟨x9_3, x10_3, rfl, HA, HK3, HO_9, HB⟩ := hrel
      cases gk with
      | zero => exact absurd HA.out (by simp [attestorref04_Coefficients.l0])
      | succ k3 =>
       have H := HA.out
       clear HA
       simp only [attestorref04_Coefficients.l0] at H
       by_cases c15 : x10_3 < (l2.length : Int)
       ·rw [if_pos c15] at H
        have c15b0 := decide_eq_true c15
        clear c15
        have H' := ak H
        clear H
        go_wp2
        repeat (go_quiet (fail); try go_wp2)
        go_loopg [11, 12] k3 (fun kq v11 v12 w' => ∃ (x11_4 : Int) (x12_4 : Int), v11 = .int .u64 x11_4 ∧ v12 = .int .i64 x12_4 ∧ Aside0 (attestorref04_Coefficients.l1 kq a0 a1 l2 t482 x9_3 x10_3 x11_4 x12_4 = some (r1, r2)) ∧ Aside0 (kq ≤ k3) ∧ Aside0 (Kd.R (Kd.int .u64) 22 w' w.heap.size (fun _ => True) u9 x9_3) ∧ Aside0 (Below w.heap.size w w'))
        case atStart => exact ⟨(0), (0), gb_, gb_, H', ⟨Nat.le_refl _⟩, ⟨rU_ HO_9.out⟩, ⟨bU_ HB.out⟩⟩
        case round =>
         clear H'
         (try clear c1); (try clear c2); (try clear p2); (try clear c6); (try clear c7); (try clear c8); (try clear c11); (try clear c11b0); (try clear c11b1); (try clear c14); (try clear c15); (try clear c15b0)
         obtain ⟨x11_4, x12_4, rfl, rfl, HA, HK4, HO_9, HB⟩ := hrel
         cases gk with
         | zero => exact absurd HA.out (by simp [attestorref04_Coefficients.l1])
         | succ k4 =>
          have H := HA.out
          clear HA
          simp only [attestorref04_Coefficients.l1] at H
          by_cases c16 : x12_4 < (l2.length : Int)
          ·rw [if_pos c16] at H
           have c16b0 := decide_eq_true c16
           clear c16
           revert H
           refine bd_ fun t488 A17 H => ?_
           revert H
           refine bd_ fun t489 A18 H => ?_
           obtain ⟨c19, H⟩ : (0 ≤ x12_4) ∧ _ := it_ H
           have c19b0 := decide_eq_true c19
           clear c19
           revert H
           refine bd_ fun t491 A20 H => ?_
           revert H
           refine bd_ fun t492 A21 H => ?_
           revert H
           refine bd_ fun t493 A22 H => ?_
           have H' := ak H
           clear H
           go_wp2_with (first | (go_at_call 57; (with_reducible refine (attestorref04_Point.calls k4 a0 t482 a1 x12_4 t488 _ A17.out).mono ?_); rintro e w' ⟨rfl, ⟨nd, rfl⟩⟩; (try first | exact ⟨rfl, _, World.drewN_drewN _ _ _⟩ | exact ⟨rfl, _, dd_⟩)) | (go_at_call 102; (with_reducible refine (attestorref01_Inv.calls k4 a0 t488 t489 _ A18.out).mono ?_); rintro e w' ⟨rfl, ⟨nd, rfl⟩⟩; (try first | exact ⟨rfl, _, World.drewN_drewN _ _ _⟩ | exact ⟨rfl, _, dd_⟩); have p490 : 0 ≤ (x12_4 : Int) := od_; have q490 : x12_4 < (l2.length : Int) := od_; obtain ⟨ad490, e490, hx490_0⟩ := Kd.at_int HR2.out x12_4 p490 q490; cases e490; replace hx490_0 := (HB.out.cell (World.block_lt_of_cell? w _ hx490_0)).trans hx490_0; replace p490 := eq_true p490; replace q490 := eq_true q490) | (go_at_call 81; (with_reducible refine (attestorref01_Pow.calls k4 a0 t489 (IntKind.u64.wrap (x10_3)) t491 _ A20.out).mono ?_); rintro e w' ⟨rfl, ⟨nd, rfl⟩⟩; (try first | exact ⟨rfl, _, World.drewN_drewN _ _ _⟩ | exact ⟨rfl, _, dd_⟩)) | (go_at_call 80; (with_reducible refine (attestorref01_Mul.calls a0 (rd l2 x12_4) t491 t492 _ A21.out).mono ?_); rintro e w' ⟨rfl, ⟨nd, rfl⟩⟩; (try first | exact ⟨rfl, _, World.drewN_drewN _ _ _⟩ | exact ⟨rfl, _, dd_⟩)) | (go_at_call 100; (with_reducible refine (attestorref01_Add.calls a0 x11_4 t492 t493 _ A22.out).mono ?_); rintro e w' ⟨rfl, ⟨nd, rfl⟩⟩; (try first | exact ⟨rfl, _, World.drewN_drewN _ _ _⟩ | exact ⟨rfl, _, dd_⟩)))
           repeat (go_quiet (first | (go_at_call 57; (with_reducible refine (attestorref04_Point.calls k4 a0 t482 a1 x12_4 t488 _ A17.out).mono ?_); rintro e w' ⟨rfl, ⟨nd, rfl⟩⟩; (try first | exact ⟨rfl, _, World.drewN_drewN _ _ _⟩ | exact ⟨rfl, _, dd_⟩)) | (go_at_call 102; (with_reducible refine (attestorref01_Inv.calls k4 a0 t488 t489 _ A18.out).mono ?_); rintro e w' ⟨rfl, ⟨nd, rfl⟩⟩; (try first | exact ⟨rfl, _, World.drewN_drewN _ _ _⟩ | exact ⟨rfl, _, dd_⟩); have p490 : 0 ≤ (x12_4 : Int) := od_; have q490 : x12_4 < (l2.length : Int) := od_; obtain ⟨ad490, e490, hx490_0⟩ := Kd.at_int HR2.out x12_4 p490 q490; cases e490; replace hx490_0 := (HB.out.cell (World.block_lt_of_cell? w _ hx490_0)).trans hx490_0; replace p490 := eq_true p490; replace q490 := eq_true q490) | (go_at_call 81; (with_reducible refine (attestorref01_Pow.calls k4 a0 t489 (IntKind.u64.wrap (x10_3)) t491 _ A20.out).mono ?_); rintro e w' ⟨rfl, ⟨nd, rfl⟩⟩; (try first | exact ⟨rfl, _, World.drewN_drewN _ _ _⟩ | exact ⟨rfl, _, dd_⟩)) | (go_at_call 80; (with_reducible refine (attestorref01_Mul.calls a0 (rd l2 x12_4) t491 t492 _ A21.out).mono ?_); rintro e w' ⟨rfl, ⟨nd, rfl⟩⟩; (try first | exact ⟨rfl, _, World.drewN_drewN _ _ _⟩ | exact ⟨rfl, _, dd_⟩)) | (go_at_call 100; (with_reducible refine (attestorref01_Add.calls a0 x11_4 t492 t493 _ A22.out).mono ?_); rintro e w' ⟨rfl, ⟨nd, rfl⟩⟩; (try first | exact ⟨rfl, _, World.drewN_drewN _ _ _⟩ | exact ⟨rfl, _, dd_⟩))); try go_wp2_with (first | (go_at_call 57; (with_reducible refine (attestorref04_Point.calls k4 a0 t482 a1 x12_4 t488 _ A17.out).mono ?_); rintro e w' ⟨rfl, ⟨nd, rfl⟩⟩; (try first | exact ⟨rfl, _, World.drewN_drewN _ _ _⟩ | exact ⟨rfl, _, dd_⟩)) | (go_at_call 102; (with_reducible refine (attestorref01_Inv.calls k4 a0 t488 t489 _ A18.out).mono ?_); rintro e w' ⟨rfl, ⟨nd, rfl⟩⟩; (try first | exact ⟨rfl, _, World.drewN_drewN _ _ _⟩ | exact ⟨rfl, _, dd_⟩); have p490 : 0 ≤ (x12_4 : Int) := od_; have q490 : x12_4 < (l2.length : Int) := od_; obtain ⟨ad490, e490, hx490_0⟩ := Kd.at_int HR2.out x12_4 p490 q490; cases e490; replace hx490_0 := (HB.out.cell (World.block_lt_of_cell? w _ hx490_0)).trans hx490_0; replace p490 := eq_true p490; replace q490 := eq_true q490) | (go_at_call 81; (with_reducible refine (attestorref01_Pow.calls k4 a0 t489 (IntKind.u64.wrap (x10_3)) t491 _ A20.out).mono ?_); rintro e w' ⟨rfl, ⟨nd, rfl⟩⟩; (try first | exact ⟨rfl, _, World.drewN_drewN _ _ _⟩ | exact ⟨rfl, _, dd_⟩)) | (go_at_call 80; (with_reducible refine (attestorref01_Mul.calls a0 (rd l2 x12_4) t491 t492 _ A21.out).mono ?_); rintro e w' ⟨rfl, ⟨nd, rfl⟩⟩; (try first | exact ⟨rfl, _, World.drewN_drewN _ _ _⟩ | exact ⟨rfl, _, dd_⟩)) | (go_at_call 100; (with_reducible refine (attestorref01_Add.calls a0 x11_4 t492 t493 _ A22.out).mono ?_); rintro e w' ⟨rfl, ⟨nd, rfl⟩⟩; (try first | exact ⟨rfl, _, World.drewN_drewN _ _ _⟩ | exact ⟨rfl, _, dd_⟩))))
           go_roundg k4
           case measure => have := HJ3.out; have := HJ9.out; have := HK3.out; have := HK4.out; omega
           case rel => exact ⟨(t493), (wrap64 (x12_4 + 1)), gb_, gb_, H', ⟨by have := HJ3.out; have := HJ9.out; have := HK3.out; have := HK4.out; omega⟩, ⟨rU_ HO_9.out⟩, ⟨bU_ HB.out⟩⟩
          rw [if_neg c16] at H
          have c16b0 := decide_eq_false c16
          clear c16
          revert H
          refine bd_ fun t484 A23 H => ?_
          obtain ⟨c24, H⟩ : (x9_3.length < 17592186044416) ∧ _ := it_ H
          have LMc24 := ak c24
          clear c24
          obtain ⟨y485, hy485⟩ : ∃ y_ : List Int, y_ = (x9_3 ++ [t484]) := ⟨_, rfl⟩
          first | rw [Option.bind_some, ← hy485] at H | rw [← hy485] at H
          have Ny485 := ak hy485
          clear hy485
          have H' := ak H
          clear H
          go_wp2_with (first | (go_at_call 99; (with_reducible refine (attestorref01_Div.calls k4 a0 x11_4 (IntKind.u64.wrap ((l2.length : Int))) t484 _ A23.out).mono ?_); rintro e w' ⟨rfl, ⟨nd, rfl⟩⟩; (try first | exact ⟨rfl, _, World.drewN_drewN _ _ _⟩ | exact ⟨rfl, _, dd_⟩)) | ((with_reducible refine gate_builtin (b := .append) (xs := #[.tmp 67, .tmp 74]) rfl ?_); at_builtin; refine Kd.R_append (Kd.int .u64) (w0 := w) w.heap.size rfl (.tmp 67) (.tmp 74) 33 22 (.int .u64 0) 8 rfl Tryd.underlying33 info22 rfl (by decide) (by omega) u9 x9_3 t484 [.int .u64 t484] (fun _ => True) (fun _ => False) rfl rfl ?aP (fun _ hk => hk.elim) ?aF ?aO ?aB ?aS ?aL ?_; (case aP => exact rfl); (case aB => exact (bU_ HB.out)); (case aF => exact (fun _ _ => trivial)); (case aO => exact (rU_ HO_9.out)); (case aS => exact (below_size (bU_ HB.out))); (case aL => have := LMc24.out; omega); intro v486 w25 ho hb hg hat; rw [← Ny485.out] at ho; refine nx2_ (hb) (ho) ?_; clear HB HO_9; intro HB HO487; clear ho hb hg hat))
          repeat (go_quiet (first | (go_at_call 99; (with_reducible refine (attestorref01_Div.calls k4 a0 x11_4 (IntKind.u64.wrap ((l2.length : Int))) t484 _ A23.out).mono ?_); rintro e w' ⟨rfl, ⟨nd, rfl⟩⟩; (try first | exact ⟨rfl, _, World.drewN_drewN _ _ _⟩ | exact ⟨rfl, _, dd_⟩)) | ((with_reducible refine gate_builtin (b := .append) (xs := #[.tmp 67, .tmp 74]) rfl ?_); at_builtin; refine Kd.R_append (Kd.int .u64) (w0 := w) w.heap.size rfl (.tmp 67) (.tmp 74) 33 22 (.int .u64 0) 8 rfl Tryd.underlying33 info22 rfl (by decide) (by omega) u9 x9_3 t484 [.int .u64 t484] (fun _ => True) (fun _ => False) rfl rfl ?aP (fun _ hk => hk.elim) ?aF ?aO ?aB ?aS ?aL ?_; (case aP => exact rfl); (case aB => exact (bU_ HB.out)); (case aF => exact (fun _ _ => trivial)); (case aO => exact (rU_ HO_9.out)); (case aS => exact (below_size (bU_ HB.out))); (case aL => have := LMc24.out; omega); intro v486 w25 ho hb hg hat; rw [← Ny485.out] at ho; refine nx2_ (hb) (ho) ?_; clear HB HO_9; intro HB HO487; clear ho hb hg hat)); try go_wp2_with (first | (go_at_call 99; (with_reducible refine (attestorref01_Div.calls k4 a0 x11_4 (IntKind.u64.wrap ((l2.length : Int))) t484 _ A23.out).mono ?_); rintro e w' ⟨rfl, ⟨nd, rfl⟩⟩; (try first | exact ⟨rfl, _, World.drewN_drewN _ _ _⟩ | exact ⟨rfl, _, dd_⟩)) | ((with_reducible refine gate_builtin (b := .append) (xs := #[.tmp 67, .tmp 74]) rfl ?_); at_builtin; refine Kd.R_append (Kd.int .u64) (w0 := w) w.heap.size rfl (.tmp 67) (.tmp 74) 33 22 (.int .u64 0) 8 rfl Tryd.underlying33 info22 rfl (by decide) (by omega) u9 x9_3 t484 [.int .u64 t484] (fun _ => True) (fun _ => False) rfl rfl ?aP (fun _ hk => hk.elim) ?aF ?aO ?aB ?aS ?aL ?_; (case aP => exact rfl); (case aB => exact (bU_ HB.out)); (case aF => exact (fun _ _ => trivial)); (case aO => exact (rU_ HO_9.out)); (case aS => exact (below_size (bU_ HB.out))); (case aL => have := LMc24.out; omega); intro v486 w25 ho hb hg hat; rw [← Ny485.out] at ho; refine nx2_ (hb) (ho) ?_; clear HB HO_9; intro HB HO487; clear ho hb hg hat)))
          go_roundg k4
          case measure => have := HJ3.out; have := HJ9.out; have := HK3.out; have := HK4.out; omega
          case rel => exact ⟨(y485), (wrap64 (x10_3 + 1)), gb_, H', ⟨by have := HJ3.out; have := HJ9.out; have := HK3.out; have := HK4.out; omega⟩, ⟨rU_ HO487.out⟩, ⟨bU_ HB.out⟩⟩
       rw [if_neg c15] at H
       have c15b0 := decide_eq_false c15
       clear c15
       simp only [Option.some.injEq, Prod.mk.injEq] at H
       obtain ⟨rfl, rfl⟩ := H
       go_wp2
       repeat (go_quiet (fail); try go_wp2)
       go_ret2
       exact ⟨_, eW_, rU_ HO_9.out, bU_ HB.out⟩

end Go.Proofs.YtedapdagagkajaaDoor.Q

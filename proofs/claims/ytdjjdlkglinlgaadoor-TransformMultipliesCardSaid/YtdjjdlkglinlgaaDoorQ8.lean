-- Written by prx.py (this session's driver of the kit's print) out of the translation. Not trusted: Lean checks it.
import Derived.Test.YtdjjdlkglinlgaaDoorQ0
import Derived.Test.YtdjjdlkglinlgaaDoorQ1
import Derived.Test.YtdjjdlkglinlgaaDoorQ2
import Derived.Test.YtdjjdlkglinlgaaDoorQ4
namespace Go.Proofs.YtdjjdlkglinlgaaDoor.Q
open Go.RowKit Go.Proofs.YtdjjdlkglinlgaaDoorW.PrintWords Go.Proofs.YtdjjdlkglinlgaaDoorW.PrintLast Go.Proofs.YtdjjdlkglinlgaaDoorW.PrintMore
attribute [local go_sem] max2_int min2_int max_two min_two max_three min_three max_four min_four   -- for this text's walks alone
set_option linter.unusedVariables false
set_option linter.unusedSimpArgs false

/-! ### attestorref03_Mul: function 57 -/
mutual
def attestorref03_Mul.j0 : Nat → Int → List Int → List Int → Bool → Option (List Int × Int)
 | 0, _, _, _, _ => none
 | k + 1, x0, x1, x2, x27 => if x27 = true then (some (([] : List Int), 0)) else (if (wrap64 ((wrap64 ((x1.length : Int) + (x2.length : Int))) - 1)) > 32768 then (some (([] : List Int), 3)) else (if 0 ≤ (wrap64 ((wrap64 ((x1.length : Int) + (x2.length : Int))) - 1)) then (if (wrap64 ((wrap64 ((x1.length : Int) + (x2.length : Int))) - 1) : Int).toNat ≤ 35184372088832 then (attestorref03_Mul.l0 k x0 x1 x2 (List.replicate (wrap64 ((wrap64 ((x1.length : Int) + (x2.length : Int))) - 1) : Int).toNat 0) 0) else (none)) else (none)))
def attestorref03_Mul.l0 : Nat → Int → List Int → List Int → List Int → Int → Option (List Int × Int)
 | 0, _, _, _, _, _ => none
 | k + 1, x0, x1, x2, x8, x9 => if x9 < (x1.length : Int) then (attestorref03_Mul.l1 k x0 x1 x2 x8 x9 0) else (some (x8, 0))
def attestorref03_Mul.l1 : Nat → Int → List Int → List Int → List Int → Int → Int → Option (List Int × Int)
 | 0, _, _, _, _, _, _ => none
 | k + 1, x0, x1, x2, x8, x9, x10 => if x10 < (x2.length : Int) then (if 0 ≤ (wrap64 (x9 + x10)) then (if (wrap64 (x9 + x10)) < (x8.length : Int) then (if 0 ≤ x9 then (if x9 < (x1.length : Int) then (if 0 ≤ x10 then ((attestorref01_Mul.f x0 (rd x1 x9) (rd x2 x10)).bind fun t468 => ((attestorref01_Add.f x0 (rd x8 (wrap64 (x9 + x10))) t468).bind fun t469 => (attestorref03_Mul.l1 k x0 x1 x2 (x8.set ((wrap64 (x9 + x10)) : Int).toNat t469) x9 (wrap64 (x10 + 1))))) else (none)) else (none)) else (none)) else (none)) else (none)) else (attestorref03_Mul.l0 k x0 x1 x2 x8 (wrap64 (x9 + 1)))
end
def attestorref03_Mul.f (k : Nat) (a0 : Int) (l1 : List Int) (l2 : List Int) : Option (List Int × Int) := (attestorref01_Valid.f a0).bind fun t455 => (if t455 = true then ((attestorref03_Normal.f k a0 l1).bind fun t456 => ((attestorref03_Normal.f k a0 l2).bind fun t459 => (if (t456.length : Int) = 0 then (attestorref03_Mul.j0 k a0 t456 t459 true) else (attestorref03_Mul.j0 k a0 t456 t459 ((t459.length : Int) == 0))))) else (some (([] : List Int), 1)))
def attestorref03_Mul.T15 : Bool × List (List Nat × List Nat) := (true, [([], []), ([], []), ([], []), ([1, 2], [1, 2]), ([], []), ([], []), ([], []), ([], []), ([6, 7], [6, 7]), ([5, 8], [5, 8]), ([9], [9]), ([], []), ([], []), ([], []), ([12, 13], [12, 13]), ([14], [14]), ([], []), ([], []), ([16, 17], [16, 17]), ([18], [18]), ([11, 15, 19], [11, 15, 19]), ([4, 10, 20, 20], [4, 10, 20]), ([0, 3, 0, 1, 2, 3, 4, 5, 6, 7, 8, 9, 10, 11, 12, 13, 14, 15, 16, 17, 18, 19, 20, 21], [0, 3]), ([22, 21, 21, 0, 1, 2, 3, 4, 5, 6, 7, 8, 9, 10, 11, 12, 13, 14, 15, 16, 17, 18, 19, 20, 21], [21, 22])])
def attestorref03_Mul.B15 : List Nat := [0, 0, 0, 6, 0, 0, 0, 0, 192, 480, 992, 0, 0, 0, 12288, 28672, 0, 0, 196608, 458752, 1046528, 2097136, 4194303, 8388607]
theorem attestorref03_Mul.tab15 : rtab .any (opsOf Tryd.f57 15) = attestorref03_Mul.T15 := by kernel_rfl
theorem attestorref03_Mul.bits15 : waitsOk attestorref03_Mul.T15.2 attestorref03_Mul.B15 = true := by kernel_rfl
set_option maxHeartbeats 8000000 in
set_option maxRecDepth 100000 in
theorem attestorref03_Mul.calls (k : Nat) (a0 : Int) (A1 : Option Addr) (c1 : Nat) (l1 : List Int) (A2 : Option Addr) (c2 : Nat) (l2 : List Int) (r1 : List Int) (r2 : Int) (w : World) (hr1 : Kd.C (Kd.int .u64) w A1 l1.length l1) (hc1 : l1.length ≤ c1) (hr2 : Kd.C (Kd.int .u64) w A2 l2.length l2) (hc2 : l2.length ≤ c2) (h : attestorref03_Mul.f k a0 l1 l2 = some (r1, r2)) :
  Calls Tryd.prog 57 #[.int .i64 a0, .slice A1 l1.length c1, .slice A2 l2.length c2] w fun e w' => ∃ v0_ : Value, e = .returned (.tuple #[v0_, .int .i64 r2]) ∧ Kd.R (Kd.int .u64) 22 w' w.heap.size (fun _ => True) v0_ r1 ∧ Below w.heap.size w w' := by
 have HR1 := ak hr1
 have HC1 := ak hc1
 clear hr1 hc1
 have HR2 := ak hr2
 have HC2 := ak hc2
 clear hr2 hc2
 have HB := ak (Below.refl w.heap.size w)
 have H : ((attestorref01_Valid.f a0).bind fun t455 => (if t455 = true then ((attestorref03_Normal.f k a0 l1).bind fun t456 => ((attestorref03_Normal.f k a0 l2).bind fun t459 => (if (t456.length : Int) = 0 then (attestorref03_Mul.j0 k a0 t456 t459 true) else (attestorref03_Mul.j0 k a0 t456 t459 ((t459.length : Int) == 0))))) else (some (([] : List Int), 1)))) = some (r1, r2) := h
 clear h
 revert H
 refine bd_ fun t455 A4 H => ?_
 by_cases c5 : t455 = true
 ·subst c5
  rw [if_pos rfl] at H
  revert H
  refine bd_ fun t456 A6 H => ?_
  revert H
  refine bd_ fun t459 A7 H => ?_
  have HC8 := ak H
  clear H
  go_enter Tryd.func57, Tryd.ntmps57
  go_upto_region 4 with (first | ((with_reducible refine gate_callee (f := 39) rfl ?_); refine gl_ (some 12) Tryd.func39 #[.int .i64 a0] ?_; (with_reducible refine (attestorref01_Valid.calls a0 true _ A4.out).mono ?_); rintro e w' ⟨rfl, ⟨nd, rfl⟩⟩; refine ⟨_, rfl, ?_⟩) | ((with_reducible refine gate_callee (f := 41) rfl ?_); refine gl_ (some 16) Tryd.func41 #[.int .i64 a0, .slice A1 l1.length c1] ?_; (with_reducible refine (attestorref03_Normal.calls k a0 _ _ l1 t456 _ ?side1 ?side2 A6.out).mono ?_); (case side1 => exact cU_ HR1.out); (case side2 => exact HC1.out); rintro e w9 ⟨v457, rfl, ho0, hb⟩; refine ⟨_, rfl, ?_⟩; refine nx2_ (Kd.R_lower ho0 (below_size (bU_ HB.out))) (below_step (bU_ HB.out) hb) ?_; clear HB; intro HO458 HB; clear hb ho0) | ((with_reducible refine gate_callee (f := 41) rfl ?_); refine gl_ (some 19) Tryd.func41 #[.int .i64 a0, .slice A2 l2.length c2] ?_; (with_reducible refine (attestorref03_Normal.calls k a0 _ _ l2 t459 _ ?side1 ?side2 A7.out).mono ?_); (case side1 => exact cU_ (Kd.C_below HR2.out HB.out)); (case side2 => exact HC2.out); rintro e w10 ⟨v460, rfl, ho0, hb⟩; refine ⟨_, rfl, ?_⟩; refine nx3_ (Kd.R_elder' (rU_ HO458.out) (Kd.R_base ho0) hb) (Kd.R_lower (Kd.R_new' ho0 (Kd.R_lt (rU_ HO458.out))) (below_size (bU_ HB.out))) (below_step (bU_ HB.out) hb) ?_; clear HO458 HB; intro HO458 HO461 HB; clear hb ho0))
  (try simp only [Act.put, s1_, s2_, s3_])
  go_cut [27] (fun v27 wc => ∃ (kq : Nat) (x27_7 : Bool), v27 = .bool x27_7 ∧ Aside0 (attestorref03_Mul.j0 kq a0 t456 t459 x27_7 = some (r1, r2)) ∧ Aside0 (kq ≤ k) ∧ Aside0 (Kd.R (Kd.int .u64) 22 wc w.heap.size (fun k_ => some k_ ≠ (v460 : Value).ownBlock) v457 t456) ∧ Aside0 (Kd.R (Kd.int .u64) 22 wc w.heap.size (fun k_ => some k_ ≠ (v457 : Value).ownBlock) v460 t459) ∧ Aside0 (Below w.heap.size w wc))
  case first =>
   have H := HC8.out
   clear HC8
   by_cases c11 : (t456.length : Int) = 0
   ·rw [if_pos c11] at H
    have c11b0 := beq_iff_eq.mpr c11
    have c11b1 := bne_eq_false_iff_eq.mpr c11
    clear c11
    (first | rw [c11b0] | (simp only [i64_w, i32_w]; rw [c11b0]) | rw [c11b1] | skip)
    have H' := ak H
    clear H
    obtain ⟨Ao12, co12, eo12⟩ := Kd.R_slice HO458.out
    subst eo12
    go_wp2
    go_meet
    case rel => exact ⟨_, (true), gb_, H', ⟨by first | omega | exact Nat.le_refl _⟩, ⟨Kd.R_mono (rU_ HO458.out) (fun _ hk => hk.2)⟩, ⟨Kd.R_mono (rU_ HO461.out) (fun _ hk => hk.2)⟩, ⟨bU_ HB.out⟩⟩
   ·rw [if_neg c11] at H
    have c11b0 := beq_eq_false_iff_ne.mpr c11
    have c11b1 := bne_iff_ne.mpr c11
    have c11b2 : ¬ (t456 = []) := fun h_ => c11 (by rw [h_]; rfl)
    (first | rw [c11b0] | (simp only [i64_w, i32_w]; rw [c11b0]) | rw [c11b1] | skip)
    have H' := ak H
    clear H
    obtain ⟨Ao13, co13, eo13⟩ := Kd.R_slice HO458.out
    subst eo13
    obtain ⟨Ao14, co14, eo14⟩ := Kd.R_slice HO461.out
    subst eo14
    go_wp2
    go_meet
    case rel => exact ⟨_, (((t459.length : Int) == 0)), gb_, H', ⟨by first | omega | exact Nat.le_refl _⟩, ⟨Kd.R_mono (rU_ HO458.out) (fun _ hk => hk.2)⟩, ⟨Kd.R_mono (rU_ HO461.out) (fun _ hk => hk.2)⟩, ⟨bU_ HB.out⟩⟩
  case rest =>
   clear HC8
   (try clear c1); (try clear c2); (try clear p2); (try clear c3); (try clear c4); (try clear c5); (try clear c11); (try clear c11b0); (try clear c11b1); (try clear c11b2)
   obtain ⟨kq, x27_7, rfl, HA, HJ7, HO_1, HO_2, HB⟩ := hcut
   cases kq with
   | zero => exact absurd HA.out (by simp [attestorref03_Mul.j0])
   | succ kj7 =>
    have H := HA.out
    clear HA
    simp only [attestorref03_Mul.j0] at H
    by_cases c15 : x27_7 = true
    ·subst c15
     rw [if_pos rfl] at H
     simp only [Option.some.injEq, Prod.mk.injEq] at H
     obtain ⟨rfl, rfl⟩ := H
     go_wp2
     go_ret2
     exact ⟨_, by first | rfl | (simp [errW_none, errW_some] <;> rfl) | (simp [*, errW_none, errW_some] <;> rfl), by first | exact Kd.R_nil _ _ _ _ _ | exact Kd.N_nil _ _ _ _ _ | exact Kd.V_nil _ _ _ _ _ | exact Kd.Q_nil _ _ _ _ _ | exact Kd.S_nil _ _ _ _ _, bU_ HB.out⟩
    ·replace c15 := Bool.eq_false_iff.mpr c15
     subst c15
     rw [if_neg (show ¬ (false = true) by decide)] at H
     by_cases c16 : (wrap64 ((wrap64 ((t456.length : Int) + (t459.length : Int))) - 1)) > 32768
     ·rw [if_pos c16] at H
      have c16b0 : decide (32768 < (wrap64 ((wrap64 ((t456.length : Int) + (t459.length : Int))) - 1))) = true := decide_eq_true c16
      clear c16
      simp only [Option.some.injEq, Prod.mk.injEq] at H
      obtain ⟨rfl, rfl⟩ := H
      obtain ⟨Ao17, co17, eo17⟩ := Kd.R_slice HO_1.out
      subst eo17
      obtain ⟨Ao18, co18, eo18⟩ := Kd.R_slice HO_2.out
      subst eo18
      go_wp2
      go_ret2
      exact ⟨_, by first | rfl | (simp [errW_none, errW_some] <;> rfl) | (simp [*, errW_none, errW_some] <;> rfl), by first | exact Kd.R_nil _ _ _ _ _ | exact Kd.N_nil _ _ _ _ _ | exact Kd.V_nil _ _ _ _ _ | exact Kd.Q_nil _ _ _ _ _ | exact Kd.S_nil _ _ _ _ _, bU_ HB.out⟩
     ·rw [if_neg c16] at H
      have c16b0 : decide (32768 < (wrap64 ((wrap64 ((t456.length : Int) + (t459.length : Int))) - 1))) = false := decide_eq_false c16
      clear c16
      obtain ⟨ji19, hji19⟩ : ∃ j_ : Int, (wrap64 ((wrap64 ((t456.length : Int) + (t459.length : Int))) - 1)) = j_ := ⟨_, rfl⟩
      first | rw [hji19] at H | simp only [hji19] at H
      (try rw [hji19] at c16b0)
      have hji19w : (IntKind.i64.wrap ((wrap64 ((t456.length : Int) + (t459.length : Int))) - 1)) = ji19 := (i64_w _).trans hji19
      obtain ⟨c20, H⟩ : (0 ≤ (ji19)) ∧ _ := it_ H
      have c20b0 := eq_true c20
      have c20b1 := decide_eq_true c20
      clear c20
      obtain ⟨c21, H⟩ : ((ji19 : Int).toNat ≤ 35184372088832) ∧ _ := it_ H
      have c21b0 := eq_true c21
      have c21b1 := decide_eq_true c21
      clear c21
      obtain ⟨y462, hy462⟩ : ∃ y_ : List Int, y_ = (List.replicate (ji19 : Int).toNat 0) := ⟨_, rfl⟩
      first | rw [Option.bind_some, ← hy462] at H | rw [← hy462] at H
      have Ny462 := ak hy462
      clear hy462
      have H' := ak H
      clear H
      obtain ⟨Ao22, co22, eo22⟩ := Kd.R_slice HO_1.out
      subst eo22
      obtain ⟨Ao23, co23, eo23⟩ := Kd.R_slice HO_2.out
      subst eo23
      go_wp2_with (first | ((with_reducible refine gate_dst (N := 41) rfl ?_); (try (refine gate_guard (by rfl) ?_; dsimp only)); refine Kd.R_make (Kd.int .u64) _ 22 rfl (N := 41) rfl 23 _ _ rfl ji19 ?hx ?hy Tryd.underlying23 (.int .u64 0) 8 info22 rfl (by decide) (by omega) 0 (ok := fun _ => True) (okp := fun _ => True) rfl (fun _ hk => hk) trivial od_ (Nat.le_trans (Nat.mul_le_mul_right _ (od_ : ji19.toNat ≤ 35184372088832)) (by omega)) (Below.refl _ _) (Nat.le_refl _) ?_; (case hx => first | rfl | (simp only [hji19]; rfl)); (case hy => first | rfl | (simp only [hji19]; rfl)); intro v463 w24 ho25 hb hg_ hnew_; clear hg_ hnew_; (first | rw [← Ny462.out] at ho25 | (simp only [Int.reduceToNat] at ho25; rw [← Ny462.out] at ho25)); refine nx4_ (Kd.R_elder' (rU_ HO_1.out) (Kd.R_base ho25) hb) (Kd.R_elder' (rU_ HO_2.out) (Kd.R_base ho25) hb) (Kd.R_lower (Kd.R_new' (Kd.R_new' ho25 (Kd.R_lt (rU_ HO_1.out))) (Kd.R_lt (rU_ HO_2.out))) (below_size (bU_ HB.out))) (below_step (bU_ HB.out) hb) ?_; clear HO_1 HO_2 HB; intro HO_1 HO_2 HO464 HB; clear hb ho25))
      go_loopg [9] kj7 (fun kq v9 w' => ∃ (x8_2 : List Int) (x9_2 : Int), v9 = .int .i64 x9_2 ∧ Aside0 (attestorref03_Mul.l0 kq a0 t456 t459 x8_2 x9_2 = some (r1, r2)) ∧ Aside0 (kq ≤ kj7) ∧ Aside0 (Kd.R (Kd.int .u64) 22 w' w.heap.size (fun k_ => some k_ ≠ ((.slice Ao23 t459.length co23) : Value).ownBlock ∧ some k_ ≠ (v463 : Value).ownBlock) (.slice Ao22 t456.length co22) t456) ∧ Aside0 (Kd.R (Kd.int .u64) 22 w' w.heap.size (fun k_ => some k_ ≠ ((.slice Ao22 t456.length co22) : Value).ownBlock ∧ some k_ ≠ (v463 : Value).ownBlock) (.slice Ao23 t459.length co23) t459) ∧ Aside0 (Kd.R (Kd.int .u64) 22 w' w.heap.size (fun k_ => some k_ ≠ ((.slice Ao22 t456.length co22) : Value).ownBlock ∧ some k_ ≠ ((.slice Ao23 t459.length co23) : Value).ownBlock) v463 x8_2) ∧ Aside0 (Below w.heap.size w w'))
      case atStart => exact ⟨(y462), (0), gb_, H', ⟨Nat.le_refl _⟩, ⟨rU_ HO_1.out⟩, ⟨rU_ HO_2.out⟩, ⟨Kd.R_mono (rU_ HO464.out) (fun _ hk => ⟨hk.1.2, hk.2⟩)⟩, ⟨bU_ HB.out⟩⟩
      case round =>
       clear H'
       (try clear c1); (try clear c2); (try clear p2); (try clear c3); (try clear c4); (try clear c5); (try clear p6); (try clear c11); (try clear c11b0); (try clear c11b1); (try clear c11b2); (try clear c15); (try clear c16); (try clear c16b0); (try clear c20); (try clear c20b0); (try clear c20b1); (try clear c21); (try clear c21b0); (try clear c21b1)
       obtain ⟨x8_2, x9_2, rfl, HA, HK2, HO_1, HO_2, HO_8, HB⟩ := hrel
       cases gk with
       | zero => exact absurd HA.out (by simp [attestorref03_Mul.l0])
       | succ k2 =>
        have H := HA.out
        clear HA
        simp only [attestorref03_Mul.l0] at H
        by_cases c26 : x9_2 < (t456.length : Int)
        ·rw [if_pos c26] at H
         have c26b0 := decide_eq_true c26
         clear c26
         have H' := ak H
         clear H
         go_wp2
         go_loopg [10] k2 (fun kq v10 w' => ∃ (x8_3 : List Int) (x10_3 : Int), v10 = .int .i64 x10_3 ∧ Aside0 (attestorref03_Mul.l1 kq a0 t456 t459 x8_3 x9_2 x10_3 = some (r1, r2)) ∧ Aside0 (kq ≤ k2) ∧ Aside0 (Kd.R (Kd.int .u64) 22 w' w.heap.size (fun k_ => some k_ ≠ ((.slice Ao23 t459.length co23) : Value).ownBlock ∧ some k_ ≠ (v463 : Value).ownBlock) (.slice Ao22 t456.length co22) t456) ∧ Aside0 (Kd.R (Kd.int .u64) 22 w' w.heap.size (fun k_ => some k_ ≠ ((.slice Ao22 t456.length co22) : Value).ownBlock ∧ some k_ ≠ (v463 : Value).ownBlock) (.slice Ao23 t459.length co23) t459) ∧ Aside0 (Kd.R (Kd.int .u64) 22 w' w.heap.size (fun k_ => some k_ ≠ ((.slice Ao22 t456.length co22) : Value).ownBlock ∧ some k_ ≠ ((.slice Ao23 t459.length co23) : Value).ownBlock) v463 x8_3) ∧ Aside0 (Below w.heap.size w w'))
         case atStart => exact ⟨(x8_2), (0), gb_, H', ⟨Nat.le_refl _⟩, ⟨rU_ HO_1.out⟩, ⟨rU_ HO_2.out⟩, ⟨rU_ HO_8.out⟩, ⟨bU_ HB.out⟩⟩
         case round =>
          clear H'
          (try clear c1); (try clear c2); (try clear p2); (try clear c3); (try clear c4); (try clear c5); (try clear p6); (try clear c11); (try clear c11b0); (try clear c11b1); (try clear c11b2); (try clear c15); (try clear c16); (try clear c16b0); (try clear c20); (try clear c20b0); (try clear c20b1); (try clear c21); (try clear c21b0); (try clear c21b1); (try clear c26); (try clear c26b0)
          obtain ⟨x8_3, x10_3, rfl, HA, HK3, HO_1, HO_2, HO_8, HB⟩ := hrel
          cases gk with
          | zero => exact absurd HA.out (by simp [attestorref03_Mul.l1])
          | succ k3 =>
           have H := HA.out
           clear HA
           simp only [attestorref03_Mul.l1] at H
           by_cases c27 : x10_3 < (t459.length : Int)
           ·rw [if_pos c27] at H
            have c27b0 := decide_eq_true c27
            clear c27
            obtain ⟨ji28, hji28⟩ : ∃ j_ : Int, (wrap64 (x9_2 + x10_3)) = j_ := ⟨_, rfl⟩
            first | rw [hji28] at H | simp only [hji28] at H
            have hji28w : (IntKind.i64.wrap (x9_2 + x10_3)) = ji28 := (i64_w _).trans hji28
            obtain ⟨c29, H⟩ : (0 ≤ (ji28)) ∧ _ := it_ H
            have c29b0 := decide_eq_true c29
            clear c29
            obtain ⟨c30, H⟩ : ((ji28) < (x8_3.length : Int)) ∧ _ := it_ H
            have c30b0 := decide_eq_true c30
            clear c30
            obtain ⟨c31, H⟩ : (0 ≤ x9_2) ∧ _ := it_ H
            have c31b0 := decide_eq_true c31
            clear c31
            obtain ⟨c32, H⟩ : (x9_2 < (t456.length : Int)) ∧ _ := it_ H
            have c32b0 := decide_eq_true c32
            clear c32
            obtain ⟨c33, H⟩ : (0 ≤ x10_3) ∧ _ := it_ H
            have c33b0 := decide_eq_true c33
            clear c33
            revert H
            refine bd_ fun t468 A34 H => ?_
            revert H
            refine bd_ fun t469 A35 H => ?_
            obtain ⟨y470, hy470⟩ : ∃ y_ : List Int, y_ = (x8_3.set ((ji28) : Int).toNat t469) := ⟨_, rfl⟩
            first | rw [Option.bind_some, ← hy470] at H | rw [← hy470] at H
            have Ny470 := ak hy470
            clear hy470
            have H' := ak H
            clear H
            try go_wp2
            refine nx4_ (Kd.R_drew HO_1.out) (Kd.R_drew HO_2.out) (Kd.R_drew HO_8.out) (below_drew1 HB.out) ?_
            clear HO_1 HO_2 HO_8 HB
            intro HO_1 HO_2 HO_8 HB
            obtain ⟨Ao39, co39, eo39⟩ := Kd.R_slice HO_8.out
            (first | subst eo39 | (injection eo39 with f1_ f2_ f3_; have f4_ := f1_.symm; have f5_ := f3_.symm; clear f1_ f2_ f3_; subst f4_; subst f5_))
            have pfr38 : 0 ≤ ((ji28) : Int) := od_
            have qfr38 : ((ji28) : Int) < ((x8_3.length : Int) : Int) := od_
            obtain ⟨gofr38, cofr38, eofr38, gbfr38, glfr38, clfr38, HGfr38⟩ := Kd.R_form HO_8.out (by omega)
            (first | cases eofr38 | (injection eofr38 with ea_ en_ ec_; (first | subst ea_ | (injection ea_ with ea_; subst ea_)); subst ec_; clear en_))
            have GBfr38 := ak gbfr38
            have GGfr38 := ak HGfr38
            clear gbfr38 glfr38 HGfr38
            clear pfr38 qfr38
            have p465 : 0 ≤ ((ji28) : Int) := od_
            have q465 : (ji28) < (x8_3.length : Int) := od_
            obtain ⟨ad465, e465, hx465_0⟩ := Kd.at_int (Kd.R_reads' HO_8.out).2.2 (ji28) p465 q465
            obtain rfl : (⟨gofr38, 0, none⟩ : Addr) = ad465 := (by injection e465)
            (first | simp only [add_plain] at hx465_0 | simp only [add_at] at hx465_0 | simp only [Addr.add, Nat.zero_add] at hx465_0 | skip)
            replace p465 := eq_true p465
            replace q465 := eq_true q465
            have pfr40 : 0 ≤ (x9_2 : Int) := od_
            have qfr40 : (x9_2 : Int) < ((t456.length : Int) : Int) := od_
            obtain ⟨gofr40, cofr40, eofr40, gbfr40, glfr40, clfr40, HGfr40⟩ := Kd.R_form HO_1.out (by omega)
            (first | cases eofr40 | (injection eofr40 with ea_ en_ ec_; (first | subst ea_ | (injection ea_ with ea_; subst ea_)); subst ec_; clear en_))
            have GBfr40 := ak gbfr40
            have GGfr40 := ak HGfr40
            clear gbfr40 glfr40 HGfr40
            clear pfr40 qfr40
            have p466 : 0 ≤ (x9_2 : Int) := od_
            have q466 : x9_2 < (t456.length : Int) := od_
            obtain ⟨ad466, e466, hx466_0⟩ := Kd.at_int (Kd.R_reads' HO_1.out).2.2 x9_2 p466 q466
            obtain rfl : (⟨gofr40, 0, none⟩ : Addr) = ad466 := (by injection e466)
            (first | simp only [add_plain] at hx466_0 | simp only [add_at] at hx466_0 | simp only [Addr.add, Nat.zero_add] at hx466_0 | skip)
            replace p466 := eq_true p466
            replace q466 := eq_true q466
            have pfr41 : 0 ≤ (x10_3 : Int) := od_
            have qfr41 : (x10_3 : Int) < ((t459.length : Int) : Int) := od_
            obtain ⟨gofr41, cofr41, eofr41, gbfr41, glfr41, clfr41, HGfr41⟩ := Kd.R_form HO_2.out (by omega)
            (first | cases eofr41 | (injection eofr41 with ea_ en_ ec_; (first | subst ea_ | (injection ea_ with ea_; subst ea_)); subst ec_; clear en_))
            have GBfr41 := ak gbfr41
            have GGfr41 := ak HGfr41
            clear gbfr41 glfr41 HGfr41
            clear pfr41 qfr41
            have p467 : 0 ≤ (x10_3 : Int) := od_
            have q467 : x10_3 < (t459.length : Int) := od_
            obtain ⟨ad467, e467, hx467_0⟩ := Kd.at_int (Kd.R_reads' HO_2.out).2.2 x10_3 p467 q467
            obtain rfl : (⟨gofr41, 0, none⟩ : Addr) = ad467 := (by injection e467)
            (first | simp only [add_plain] at hx467_0 | simp only [add_at] at hx467_0 | simp only [Addr.add, Nat.zero_add] at hx467_0 | skip)
            replace p467 := eq_true p467
            replace q467 := eq_true q467
            refine start_ (n := 24) (S := fun w' => w'.cell? ⟨gofr38, ((ji28)).toNat, none⟩ = some (.int .u64 (rd x8_3 (ji28))) ∧ w'.cell? ⟨gofr40, (x9_2).toNat, none⟩ = some (.int .u64 (rd t456 x9_2)) ∧ w'.cell? ⟨gofr41, (x10_3).toNat, none⟩ = some (.int .u64 (rd t459 x10_3))) (ds := [23]) (bv 24 0) (by kernel_rfl) rfl rfl ⟨hx465_0, hx466_0, hx467_0⟩ (fun hHeld => ?_); refine with_tabW attestorref03_Mul.tab15 attestorref03_Mul.bits15 (fun HT_ HW_ => ?_)
            generalize wr.drew = w37 at HO_1 HO_2 HO_8 HB hx465_0 hx466_0 hx467_0 hHeld ⊢
            refine pr_ (i := 0) (N := some 54) (v := ?_) (a' := ?_) (bv 24 1) HT_.out ?_ ?_ ?_; rotate_left 2; (intro w'; go_simp; with_reducible rfl); (simp only [Act.put, s1_, s2_, s3_, i64_w, i32_w]; rfl)
            refine pr_ (i := 1) (N := some 55) (v := ?_) (a' := ?_) (bv 24 3) HT_.out ?_ ?_ ?_; rotate_left 2; (intro w'; go_simp; with_reducible rfl); (simp only [Act.put, s1_, s2_, s3_, i64_w, i32_w]; rfl)
            refine pr_ (i := 2) (N := some 56) (v := ?_) (a' := ?_) (bv 24 7) HT_.out ?_ ?_ ?_; rotate_left 2; (intro w'; go_simp; with_reducible rfl); (simp only [Act.put, s1_, s2_, s3_, i64_w, i32_w]; rfl)
            refine pr_ (i := 3) (N := some 57) (v := ?_) (a' := ?_) (bv 24 15) HT_.out ?_ ?_ ?_; rotate_left 2; (intro w'; go_simp; with_reducible rfl); (simp only [Act.put, s1_, s2_, s3_, i64_w, i32_w]; rfl)
            refine pr_ (i := 4) (N := some 58) (v := ?_) (a' := ?_) (bv 24 31) HT_.out ?_ ?_ ?_; rotate_left 2; (intro w'; go_simp; with_reducible rfl); (simp only [Act.put, s1_, s2_, s3_, i64_w, i32_w]; rfl)
            refine pr_ (i := 5) (N := some 59) (v := ?_) (a' := ?_) (bv 24 63) HT_.out ?_ ?_ ?_; rotate_left 2; (intro w'; go_simp; with_reducible rfl); (simp only [Act.put, s1_, s2_, s3_, i64_w, i32_w]; rfl)
            refine pr_ (i := 6) (N := some 60) (v := ?_) (a' := ?_) (bv 24 127) HT_.out ?_ ?_ ?_; rotate_left 2; (intro w'; go_simp; with_reducible rfl); (simp only [Act.put, s1_, s2_, s3_, i64_w, i32_w]; rfl)
            refine pr_ (i := 7) (N := some 61) (v := ?_) (a' := ?_) (bv 24 255) HT_.out ?_ ?_ ?_; rotate_left 2; (intro w'; go_simp; with_reducible rfl); (simp only [Act.put, s1_, s2_, s3_, i64_w, i32_w]; rfl)
            refine pr_ (i := 8) (N := some 62) (v := ?_) (a' := ?_) (bv 24 511) HT_.out ?_ ?_ ?_; rotate_left 2; (intro w'; go_simp; with_reducible rfl); (simp only [Act.put, s1_, s2_, s3_, i64_w, i32_w]; rfl)
            refine pr_ (i := 9) (N := some 63) (v := ?_) (a' := ?_) (bv 24 1023) HT_.out ?_ ?_ ?_; rotate_left 2; (intro w'; go_simp; with_reducible rfl); (simp only [Act.put, s1_, s2_, s3_, i64_w, i32_w]; rfl)
            refine pr_ (i := 11) (N := some 65) (v := ?_) (a' := ?_) (bv 24 3071) HT_.out ?_ ?_ ?_; rotate_left 2; (intro w'; go_simp; with_reducible rfl); (simp only [Act.put, s1_, s2_, s3_, i64_w, i32_w]; rfl)
            refine pr_ (i := 12) (N := some 66) (v := ?_) (a' := ?_) (bv 24 7167) HT_.out ?_ ?_ ?_; rotate_left 2; (intro w'; go_simp; with_reducible rfl); (simp only [Act.put, s1_, s2_, s3_, i64_w, i32_w]; rfl)
            refine pr_ (i := 13) (N := some 67) (v := ?_) (a' := ?_) (bv 24 15359) HT_.out ?_ ?_ ?_; rotate_left 2; (intro w'; go_simp; with_reducible rfl); (simp only [Act.put, s1_, s2_, s3_, i64_w, i32_w]; rfl)
            refine pr_ (i := 14) (N := some 68) (v := ?_) (a' := ?_) (bv 24 31743) HT_.out ?_ ?_ ?_; rotate_left 2; (intro w'; go_simp; with_reducible rfl); (simp only [Act.put, s1_, s2_, s3_, i64_w, i32_w]; rfl)
            refine pr_ (i := 16) (N := some 70) (v := ?_) (a' := ?_) (bv 24 97279) HT_.out ?_ ?_ ?_; rotate_left 2; (intro w'; go_simp; with_reducible rfl); (simp only [Act.put, s1_, s2_, s3_, i64_w, i32_w]; rfl)
            refine pr_ (i := 17) (N := some 71) (v := ?_) (a' := ?_) (bv 24 228351) HT_.out ?_ ?_ ?_; rotate_left 2; (intro w'; go_simp; with_reducible rfl); (simp only [Act.put, s1_, s2_, s3_, i64_w, i32_w]; rfl)
            refine pr_ (i := 18) (N := some 72) (v := ?_) (a' := ?_) (bv 24 490495) HT_.out ?_ ?_ ?_; rotate_left 2; (intro w'; go_simp; with_reducible rfl); (simp only [Act.put, s1_, s2_, s3_, i64_w, i32_w]; rfl)
            refine take_ (i := 10) (N := some 64) (v := ?_) (a' := ?_) (bv 24 491519) rfl rfl (take_ofW HT_.out HW_.out (by kernel_rfl)) (fun _ _ _ h => h) (Or.inl ⟨by rfl, ?_⟩) hHeld ?_ ?_
            rotate_left
            ·rintro w' ⟨s0, s1, s2⟩
             go_simp
             with_reducible rfl
            rotate_left
            ·simp only [Act.put, s1_, s2_, s3_, i64_w, i32_w]
             rfl
            refine take_ (i := 15) (N := some 69) (v := ?_) (a' := ?_) (bv 24 524287) rfl rfl (take_ofW HT_.out HW_.out (by kernel_rfl)) (fun _ _ _ h => h) (Or.inl ⟨by rfl, ?_⟩) hHeld ?_ ?_
            rotate_left
            ·rintro w' ⟨s0, s1, s2⟩
             go_simp
             with_reducible rfl
            rotate_left
            ·simp only [Act.put, s1_, s2_, s3_, i64_w, i32_w]
             rfl
            refine take_ (i := 19) (N := some 73) (v := ?_) (a' := ?_) (bv 24 1048575) rfl rfl (take_ofW HT_.out HW_.out (by kernel_rfl)) (fun _ _ _ h => h) (Or.inl ⟨by rfl, ?_⟩) hHeld ?_ ?_
            rotate_left
            ·rintro w' ⟨s0, s1, s2⟩
             go_simp
             with_reducible rfl
            rotate_left
            ·simp only [Act.put, s1_, s2_, s3_, i64_w, i32_w]
             rfl
            refine one_ (i := 20) (N := some 74) (bv 24 2097151) rfl rfl (one_of HT_.out (by kernel_rfl)) (by decide) (fun K hK => ?_)
            refine goes_ Tryd.func49 (by kernel_rfl) rfl #[.int .i64 a0, .int .u64 (rd t456 x9_2), .int .u64 (rd t459 x10_3)] (by rfl) rfl rfl ga_ ?_
            with_reducible refine (attestorref01_Mul.calls a0 (rd t456 x9_2) (rd t459 x10_3) t468 _ A34.out).mono ?_
            rintro e w' ⟨rfl, ⟨nd, rfl⟩⟩
            refine ⟨_, rfl, ?_⟩
            refine hK.out _ _ ⟨hHeld.1, hHeld.2.1, hHeld.2.2⟩ (fun hHeld => ?_)
            clear hK K
            refine norm_ (a' := ?_) ?_ ?_
            rotate_left
            ·show Act.put _ (some 74) _ = _
             simp only [Act.put, s1_, s2_, s3_, i64_w, i32_w]
             rfl
            refine one_ (i := 21) (N := some 75) (bv 24 4194303) rfl rfl (one_of HT_.out (by kernel_rfl)) (by decide) (fun K hK => ?_)
            refine goes_ Tryd.func48 (by kernel_rfl) rfl #[.int .i64 a0, .int .u64 (rd x8_3 (ji28)), .int .u64 t468] (by rfl) rfl rfl (by (try simp only [List.map_toArray, List.map_cons, List.map_nil]); first | done | (simp only [hji28]; rfl) | rfl | (simp only [List.length_drop, List.length_take]; rfl)) ?_
            with_reducible refine (attestorref01_Add.calls a0 (rd x8_3 (ji28)) t468 t469 _ A35.out).mono ?_
            rintro e w' ⟨rfl, ⟨nd, rfl⟩⟩
            refine ⟨_, rfl, ?_⟩
            have p36 : 0 ≤ ((ji28) : Int) := od_
            have q36 : ((ji28) : Int) < ((x8_3.length : Int) : Int) := od_
            obtain ⟨hx36_0, hf36_0⟩ := Kd.R_celln 0 HO_8.out ((ji28) : Int) p36 q36
            replace p36 := eq_true p36
            replace q36 := eq_true q36
            have HP42 := Kd.R_putn HO_8.out ((ji28) : Int) t469
            rw [← Ny470.out] at HP42
            have HQ42 := ak HP42
            clear HP42
            refine hK.out _ _ ⟨hHeld.1, hHeld.2.1, hHeld.2.2⟩ (fun hHeld => ?_)
            clear hK K
            refine norm_ (a' := ?_) ?_ ?_
            rotate_left
            ·show Act.put _ (some 75) _ = _
             simp only [Act.put, s1_, s2_, s3_, i64_w, i32_w]
             rfl
            refine pr_ (i := 22) (N := some 76) (v := ?_) (a' := ?_) (bv 24 8388607) HT_.out ?_ ?_ ?_; rotate_left 2; (intro w'; go_simp; with_reducible rfl); (simp only [Act.put, s1_, s2_, s3_, i64_w, i32_w]; rfl)
            refine last_ (i := 23) (N := none) #[true, true, true, true, true, true, true, true, true, true, true, true, true, true, true, true, true, true, true, true, true, true, true, true] rfl rfl (one_of HT_.out (by kernel_rfl)) (by decide) (fun K hK => ?_)
            refine skip_ (w1 := ?_) (by rfl) rfl ?_ ?_
            rotate_left
            ·go_simp
             rfl
            refine hK.out _ _ ?_
            clear hK K
            refine done_ (done_of HT_.out (by kernel_rfl)) ?_
            try go_wp2
            go_roundg k3
            case measure => have := HJ7.out; have := HK2.out; have := HK3.out; omega
            case rel => exact ⟨(y470), (wrap64 (x10_3 + 1)), gb_, H', ⟨by have := HJ7.out; have := HK2.out; have := HK3.out; omega⟩, ⟨by (with_reducible repeat (first | apply Kd.R_alloc | apply Kd.R_drewN | apply Kd.R_drew)); exact Kd.R_mono (Kd.R_far (p := ⟨gofr38, ((ji28) : Int).toNat, none⟩) (Kd.R_mono HO_1.out (fun k_ hk => (⟨hk, fun e_ => hk.2 (by rw [e_]; rfl)⟩ : _ ∧ k_ ≠ gofr38))) (fun _ hk => hk.2) (.int .u64 t469)) (fun _ hk => ⟨hk.1.1, hk.1.2⟩)⟩, ⟨by (with_reducible repeat (first | apply Kd.R_alloc | apply Kd.R_drewN | apply Kd.R_drew)); exact Kd.R_mono (Kd.R_far (p := ⟨gofr38, ((ji28) : Int).toNat, none⟩) (Kd.R_mono HO_2.out (fun k_ hk => (⟨hk, fun e_ => hk.2 (by rw [e_]; rfl)⟩ : _ ∧ k_ ≠ gofr38))) (fun _ hk => hk.2) (.int .u64 t469)) (fun _ hk => ⟨hk.1.1, hk.1.2⟩)⟩, ⟨rU_ HQ42.out⟩, ⟨by repeat (first | (with_reducible first | exact HB.out | apply below_alloc | apply pw_below_drewN | apply below_drew1 | refine below_set ?_ GBfr38.out) | exact HB.out)⟩⟩
           ·rw [if_neg c27] at H
            have c27b0 := decide_eq_false c27
            clear c27
            have H' := ak H
            clear H
            go_wp2
            go_roundg k3
            case measure => have := HJ7.out; have := HK2.out; have := HK3.out; omega
            case rel => exact ⟨(x8_3), (wrap64 (x9_2 + 1)), gb_, H', ⟨by have := HJ7.out; have := HK2.out; have := HK3.out; omega⟩, ⟨rU_ HO_1.out⟩, ⟨rU_ HO_2.out⟩, ⟨rU_ HO_8.out⟩, ⟨bU_ HB.out⟩⟩
        ·rw [if_neg c26] at H
         have c26b0 := decide_eq_false c26
         clear c26
         simp only [Option.some.injEq, Prod.mk.injEq] at H
         obtain ⟨rfl, rfl⟩ := H
         go_wp2
         go_ret2
         exact ⟨_, by first | rfl | (simp [errW_none, errW_some] <;> rfl) | (simp only [← hji19]; first | rfl | (simp [errW_none, errW_some] <;> rfl)) | (simp [*, errW_none, errW_some] <;> rfl), Kd.R_mono (rU_ HO_8.out) (fun _ hk => trivial), bU_ HB.out⟩
 ·replace c5 := Bool.eq_false_iff.mpr c5
  subst c5
  rw [if_neg (show ¬ (false = true) by decide)] at H
  simp only [Option.some.injEq, Prod.mk.injEq] at H
  obtain ⟨rfl, rfl⟩ := H
  go_enter Tryd.func57, Tryd.ntmps57
  go_wp2_with (first | ((with_reducible refine gate_callee (f := 39) rfl ?_); refine gl_ (some 12) Tryd.func39 #[.int .i64 a0] ?_; (with_reducible refine (attestorref01_Valid.calls a0 false _ A4.out).mono ?_); rintro e w' ⟨rfl, ⟨nd, rfl⟩⟩; refine ⟨_, rfl, ?_⟩))
  go_ret2
  exact ⟨_, by first | rfl | (simp [errW_none, errW_some] <;> rfl) | (simp [*, errW_none, errW_some] <;> rfl), by first | exact Kd.R_nil _ _ _ _ _ | exact Kd.N_nil _ _ _ _ _ | exact Kd.V_nil _ _ _ _ _ | exact Kd.Q_nil _ _ _ _ _ | exact Kd.S_nil _ _ _ _ _, bU_ HB.out⟩

/-! ### attestorref04_Multiply: function 21 -/
def attestorref04_Multiply.f (k : Nat) (a0 : Int) (l1 : List Int) (l2 : List Int) : Option (List Int × Int) := (attestorref01_Valid.f a0).bind fun t471 => (if t471 = true then ((attestorref03_Normal.f k a0 l1).bind fun t472 => ((attestorref03_Normal.f k a0 l2).bind fun t475 => (if (t472.length : Int) > 0 then (if (t475.length : Int) > 0 then ((attestorref04_Greatest.f a0).bind fun t478 => (if 0 ≤ (IntKind.u64.wrap (t478)) then (if (wrap64 ((wrap64 ((t472.length : Int) + (t475.length : Int))) - 1)) > (shl .i64 1 (IntKind.u64.wrap (t478))) then (some (([] : List Int), 2)) else ((attestorref03_Mul.f k a0 t472 t475).bind fun bt479 => (some (bt479.1, 0)))) else (none))) else ((attestorref03_Mul.f k a0 t472 t475).bind fun bt483 => (some (bt483.1, 0)))) else ((attestorref03_Mul.f k a0 t472 t475).bind fun bt487 => (some (bt487.1, 0)))))) else (some (([] : List Int), 1)))
set_option maxHeartbeats 8000000 in
set_option maxRecDepth 100000 in
theorem attestorref04_Multiply.calls (k : Nat) (a0 : Int) (A1 : Option Addr) (c1 : Nat) (l1 : List Int) (A2 : Option Addr) (c2 : Nat) (l2 : List Int) (r1 : List Int) (r2 : Int) (w : World) (hr1 : Kd.C (Kd.int .u64) w A1 l1.length l1) (hc1 : l1.length ≤ c1) (hr2 : Kd.C (Kd.int .u64) w A2 l2.length l2) (hc2 : l2.length ≤ c2) (h : attestorref04_Multiply.f k a0 l1 l2 = some (r1, r2)) :
  Calls Tryd.prog 21 #[.int .i64 a0, .slice A1 l1.length c1, .slice A2 l2.length c2] w fun e w' => ∃ v0_ : Value, e = .returned (.tuple #[v0_, .int .i64 r2]) ∧ Kd.R (Kd.int .u64) 22 w' w.heap.size (fun _ => True) v0_ r1 ∧ Below w.heap.size w w' := by
 have HR1 := ak hr1
 have HC1 := ak hc1
 clear hr1 hc1
 have HR2 := ak hr2
 have HC2 := ak hc2
 clear hr2 hc2
 have HB := ak (Below.refl w.heap.size w)
 have H : ((attestorref01_Valid.f a0).bind fun t471 => (if t471 = true then ((attestorref03_Normal.f k a0 l1).bind fun t472 => ((attestorref03_Normal.f k a0 l2).bind fun t475 => (if (t472.length : Int) > 0 then (if (t475.length : Int) > 0 then ((attestorref04_Greatest.f a0).bind fun t478 => (if 0 ≤ (IntKind.u64.wrap (t478)) then (if (wrap64 ((wrap64 ((t472.length : Int) + (t475.length : Int))) - 1)) > (shl .i64 1 (IntKind.u64.wrap (t478))) then (some (([] : List Int), 2)) else ((attestorref03_Mul.f k a0 t472 t475).bind fun bt479 => (some (bt479.1, 0)))) else (none))) else ((attestorref03_Mul.f k a0 t472 t475).bind fun bt483 => (some (bt483.1, 0)))) else ((attestorref03_Mul.f k a0 t472 t475).bind fun bt487 => (some (bt487.1, 0)))))) else (some (([] : List Int), 1)))) = some (r1, r2) := h
 clear h
 revert H
 refine bd_ fun t471 A4 H => ?_
 by_cases c5 : t471 = true
 ·subst c5
  rw [if_pos rfl] at H
  revert H
  refine bd_ fun t472 A6 H => ?_
  revert H
  refine bd_ fun t475 A7 H => ?_
  by_cases c8 : (t472.length : Int) > 0
  ·rw [if_pos c8] at H
   have c8b0 : decide (0 < (t472.length : Int)) = true := decide_eq_true c8
   have c8b1 : decide (0 < t472.length) = true := decide_eq_true (by omega)
   clear c8
   by_cases c9 : (t475.length : Int) > 0
   ·rw [if_pos c9] at H
    have c9b0 : decide (0 < (t475.length : Int)) = true := decide_eq_true c9
    have c9b1 : decide (0 < t475.length) = true := decide_eq_true (by omega)
    clear c9
    revert H
    refine bd_ fun t478 A10 H => ?_
    obtain ⟨ji11, hji11⟩ : ∃ j_ : Int, (IntKind.u64.wrap (t478)) = j_ := ⟨_, rfl⟩
    first | rw [hji11] at H | simp only [hji11] at H
    (try rw [hji11] at A4)
    (try rw [hji11] at A6)
    (try rw [hji11] at A7)
    (try rw [hji11] at A10)
    obtain ⟨c12, H⟩ : (0 ≤ (ji11)) ∧ _ := it_ H
    have c12b0 := eq_true c12
    have c12b1 := decide_eq_true c12
    clear c12
    obtain ⟨ji13, hji13⟩ : ∃ j_ : Int, (shl .i64 1 (ji11)) = j_ := ⟨_, rfl⟩
    first | rw [hji13] at H | simp only [hji13] at H
    (try rw [hji13] at A4)
    (try rw [hji13] at A6)
    (try rw [hji13] at A7)
    (try rw [hji13] at A10)
    have hji13_ : (IntKind.i64.wrap (1 * 2 ^ min (ji11).toNat 64)) = ji13 := hji13
    have hji13z : (ji11) ≤ 64 → (IntKind.i64.wrap (1 * 2 ^ (ji11).toNat)) = ji13 := shl_small hji13
    have hji13u : (IntKind.i64.wrap (2 ^ min (ji11).toNat 64)) = ji13 := by have h_ := hji13_; rw [Int.one_mul] at h_; exact h_
    have hji13v : (ji11) ≤ 64 → (IntKind.i64.wrap (2 ^ (ji11).toNat)) = ji13 := fun hle_ => by have h_ := hji13z hle_; rw [Int.one_mul] at h_; exact h_
    have hji13y : (wrap64 (1 * 2 ^ min (ji11).toNat 64)) = ji13 := (i64_w _).symm.trans hji13_
    have hji13x : (ji11) ≤ 64 → (wrap64 (1 * 2 ^ (ji11).toNat)) = ji13 := fun h_ => (i64_w _).symm.trans (hji13z h_)
    by_cases c14 : (wrap64 ((wrap64 ((t472.length : Int) + (t475.length : Int))) - 1)) > (ji13)
    ·rw [if_pos c14] at H
     have c14b0 : decide ((ji13) < (wrap64 ((wrap64 ((t472.length : Int) + (t475.length : Int))) - 1))) = true := decide_eq_true c14
     clear c14
     simp only [Option.some.injEq, Prod.mk.injEq] at H
     obtain ⟨rfl, rfl⟩ := H
     go_enter Tryd.func21, Tryd.ntmps21
     go_wp2_with (first | ((with_reducible refine gate_callee (f := 39) rfl ?_); refine gl_ (some 11) Tryd.func39 #[.int .i64 a0] ?_; (with_reducible refine (attestorref01_Valid.calls a0 true _ A4.out).mono ?_); rintro e w' ⟨rfl, ⟨nd, rfl⟩⟩; refine ⟨_, rfl, ?_⟩) | ((with_reducible refine gate_callee (f := 41) rfl ?_); refine gl_ (some 15) Tryd.func41 #[.int .i64 a0, .slice A1 l1.length c1] ?_; (with_reducible refine (attestorref03_Normal.calls k a0 _ _ l1 t472 _ ?side1 ?side2 A6.out).mono ?_); (case side1 => exact cU_ HR1.out); (case side2 => exact HC1.out); rintro e w15 ⟨v473, rfl, ho0, hb⟩; refine ⟨_, rfl, ?_⟩; refine nx2_ (Kd.R_lower ho0 (below_size (bU_ HB.out))) (below_step (bU_ HB.out) hb) ?_; clear HB; intro HO474 HB; clear hb ho0) | ((with_reducible refine gate_callee (f := 41) rfl ?_); refine gl_ (some 18) Tryd.func41 #[.int .i64 a0, .slice A2 l2.length c2] ?_; (with_reducible refine (attestorref03_Normal.calls k a0 _ _ l2 t475 _ ?side1 ?side2 A7.out).mono ?_); (case side1 => exact cU_ (Kd.C_below HR2.out HB.out)); (case side2 => exact HC2.out); rintro e w16 ⟨v476, rfl, ho0, hb⟩; refine ⟨_, rfl, ?_⟩; refine nx3_ (Kd.R_elder' (rU_ HO474.out) (Kd.R_base ho0) hb) (Kd.R_lower (Kd.R_new' ho0 (Kd.R_lt (rU_ HO474.out))) (below_size (bU_ HB.out))) (below_step (bU_ HB.out) hb) ?_; clear HO474 HB; intro HO474 HO477 HB; clear hb ho0; obtain ⟨Ao17, co17, eo17⟩ := Kd.R_slice HO474.out; subst eo17; obtain ⟨Ao18, co18, eo18⟩ := Kd.R_slice HO477.out; subst eo18) | (go_at_call 10; (with_reducible refine (attestorref04_Greatest.calls a0 t478 _ A10.out).mono ?_); rintro e w19 ⟨rfl, hb⟩; refine nx3_ (Kd.R_below (rU_ HO474.out) hb) (Kd.R_below (rU_ HO477.out) hb) (below_step (bU_ HB.out) hb) ?_; clear HO474 HO477 HB; intro HO474 HO477 HB; clear hb))
     go_ret2
     exact ⟨_, by first | rfl | (simp [errW_none, errW_some] <;> rfl) | (simp only [← hji11, ← hji13]; first | rfl | (simp [errW_none, errW_some] <;> rfl)) | (simp [*, errW_none, errW_some] <;> rfl), by first | exact Kd.R_nil _ _ _ _ _ | exact Kd.N_nil _ _ _ _ _ | exact Kd.V_nil _ _ _ _ _ | exact Kd.Q_nil _ _ _ _ _ | exact Kd.S_nil _ _ _ _ _, bU_ HB.out⟩
    ·rw [if_neg c14] at H
     have c14b0 : decide ((ji13) < (wrap64 ((wrap64 ((t472.length : Int) + (t475.length : Int))) - 1))) = false := decide_eq_false c14
     clear c14
     revert H
     refine bd2_ fun t479 t480 A20 H => ?_
     try dsimp only at H
     simp only [Option.some.injEq, Prod.mk.injEq] at H
     obtain ⟨rfl, rfl⟩ := H
     go_enter Tryd.func21, Tryd.ntmps21
     go_wp2_with (first | ((with_reducible refine gate_callee (f := 39) rfl ?_); refine gl_ (some 11) Tryd.func39 #[.int .i64 a0] ?_; (with_reducible refine (attestorref01_Valid.calls a0 true _ A4.out).mono ?_); rintro e w' ⟨rfl, ⟨nd, rfl⟩⟩; refine ⟨_, rfl, ?_⟩) | ((with_reducible refine gate_callee (f := 41) rfl ?_); refine gl_ (some 15) Tryd.func41 #[.int .i64 a0, .slice A1 l1.length c1] ?_; (with_reducible refine (attestorref03_Normal.calls k a0 _ _ l1 t472 _ ?side1 ?side2 A6.out).mono ?_); (case side1 => exact cU_ HR1.out); (case side2 => exact HC1.out); rintro e w21 ⟨v473, rfl, ho0, hb⟩; refine ⟨_, rfl, ?_⟩; refine nx2_ (Kd.R_lower ho0 (below_size (bU_ HB.out))) (below_step (bU_ HB.out) hb) ?_; clear HB; intro HO474 HB; clear hb ho0) | ((with_reducible refine gate_callee (f := 41) rfl ?_); refine gl_ (some 18) Tryd.func41 #[.int .i64 a0, .slice A2 l2.length c2] ?_; (with_reducible refine (attestorref03_Normal.calls k a0 _ _ l2 t475 _ ?side1 ?side2 A7.out).mono ?_); (case side1 => exact cU_ (Kd.C_below HR2.out HB.out)); (case side2 => exact HC2.out); rintro e w22 ⟨v476, rfl, ho0, hb⟩; refine ⟨_, rfl, ?_⟩; refine nx3_ (Kd.R_elder' (rU_ HO474.out) (Kd.R_base ho0) hb) (Kd.R_lower (Kd.R_new' ho0 (Kd.R_lt (rU_ HO474.out))) (below_size (bU_ HB.out))) (below_step (bU_ HB.out) hb) ?_; clear HO474 HB; intro HO474 HO477 HB; clear hb ho0; obtain ⟨Ao23, co23, eo23⟩ := Kd.R_slice HO474.out; subst eo23; obtain ⟨Ao24, co24, eo24⟩ := Kd.R_slice HO477.out; subst eo24) | (go_at_call 10; (with_reducible refine (attestorref04_Greatest.calls a0 t478 _ A10.out).mono ?_); rintro e w25 ⟨rfl, hb⟩; refine nx3_ (Kd.R_below (rU_ HO474.out) hb) (Kd.R_below (rU_ HO477.out) hb) (below_step (bU_ HB.out) hb) ?_; clear HO474 HO477 HB; intro HO474 HO477 HB; clear hb) | ((with_reducible refine gate_callee (f := 57) rfl ?_); refine gl_ (some 44) Tryd.func57 #[.int .i64 a0, .slice Ao23 t472.length co23, .slice Ao24 t475.length co24] ?_; (with_reducible refine (attestorref03_Mul.calls k a0 _ _ t472 _ _ t475 t479 t480 _ ?side1 ?side2 ?side3 ?side4 A20.out).mono ?_); (case side1 => exact cU_ ((Kd.R_reads' HO474.out).2.2)); (case side2 => exact (Kd.R_reads' HO474.out).2.1); (case side3 => exact cU_ ((Kd.R_reads' HO477.out).2.2)); (case side4 => exact (Kd.R_reads' HO477.out).2.1); rintro e w26 ⟨v481, rfl, ho0, hb⟩; refine ⟨_, rfl, ?_⟩; refine nx4_ (Kd.R_elder' (rU_ HO474.out) (Kd.R_base ho0) hb) (Kd.R_elder' (rU_ HO477.out) (Kd.R_base ho0) hb) (Kd.R_lower (Kd.R_new' (Kd.R_new' ho0 (Kd.R_lt (rU_ HO474.out))) (Kd.R_lt (rU_ HO477.out))) (below_size (bU_ HB.out))) (below_step (bU_ HB.out) hb) ?_; clear HO474 HO477 HB; intro HO474 HO477 HO482 HB; clear hb ho0))
     go_ret2
     exact ⟨_, by first | rfl | (simp [errW_none, errW_some] <;> rfl) | (simp only [← hji11, ← hji13]; first | rfl | (simp [errW_none, errW_some] <;> rfl)) | (simp [*, errW_none, errW_some] <;> rfl), Kd.R_mono (rU_ HO482.out) (fun _ hk => trivial), bU_ HB.out⟩
   ·rw [if_neg c9] at H
    have c9b0 : decide (0 < (t475.length : Int)) = false := decide_eq_false c9
    have c9b1 : decide (0 < t475.length) = false := decide_eq_false (by omega)
    clear c9
    revert H
    refine bd2_ fun t483 t484 A27 H => ?_
    try dsimp only at H
    simp only [Option.some.injEq, Prod.mk.injEq] at H
    obtain ⟨rfl, rfl⟩ := H
    go_enter Tryd.func21, Tryd.ntmps21
    go_wp2_with (first | ((with_reducible refine gate_callee (f := 39) rfl ?_); refine gl_ (some 11) Tryd.func39 #[.int .i64 a0] ?_; (with_reducible refine (attestorref01_Valid.calls a0 true _ A4.out).mono ?_); rintro e w' ⟨rfl, ⟨nd, rfl⟩⟩; refine ⟨_, rfl, ?_⟩) | ((with_reducible refine gate_callee (f := 41) rfl ?_); refine gl_ (some 15) Tryd.func41 #[.int .i64 a0, .slice A1 l1.length c1] ?_; (with_reducible refine (attestorref03_Normal.calls k a0 _ _ l1 t472 _ ?side1 ?side2 A6.out).mono ?_); (case side1 => exact cU_ HR1.out); (case side2 => exact HC1.out); rintro e w28 ⟨v473, rfl, ho0, hb⟩; refine ⟨_, rfl, ?_⟩; refine nx2_ (Kd.R_lower ho0 (below_size (bU_ HB.out))) (below_step (bU_ HB.out) hb) ?_; clear HB; intro HO474 HB; clear hb ho0) | ((with_reducible refine gate_callee (f := 41) rfl ?_); refine gl_ (some 18) Tryd.func41 #[.int .i64 a0, .slice A2 l2.length c2] ?_; (with_reducible refine (attestorref03_Normal.calls k a0 _ _ l2 t475 _ ?side1 ?side2 A7.out).mono ?_); (case side1 => exact cU_ (Kd.C_below HR2.out HB.out)); (case side2 => exact HC2.out); rintro e w29 ⟨v476, rfl, ho0, hb⟩; refine ⟨_, rfl, ?_⟩; refine nx3_ (Kd.R_elder' (rU_ HO474.out) (Kd.R_base ho0) hb) (Kd.R_lower (Kd.R_new' ho0 (Kd.R_lt (rU_ HO474.out))) (below_size (bU_ HB.out))) (below_step (bU_ HB.out) hb) ?_; clear HO474 HB; intro HO474 HO477 HB; clear hb ho0; obtain ⟨Ao30, co30, eo30⟩ := Kd.R_slice HO474.out; subst eo30; obtain ⟨Ao31, co31, eo31⟩ := Kd.R_slice HO477.out; subst eo31) | ((with_reducible refine gate_callee (f := 57) rfl ?_); refine gl_ (some 44) Tryd.func57 #[.int .i64 a0, .slice Ao30 t472.length co30, .slice Ao31 t475.length co31] ?_; (with_reducible refine (attestorref03_Mul.calls k a0 _ _ t472 _ _ t475 t483 t484 _ ?side1 ?side2 ?side3 ?side4 A27.out).mono ?_); (case side1 => exact cU_ ((Kd.R_reads' HO474.out).2.2)); (case side2 => exact (Kd.R_reads' HO474.out).2.1); (case side3 => exact cU_ ((Kd.R_reads' HO477.out).2.2)); (case side4 => exact (Kd.R_reads' HO477.out).2.1); rintro e w32 ⟨v485, rfl, ho0, hb⟩; refine ⟨_, rfl, ?_⟩; refine nx4_ (Kd.R_elder' (rU_ HO474.out) (Kd.R_base ho0) hb) (Kd.R_elder' (rU_ HO477.out) (Kd.R_base ho0) hb) (Kd.R_lower (Kd.R_new' (Kd.R_new' ho0 (Kd.R_lt (rU_ HO474.out))) (Kd.R_lt (rU_ HO477.out))) (below_size (bU_ HB.out))) (below_step (bU_ HB.out) hb) ?_; clear HO474 HO477 HB; intro HO474 HO477 HO486 HB; clear hb ho0))
    go_ret2
    exact ⟨_, by first | rfl | (simp [errW_none, errW_some] <;> rfl) | (simp [*, errW_none, errW_some] <;> rfl), Kd.R_mono (rU_ HO486.out) (fun _ hk => trivial), bU_ HB.out⟩
  ·rw [if_neg c8] at H
   have c8b0 : decide (0 < (t472.length : Int)) = false := decide_eq_false c8
   have c8b1 : decide (0 < t472.length) = false := decide_eq_false (by omega)
   clear c8
   revert H
   refine bd2_ fun t487 t488 A33 H => ?_
   try dsimp only at H
   simp only [Option.some.injEq, Prod.mk.injEq] at H
   obtain ⟨rfl, rfl⟩ := H
   go_enter Tryd.func21, Tryd.ntmps21
   go_wp2_with (first | ((with_reducible refine gate_callee (f := 39) rfl ?_); refine gl_ (some 11) Tryd.func39 #[.int .i64 a0] ?_; (with_reducible refine (attestorref01_Valid.calls a0 true _ A4.out).mono ?_); rintro e w' ⟨rfl, ⟨nd, rfl⟩⟩; refine ⟨_, rfl, ?_⟩) | ((with_reducible refine gate_callee (f := 41) rfl ?_); refine gl_ (some 15) Tryd.func41 #[.int .i64 a0, .slice A1 l1.length c1] ?_; (with_reducible refine (attestorref03_Normal.calls k a0 _ _ l1 t472 _ ?side1 ?side2 A6.out).mono ?_); (case side1 => exact cU_ HR1.out); (case side2 => exact HC1.out); rintro e w34 ⟨v473, rfl, ho0, hb⟩; refine ⟨_, rfl, ?_⟩; refine nx2_ (Kd.R_lower ho0 (below_size (bU_ HB.out))) (below_step (bU_ HB.out) hb) ?_; clear HB; intro HO474 HB; clear hb ho0) | ((with_reducible refine gate_callee (f := 41) rfl ?_); refine gl_ (some 18) Tryd.func41 #[.int .i64 a0, .slice A2 l2.length c2] ?_; (with_reducible refine (attestorref03_Normal.calls k a0 _ _ l2 t475 _ ?side1 ?side2 A7.out).mono ?_); (case side1 => exact cU_ (Kd.C_below HR2.out HB.out)); (case side2 => exact HC2.out); rintro e w35 ⟨v476, rfl, ho0, hb⟩; refine ⟨_, rfl, ?_⟩; refine nx3_ (Kd.R_elder' (rU_ HO474.out) (Kd.R_base ho0) hb) (Kd.R_lower (Kd.R_new' ho0 (Kd.R_lt (rU_ HO474.out))) (below_size (bU_ HB.out))) (below_step (bU_ HB.out) hb) ?_; clear HO474 HB; intro HO474 HO477 HB; clear hb ho0; obtain ⟨Ao36, co36, eo36⟩ := Kd.R_slice HO474.out; subst eo36; obtain ⟨Ao37, co37, eo37⟩ := Kd.R_slice HO477.out; subst eo37) | ((with_reducible refine gate_callee (f := 57) rfl ?_); refine gl_ (some 44) Tryd.func57 #[.int .i64 a0, .slice Ao36 t472.length co36, .slice Ao37 t475.length co37] ?_; (with_reducible refine (attestorref03_Mul.calls k a0 _ _ t472 _ _ t475 t487 t488 _ ?side1 ?side2 ?side3 ?side4 A33.out).mono ?_); (case side1 => exact cU_ ((Kd.R_reads' HO474.out).2.2)); (case side2 => exact (Kd.R_reads' HO474.out).2.1); (case side3 => exact cU_ ((Kd.R_reads' HO477.out).2.2)); (case side4 => exact (Kd.R_reads' HO477.out).2.1); rintro e w38 ⟨v489, rfl, ho0, hb⟩; refine ⟨_, rfl, ?_⟩; refine nx4_ (Kd.R_elder' (rU_ HO474.out) (Kd.R_base ho0) hb) (Kd.R_elder' (rU_ HO477.out) (Kd.R_base ho0) hb) (Kd.R_lower (Kd.R_new' (Kd.R_new' ho0 (Kd.R_lt (rU_ HO474.out))) (Kd.R_lt (rU_ HO477.out))) (below_size (bU_ HB.out))) (below_step (bU_ HB.out) hb) ?_; clear HO474 HO477 HB; intro HO474 HO477 HO490 HB; clear hb ho0))
   go_ret2
   exact ⟨_, by first | rfl | (simp [errW_none, errW_some] <;> rfl) | (simp [*, errW_none, errW_some] <;> rfl), Kd.R_mono (rU_ HO490.out) (fun _ hk => trivial), bU_ HB.out⟩
 ·replace c5 := Bool.eq_false_iff.mpr c5
  subst c5
  rw [if_neg (show ¬ (false = true) by decide)] at H
  simp only [Option.some.injEq, Prod.mk.injEq] at H
  obtain ⟨rfl, rfl⟩ := H
  go_enter Tryd.func21, Tryd.ntmps21
  go_wp2_with (first | ((with_reducible refine gate_callee (f := 39) rfl ?_); refine gl_ (some 11) Tryd.func39 #[.int .i64 a0] ?_; (with_reducible refine (attestorref01_Valid.calls a0 false _ A4.out).mono ?_); rintro e w' ⟨rfl, ⟨nd, rfl⟩⟩; refine ⟨_, rfl, ?_⟩))
  go_ret2
  exact ⟨_, by first | rfl | (simp [errW_none, errW_some] <;> rfl) | (simp [*, errW_none, errW_some] <;> rfl), by first | exact Kd.R_nil _ _ _ _ _ | exact Kd.N_nil _ _ _ _ _ | exact Kd.V_nil _ _ _ _ _ | exact Kd.Q_nil _ _ _ _ _ | exact Kd.S_nil _ _ _ _ _, bU_ HB.out⟩

/-! ### attestorlaw04_TransformMultiplies: function 5 -/
def attestorlaw04_TransformMultiplies.f (k : Nat) (a0 : Int) (l1 : List Int) (l2 : List Int) : Option (Bool) := (attestorlaw04_own.f l1 300).bind fun t491 => ((attestorlaw04_own.f l2 300).bind fun t494 => ((attestorlaw04_own.f t491 300).bind fun t497 => ((attestorlaw04_own.f t494 300).bind fun t500 => ((transform_Multiply.f k a0 t491 t494).bind fun bt503 => ((attestorref04_Multiply.f k a0 t497 t500).bind fun bt507 => (if bt503.2 = bt507.2 then ((attestorref01_Same.f k bt503.1 bt507.1).bind fun t511 => (if t511 = true then ((attestorref01_Same.f k t491 t497).bind fun t512 => (if t512 = true then ((attestorref01_Same.f k t494 t500).bind fun t513 => (if t513 = true then ((attestorlaw04_works.f k).bind fun t514 => (some t514)) else (none))) else (none))) else (none))) else (none)))))))
set_option maxHeartbeats 8000000 in
set_option maxRecDepth 100000 in
theorem attestorlaw04_TransformMultiplies.calls (k : Nat) (a0 : Int) (A1 : Option Addr) (c1 : Nat) (l1 : List Int) (A2 : Option Addr) (c2 : Nat) (l2 : List Int) (r : Bool) (w : World) (hG : Fld w) (hr1 : Kd.C (Kd.int .u64) w A1 l1.length l1) (hc1 : l1.length ≤ c1) (hr2 : Kd.C (Kd.int .u64) w A2 l2.length l2) (hc2 : l2.length ≤ c2) (h : attestorlaw04_TransformMultiplies.f k a0 l1 l2 = some r) :
  Calls Tryd.prog 5 #[.int .i64 a0, .slice A1 l1.length c1, .slice A2 l2.length c2] w fun e w' => e = .returned (.bool r) ∧ Below w.heap.size w w' := by
 have HG := ak hG
 clear hG
 have HR1 := ak hr1
 have HC1 := ak hc1
 clear hr1 hc1
 have HR2 := ak hr2
 have HC2 := ak hc2
 clear hr2 hc2
 have HB := ak (Below.refl w.heap.size w)
 have H : ((attestorlaw04_own.f l1 300).bind fun t491 => ((attestorlaw04_own.f l2 300).bind fun t494 => ((attestorlaw04_own.f t491 300).bind fun t497 => ((attestorlaw04_own.f t494 300).bind fun t500 => ((transform_Multiply.f k a0 t491 t494).bind fun bt503 => ((attestorref04_Multiply.f k a0 t497 t500).bind fun bt507 => (if bt503.2 = bt507.2 then ((attestorref01_Same.f k bt503.1 bt507.1).bind fun t511 => (if t511 = true then ((attestorref01_Same.f k t491 t497).bind fun t512 => (if t512 = true then ((attestorref01_Same.f k t494 t500).bind fun t513 => (if t513 = true then ((attestorlaw04_works.f k).bind fun t514 => (some t514)) else (none))) else (none))) else (none))) else (none)))))))) = some r := h
 clear h
 revert H
 refine bd_ fun t491 A4 H => ?_
 revert H
 refine bd_ fun t494 A5 H => ?_
 revert H
 refine bd_ fun t497 A6 H => ?_
 revert H
 refine bd_ fun t500 A7 H => ?_
 revert H
 refine bd2_ fun t503 t504 A8 H => ?_
 try dsimp only at H
 revert H
 refine bd2_ fun t507 t508 A9 H => ?_
 try dsimp only at H
 obtain ⟨c10, H⟩ : (t504 = t508) ∧ _ := it_ H
 have c10b0 := beq_iff_eq.mpr c10
 have c10b1 := bne_eq_false_iff_eq.mpr c10
 clear c10
 revert H
 refine bd_ fun t511 A11 H => ?_
 by_cases c12 : t511 = true
 ·subst c12
  rw [if_pos rfl] at H
  revert H
  refine bd_ fun t512 A13 H => ?_
  by_cases c14 : t512 = true
  ·subst c14
   rw [if_pos rfl] at H
   revert H
   refine bd_ fun t513 A15 H => ?_
   by_cases c16 : t513 = true
   ·subst c16
    rw [if_pos rfl] at H
    revert H
    refine bd_ fun t514 A17 H => ?_
    obtain rfl := Option.some.inj H
    go_enter Tryd.func5, Tryd.ntmps5
    go_wp2_with (first | ((with_reducible refine gate_callee (f := 11) rfl ?_); refine gl_ (some 14) Tryd.func11 #[.slice A1 l1.length c1, .int .i64 300] ?_; (with_reducible refine (attestorlaw04_own.calls _ _ l1 300 t491 _ ?side1 ?side2 A4.out).mono ?_); (case side1 => exact cU_ HR1.out); (case side2 => exact HC1.out); rintro e w18 ⟨v492, rfl, ho0, hb⟩; refine ⟨_, rfl, ?_⟩; refine nx2_ (Kd.R_lower ho0 (below_size (bU_ HB.out))) (below_step (bU_ HB.out) hb) ?_; clear HB; intro HO493 HB; clear hb ho0) | ((with_reducible refine gate_callee (f := 11) rfl ?_); refine gl_ (some 16) Tryd.func11 #[.slice A2 l2.length c2, .int .i64 300] ?_; (with_reducible refine (attestorlaw04_own.calls _ _ l2 300 t494 _ ?side1 ?side2 A5.out).mono ?_); (case side1 => exact cU_ (Kd.C_below HR2.out HB.out)); (case side2 => exact HC2.out); rintro e w19 ⟨v495, rfl, ho0, hb⟩; refine ⟨_, rfl, ?_⟩; refine nx3_ (Kd.R_elder' (rU_ HO493.out) (Kd.R_base ho0) hb) (Kd.R_lower (Kd.R_new' ho0 (Kd.R_lt (rU_ HO493.out))) (below_size (bU_ HB.out))) (below_step (bU_ HB.out) hb) ?_; clear HO493 HB; intro HO493 HO496 HB; clear hb ho0; obtain ⟨Ao20, co20, eo20⟩ := Kd.R_slice HO493.out; subst eo20) | ((with_reducible refine gate_callee (f := 11) rfl ?_); refine gl_ (some 18) Tryd.func11 #[.slice Ao20 t491.length co20, .int .i64 300] ?_; (with_reducible refine (attestorlaw04_own.calls _ _ t491 300 t497 _ ?side1 ?side2 A6.out).mono ?_); (case side1 => exact cU_ ((Kd.R_reads' HO493.out).2.2)); (case side2 => exact (Kd.R_reads' HO493.out).2.1); rintro e w21 ⟨v498, rfl, ho0, hb⟩; refine ⟨_, rfl, ?_⟩; refine nx4_ (Kd.R_elder' (rU_ HO493.out) (Kd.R_base ho0) hb) (Kd.R_elder' (rU_ HO496.out) (Kd.R_base ho0) hb) (Kd.R_lower (Kd.R_new' (Kd.R_new' ho0 (Kd.R_lt (rU_ HO493.out))) (Kd.R_lt (rU_ HO496.out))) (below_size (bU_ HB.out))) (below_step (bU_ HB.out) hb) ?_; clear HO493 HO496 HB; intro HO493 HO496 HO499 HB; clear hb ho0; obtain ⟨Ao22, co22, eo22⟩ := Kd.R_slice HO496.out; subst eo22) | ((with_reducible refine gate_callee (f := 11) rfl ?_); refine gl_ (some 20) Tryd.func11 #[.slice Ao22 t494.length co22, .int .i64 300] ?_; (with_reducible refine (attestorlaw04_own.calls _ _ t494 300 t500 _ ?side1 ?side2 A7.out).mono ?_); (case side1 => exact cU_ ((Kd.R_reads' HO496.out).2.2)); (case side2 => exact (Kd.R_reads' HO496.out).2.1); rintro e w23 ⟨v501, rfl, ho0, hb⟩; refine ⟨_, rfl, ?_⟩; refine nx5_ (Kd.R_elder' (rU_ HO493.out) (Kd.R_base ho0) hb) (Kd.R_elder' (rU_ HO496.out) (Kd.R_base ho0) hb) (Kd.R_elder' (rU_ HO499.out) (Kd.R_base ho0) hb) (Kd.R_lower (Kd.R_new' (Kd.R_new' (Kd.R_new' ho0 (Kd.R_lt (rU_ HO493.out))) (Kd.R_lt (rU_ HO496.out))) (Kd.R_lt (rU_ HO499.out))) (below_size (bU_ HB.out))) (below_step (bU_ HB.out) hb) ?_; clear HO493 HO496 HO499 HB; intro HO493 HO496 HO499 HO502 HB; clear hb ho0) | ((with_reducible refine gate_callee (f := 20) rfl ?_); refine gl_ (some 25) Tryd.func20 #[.int .i64 a0, .slice Ao20 t491.length co20, .slice Ao22 t494.length co22] ?_; (with_reducible refine (transform_Multiply.calls k a0 _ _ t491 _ _ t494 t503 t504 _ ?side1 ?side2 ?side3 ?side4 ?side5 A8.out).mono ?_); (case side1 => exact fU_ HG.out HB.out); (case side2 => exact cU_ ((Kd.R_reads' HO493.out).2.2)); (case side3 => exact (Kd.R_reads' HO493.out).2.1); (case side4 => exact cU_ ((Kd.R_reads' HO496.out).2.2)); (case side5 => exact (Kd.R_reads' HO496.out).2.1); rintro e w24 ⟨v505, rfl, ho0, hb⟩; refine ⟨_, rfl, ?_⟩; refine nx6_ (Kd.R_elder' (rU_ HO493.out) (Kd.R_base ho0) hb) (Kd.R_elder' (rU_ HO496.out) (Kd.R_base ho0) hb) (Kd.R_elder' (rU_ HO499.out) (Kd.R_base ho0) hb) (Kd.R_elder' (rU_ HO502.out) (Kd.R_base ho0) hb) (Kd.R_lower (Kd.R_new' (Kd.R_new' (Kd.R_new' (Kd.R_new' ho0 (Kd.R_lt (rU_ HO493.out))) (Kd.R_lt (rU_ HO496.out))) (Kd.R_lt (rU_ HO499.out))) (Kd.R_lt (rU_ HO502.out))) (below_size (bU_ HB.out))) (below_step (bU_ HB.out) hb) ?_; clear HO493 HO496 HO499 HO502 HB; intro HO493 HO496 HO499 HO502 HO506 HB; clear hb ho0; obtain ⟨Ao25, co25, eo25⟩ := Kd.R_slice HO499.out; subst eo25; obtain ⟨Ao26, co26, eo26⟩ := Kd.R_slice HO502.out; subst eo26) | ((with_reducible refine gate_callee (f := 21) rfl ?_); refine gl_ (some 32) Tryd.func21 #[.int .i64 a0, .slice Ao25 t497.length co25, .slice Ao26 t500.length co26] ?_; (with_reducible refine (attestorref04_Multiply.calls k a0 _ _ t497 _ _ t500 t507 t508 _ ?side1 ?side2 ?side3 ?side4 A9.out).mono ?_); (case side1 => exact cU_ ((Kd.R_reads' HO499.out).2.2)); (case side2 => exact (Kd.R_reads' HO499.out).2.1); (case side3 => exact cU_ ((Kd.R_reads' HO502.out).2.2)); (case side4 => exact (Kd.R_reads' HO502.out).2.1); rintro e w27 ⟨v509, rfl, ho0, hb⟩; refine ⟨_, rfl, ?_⟩; refine nx7_ (Kd.R_elder' (rU_ HO493.out) (Kd.R_base ho0) hb) (Kd.R_elder' (rU_ HO496.out) (Kd.R_base ho0) hb) (Kd.R_elder' (rU_ HO499.out) (Kd.R_base ho0) hb) (Kd.R_elder' (rU_ HO502.out) (Kd.R_base ho0) hb) (Kd.R_elder' (rU_ HO506.out) (Kd.R_base ho0) hb) (Kd.R_lower (Kd.R_new' (Kd.R_new' (Kd.R_new' (Kd.R_new' (Kd.R_new' ho0 (Kd.R_lt (rU_ HO493.out))) (Kd.R_lt (rU_ HO496.out))) (Kd.R_lt (rU_ HO499.out))) (Kd.R_lt (rU_ HO502.out))) (Kd.R_lt (rU_ HO506.out))) (below_size (bU_ HB.out))) (below_step (bU_ HB.out) hb) ?_; clear HO493 HO496 HO499 HO502 HO506 HB; intro HO493 HO496 HO499 HO502 HO506 HO510 HB; clear hb ho0; obtain ⟨Ao28, co28, eo28⟩ := Kd.R_slice HO506.out; subst eo28; obtain ⟨Ao29, co29, eo29⟩ := Kd.R_slice HO510.out; subst eo29) | (go_at_call 14; (with_reducible refine (attestorref01_Same.calls k _ _ t503 _ _ t507 true _ ?side1 ?side2 ?side3 ?side4 A11.out).mono ?_); (case side1 => exact cU_ ((Kd.R_reads' HO506.out).2.2)); (case side2 => exact (Kd.R_reads' HO506.out).2.1); (case side3 => exact cU_ ((Kd.R_reads' HO510.out).2.2)); (case side4 => exact (Kd.R_reads' HO510.out).2.1); rintro e w' ⟨rfl, ⟨nd, rfl⟩⟩) | (go_at_call 14; (with_reducible refine (attestorref01_Same.calls k _ _ t491 _ _ t497 true _ ?side1 ?side2 ?side3 ?side4 A13.out).mono ?_); (case side1 => exact cU_ ((Kd.R_reads' HO493.out).2.2)); (case side2 => exact (Kd.R_reads' HO493.out).2.1); (case side3 => exact cU_ ((Kd.R_reads' HO499.out).2.2)); (case side4 => exact (Kd.R_reads' HO499.out).2.1); rintro e w' ⟨rfl, ⟨nd, rfl⟩⟩) | (go_at_call 14; (with_reducible refine (attestorref01_Same.calls k _ _ t494 _ _ t500 true _ ?side1 ?side2 ?side3 ?side4 A15.out).mono ?_); (case side1 => exact cU_ ((Kd.R_reads' HO496.out).2.2)); (case side2 => exact (Kd.R_reads' HO496.out).2.1); (case side3 => exact cU_ ((Kd.R_reads' HO502.out).2.2)); (case side4 => exact (Kd.R_reads' HO502.out).2.1); rintro e w' ⟨rfl, ⟨nd, rfl⟩⟩) | (go_at_call 15; (with_reducible refine (attestorlaw04_works.calls k  t514 _ ?side1 A17.out).mono ?_); (case side1 => exact fU_ HG.out HB.out); rintro e w30 ⟨rfl, hb⟩; refine nx7_ (Kd.R_below (rU_ HO493.out) hb) (Kd.R_below (rU_ HO496.out) hb) (Kd.R_below (rU_ HO499.out) hb) (Kd.R_below (rU_ HO502.out) hb) (Kd.R_below (rU_ HO506.out) hb) (Kd.R_below (rU_ HO510.out) hb) (below_step (bU_ HB.out) hb) ?_; clear HO493 HO496 HO499 HO502 HO506 HO510 HB; intro HO493 HO496 HO499 HO502 HO506 HO510 HB; clear hb))
    go_ret
    exact ⟨by first | rfl | (simp [errW_none, errW_some] <;> rfl) | (simp [*, errW_none, errW_some] <;> rfl), bU_ HB.out⟩
   ·replace c16 := Bool.eq_false_iff.mpr c16
    subst c16
    rw [if_neg (show ¬ (false = true) by decide)] at H
    exact absurd H (by simp)
  ·replace c14 := Bool.eq_false_iff.mpr c14
   subst c14
   rw [if_neg (show ¬ (false = true) by decide)] at H
   exact absurd H (by simp)
 ·replace c12 := Bool.eq_false_iff.mpr c12
  subst c12
  rw [if_neg (show ¬ (false = true) by decide)] at H
  exact absurd H (by simp)

/-- THE ONE PURE STATEMENT of attestorlaw04_TransformMultiplies: yours. -/
def attestorlaw04_TransformMultiplies.Pure : Prop := ∀ (a0 : Int) (l1 : List Int) (l2 : List Int), (Lit.int .i64 a0).wf = true → l1.length ≤ maxLen → l1.length * 8 ≤ 140737488351232 → (∀ x ∈ l1, (Lit.int .u64 x).wf = true) → l2.length ≤ maxLen → l2.length * 8 ≤ 140737488351232 → (∀ x ∈ l2, (Lit.int .u64 x).wf = true) → ∃ k, attestorlaw04_TransformMultiplies.f k a0 l1 l2 = some true
theorem attestorlaw04_TransformMultiplies.walk (P : attestorlaw04_TransformMultiplies.Pure) (a0 : Int) (a1 : Option Addr) (len1 cap1 : Nat) (z1 : List Int) (a2 : Option Addr) (len2 cap2 : Nat) (z2 : List Int) (w : World) (hG : Fld w) (w0 : (Lit.int .i64 a0).wf = true) (w1 : (a1 = none ∧ len1 = 0 ∧ cap1 = 0 ∧ z1 = []) ∨ ∃ x, a1 = some x ∧ len1 ≤ cap1 ∧ cap1 ≤ maxLen ∧ z1.length = cap1 ∧ (∀ i, i < z1.length → w.cell? (x.add i) = some (.int .u64 (z1.getD i 0))) ∧ ∀ n ∈ z1, (Lit.int .u64 n).wf = true) (y1 : len1 * 8 ≤ 140737488351232) (w2 : (a2 = none ∧ len2 = 0 ∧ cap2 = 0 ∧ z2 = []) ∨ ∃ x, a2 = some x ∧ len2 ≤ cap2 ∧ cap2 ≤ maxLen ∧ z2.length = cap2 ∧ (∀ i, i < z2.length → w.cell? (x.add i) = some (.int .u64 (z2.getD i 0))) ∧ ∀ n ∈ z2, (Lit.int .u64 n).wf = true) (y2 : len2 * 8 ≤ 140737488351232) :
  Calls Tryd.prog 5 #[.int .i64 a0, .slice a1 len1 cap1, .slice a2 len2 cap2] w fun e w' => e = .returned (.bool true) ∧ Below w.heap.size w w' := by
 obtain ⟨l1, rfl, hr1, hm1, hw1, hc1⟩ := ReadsInt.ofRowC w1
 obtain ⟨l2, rfl, hr2, hm2, hw2, hc2⟩ := ReadsInt.ofRowC w2
 obtain ⟨k, h⟩ := P a0 l1 l2 w0 hm1 y1 hw1 hm2 y2 hw2
 refine (attestorlaw04_TransformMultiplies.calls k a0 _ _ l1 _ _ l2 true w hG (Kd.C_of_reads (d := (0 : Int)) (h1 := fun _ => rfl) hr1) hc1 (Kd.C_of_reads (d := (0 : Int)) (h1 := fun _ => rfl) hr2) hc2 h).mono ?_
 rintro e w' ⟨rfl, hd⟩
 exact ⟨rfl, hd⟩

end Go.Proofs.YtdjjdlkglinlgaaDoor.Q

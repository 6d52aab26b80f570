import Derived.Test.YthinfmfjpaikiaaDoorQ0
import Derived.Test.YthinfmfjpaikiaaDoorQ4
namespace Go.Proofs.YthinfmfjpaikiaaDoor.Q
open Go.RowKit Go.Proofs.YthinfmfjpaikiaaDoorW.PrintWords Go.Proofs.YthinfmfjpaikiaaDoorW.PrintLast Go.Proofs.YthinfmfjpaikiaaDoorW.PrintMore
open Kd (R_mono R_far R_lower R_new' R_elder' R_base R_lt R_slice R_reads' R_lit R_make C_below fresh' R_drew)
attribute [local go_sem] max2_int min2_int max_two min_two max_three min_three max_four min_four   -- for this text's walks alone
set_option linter.unusedVariables false
set_option linter.unusedSimpArgs false

mutual
def attestorref03_Mul.j0 : Nat → Int → List Int → List Int → Bool → Option (List Int × Int)
 | 0, _, _, _, _ => none
 | k + 1, x0, x1, x2, x27 => if x27 = true then (some (([] : List Int), 0)) else (if (wrap64 ((wrap64 ((x1.length : Int) + (x2.length : Int))) - 1)) > 32768 then (some (([] : List Int), 3)) else (if 0 ≤ (wrap64 ((wrap64 ((x1.length : Int) + (x2.length : Int))) - 1)) then (if (wrap64 ((wrap64 ((x1.length : Int) + (x2.length : Int))) - 1) : Int).toNat ≤ 35184372088832 then (attestorref03_Mul.l0 k x0 x1 x2 (List.replicate (wrap64 ((wrap64 ((x1.length : Int) + (x2.length : Int))) - 1) : Int).toNat 0) 0) else (none)) else (none)))
def attestorref03_Mul.l0 : Nat → Int → List Int → List Int → List Int → Int → Option (List Int × Int)
 | 0, _, _, _, _, _ => none
 | k + 1, x0, x1, x2, x8, x9 => if x9 < (x1.length : Int) then (attestorref03_Mul.l1 k x0 x1 x2 x8 x9 0) else (some (x8, 0))
def attestorref03_Mul.l1 : Nat → Int → List Int → List Int → List Int → Int → Int → Option (List Int × Int)
 | 0, _, _, _, _, _, _ => none
 | k + 1, x0, x1, x2, x8, x9, x10 => if x10 < (x2.length : Int) then (if 0 ≤ (wrap64 (x9 + x10)) then (if (wrap64 (x9 + x10)) < (x8.length : Int) then (if 0 ≤ x9 then (if x9 < (x1.length : Int) then (if 0 ≤ x10 then ((attestorref01_Mul.f x0 (rd x1 x9) (rd x2 x10)).bind fun t212 => ((attestorref01_Add.f x0 (rd x8 (wrap64 (x9 + x10))) t212).bind fun t213 => (attestorref03_Mul.l1 k x0 x1 x2 (x8.set ((wrap64 (x9 + x10)) : Int).toNat t213) x9 (wrap64 (x10 + 1))))) else (none)) else (none)) else (none)) else (none)) else (none)) else (attestorref03_Mul.l0 k x0 x1 x2 x8 (wrap64 (x9 + 1)))
end
def attestorref03_Mul.f (k : Nat) (a0 : Int) (l1 : List Int) (l2 : List Int) : Option (List Int × Int) := (attestorref01_Valid.f a0).bind fun t199 => (if t199 = true then ((attestorref03_Normal.f k a0 l1).bind fun t200 => ((attestorref03_Normal.f k a0 l2).bind fun t203 => (if (t200.length : Int) = 0 then (attestorref03_Mul.j0 k a0 t200 t203 true) else (attestorref03_Mul.j0 k a0 t200 t203 ((t203.length : Int) == 0))))) else (some (([] : List Int), 1)))
def attestorref03_Mul.T15 : Bool × List (List Nat × List Nat) := (true, [([], []), ([], []), ([], []), ([1, 2], [1, 2]), ([], []), ([], []), ([], []), ([], []), ([6, 7], [6, 7]), ([5, 8], [5, 8]), ([9], [9]), ([], []), ([], []), ([], []), ([12, 13], [12, 13]), ([14], [14]), ([], []), ([], []), ([16, 17], [16, 17]), ([18], [18]), ([11, 15, 19], [11, 15, 19]), ([4, 10, 20, 20], [4, 10, 20]), ([0, 3, 0, 1, 2, 3, 4, 5, 6, 7, 8, 9, 10, 11, 12, 13, 14, 15, 16, 17, 18, 19, 20, 21], [0, 3]), ([22, 21, 21, 0, 1, 2, 3, 4, 5, 6, 7, 8, 9, 10, 11, 12, 13, 14, 15, 16, 17, 18, 19, 20, 21], [21, 22])])
def attestorref03_Mul.B15 : List Nat := [0, 0, 0, 6, 0, 0, 0, 0, 192, 480, 992, 0, 0, 0, 12288, 28672, 0, 0, 196608, 458752, 1046528, 2097136, 4194303, 8388607]
theorem attestorref03_Mul.tab15 : rtab .any (opsOf Tryd.f84 15) = attestorref03_Mul.T15 := by kernel_rfl
theorem attestorref03_Mul.bits15 : waitsOk attestorref03_Mul.T15.2 attestorref03_Mul.B15 = true := by kernel_rfl
set_option maxHeartbeats 8000000 in
set_option maxRecDepth 100000 in
theorem attestorref03_Mul.calls (k : Nat) (a0 : Int) (A1 : Option Addr) (c1 : Nat) (l1 : List Int) (A2 : Option Addr) (c2 : Nat) (l2 : List Int) (r1 : List Int) (r2 : Int) (w : World) (hr1 : Kd.C (Kd.int .u64) w A1 l1.length l1) (hc1 : l1.length ≤ c1) (hr2 : Kd.C (Kd.int .u64) w A2 l2.length l2) (hc2 : l2.length ≤ c2) (h : attestorref03_Mul.f k a0 l1 l2 = some (r1, r2)) :
  Calls Tryd.prog 84 #[.int .i64 a0, .slice A1 l1.length c1, .slice A2 l2.length c2] w fun e w' => ∃ v0_ : Value, e = .returned (.tuple #[v0_, .int .i64 r2]) ∧ Kd.R (Kd.int .u64) 22 w' w.heap.size (fun _ => True) v0_ r1 ∧ Below w.heap.size w w' := by
 have HR1 := ak hr1
 have HC1 := ak hc1
 clear hr1 hc1
 have HR2 := ak hr2
 have HC2 := ak hc2
 clear hr2 hc2
 have HB := ak (Below.refl w.heap.size w)
 have H := h
 clear h
 unfold attestorref03_Mul.f at H
 revert H
 refine bd_ fun t199 A4 H => ?_
 by_cases c5 : t199 = true
 ·subst c5
  rw [if_pos rfl] at H
  revert H
  refine bd_ fun t200 A6 H => ?_
  revert H
  refine bd_ fun t203 A7 H => ?_
  have HC8 := ak H
  clear H
  go_enter Tryd.func84, Tryd.ntmps84
  go_upto_region 4 with (first | ((with_reducible refine gate_callee (f := 66) rfl ?_); refine gl_ (some 12) Tryd.func66 #[.int .i64 a0] ?_; (with_reducible refine (attestorref01_Valid.calls a0 true _ A4.out).mono ?_); rintro e w' ⟨rfl, ⟨nd, rfl⟩⟩; refine ⟨_, rfl, ?_⟩) | ((with_reducible refine gate_callee (f := 87) rfl ?_); refine gl_ (some 16) Tryd.func87 #[.int .i64 a0, .slice A1 l1.length c1] ?_; (with_reducible refine (attestorref03_Normal.calls k a0 _ _ l1 t200 _ ?side1 ?side2 A6.out).mono ?_); (case side1 => exact cU_ HR1.out); (case side2 => exact HC1.out); rintro e w9 ⟨v201, rfl, ho0, hb⟩; refine ⟨_, rfl, ?_⟩; refine nx2_ (R_lower ho0 (below_size (bU_ HB.out))) (below_step (bU_ HB.out) hb) ?_; clear HB; intro HO202 HB; clear hb ho0) | ((with_reducible refine gate_callee (f := 87) rfl ?_); refine gl_ (some 19) Tryd.func87 #[.int .i64 a0, .slice A2 l2.length c2] ?_; (with_reducible refine (attestorref03_Normal.calls k a0 _ _ l2 t203 _ ?side1 ?side2 A7.out).mono ?_); (case side1 => exact cU_ (C_below HR2.out HB.out)); (case side2 => exact HC2.out); rintro e w10 ⟨v204, rfl, ho0, hb⟩; refine ⟨_, rfl, ?_⟩; refine nx3_ (R_elder' (rU_ HO202.out) (R_base ho0) hb) (R_lower (R_new' ho0 (R_lt (rU_ HO202.out))) (below_size (bU_ HB.out))) (below_step (bU_ HB.out) hb) ?_; clear HO202 HB; intro HO202 HO205 HB; clear hb ho0))
  (try simp only [Act.put, s1_, s2_, s3_])
  go_cut [27] (fun v27 wc => ∃ (kq : Nat) (x27_7 : Bool), v27 = .bool x27_7 ∧ Aside0 (attestorref03_Mul.j0 kq a0 t200 t203 x27_7 = some (r1, r2)) ∧ Aside0 (kq ≤ k) ∧ Aside0 (Kd.R (Kd.int .u64) 22 wc w.heap.size (fun k_ => some k_ ≠ (v204 : Value).ownBlock) v201 t200) ∧ Aside0 (Kd.R (Kd.int .u64) 22 wc w.heap.size (fun k_ => some k_ ≠ (v201 : Value).ownBlock) v204 t203) ∧ Aside0 (Below w.heap.size w wc))
  case first =>
   have H := HC8.out
   clear HC8
   by_cases c11 : (t200.length : Int) = 0
   ·rw [if_pos c11] at H
    have c11b0 := beq_iff_eq.mpr c11
    have c11b1 := bne_eq_false_iff_eq.mpr c11
    clear c11
    (first | rw [c11b0] | (simp only [i64_w, i32_w]; rw [c11b0]) | rw [c11b1] | skip)
    have H' := ak H
    clear H
    obtain ⟨Ao12, co12, eo12⟩ := R_slice HO202.out
    subst eo12
    go_wp2
    go_meet
    case rel => exact ⟨_, (true), gb_, H', ⟨by first | omega | exact Nat.le_refl _⟩, ⟨R_mono (rU_ HO202.out) (fun _ hk => hk.2)⟩, ⟨R_mono (rU_ HO205.out) (fun _ hk => hk.2)⟩, ⟨bU_ HB.out⟩⟩
   rw [if_neg c11] at H
   have c11b0 := beq_eq_false_iff_ne.mpr c11
   have c11b1 := bne_iff_ne.mpr c11
   have c11b2 : ¬ (t200 = []) := fun h_ => c11 (by rw [h_]; rfl)
   (first | rw [c11b0] | (simp only [i64_w, i32_w]; rw [c11b0]) | rw [c11b1] | skip)
   have H' := ak H
   clear H
   obtain ⟨Ao13, co13, eo13⟩ := R_slice HO202.out
   subst eo13
   obtain ⟨Ao14, co14, eo14⟩ := R_slice HO205.out
   subst eo14
   go_wp2
   go_meet
   case rel => exact ⟨_, (((t203.length : Int) == 0)), gb_, H', ⟨by first | omega | exact Nat.le_refl _⟩, ⟨R_mono (rU_ HO202.out) (fun _ hk => hk.2)⟩, ⟨R_mono (rU_ HO205.out) (fun _ hk => hk.2)⟩, ⟨bU_ HB.out⟩⟩
  case rest =>
   clear HC8
   (try clear c1); (try clear c2); (try clear p2); (try clear c5); (try clear c6); (try clear c8); (try clear c11); (try clear c11b0); (try clear c11b1); (try clear c11b2)
   obtain ⟨kq, x27_7, rfl, HA, HJ7, HO_1, HO_2, HB⟩ := hcut
   cases kq with
   | zero => exact absurd HA.out (by simp [attestorref03_Mul.j0])
   | succ kj7 =>
    have H := HA.out
    clear HA
    simp only [attestorref03_Mul.j0] at H
    by_cases c15 : x27_7 = true
    ·subst c15
     rw [if_pos rfl] at H
     simp only [Option.some.injEq, Prod.mk.injEq] at H
     obtain ⟨rfl, rfl⟩ := H
     go_wp2
     go_ret2
     exact ⟨_, eW_, by first | exact Kd.R_nil _ _ _ _ _ | exact Kd.N_nil _ _ _ _ _ | exact Kd.V_nil _ _ _ _ _ | exact Kd.Q_nil _ _ _ _ _ | exact Kd.S_nil _ _ _ _ _, bU_ HB.out⟩
    replace c15 := Bool.eq_false_iff.mpr c15
    subst c15
    rw [if_neg (show ¬ (false = true) by decide)] at H
    by_cases c16 : (wrap64 ((wrap64 ((t200.length : Int) + (t203.length : Int))) - 1)) > 32768
    ·rw [if_pos c16] at H
     have c16b0 : decide (32768 < (wrap64 ((wrap64 ((t200.length : Int) + (t203.length : Int))) - 1))) = true := decide_eq_true c16
     clear c16
     simp only [Option.some.injEq, Prod.mk.injEq] at H
     obtain ⟨rfl, rfl⟩ := H
     obtain ⟨Ao17, co17, eo17⟩ := R_slice HO_1.out
     subst eo17
     obtain ⟨Ao18, co18, eo18⟩ := R_slice HO_2.out
     subst eo18
     go_wp2
     go_ret2
     exact ⟨_, eW_, by first | exact Kd.R_nil _ _ _ _ _ | exact Kd.N_nil _ _ _ _ _ | exact Kd.V_nil _ _ _ _ _ | exact Kd.Q_nil _ _ _ _ _ | exact Kd.S_nil _ _ _ _ _, bU_ HB.out⟩
    rw [if_neg c16] at H
    have c16b0 : decide (32768 < (wrap64 ((wrap64 ((t200.length : Int) + (t203.length : Int))) - 1))) = false := decide_eq_false c16
    clear c16
    obtain ⟨ji19, hji19⟩ : ∃ j_ : Int, (wrap64 ((wrap64 ((t200.length : Int) + (t203.length : Int))) - 1)) = j_ := ⟨_, rfl⟩
    first | rw [hji19] at H | simp only [hji19] at H
    (try rw [hji19] at c16b0)
    have hji19w : (IntKind.i64.wrap ((wrap64 ((t200.length : Int) + (t203.length : Int))) - 1)) = ji19 := (i64_w _).trans hji19
    obtain ⟨c20, H⟩ : (0 ≤ (ji19)) ∧ _ := it_ H
    have c20b0 := eq_true c20
    have c20b1 := decide_eq_true c20
    clear c20
    obtain ⟨c21, H⟩ : ((ji19 : Int).toNat ≤ 35184372088832) ∧ _ := it_ H
    have c21b0 := eq_true c21
    have c21b1 := decide_eq_true c21
    clear c21
    obtain ⟨y206, hy206⟩ : ∃ y_ : List Int, y_ = (List.replicate (ji19 : Int).toNat 0) := ⟨_, rfl⟩
    first | rw [Option.bind_some, ← hy206] at H | rw [← hy206] at H
    have Ny206 := ak hy206
    clear hy206
    have H' := ak H
    clear H
    obtain ⟨Ao22, co22, eo22⟩ := R_slice HO_1.out
    subst eo22
    obtain ⟨Ao23, co23, eo23⟩ := R_slice HO_2.out
    subst eo23
    go_wp2_with (first | ((with_reducible refine gate_dst (N := 41) rfl ?_); (try (refine gate_guard (by rfl) ?_; dsimp only)); refine R_make (Kd.int .u64) _ 22 rfl (N := 41) rfl 33 _ _ rfl ji19 ?hx ?hy Tryd.underlying33 (.int .u64 0) 8 info22 rfl (by decide) (by omega) 0 (ok := fun _ => True) (okp := fun _ => True) rfl (fun _ hk => hk) trivial od_ (Nat.le_trans (Nat.mul_le_mul_right _ (od_ : ji19.toNat ≤ 35184372088832)) (by omega)) (Below.refl _ _) (Nat.le_refl _) ?_; (case hx => first | rfl | (simp only [hji19]; rfl)); (case hy => first | rfl | (simp only [hji19]; rfl)); intro v207 w24 ho25 hb hg_ hnew_; clear hg_ hnew_; (first | rw [← Ny206.out] at ho25 | (simp only [Int.reduceToNat] at ho25; rw [← Ny206.out] at ho25)); refine nx4_ (R_elder' (rU_ HO_1.out) (R_base ho25) hb) (R_elder' (rU_ HO_2.out) (R_base ho25) hb) (R_lower (R_new' (R_new' ho25 (R_lt (rU_ HO_1.out))) (R_lt (rU_ HO_2.out))) (below_size (bU_ HB.out))) (below_step (bU_ HB.out) hb) ?_; clear HO_1 HO_2 HB; intro HO_1 HO_2 HO208 HB; clear hb ho25))
    go_loopg [9] kj7 (fun kq v9 w' => ∃ (x8_2 : List Int) (x9_2 : Int), v9 = .int .i64 x9_2 ∧ Aside0 (attestorref03_Mul.l0 kq a0 t200 t203 x8_2 x9_2 = some (r1, r2)) ∧ Aside0 (kq ≤ kj7) ∧ Aside0 (Kd.R (Kd.int .u64) 22 w' w.heap.size (fun k_ => some k_ ≠ ((.slice Ao23 t203.length co23) : Value).ownBlock ∧ some k_ ≠ (v207 : Value).ownBlock) (.slice Ao22 t200.length co22) t200) ∧ Aside0 (Kd.R (Kd.int .u64) 22 w' w.heap.size (fun k_ => some k_ ≠ ((.slice Ao22 t200.length co22) : Value).ownBlock ∧ some k_ ≠ (v207 : Value).ownBlock) (.slice Ao23 t203.length co23) t203) ∧ Aside0 (Kd.R (Kd.int .u64) 22 w' w.heap.size (fun k_ => some k_ ≠ ((.slice Ao22 t200.length co22) : Value).ownBlock ∧ some k_ ≠ ((.slice Ao23 t203.length co23) : Value).ownBlock) v207 x8_2) ∧ Aside0 (Below w.heap.size w w'))
    case atStart => exact ⟨(y206), (0), gb_, H', ⟨Nat.le_refl _⟩, ⟨rU_ HO_1.out⟩, ⟨rU_ HO_2.out⟩, ⟨R_mono (rU_ HO208.out) (fun _ hk => ⟨hk.1.2, hk.2⟩)⟩, ⟨bU_ HB.out⟩⟩
    case round =>
     clear H'
     (try clear c1); (try clear c2); (try clear p2); (try clear c5); (try clear c6); (try clear p6); (try clear c8); (try clear c11); (try clear c11b0); (try clear c11b1); (try clear c11b2); (try clear c15); (try clear c16); (try clear c16b0); (try clear c20); (try clear c20b0); (try clear c20b1); (try clear c21); (try clear c21b0); (try clear c21b1)
     obtain ⟨x8_2, x9_2, rfl, HA, HK2, HO_1, HO_2, HO_8, HB⟩ := hrel
     cases gk with
     | zero => exact absurd HA.out (by simp [attestorref03_Mul.l0])
     | succ k2 =>
      have H := HA.out
      clear HA
      simp only [attestorref03_Mul.l0] at H
      by_cases c26 : x9_2 < (t200.length : Int)
      ·rw [if_pos c26] at H
       have c26b0 := decide_eq_true c26
       clear c26
       have H' := ak H
       clear H
       go_wp2
       go_loopg [10] k2 (fun kq v10 w' => ∃ (x8_3 : List Int) (x10_3 : Int), v10 = .int .i64 x10_3 ∧ Aside0 (attestorref03_Mul.l1 kq a0 t200 t203 x8_3 x9_2 x10_3 = some (r1, r2)) ∧ Aside0 (kq ≤ k2) ∧ Aside0 (Kd.R (Kd.int .u64) 22 w' w.heap.size (fun k_ => some k_ ≠ ((.slice Ao23 t203.length co23) : Value).ownBlock ∧ some k_ ≠ (v207 : Value).ownBlock) (.slice Ao22 t200.length co22) t200) ∧ Aside0 (Kd.R (Kd.int .u64) 22 w' w.heap.size (fun k_ => some k_ ≠ ((.slice Ao22 t200.length co22) : Value).ownBlock ∧ some k_ ≠ (v207 : Value).ownBlock) (.slice Ao23 t203.length co23) t203) ∧ Aside0 (Kd.R (Kd.int .u64) 22 w' w.heap.size (fun k_ => some k_ ≠ ((.slice Ao22 t200.length co22) : Value).ownBlock ∧ some k_ ≠ ((.slice Ao23 t203.length co23) : Value).ownBlock) v207 x8_3) ∧ Aside0 (Below w.heap.size w w'))
       case atStart => exact ⟨(x8_2), (0), gb_, H', ⟨Nat.le_refl _⟩, ⟨rU_ HO_1.out⟩, ⟨rU_ HO_2.out⟩, ⟨rU_ HO_8.out⟩, ⟨bU_ HB.out⟩⟩
       case round =>
        clear H'
        (try clear c1); (try clear c2); (try clear p2); (try clear c5); (try clear c6); (try clear p6); (try clear c8); (try clear c11); (try clear c11b0); (try clear c11b1); (try clear c11b2); (try clear c15); (try clear c16); (try clear c16b0); (try clear c20); (try clear c20b0); (try clear c20b1); (try clear c21); (try clear c21b0); (try clear c21b1); (try clear c26); (try clear c26b0)
        obtain ⟨x8_3, x10_3, rfl, HA, HK3, HO_1, HO_2, HO_8, HB⟩ := hrel
        cases gk with
        | zero => exact absurd HA.out (by simp [attestorref03_Mul.l1])
        | succ k3 =>
         have H := HA.out
         clear HA
         simp only [attestorref03_Mul.l1] at H
         by_cases c27 : x10_3 < (t203.length : Int)
         ·rw [if_pos c27] at H
          have c27b0 := decide_eq_true c27
          clear c27
          obtain ⟨ji28, hji28⟩ : ∃ j_ : Int, (wrap64 (x9_2 + x10_3)) = j_ := ⟨_, rfl⟩
          first | rw [hji28] at H | simp only [hji28] at H
          have hji28w : (IntKind.i64.wrap (x9_2 + x10_3)) = ji28 := (i64_w _).trans hji28
          obtain ⟨c29, H⟩ : (0 ≤ (ji28)) ∧ _ := it_ H
          have c29b0 := decide_eq_true c29
          clear c29
          obtain ⟨c30, H⟩ : ((ji28) < (x8_3.length : Int)) ∧ _ := it_ H
          have c30b0 := decide_eq_true c30
          clear c30
          obtain ⟨c31, H⟩ : (0 ≤ x9_2) ∧ _ := it_ H
          have c31b0 := decide_eq_true c31
          clear c31
          obtain ⟨c32, H⟩ : (x9_2 < (t200.length : Int)) ∧ _ := it_ H
          have c32b0 := decide_eq_true c32
          clear c32
          obtain ⟨c33, H⟩ : (0 ≤ x10_3) ∧ _ := it_ H
          have c33b0 := decide_eq_true c33
          clear c33
          revert H
          refine bd_ fun t212 A34 H => ?_
          revert H
          refine bd_ fun t213 A35 H => ?_
          obtain ⟨y214, hy214⟩ : ∃ y_ : List Int, y_ = (x8_3.set ((ji28) : Int).toNat t213) := ⟨_, rfl⟩
          first | rw [Option.bind_some, ← hy214] at H | rw [← hy214] at H
          have Ny214 := ak hy214
          clear hy214
          have H' := ak H
          clear H
          try go_wp2
          refine nx4_ (R_drew HO_1.out) (R_drew HO_2.out) (R_drew HO_8.out) (below_drew1 HB.out) ?_
          clear HO_1 HO_2 HO_8 HB
          intro HO_1 HO_2 HO_8 HB
          obtain ⟨Ao39, co39, eo39⟩ := R_slice HO_8.out
          (first | subst eo39 | (injection eo39 with f1_ f2_ f3_; have f4_ := f1_.symm; have f5_ := f3_.symm; clear f1_ f2_ f3_; subst f4_; subst f5_))
          have pfr38 : 0 ≤ ((ji28) : Int) := od_
          have qfr38 : ((ji28) : Int) < ((x8_3.length : Int) : Int) := od_
          obtain ⟨gofr38, cofr38, eofr38, gbfr38, glfr38, clfr38, HGfr38⟩ := Kd.R_form HO_8.out (by omega)
          (first | cases eofr38 | (injection eofr38 with ea_ en_ ec_; (first | subst ea_ | (injection ea_ with ea_; subst ea_)); subst ec_; clear en_))
          have GBfr38 := ak gbfr38
          have GGfr38 := ak HGfr38
          clear gbfr38 glfr38 HGfr38
          clear pfr38 qfr38
          have p209 : 0 ≤ ((ji28) : Int) := od_
          have q209 : (ji28) < (x8_3.length : Int) := od_
          obtain ⟨ad209, e209, hx209_0⟩ := Kd.at_int (R_reads' HO_8.out).2.2 (ji28) p209 q209
          obtain rfl : (⟨gofr38, 0, none⟩ : Addr) = ad209 := (by injection e209)
          (first | simp only [add_plain] at hx209_0 | simp only [add_at] at hx209_0 | simp only [Addr.add, Nat.zero_add] at hx209_0 | skip)
          replace p209 := eq_true p209
          replace q209 := eq_true q209
          have pfr40 : 0 ≤ (x9_2 : Int) := od_
          have qfr40 : (x9_2 : Int) < ((t200.length : Int) : Int) := od_
          obtain ⟨gofr40, cofr40, eofr40, gbfr40, glfr40, clfr40, HGfr40⟩ := Kd.R_form HO_1.out (by omega)
          (first | cases eofr40 | (injection eofr40 with ea_ en_ ec_; (first | subst ea_ | (injection ea_ with ea_; subst ea_)); subst ec_; clear en_))
          have GBfr40 := ak gbfr40
          have GGfr40 := ak HGfr40
          clear gbfr40 glfr40 HGfr40
          clear pfr40 qfr40
          have p210 : 0 ≤ (x9_2 : Int) := od_
          have q210 : x9_2 < (t200.length : Int) := od_
          obtain ⟨ad210, e210, hx210_0⟩ := Kd.at_int (R_reads' HO_1.out).2.2 x9_2 p210 q210
          obtain rfl : (⟨gofr40, 0, none⟩ : Addr) = ad210 := (by injection e210)
          (first | simp only [add_plain] at hx210_0 | simp only [add_at] at hx210_0 | simp only [Addr.add, Nat.zero_add] at hx210_0 | skip)
          replace p210 := eq_true p210
          replace q210 := eq_true q210
          have pfr41 : 0 ≤ (x10_3 : Int) := od_
          have qfr41 : (x10_3 : Int) < ((t203.length : Int) : Int) := od_
          obtain ⟨gofr41, cofr41, eofr41, gbfr41, glfr41, clfr41, HGfr41⟩ := Kd.R_form HO_2.out (by omega)
          (first | cases eofr41 | (injection eofr41 with ea_ en_ ec_; (first | subst ea_ | (injection ea_ with ea_; subst ea_)); subst ec_; clear en_))
          have GBfr41 := ak gbfr41
          have GGfr41 := ak HGfr41
          clear gbfr41 glfr41 HGfr41
          clear pfr41 qfr41
          have p211 : 0 ≤ (x10_3 : Int) := od_
          have q211 : x10_3 < (t203.length : Int) := od_
          obtain ⟨ad211, e211, hx211_0⟩ := Kd.at_int (R_reads' HO_2.out).2.2 x10_3 p211 q211
          obtain rfl : (⟨gofr41, 0, none⟩ : Addr) = ad211 := (by injection e211)
          (first | simp only [add_plain] at hx211_0 | simp only [add_at] at hx211_0 | simp only [Addr.add, Nat.zero_add] at hx211_0 | skip)
          replace p211 := eq_true p211
          replace q211 := eq_true q211
          refine start_ (n := 24) (S := fun w' => w'.cell? ⟨gofr38, ((ji28)).toNat, none⟩ = some (.int .u64 (rd x8_3 (ji28))) ∧ w'.cell? ⟨gofr40, (x9_2).toNat, none⟩ = some (.int .u64 (rd t200 x9_2)) ∧ w'.cell? ⟨gofr41, (x10_3).toNat, none⟩ = some (.int .u64 (rd t203 x10_3))) (ds := [23]) (bv 24 0) (by kernel_rfl) rfl rfl ⟨hx209_0, hx210_0, hx211_0⟩ (fun hHeld => ?_); refine with_tabW attestorref03_Mul.tab15 attestorref03_Mul.bits15 (fun HT_ HW_ => ?_)
          generalize wr.drew = w37 at HO_1 HO_2 HO_8 HB hx209_0 hx210_0 hx211_0 hHeld ⊢
          refine pq_ 0 54 24 1 HT_.out ?_
          refine pq_ 1 55 24 3 HT_.out ?_
          refine pq_ 2 56 24 7 HT_.out ?_
          refine pq_ 3 57 24 15 HT_.out ?_
          refine pq_ 4 58 24 31 HT_.out ?_
          refine pq_ 5 59 24 63 HT_.out ?_
          refine pq_ 6 60 24 127 HT_.out ?_
          refine pq_ 7 61 24 255 HT_.out ?_
          refine pq_ 8 62 24 511 HT_.out ?_
          refine pq_ 9 63 24 1023 HT_.out ?_
          refine pq_ 11 65 24 3071 HT_.out ?_
          refine pq_ 12 66 24 7167 HT_.out ?_
          refine pq_ 13 67 24 15359 HT_.out ?_
          refine pq_ 14 68 24 31743 HT_.out ?_
          refine pq_ 16 70 24 97279 HT_.out ?_
          refine pq_ 17 71 24 228351 HT_.out ?_
          refine pq_ 18 72 24 490495 HT_.out ?_
          refine tq_ 10 64 24 491519 HT_.out HW_.out hHeld ?_
          refine tq_ 15 69 24 524287 HT_.out HW_.out hHeld ?_
          refine tq_ 19 73 24 1048575 HT_.out HW_.out hHeld ?_
          refine oq_ 20 74 24 2097151 HT_.out fun K hK => ?_
          refine gs_ Tryd.func49 #[.int .i64 a0, .int .u64 (rd t200 x9_2), .int .u64 (rd t203 x10_3)] ?_
          with_reducible refine (attestorref01_Mul.calls a0 (rd t200 x9_2) (rd t203 x10_3) t212 _ A34.out).mono ?_
          rintro e w' ⟨rfl, ⟨nd, rfl⟩⟩
          refine ⟨_, rfl, ?_⟩
          refine hK.out _ _ ⟨hHeld.1, hHeld.2.1, hHeld.2.2⟩ (fun hHeld => ?_)
          clear hK K
          refine norm_ (a' := ?_) ?_ ?_
          rotate_left
          ·show Act.put _ (some 74) _ = _
           simp only [Act.put, s1_, s2_, s3_, i64_w, i32_w]
           rfl
          refine oq_ 21 75 24 4194303 HT_.out fun K hK => ?_
          refine goes_ Tryd.func76 (by kernel_rfl) rfl #[.int .i64 a0, .int .u64 (rd x8_3 (ji28)), .int .u64 t212] (by rfl) rfl rfl (by (try simp only [List.map_toArray, List.map_cons, List.map_nil]); first | done | (simp only [hji28]; rfl) | rfl | (simp only [List.length_drop, List.length_take]; rfl)) ?_
          with_reducible refine (attestorref01_Add.calls a0 (rd x8_3 (ji28)) t212 t213 _ A35.out).mono ?_
          rintro e w' ⟨rfl, ⟨nd, rfl⟩⟩
          refine ⟨_, rfl, ?_⟩
          have p36 : 0 ≤ ((ji28) : Int) := od_
          have q36 : ((ji28) : Int) < ((x8_3.length : Int) : Int) := od_
          obtain ⟨hx36_0, hf36_0⟩ := Kd.R_celln 0 HO_8.out ((ji28) : Int) p36 q36
          replace p36 := eq_true p36
          replace q36 := eq_true q36
          have HP42 := Kd.R_putn HO_8.out ((ji28) : Int) t213
          rw [← Ny214.out] at HP42
          have HQ42 := ak HP42
          clear HP42
          refine hK.out _ _ ⟨hHeld.1, hHeld.2.1, hHeld.2.2⟩ (fun hHeld => ?_)
          clear hK K
          refine norm_ (a' := ?_) ?_ ?_
          rotate_left
          ·show Act.put _ (some 75) _ = _
           simp only [Act.put, s1_, s2_, s3_, i64_w, i32_w]
           rfl
          refine pq_ 22 76 24 8388607 HT_.out ?_
          refine last_ (i := 23) (N := none) #[true, true, true, true, true, true, true, true, true, true, true, true, true, true, true, true, true, true, true, true, true, true, true, true] rfl rfl (one_of HT_.out (by kernel_rfl)) (by decide) (fun K hK => ?_)
          refine skip_ (w1 := ?_) (by rfl) rfl ?_ ?_
          rotate_left
          ·go_simp
           rfl
          refine hK.out _ _ ?_
          clear hK K
          refine done_ (done_of HT_.out (by kernel_rfl)) ?_
          try go_wp2
          go_roundg k3
          case measure => have := HJ7.out; have := HK2.out; have := HK3.out; omega
          case rel => exact ⟨(y214), (wrap64 (x10_3 + 1)), gb_, H', ⟨by have := HJ7.out; have := HK2.out; have := HK3.out; omega⟩, ⟨by (with_reducible repeat (first | apply Kd.R_alloc | apply Kd.R_drewN | apply R_drew)); exact R_mono (R_far (p := ⟨gofr38, ((ji28) : Int).toNat, none⟩) (R_mono HO_1.out (fun k_ hk => (⟨hk, fun e_ => hk.2 (by rw [e_]; rfl)⟩ : _ ∧ k_ ≠ gofr38))) (fun _ hk => hk.2) (.int .u64 t213)) (fun _ hk => ⟨hk.1.1, hk.1.2⟩)⟩, ⟨by (with_reducible repeat (first | apply Kd.R_alloc | apply Kd.R_drewN | apply R_drew)); exact R_mono (R_far (p := ⟨gofr38, ((ji28) : Int).toNat, none⟩) (R_mono HO_2.out (fun k_ hk => (⟨hk, fun e_ => hk.2 (by rw [e_]; rfl)⟩ : _ ∧ k_ ≠ gofr38))) (fun _ hk => hk.2) (.int .u64 t213)) (fun _ hk => ⟨hk.1.1, hk.1.2⟩)⟩, ⟨rU_ HQ42.out⟩, ⟨sU_⟩⟩
         rw [if_neg c27] at H
         have c27b0 := decide_eq_false c27
         clear c27
         have H' := ak H
         clear H
         go_wp2
         go_roundg k3
         case measure => have := HJ7.out; have := HK2.out; have := HK3.out; omega
         case rel => exact ⟨(x8_3), (wrap64 (x9_2 + 1)), gb_, H', ⟨by have := HJ7.out; have := HK2.out; have := HK3.out; omega⟩, ⟨rU_ HO_1.out⟩, ⟨rU_ HO_2.out⟩, ⟨rU_ HO_8.out⟩, ⟨bU_ HB.out⟩⟩
      rw [if_neg c26] at H
      have c26b0 := decide_eq_false c26
      clear c26
      simp only [Option.some.injEq, Prod.mk.injEq] at H
      obtain ⟨rfl, rfl⟩ := H
      go_wp2
      go_ret2
      exact ⟨_, by first | rfl | (simp [errW_none, errW_some] <;> rfl) | (simp only [← hji19]; first | rfl | (simp [errW_none, errW_some] <;> rfl)) | (simp [*, errW_none, errW_some] <;> rfl), R_mono (rU_ HO_8.out) (fun _ hk => trivial), bU_ HB.out⟩
 replace c5 := Bool.eq_false_iff.mpr c5
 subst c5
 rw [if_neg (show ¬ (false = true) by decide)] at H
 simp only [Option.some.injEq, Prod.mk.injEq] at H
 obtain ⟨rfl, rfl⟩ := H
 go_enter Tryd.func84, Tryd.ntmps84
 go_wp2_with (first | ((with_reducible refine gate_callee (f := 66) rfl ?_); refine gl_ (some 12) Tryd.func66 #[.int .i64 a0] ?_; (with_reducible refine (attestorref01_Valid.calls a0 false _ A4.out).mono ?_); rintro e w' ⟨rfl, ⟨nd, rfl⟩⟩; refine ⟨_, rfl, ?_⟩))
 go_ret2
 exact ⟨_, eW_, by first | exact Kd.R_nil _ _ _ _ _ | exact Kd.N_nil _ _ _ _ _ | exact Kd.V_nil _ _ _ _ _ | exact Kd.Q_nil _ _ _ _ _ | exact Kd.S_nil _ _ _ _ _, bU_ HB.out⟩

def attestorref01_Neg.f (a0 : Int) (a1 : Int) : Option (Int) := (attestorref01_Sub.f a0 0 a1).bind fun t215 => (some t215)
set_option maxHeartbeats 8000000 in
set_option maxRecDepth 100000 in
theorem attestorref01_Neg.calls (a0 : Int) (a1 : Int) (r : Int) (w : World) (h : attestorref01_Neg.f a0 a1 = some r) :
  Calls Tryd.prog 85 #[.int .i64 a0, .int .u64 a1] w fun e w' => e = .returned (.int .u64 r) ∧ Drawn0 w w' := by
 have H : ((attestorref01_Sub.f a0 0 a1).bind fun t215 => (some t215)) = some r := h
 clear h
 revert H
 refine bd_ fun t215 A3 H => ?_
 obtain rfl := Option.some.inj H
 go_enter Tryd.func85, Tryd.ntmps85
 go_wp2_with (first | ((with_reducible refine gate_callee (f := 71) rfl ?_); refine gl_ (some 7) Tryd.func71 #[.int .i64 a0, .int .u64 0, .int .u64 a1] ?_; (with_reducible refine (attestorref01_Sub.calls a0 0 a1 t215 _ A3.out).mono ?_); rintro e w' ⟨rfl, ⟨nd, rfl⟩⟩; refine ⟨_, rfl, ?_⟩))
 go_ret
 exact ⟨by first | rfl | (simp; done) | (simp [*]; done), by repeat (first | exact Drawn0.refl _ | apply Drawn0.step)⟩

def attestorref03_Vanish.l0 : Nat → Int → List Int → List Int → Int → Option (List Int × Int)
 | 0, _, _, _, _ => none
 | k + 1, x0, x1, x6, x7 => if x7 < (x1.length : Int) then (if 0 ≤ x7 then ((attestorref01_Neg.f x0 (rd x1 x7)).bind fun t221 => ((attestorref03_Mul.f k x0 x6 (([t221, 1] : List Int))).bind fun bt225 => (attestorref03_Vanish.l0 k x0 x1 bt225.1 (wrap64 (x7 + 1))))) else (none)) else (some (x6, 0))
def attestorref03_Vanish.f (k : Nat) (a0 : Int) (l1 : List Int) : Option (List Int × Int) := (attestorref01_Valid.f a0).bind fun t216 => (if t216 = true then (if (l1.length : Int) > 1024 then (some (([] : List Int), 3)) else (attestorref03_Vanish.l0 k a0 l1 (([1] : List Int)) 0)) else (some (([] : List Int), 1)))
set_option maxHeartbeats 8000000 in
set_option maxRecDepth 100000 in
theorem attestorref03_Vanish.calls (k : Nat) (a0 : Int) (A1 : Option Addr) (c1 : Nat) (l1 : List Int) (r1 : List Int) (r2 : Int) (w : World) (hr1 : Kd.C (Kd.int .u64) w A1 l1.length l1) (hc1 : l1.length ≤ c1) (h : attestorref03_Vanish.f k a0 l1 = some (r1, r2)) :
  Calls Tryd.prog 72 #[.int .i64 a0, .slice A1 l1.length c1] w fun e w' => ∃ v0_ : Value, e = .returned (.tuple #[v0_, .int .i64 r2]) ∧ Kd.R (Kd.int .u64) 22 w' w.heap.size (fun _ => True) v0_ r1 ∧ Below w.heap.size w w' := by
 have HR1 := ak hr1
 have HC1 := ak hc1
 clear hr1 hc1
 have HB := ak (Below.refl w.heap.size w)
 have H := h
 clear h
 unfold attestorref03_Vanish.f at H
 revert H
 refine bd_ fun t216 A3 H => ?_
 by_cases c4 : t216 = true
 ·subst c4
  rw [if_pos rfl] at H
  by_cases c5 : (l1.length : Int) > 1024
  ·rw [if_pos c5] at H
   have c5b0 : decide (1024 < (l1.length : Int)) = true := decide_eq_true c5
   have c5b1 : decide (1024 < l1.length) = true := decide_eq_true (by omega)
   clear c5
   simp only [Option.some.injEq, Prod.mk.injEq] at H
   obtain ⟨rfl, rfl⟩ := H
   go_enter Tryd.func72, Tryd.ntmps72
   go_wp2_with (first | ((with_reducible refine gate_callee (f := 66) rfl ?_); refine gl_ (some 9) Tryd.func66 #[.int .i64 a0] ?_; (with_reducible refine (attestorref01_Valid.calls a0 true _ A3.out).mono ?_); rintro e w' ⟨rfl, ⟨nd, rfl⟩⟩; refine ⟨_, rfl, ?_⟩))
   go_ret2
   exact ⟨_, eW_, by first | exact Kd.R_nil _ _ _ _ _ | exact Kd.N_nil _ _ _ _ _ | exact Kd.V_nil _ _ _ _ _ | exact Kd.Q_nil _ _ _ _ _ | exact Kd.S_nil _ _ _ _ _, bU_ HB.out⟩
  rw [if_neg c5] at H
  have c5b0 : decide (1024 < (l1.length : Int)) = false := decide_eq_false c5
  have c5b1 : decide (1024 < l1.length) = false := decide_eq_false (by omega)
  clear c5
  obtain ⟨y217, hy217⟩ : ∃ y_ : List Int, y_ = (([1] : List Int)) := ⟨_, rfl⟩
  replace H : (attestorref03_Vanish.l0 k a0 l1 y217 0) = some (r1, r2) := by first | (rw [hy217]; with_reducible exact H) | (have H2_ := (Option.bind_some _ _).symm.trans H; rw [hy217]; with_reducible exact H2_) | (have H2_ := (Option.bind_some _ _).symm.trans H; with_reducible exact H2_) | with_reducible exact H | (rw [hy217]; exact H) | exact H
  have Ny217 := ak hy217
  clear hy217
  have H' := ak H
  clear H
  go_enter Tryd.func72, Tryd.ntmps72
  go_wp2_with (first | ((with_reducible refine gate_callee (f := 66) rfl ?_); refine gl_ (some 9) Tryd.func66 #[.int .i64 a0] ?_; (with_reducible refine (attestorref01_Valid.calls a0 true _ A3.out).mono ?_); rintro e w' ⟨rfl, ⟨nd, rfl⟩⟩; refine ⟨_, rfl, ?_⟩) | ((with_reducible refine gate_dst (N := 14) rfl ?_); refine R_lit (Kd.int .u64) _ 22 ?hg (N := 14) ?hd (xs := ([1] : List Int)) (inner := [.int .u64 1]) (ok := fun _ => True) (okp := fun _ => True) ?hr ?hp (fun _ hk => hk) trivial (Below.refl _ _) (Nat.le_refl _) (by simp) ?_; (case hd => rfl); (case hg => rfl); (case hr => first | (go_simp; done) | (go_simp; rfl)); (case hp => exact (Reps.one (show Kd.M (Kd.int .u64) _ _ _ 1 [.int .u64 1] from rfl) (Reps.none _ _))); intro v218 w6 ho7 hb hg_ hnew_; clear hg_ hnew_; (first | rw [← Ny217.out] at ho7 | (simp only [Int.reduceToNat] at ho7; rw [← Ny217.out] at ho7)); refine nx2_ (R_lower ho7 (below_size (bU_ HB.out))) (below_step (bU_ HB.out) hb) ?_; clear HB; intro HO219 HB; clear hb ho7))
  go_loopg [6, 7] k (fun kq v6 v7 w' => ∃ (x6_1 : List Int) (x7_1 : Int), v7 = .int .i64 x7_1 ∧ Aside0 (attestorref03_Vanish.l0 kq a0 l1 x6_1 x7_1 = some (r1, r2)) ∧ Aside0 (kq ≤ k) ∧ Aside0 (Kd.R (Kd.int .u64) 22 w' w.heap.size (fun _ => True) v6 x6_1) ∧ Aside0 (Below w.heap.size w w'))
  case atStart => exact ⟨(y217), (0), gb_, H', ⟨Nat.le_refl _⟩, ⟨rU_ HO219.out⟩, ⟨bU_ HB.out⟩⟩
  case round =>
   clear H'
   (try clear c1); (try clear p2); (try clear c4); (try clear c5); (try clear c5b0); (try clear c5b1); (try clear c6); (try clear c7)
   obtain ⟨x6_1, x7_1, rfl, HA, HK1, HO_6, HB⟩ := hrel
   cases gk with
   | zero => exact absurd HA.out (by simp [attestorref03_Vanish.l0])
   | succ k1 =>
    have H := HA.out
    clear HA
    simp only [attestorref03_Vanish.l0] at H
    by_cases c8 : x7_1 < (l1.length : Int)
    ·rw [if_pos c8] at H
     have c8b0 := decide_eq_true c8
     clear c8
     obtain ⟨c9, H⟩ : (0 ≤ x7_1) ∧ _ := it_ H
     have c9b0 := decide_eq_true c9
     clear c9
     revert H
     refine bd_ fun t221 A10 H => ?_
     obtain ⟨y222, hy222⟩ : ∃ y_ : List Int, y_ = (([t221, 1] : List Int)) := ⟨_, rfl⟩
     replace H : ((attestorref03_Mul.f k1 a0 x6_1 y222).bind fun bt225 => (attestorref03_Vanish.l0 k1 a0 l1 bt225.1 (wrap64 (x7_1 + 1)))) = some (r1, r2) := by first | (rw [hy222]; with_reducible exact H) | (have H2_ := (Option.bind_some _ _).symm.trans H; rw [hy222]; with_reducible exact H2_) | (have H2_ := (Option.bind_some _ _).symm.trans H; with_reducible exact H2_) | with_reducible exact H | (rw [hy222]; exact H) | exact H
     have Ny222 := ak hy222
     clear hy222
     revert H
     refine bd2_ fun t225 t226 A11 H => ?_
     try dsimp only at H
     have H' := ak H
     clear H
     have p220 : 0 ≤ (x7_1 : Int) := od_
     have q220 : x7_1 < (l1.length : Int) := od_
     obtain ⟨ad220, e220, hx220_0⟩ := Kd.at_int HR1.out x7_1 p220 q220
     cases e220
     replace hx220_0 := (HB.out.cell (World.block_lt_of_cell? w _ hx220_0)).trans hx220_0
     replace p220 := eq_true p220
     replace q220 := eq_true q220
     go_wp2_with (first | ((with_reducible refine gate_callee (f := 85) rfl ?_); refine gl_ (some 29) Tryd.func85 #[.int .i64 a0, .int .u64 (rd l1 x7_1)] ?_; (with_reducible refine (attestorref01_Neg.calls a0 (rd l1 x7_1) t221 _ A10.out).mono ?_); rintro e w' ⟨rfl, ⟨nd, rfl⟩⟩; refine ⟨_, rfl, ?_⟩) | ((with_reducible refine gate_dst (N := 30) rfl ?_); refine R_lit (Kd.int .u64) _ 22 ?hg (N := 30) ?hd (xs := ([t221, 1] : List Int)) (inner := [.int .u64 t221, .int .u64 1]) (ok := fun _ => True) (okp := fun _ => True) ?hr ?hp (fun _ hk => hk) trivial (Below.refl _ _) (Nat.le_refl _) (by simp) ?_; (case hd => rfl); (case hg => rfl); (case hr => first | (go_simp; done) | (go_simp; rfl)); (case hp => exact (Reps.one (show Kd.M (Kd.int .u64) _ _ _ t221 [.int .u64 t221] from rfl) (Reps.one (show Kd.M (Kd.int .u64) _ _ _ 1 [.int .u64 1] from rfl) (Reps.none _ _)))); intro v223 w12 ho13 hb hg_ hnew_; clear hg_ hnew_; (first | rw [← Ny222.out] at ho13 | (simp only [Int.reduceToNat] at ho13; rw [← Ny222.out] at ho13)); refine nx3_ (R_elder' (rU_ HO_6.out) (R_base ho13) hb) (R_lower (R_new' ho13 (R_lt (rU_ HO_6.out))) (below_size (bU_ HB.out))) (below_step (bU_ HB.out) hb) ?_; clear HO_6 HB; intro HO_6 HO224 HB; clear hb ho13; obtain ⟨Ao14, co14, eo14⟩ := R_slice HO_6.out; subst eo14; obtain ⟨Ao15, co15, eo15⟩ := R_slice HO224.out; subst eo15) | ((with_reducible refine gate_callee (f := 84) rfl ?_); refine gl_ (some 31) Tryd.func84 #[.int .i64 a0, .slice Ao14 x6_1.length co14, .slice Ao15 y222.length co15] ?_; (with_reducible refine (attestorref03_Mul.calls k1 a0 _ _ x6_1 _ _ y222 t225 t226 _ ?side1 ?side2 ?side3 ?side4 A11.out).mono ?_); (case side1 => exact cU_ ((R_reads' HO_6.out).2.2)); (case side2 => exact (R_reads' HO_6.out).2.1); (case side3 => exact cU_ ((R_reads' HO224.out).2.2)); (case side4 => exact (R_reads' HO224.out).2.1); rintro e w16 ⟨v227, rfl, ho0, hb⟩; refine ⟨_, rfl, ?_⟩; refine nx4_ (R_elder' (rU_ HO_6.out) (R_base ho0) hb) (R_elder' (rU_ HO224.out) (R_base ho0) hb) (R_lower (R_new' (R_new' ho0 (R_lt (rU_ HO_6.out))) (R_lt (rU_ HO224.out))) (below_size (bU_ HB.out))) (below_step (bU_ HB.out) hb) ?_; clear HO_6 HO224 HB; intro HO_6 HO224 HO228 HB; clear hb ho0))
     go_roundg k1
     case measure => have := HK1.out; omega
     case rel => exact ⟨(t225), (wrap64 (x7_1 + 1)), gb_, H', ⟨by have := HK1.out; omega⟩, ⟨R_mono (rU_ HO228.out) (fun _ hk => trivial)⟩, ⟨bU_ HB.out⟩⟩
    rw [if_neg c8] at H
    have c8b0 := decide_eq_false c8
    clear c8
    simp only [Option.some.injEq, Prod.mk.injEq] at H
    obtain ⟨rfl, rfl⟩ := H
    go_wp2
    go_ret2
    exact ⟨_, eW_, rU_ HO_6.out, bU_ HB.out⟩
 replace c4 := Bool.eq_false_iff.mpr c4
 subst c4
 rw [if_neg (show ¬ (false = true) by decide)] at H
 simp only [Option.some.injEq, Prod.mk.injEq] at H
 obtain ⟨rfl, rfl⟩ := H
 go_enter Tryd.func72, Tryd.ntmps72
 go_wp2_with (first | ((with_reducible refine gate_callee (f := 66) rfl ?_); refine gl_ (some 9) Tryd.func66 #[.int .i64 a0] ?_; (with_reducible refine (attestorref01_Valid.calls a0 false _ A3.out).mono ?_); rintro e w' ⟨rfl, ⟨nd, rfl⟩⟩; refine ⟨_, rfl, ?_⟩))
 go_ret2
 exact ⟨_, eW_, by first | exact Kd.R_nil _ _ _ _ _ | exact Kd.N_nil _ _ _ _ _ | exact Kd.V_nil _ _ _ _ _ | exact Kd.Q_nil _ _ _ _ _ | exact Kd.S_nil _ _ _ _ _, bU_ HB.out⟩

def attestorref03_coefficient.f (l0 : List Int) (a1 : Int) : Option (Int) := if a1 < (l0.length : Int) then (if 0 ≤ a1 then (some (rd l0 a1)) else (none)) else (some 0)
set_option maxHeartbeats 8000000 in
set_option maxRecDepth 100000 in
theorem attestorref03_coefficient.calls (A0 : Option Addr) (c0 : Nat) (l0 : List Int) (a1 : Int) (r : Int) (w : World) (hr0 : Kd.C (Kd.int .u64) w A0 l0.length l0) (hc0 : l0.length ≤ c0) (h : attestorref03_coefficient.f l0 a1 = some r) :
  Calls Tryd.prog 86 #[.slice A0 l0.length c0, .int .i64 a1] w fun e w' => e = .returned (.int .u64 r) ∧ Drawn0 w w' := by
 have HR0 := ak hr0
 have HC0 := ak hc0
 clear hr0 hc0
 have H : (if a1 < (l0.length : Int) then (if 0 ≤ a1 then (some (rd l0 a1)) else (none)) else (some 0)) = some r := h
 clear h
 by_cases c3 : a1 < (l0.length : Int)
 ·rw [if_pos c3] at H
  have c3b0 := decide_eq_true c3
  clear c3
  obtain ⟨c4, H⟩ : (0 ≤ a1) ∧ _ := it_ H
  have c4b0 := decide_eq_true c4
  clear c4
  obtain rfl := Option.some.inj H
  have p229 : 0 ≤ (a1 : Int) := od_
  have q229 : a1 < (l0.length : Int) := od_
  obtain ⟨ad229, e229, hx229_0⟩ := Kd.at_int HR0.out a1 p229 q229
  cases e229
  replace p229 := eq_true p229
  replace q229 := eq_true q229
  go_enter Tryd.func86, Tryd.ntmps86
  go_wp2
  go_ret
  exact ⟨by first | rfl | (simp; done) | (simp [*]; done), by repeat (first | exact Drawn0.refl _ | apply Drawn0.step)⟩
 rw [if_neg c3] at H
 have c3b0 := decide_eq_false c3
 clear c3
 obtain rfl := Option.some.inj H
 go_enter Tryd.func86, Tryd.ntmps86
 go_wp2
 go_ret
 exact ⟨by first | rfl | (simp; done) | (simp [*]; done), by repeat (first | exact Drawn0.refl _ | apply Drawn0.step)⟩

mutual
def attestorref03_Add.l0 : Nat → Int → List Int → List Int → List Int → Int → Option (List Int)
 | 0, _, _, _, _, _ => none
 | k + 1, x0, x1, x2, x7, x8 => if x8 < (x1.length : Int) then (attestorref03_Add.j1 k x0 x1 x2 x7 x8 true) else (attestorref03_Add.j1 k x0 x1 x2 x7 x8 (decide (x8 < (x2.length : Int))))
def attestorref03_Add.j1 : Nat → Int → List Int → List Int → List Int → Int → Bool → Option (List Int)
 | 0, _, _, _, _, _, _ => none
 | k + 1, x0, x1, x2, x7, x8, x18 => if x18 = true then ((attestorref03_coefficient.f x1 x8).bind fun t230 => ((attestorref03_coefficient.f x2 x8).bind fun t231 => ((attestorref01_Add.f x0 t230 t231).bind fun t232 => (if x7.length < 17592186044416 then (attestorref03_Add.l0 k x0 x1 x2 (x7 ++ [t232]) (wrap64 (x8 + 1))) else (none))))) else ((attestorref03_Normal.f k x0 x7).bind fun t236 => (some t236))
end
def attestorref03_Add.f (k : Nat) (a0 : Int) (l1 : List Int) (l2 : List Int) : Option (List Int) := attestorref03_Add.l0 k a0 l1 l2 ([] : List Int) 0
set_option maxHeartbeats 8000000 in
set_option maxRecDepth 100000 in
theorem attestorref03_Add.calls (k : Nat) (a0 : Int) (A1 : Option Addr) (c1 : Nat) (l1 : List Int) (A2 : Option Addr) (c2 : Nat) (l2 : List Int) (r : List Int) (w : World) (hr1 : Kd.C (Kd.int .u64) w A1 l1.length l1) (hc1 : l1.length ≤ c1) (hr2 : Kd.C (Kd.int .u64) w A2 l2.length l2) (hc2 : l2.length ≤ c2) (h : attestorref03_Add.f k a0 l1 l2 = some r) :
  Calls Tryd.prog 73 #[.int .i64 a0, .slice A1 l1.length c1, .slice A2 l2.length c2] w fun e w' => ∃ v0_ : Value, e = .returned (v0_) ∧ Kd.R (Kd.int .u64) 22 w' w.heap.size (fun _ => True) v0_ r ∧ Below w.heap.size w w' := by
 have HR1 := ak hr1
 have HC1 := ak hc1
 clear hr1 hc1
 have HR2 := ak hr2
 have HC2 := ak hc2
 clear hr2 hc2
 have HB := ak (Below.refl w.heap.size w)
 have H : (attestorref03_Add.l0 k a0 l1 l2 ([] : List Int) 0) = some r := h
 clear h
 have H' := ak H
 clear H
 go_enter Tryd.func73, Tryd.ntmps73
 go_wp2
 go_loopg [7, 8] k (fun kq v7 v8 w' => ∃ (x7_1 : List Int) (x8_1 : Int), v8 = .int .i64 x8_1 ∧ Aside0 (attestorref03_Add.l0 kq a0 l1 l2 x7_1 x8_1 = some r) ∧ Aside0 (kq ≤ k) ∧ Aside0 (Kd.R (Kd.int .u64) 22 w' w.heap.size (fun _ => True) v7 x7_1) ∧ Aside0 (Below w.heap.size w w'))
 case atStart => exact ⟨(([] : List Int)), (0), gb_, H', ⟨Nat.le_refl _⟩, ⟨by first | exact Kd.R_nil _ _ _ _ _ | exact Kd.N_nil _ _ _ _ _ | exact Kd.V_nil _ _ _ _ _ | exact Kd.Q_nil _ _ _ _ _ | exact Kd.S_nil _ _ _ _ _⟩, ⟨bU_ HB.out⟩⟩
 case round =>
  clear H'
  (try clear c1); (try clear c2); (try clear p2)
  obtain ⟨x7_1, x8_1, rfl, HA, HK1, HO_7, HB⟩ := hrel
  cases gk with
  | zero => exact absurd HA.out (by simp [attestorref03_Add.l0])
  | succ k1 =>
   have H := HA.out
   clear HA
   simp only [attestorref03_Add.l0] at H
   have HC4 := ak H
   clear H
   go_upto_region 3 with (fail)
   go_cut [18] (fun v18 wc => ∃ (kq : Nat) (x18_3 : Bool), v18 = .bool x18_3 ∧ Aside0 (attestorref03_Add.j1 kq a0 l1 l2 x7_1 x8_1 x18_3 = some r) ∧ Aside0 (kq ≤ k1) ∧ Aside0 (Kd.R (Kd.int .u64) 22 wc w.heap.size (fun _ => True) u7 x7_1) ∧ Aside0 (Below w.heap.size w wc))
   case first =>
    have H := HC4.out
    clear HC4
    by_cases c5 : x8_1 < (l1.length : Int)
    ·rw [if_pos c5] at H
     have c5b0 := decide_eq_true c5
     clear c5
     (first | rw [c5b0] | (simp only [i64_w, i32_w]; rw [c5b0]) | rw [c5b1] | skip)
     have H' := ak H
     clear H
     go_wp2
     go_meet
     case rel => exact ⟨_, (true), gb_, H', ⟨by have := HK1.out; first | omega | exact Nat.le_refl _⟩, ⟨rU_ HO_7.out⟩, ⟨bU_ HB.out⟩⟩
    rw [if_neg c5] at H
    have c5b0 := decide_eq_false c5
    clear c5
    (first | rw [c5b0] | (simp only [i64_w, i32_w]; rw [c5b0]) | rw [c5b1] | skip)
    have H' := ak H
    clear H
    go_wp2
    go_meet
    case rel => exact ⟨_, (decide (x8_1 < (l2.length : Int))), gb_, H', ⟨by have := HK1.out; first | omega | exact Nat.le_refl _⟩, ⟨rU_ HO_7.out⟩, ⟨bU_ HB.out⟩⟩
   case rest =>
    clear HC4
    (try clear c1); (try clear c2); (try clear p2); (try clear c5); (try clear c5b0); (try clear c5b1)
    obtain ⟨kq, x18_3, rfl, HA, HJ3, HO_7, HB⟩ := hcut
    cases kq with
    | zero => exact absurd HA.out (by simp [attestorref03_Add.j1])
    | succ kj3 =>
     have H := HA.out
     clear HA
     simp only [attestorref03_Add.j1] at H
     by_cases c6 : x18_3 = true
     ·subst c6
      rw [if_pos rfl] at H
      revert H
      refine bd_ fun t230 A7 H => ?_
      revert H
      refine bd_ fun t231 A8 H => ?_
      revert H
      refine bd_ fun t232 A9 H => ?_
      obtain ⟨c10, H⟩ : (x7_1.length < 17592186044416) ∧ _ := it_ H
      have LMc10 := ak c10
      clear c10
      obtain ⟨y233, hy233⟩ : ∃ y_ : List Int, y_ = (x7_1 ++ [t232]) := ⟨_, rfl⟩
      first | rw [Option.bind_some, ← hy233] at H | rw [← hy233] at H
      have Ny233 := ak hy233
      clear hy233
      have H' := ak H
      clear H
      go_wp2_with (first | ((with_reducible refine gate_callee (f := 86) rfl ?_); refine gl_ (some 25) Tryd.func86 #[.slice A1 l1.length c1, .int .i64 x8_1] ?_; (with_reducible refine (attestorref03_coefficient.calls _ _ l1 x8_1 t230 _ ?side1 ?side2 A7.out).mono ?_); (case side1 => exact cU_ (C_below HR1.out HB.out)); (case side2 => exact HC1.out); rintro e w' ⟨rfl, ⟨nd, rfl⟩⟩; refine ⟨_, rfl, ?_⟩) | ((with_reducible refine gate_callee (f := 86) rfl ?_); refine gl_ (some 28) Tryd.func86 #[.slice A2 l2.length c2, .int .i64 x8_1] ?_; (with_reducible refine (attestorref03_coefficient.calls _ _ l2 x8_1 t231 _ ?side1 ?side2 A8.out).mono ?_); (case side1 => exact (C_below HR2.out (bU_ HB.out))); (case side2 => exact HC2.out); rintro e w' ⟨rfl, ⟨nd, rfl⟩⟩; refine ⟨_, rfl, ?_⟩) | ((with_reducible refine gate_callee (f := 76) rfl ?_); refine gl_ (some 29) Tryd.func76 #[.int .i64 a0, .int .u64 t230, .int .u64 t231] ?_; (with_reducible refine (attestorref01_Add.calls a0 t230 t231 t232 _ A9.out).mono ?_); rintro e w' ⟨rfl, ⟨nd, rfl⟩⟩; refine ⟨_, rfl, ?_⟩) | ((with_reducible refine gate_builtin (b := .append) (xs := #[.tmp 21, .tmp 30]) rfl ?_); (try (refine gate_guard (by rfl) ?_; dsimp only)); at_builtin; refine Kd.R_append (Kd.int .u64) (w0 := w) w.heap.size rfl (.tmp 21) (.tmp 30) 33 22 (.int .u64 0) 8 rfl Tryd.underlying33 info22 rfl (by decide) (by omega) u7 x7_1 t232 [.int .u64 t232] (fun _ => True) (fun _ => False) rfl rfl ?aP (fun _ hk => hk.elim) ?aF ?aO ?aB ?aS ?aL ?_; (case aP => exact rfl); (case aB => exact (bU_ HB.out)); (case aF => exact (fun _ _ => trivial)); (case aO => exact (rU_ HO_7.out)); (case aS => exact (below_size (bU_ HB.out))); (case aL => have := LMc10.out; omega); intro v234 w11 ho hb hg hat; rw [← Ny233.out] at ho; refine nx2_ (hb) (ho) ?_; clear HB HO_7; intro HB HO235; clear ho hb hg hat))
      go_roundg kj3
      case measure => have := HK1.out; have := HJ3.out; omega
      case rel => exact ⟨(y233), (wrap64 (x8_1 + 1)), gb_, H', ⟨by have := HK1.out; have := HJ3.out; omega⟩, ⟨rU_ HO235.out⟩, ⟨bU_ HB.out⟩⟩
     replace c6 := Bool.eq_false_iff.mpr c6
     subst c6
     rw [if_neg (show ¬ (false = true) by decide)] at H
     revert H
     refine bd_ fun t236 A12 H => ?_
     obtain rfl := Option.some.inj H
     obtain ⟨Ao13, co13, eo13⟩ := R_slice HO_7.out
     subst eo13
     go_wp2_with (first | ((with_reducible refine gate_callee (f := 87) rfl ?_); refine gl_ (some 34) Tryd.func87 #[.int .i64 a0, .slice Ao13 x7_1.length co13] ?_; (with_reducible refine (attestorref03_Normal.calls kj3 a0 _ _ x7_1 t236 _ ?side1 ?side2 A12.out).mono ?_); (case side1 => exact cU_ ((R_reads' HO_7.out).2.2)); (case side2 => exact (R_reads' HO_7.out).2.1); rintro e w14 ⟨v237, rfl, ho0, hb⟩; refine ⟨_, rfl, ?_⟩; refine nx3_ (R_elder' (rU_ HO_7.out) (R_base ho0) hb) (R_lower (R_new' ho0 (R_lt (rU_ HO_7.out))) (below_size (bU_ HB.out))) (below_step (bU_ HB.out) hb) ?_; clear HO_7 HB; intro HO_7 HO238 HB; clear hb ho0))
     go_ret
     exact ⟨_, eW_, R_mono (rU_ HO238.out) (fun _ hk => trivial), bU_ HB.out⟩

def attestorref03_Scale.l0 : Nat → Int → List Int → Int → List Int → Int → Option (List Int)
 | 0, _, _, _, _, _ => none
 | k + 1, x0, x1, x2, x7, x8 => if x8 < (x1.length : Int) then (if 0 ≤ x8 then ((attestorref01_Mul.f x0 (rd x1 x8) x2).bind fun t240 => (if x7.length < 17592186044416 then (attestorref03_Scale.l0 k x0 x1 x2 (x7 ++ [t240]) (wrap64 (x8 + 1))) else (none))) else (none)) else ((attestorref03_Normal.f k x0 x7).bind fun t244 => (some t244))
def attestorref03_Scale.f (k : Nat) (a0 : Int) (l1 : List Int) (a2 : Int) : Option (List Int) := attestorref03_Scale.l0 k a0 l1 a2 ([] : List Int) 0
set_option maxHeartbeats 8000000 in
set_option maxRecDepth 100000 in
theorem attestorref03_Scale.calls (k : Nat) (a0 : Int) (A1 : Option Addr) (c1 : Nat) (l1 : List Int) (a2 : Int) (r : List Int) (w : World) (hr1 : Kd.C (Kd.int .u64) w A1 l1.length l1) (hc1 : l1.length ≤ c1) (h : attestorref03_Scale.f k a0 l1 a2 = some r) :
  Calls Tryd.prog 74 #[.int .i64 a0, .slice A1 l1.length c1, .int .u64 a2] w fun e w' => ∃ v0_ : Value, e = .returned (v0_) ∧ Kd.R (Kd.int .u64) 22 w' w.heap.size (fun _ => True) v0_ r ∧ Below w.heap.size w w' := by
 have HR1 := ak hr1
 have HC1 := ak hc1
 clear hr1 hc1
 have HB := ak (Below.refl w.heap.size w)
 have H : (attestorref03_Scale.l0 k a0 l1 a2 ([] : List Int) 0) = some r := h
 clear h
 have H' := ak H
 clear H
 go_enter Tryd.func74, Tryd.ntmps74
 go_wp2
 go_loopg [7, 8] k (fun kq v7 v8 w' => ∃ (x7_1 : List Int) (x8_1 : Int), v8 = .int .i64 x8_1 ∧ Aside0 (attestorref03_Scale.l0 kq a0 l1 a2 x7_1 x8_1 = some r) ∧ Aside0 (kq ≤ k) ∧ Aside0 (Kd.R (Kd.int .u64) 22 w' w.heap.size (fun _ => True) v7 x7_1) ∧ Aside0 (Below w.heap.size w w'))
 case atStart => exact ⟨(([] : List Int)), (0), gb_, H', ⟨Nat.le_refl _⟩, ⟨by first | exact Kd.R_nil _ _ _ _ _ | exact Kd.N_nil _ _ _ _ _ | exact Kd.V_nil _ _ _ _ _ | exact Kd.Q_nil _ _ _ _ _ | exact Kd.S_nil _ _ _ _ _⟩, ⟨bU_ HB.out⟩⟩
 case round =>
  clear H'
  (try clear c1); (try clear p2)
  obtain ⟨x7_1, x8_1, rfl, HA, HK1, HO_7, HB⟩ := hrel
  cases gk with
  | zero => exact absurd HA.out (by simp [attestorref03_Scale.l0])
  | succ k1 =>
   have H := HA.out
   clear HA
   simp only [attestorref03_Scale.l0] at H
   by_cases c4 : x8_1 < (l1.length : Int)
   ·rw [if_pos c4] at H
    have c4b0 := decide_eq_true c4
    clear c4
    obtain ⟨c5, H⟩ : (0 ≤ x8_1) ∧ _ := it_ H
    have c5b0 := decide_eq_true c5
    clear c5
    revert H
    refine bd_ fun t240 A6 H => ?_
    obtain ⟨c7, H⟩ : (x7_1.length < 17592186044416) ∧ _ := it_ H
    have LMc7 := ak c7
    clear c7
    obtain ⟨y241, hy241⟩ : ∃ y_ : List Int, y_ = (x7_1 ++ [t240]) := ⟨_, rfl⟩
    first | rw [Option.bind_some, ← hy241] at H | rw [← hy241] at H
    have Ny241 := ak hy241
    clear hy241
    have H' := ak H
    clear H
    have p239 : 0 ≤ (x8_1 : Int) := od_
    have q239 : x8_1 < (l1.length : Int) := od_
    obtain ⟨ad239, e239, hx239_0⟩ := Kd.at_int HR1.out x8_1 p239 q239
    cases e239
    replace hx239_0 := (HB.out.cell (World.block_lt_of_cell? w _ hx239_0)).trans hx239_0
    replace p239 := eq_true p239
    replace q239 := eq_true q239
    go_wp2_with (first | ((with_reducible refine gate_callee (f := 49) rfl ?_); refine gl_ (some 22) Tryd.func49 #[.int .i64 a0, .int .u64 (rd l1 x8_1), .int .u64 a2] ?_; (with_reducible refine (attestorref01_Mul.calls a0 (rd l1 x8_1) a2 t240 _ A6.out).mono ?_); rintro e w' ⟨rfl, ⟨nd, rfl⟩⟩; refine ⟨_, rfl, ?_⟩) | ((with_reducible refine gate_builtin (b := .append) (xs := #[.tmp 15, .tmp 23]) rfl ?_); at_builtin; refine Kd.R_append (Kd.int .u64) (w0 := w) w.heap.size rfl (.tmp 15) (.tmp 23) 33 22 (.int .u64 0) 8 rfl Tryd.underlying33 info22 rfl (by decide) (by omega) u7 x7_1 t240 [.int .u64 t240] (fun _ => True) (fun _ => False) rfl rfl ?aP (fun _ hk => hk.elim) ?aF ?aO ?aB ?aS ?aL ?_; (case aP => exact rfl); (case aB => exact (bU_ HB.out)); (case aF => exact (fun _ _ => trivial)); (case aO => exact (rU_ HO_7.out)); (case aS => exact (below_size (bU_ HB.out))); (case aL => have := LMc7.out; omega); intro v242 w8 ho hb hg hat; rw [← Ny241.out] at ho; refine nx2_ (hb) (ho) ?_; clear HB HO_7; intro HB HO243; clear ho hb hg hat))
    go_roundg k1
    case measure => have := HK1.out; omega
    case rel => exact ⟨(y241), (wrap64 (x8_1 + 1)), gb_, H', ⟨by have := HK1.out; omega⟩, ⟨rU_ HO243.out⟩, ⟨bU_ HB.out⟩⟩
   rw [if_neg c4] at H
   have c4b0 := decide_eq_false c4
   clear c4
   revert H
   refine bd_ fun t244 A9 H => ?_
   obtain rfl := Option.some.inj H
   obtain ⟨Ao10, co10, eo10⟩ := R_slice HO_7.out
   subst eo10
   go_wp2_with (first | ((with_reducible refine gate_callee (f := 87) rfl ?_); refine gl_ (some 27) Tryd.func87 #[.int .i64 a0, .slice Ao10 x7_1.length co10] ?_; (with_reducible refine (attestorref03_Normal.calls k1 a0 _ _ x7_1 t244 _ ?side1 ?side2 A9.out).mono ?_); (case side1 => exact cU_ ((R_reads' HO_7.out).2.2)); (case side2 => exact (R_reads' HO_7.out).2.1); rintro e w11 ⟨v245, rfl, ho0, hb⟩; refine ⟨_, rfl, ?_⟩; refine nx3_ (R_elder' (rU_ HO_7.out) (R_base ho0) hb) (R_lower (R_new' ho0 (R_lt (rU_ HO_7.out))) (below_size (bU_ HB.out))) (below_step (bU_ HB.out) hb) ?_; clear HO_7 HB; intro HO_7 HO246 HB; clear hb ho0))
   go_ret
   exact ⟨_, eW_, R_mono (rU_ HO246.out) (fun _ hk => trivial), bU_ HB.out⟩

def attestorref01_Inv.f (k : Nat) (a0 : Int) (a1 : Int) : Option (Int) := (attestorref01_Valid.f a0).bind fun t247 => (if t247 = true then ((attestorref01_P.f a0).bind fun t248 => ((attestorref01_Pow.f k a0 a1 (IntKind.u64.wrap (t248 - 2))).bind fun t249 => (some t249))) else (some 0))
set_option maxHeartbeats 8000000 in
set_option maxRecDepth 100000 in
theorem attestorref01_Inv.calls (k : Nat) (a0 : Int) (a1 : Int) (r : Int) (w : World) (h : attestorref01_Inv.f k a0 a1 = some r) :
  Calls Tryd.prog 88 #[.int .i64 a0, .int .u64 a1] w fun e w' => e = .returned (.int .u64 r) ∧ Drawn0 w w' := by
 have H := h
 clear h
 unfold attestorref01_Inv.f at H
 revert H
 refine bd_ fun t247 A3 H => ?_
 by_cases c4 : t247 = true
 ·subst c4
  rw [if_pos rfl] at H
  revert H
  refine bd_ fun t248 A5 H => ?_
  revert H
  refine bd_ fun t249 A6 H => ?_
  obtain rfl := Option.some.inj H
  go_enter Tryd.func88, Tryd.ntmps88
  go_wp2_with (first | ((with_reducible refine gate_callee (f := 66) rfl ?_); refine gl_ (some 6) Tryd.func66 #[.int .i64 a0] ?_; (with_reducible refine (attestorref01_Valid.calls a0 true _ A3.out).mono ?_); rintro e w' ⟨rfl, ⟨nd, rfl⟩⟩; refine ⟨_, rfl, ?_⟩) | ((with_reducible refine gate_callee (f := 68) rfl ?_); refine gl_ (some 11) Tryd.func68 #[.int .i64 a0] ?_; (with_reducible refine (attestorref01_P.calls a0 t248 _ A5.out).mono ?_); rintro e w' ⟨rfl, ⟨nd, rfl⟩⟩; refine ⟨_, rfl, ?_⟩) | ((with_reducible refine gate_callee (f := 45) rfl ?_); refine gl_ (some 13) Tryd.func45 #[.int .i64 a0, .int .u64 a1, .int .u64 (IntKind.u64.wrap (t248 - 2))] ?_; (with_reducible refine (attestorref01_Pow.calls k a0 a1 (IntKind.u64.wrap (t248 - 2)) t249 _ A6.out).mono ?_); rintro e w' ⟨rfl, ⟨nd, rfl⟩⟩; refine ⟨_, rfl, ?_⟩))
  go_ret
  exact ⟨by first | rfl | (simp; done) | (simp [*]; done), by repeat (first | exact Drawn0.refl _ | apply Drawn0.step)⟩
 replace c4 := Bool.eq_false_iff.mpr c4
 subst c4
 rw [if_neg (show ¬ (false = true) by decide)] at H
 obtain rfl := Option.some.inj H
 go_enter Tryd.func88, Tryd.ntmps88
 go_wp2_with (first | ((with_reducible refine gate_callee (f := 66) rfl ?_); refine gl_ (some 6) Tryd.func66 #[.int .i64 a0] ?_; (with_reducible refine (attestorref01_Valid.calls a0 false _ A3.out).mono ?_); rintro e w' ⟨rfl, ⟨nd, rfl⟩⟩; refine ⟨_, rfl, ?_⟩))
 go_ret
 exact ⟨by first | rfl | (simp; done) | (simp [*]; done), by repeat (first | exact Drawn0.refl _ | apply Drawn0.step)⟩

def attestorref01_Div.f (k : Nat) (a0 : Int) (a1 : Int) (a2 : Int) : Option (Int) := (attestorref01_Inv.f k a0 a2).bind fun t250 => ((attestorref01_Mul.f a0 a1 t250).bind fun t251 => (some t251))
set_option maxHeartbeats 8000000 in
set_option maxRecDepth 100000 in
theorem attestorref01_Div.calls (k : Nat) (a0 : Int) (a1 : Int) (a2 : Int) (r : Int) (w : World) (h : attestorref01_Div.f k a0 a1 a2 = some r) :
  Calls Tryd.prog 75 #[.int .i64 a0, .int .u64 a1, .int .u64 a2] w fun e w' => e = .returned (.int .u64 r) ∧ Drawn0 w w' := by
 have H := h
 clear h
 unfold attestorref01_Div.f at H
 revert H
 refine bd_ fun t250 A4 H => ?_
 revert H
 refine bd_ fun t251 A5 H => ?_
 obtain rfl := Option.some.inj H
 go_enter Tryd.func75, Tryd.ntmps75
 go_wp2_with (first | ((with_reducible refine gate_callee (f := 88) rfl ?_); refine gl_ (some 11) Tryd.func88 #[.int .i64 a0, .int .u64 a2] ?_; (with_reducible refine (attestorref01_Inv.calls k a0 a2 t250 _ A4.out).mono ?_); rintro e w' ⟨rfl, ⟨nd, rfl⟩⟩; refine ⟨_, rfl, ?_⟩) | ((with_reducible refine gate_callee (f := 49) rfl ?_); refine gl_ (some 12) Tryd.func49 #[.int .i64 a0, .int .u64 a1, .int .u64 t250] ?_; (with_reducible refine (attestorref01_Mul.calls a0 a1 t250 t251 _ A5.out).mono ?_); rintro e w' ⟨rfl, ⟨nd, rfl⟩⟩; refine ⟨_, rfl, ?_⟩))
 go_ret
 exact ⟨by first | rfl | (simp; done) | (simp [*]; done), by repeat (first | exact Drawn0.refl _ | apply Drawn0.step)⟩

mutual
def attestorref03_Through.j0 : Nat → Int → List Int → List Int → Bool → Option (List Int × Int)
 | 0, _, _, _, _ => none
 | k + 1, x0, x1, x2, x25 => if x25 = true then (some (([] : List Int), 1)) else (if (x1.length : Int) > 1024 then (some (([] : List Int), 3)) else (attestorref03_Through.l0 k x0 x1 x2 0))
def attestorref03_Through.l0 : Nat → Int → List Int → List Int → Int → Option (List Int × Int)
 | 0, _, _, _, _ => none
 | k + 1, x0, x1, x2, x8 => if x8 < (x1.length : Int) then (attestorref03_Through.l1 k x0 x1 x2 x8 0) else (attestorref03_Through.l2 k x0 x1 x2 ([] : List Int) 0)
def attestorref03_Through.l1 : Nat → Int → List Int → List Int → Int → Int → Option (List Int × Int)
 | 0, _, _, _, _, _ => none
 | k + 1, x0, x1, x2, x8, x9 => if x9 < x8 then (if 0 ≤ x8 then (if x8 < (x1.length : Int) then (if 0 ≤ x9 then (if x9 < (x1.length : Int) then ((attestorref01_Sub.f x0 (rd x1 x8) (rd x1 x9)).bind fun t255 => (if t255 = 0 then (some (([] : List Int), 6)) else (attestorref03_Through.l1 k x0 x1 x2 x8 (wrap64 (x9 + 1))))) else (none)) else (none)) else (none)) else (none)) else (attestorref03_Through.l0 k x0 x1 x2 (wrap64 (x8 + 1)))
def attestorref03_Through.l2 : Nat → Int → List Int → List Int → List Int → Int → Option (List Int × Int)
 | 0, _, _, _, _, _ => none
 | k + 1, x0, x1, x2, x10, x11 => if x11 < (x1.length : Int) then (attestorref03_Through.l3 k x0 x1 x2 x10 x11 ([] : List Int) 0) else (some (x10, 0))
def attestorref03_Through.l3 : Nat → Int → List Int → List Int → List Int → Int → List Int → Int → Option (List Int × Int)
 | 0, _, _, _, _, _, _, _ => none
 | k + 1, x0, x1, x2, x10, x11, x12, x13 => if x13 < (x1.length : Int) then (if x13 = x11 then (attestorref03_Through.l3 k x0 x1 x2 x10 x11 x12 (wrap64 (x13 + 1))) else (if 0 ≤ x13 then (if x12.length < 17592186044416 then (attestorref03_Through.l3 k x0 x1 x2 x10 x11 (x12 ++ [rd x1 x13]) (wrap64 (x13 + 1))) else (none)) else (none))) else ((attestorref03_Vanish.f k x0 x12).bind fun bt260 => (if 0 ≤ x11 then (if x11 < (x2.length : Int) then (if x11 < (x1.length : Int) then ((attestorref03_Eval.f k x0 bt260.1 (rd x1 x11)).bind fun t266 => ((attestorref01_Div.f k x0 (rd x2 x11) t266).bind fun t267 => ((attestorref03_Scale.f k x0 bt260.1 t267).bind fun t268 => ((attestorref03_Add.f k x0 x10 t268).bind fun t271 => (attestorref03_Through.l2 k x0 x1 x2 t271 (wrap64 (x11 + 1))))))) else (none)) else (none)) else (none)))
end
def attestorref03_Through.f (k : Nat) (a0 : Int) (l1 : List Int) (l2 : List Int) : Option (List Int × Int) := (attestorref01_Valid.f a0).bind fun t252 => (if t252 = true then (attestorref03_Through.j0 k a0 l1 l2 ((l1.length : Int) != (l2.length : Int))) else (attestorref03_Through.j0 k a0 l1 l2 true))
def attestorref03_Through.T11 : Bool × List (List Nat × List Nat) := (true, [([], []), ([], []), ([], []), ([1, 2], [1, 2]), ([3], [3]), ([], []), ([], []), ([5, 6], [5, 6]), ([7], [7]), ([0, 4, 8], [0, 4, 8]), ([9], [9])])
def attestorref03_Through.B11 : List Nat := [0, 0, 0, 6, 14, 0, 0, 96, 224, 511, 1023]
theorem attestorref03_Through.tab11 : rtab .any (opsOf Tryd.f50 11) = attestorref03_Through.T11 := by kernel_rfl
theorem attestorref03_Through.bits11 : waitsOk attestorref03_Through.T11.2 attestorref03_Through.B11 = true := by kernel_rfl
def attestorref03_Through.T24 : Bool × List (List Nat × List Nat) := (true, [([], []), ([], []), ([], []), ([], []), ([], []), ([], []), ([], []), ([5, 6], [5, 6]), ([7], [7]), ([], []), ([], []), ([], []), ([], []), ([11, 12], [11, 12]), ([13], [13]), ([9, 10, 14], [9, 10, 14]), ([4, 8, 15, 15], [4, 8, 15]), ([2, 3, 16, 16], [2, 3, 16]), ([0, 1, 17, 17], [0, 1, 17]), ([18, 18, 0, 1, 2, 3, 4, 5, 6, 7, 8, 9, 10, 11, 12, 13, 14, 15, 16, 17, 18], [1, 18])])
def attestorref03_Through.B24 : List Nat := [0, 0, 0, 0, 0, 0, 0, 96, 224, 0, 0, 0, 0, 6144, 14336, 32256, 65520, 131068, 262143, 524287]
theorem attestorref03_Through.tab24 : rtab .any (opsOf Tryd.f50 24) = attestorref03_Through.T24 := by kernel_rfl
theorem attestorref03_Through.bits24 : waitsOk attestorref03_Through.T24.2 attestorref03_Through.B24 = true := by kernel_rfl
set_option maxHeartbeats 8000000 in
set_option maxRecDepth 100000 in
theorem attestorref03_Through.calls (k : Nat) (a0 : Int) (A1 : Option Addr) (c1 : Nat) (l1 : List Int) (A2 : Option Addr) (c2 : Nat) (l2 : List Int) (r1 : List Int) (r2 : Int) (w : World) (hr1 : Kd.C (Kd.int .u64) w A1 l1.length l1) (hc1 : l1.length ≤ c1) (hr2 : Kd.C (Kd.int .u64) w A2 l2.length l2) (hc2 : l2.length ≤ c2) (h : attestorref03_Through.f k a0 l1 l2 = some (r1, r2)) :
  Calls Tryd.prog 50 #[.int .i64 a0, .slice A1 l1.length c1, .slice A2 l2.length c2] w fun e w' => ∃ v0_ : Value, e = .returned (.tuple #[v0_, .int .i64 r2]) ∧ Kd.R (Kd.int .u64) 22 w' w.heap.size (fun _ => True) v0_ r1 ∧ Below w.heap.size w w' := by
 have HR1 := ak hr1
 have HC1 := ak hc1
 clear hr1 hc1
 have HR2 := ak hr2
 have HC2 := ak hc2
 clear hr2 hc2
 have HB := ak (Below.refl w.heap.size w)
 have H := h
 clear h
 unfold attestorref03_Through.f at H
 have HC4 := ak H
 clear H
 go_enter Tryd.func50, Tryd.ntmps50
 go_upto_region 1 with (fail)
 go_cut [25] (fun v25 wc => ∃ (kq : Nat) (x25_3 : Bool), v25 = .bool x25_3 ∧ Aside0 (attestorref03_Through.j0 kq a0 l1 l2 x25_3 = some (r1, r2)) ∧ Aside0 (kq ≤ k) ∧ Aside0 (Below w.heap.size w wc))
 case first =>
  have H := HC4.out
  clear HC4
  revert H
  refine bd_ fun t252 A5 H => ?_
  by_cases c6 : t252 = true
  ·subst c6
   rw [if_pos rfl] at H
   have H' := ak H
   clear H
   go_wp2_with (first | ((with_reducible refine gate_callee (f := 66) rfl ?_); refine gl_ (some 17) Tryd.func66 #[.int .i64 a0] ?_; (with_reducible refine (attestorref01_Valid.calls a0 true _ A5.out).mono ?_); rintro e w' ⟨rfl, ⟨nd, rfl⟩⟩; refine ⟨_, rfl, ?_⟩))
   go_meet
   case rel => exact ⟨_, (((l1.length : Int) != (l2.length : Int))), gb_, H', ⟨by first | omega | exact Nat.le_refl _⟩, ⟨bU_ HB.out⟩⟩
  replace c6 := Bool.eq_false_iff.mpr c6
  subst c6
  rw [if_neg (show ¬ (false = true) by decide)] at H
  have H' := ak H
  clear H
  go_wp2_with (first | ((with_reducible refine gate_callee (f := 66) rfl ?_); refine gl_ (some 17) Tryd.func66 #[.int .i64 a0] ?_; (with_reducible refine (attestorref01_Valid.calls a0 false _ A5.out).mono ?_); rintro e w' ⟨rfl, ⟨nd, rfl⟩⟩; refine ⟨_, rfl, ?_⟩))
  go_meet
  case rel => exact ⟨_, (true), gb_, H', ⟨by first | omega | exact Nat.le_refl _⟩, ⟨bU_ HB.out⟩⟩
 case rest =>
  clear HC4
  (try clear c1); (try clear c2); (try clear p2); (try clear c5); (try clear c6)
  obtain ⟨kq, x25_3, rfl, HA, HJ3, HB⟩ := hcut
  cases kq with
  | zero => exact absurd HA.out (by simp [attestorref03_Through.j0])
  | succ kj3 =>
   have H := HA.out
   clear HA
   simp only [attestorref03_Through.j0] at H
   by_cases c7 : x25_3 = true
   ·subst c7
    rw [if_pos rfl] at H
    simp only [Option.some.injEq, Prod.mk.injEq] at H
    obtain ⟨rfl, rfl⟩ := H
    go_wp2
    go_ret2
    exact ⟨_, eW_, by first | exact Kd.R_nil _ _ _ _ _ | exact Kd.N_nil _ _ _ _ _ | exact Kd.V_nil _ _ _ _ _ | exact Kd.Q_nil _ _ _ _ _ | exact Kd.S_nil _ _ _ _ _, bU_ HB.out⟩
   replace c7 := Bool.eq_false_iff.mpr c7
   subst c7
   rw [if_neg (show ¬ (false = true) by decide)] at H
   by_cases c8 : (l1.length : Int) > 1024
   ·rw [if_pos c8] at H
    have c8b0 : decide (1024 < (l1.length : Int)) = true := decide_eq_true c8
    have c8b1 : decide (1024 < l1.length) = true := decide_eq_true (by omega)
    clear c8
    simp only [Option.some.injEq, Prod.mk.injEq] at H
    obtain ⟨rfl, rfl⟩ := H
    go_wp2
    go_ret2
    exact ⟨_, eW_, by first | exact Kd.R_nil _ _ _ _ _ | exact Kd.N_nil _ _ _ _ _ | exact Kd.V_nil _ _ _ _ _ | exact Kd.Q_nil _ _ _ _ _ | exact Kd.S_nil _ _ _ _ _, bU_ HB.out⟩
   rw [if_neg c8] at H
   have c8b0 : decide (1024 < (l1.length : Int)) = false := decide_eq_false c8
   have c8b1 : decide (1024 < l1.length) = false := decide_eq_false (by omega)
   clear c8
   have H' := ak H
   clear H
   go_wp2
   go_loopg [8] kj3 (fun kq v8 w' => ∃ (x8_2 : Int), v8 = .int .i64 x8_2 ∧ Aside0 (attestorref03_Through.l0 kq a0 l1 l2 x8_2 = some (r1, r2)) ∧ Aside0 (kq ≤ kj3) ∧ Aside0 (Below w.heap.size w w'))
   case atStart => exact ⟨(0), gb_, H', ⟨Nat.le_refl _⟩, ⟨bU_ HB.out⟩⟩
   case round =>
    clear H'
    (try clear c1); (try clear c2); (try clear p2); (try clear c5); (try clear c6); (try clear c7); (try clear c8); (try clear c8b0); (try clear c8b1)
    obtain ⟨x8_2, rfl, HA, HK2, HB⟩ := hrel
    cases gk with
    | zero => exact absurd HA.out (by simp [attestorref03_Through.l0])
    | succ k2 =>
     have H := HA.out
     clear HA
     simp only [attestorref03_Through.l0] at H
     by_cases c9 : x8_2 < (l1.length : Int)
     ·rw [if_pos c9] at H
      have c9b0 := decide_eq_true c9
      clear c9
      have H' := ak H
      clear H
      go_wp2
      go_loopg [9] k2 (fun kq v9 w' => ∃ (x9_3 : Int), v9 = .int .i64 x9_3 ∧ Aside0 (attestorref03_Through.l1 kq a0 l1 l2 x8_2 x9_3 = some (r1, r2)) ∧ Aside0 (kq ≤ k2) ∧ Aside0 (Below w.heap.size w w'))
      case atStart => exact ⟨(0), gb_, H', ⟨Nat.le_refl _⟩, ⟨bU_ HB.out⟩⟩
      case round =>
       clear H'
       (try clear c1); (try clear c2); (try clear p2); (try clear c5); (try clear c6); (try clear c7); (try clear c8); (try clear c8b0); (try clear c8b1); (try clear c9); (try clear c9b0)
       obtain ⟨x9_3, rfl, HA, HK3, HB⟩ := hrel
       cases gk with
       | zero => exact absurd HA.out (by simp [attestorref03_Through.l1])
       | succ k3 =>
        have H := HA.out
        clear HA
        simp only [attestorref03_Through.l1] at H
        by_cases c10 : x9_3 < x8_2
        ·rw [if_pos c10] at H
         have c10b0 := decide_eq_true c10
         clear c10
         obtain ⟨c11, H⟩ : (0 ≤ x8_2) ∧ _ := it_ H
         have c11b0 := decide_eq_true c11
         clear c11
         obtain ⟨c12, H⟩ : (x8_2 < (l1.length : Int)) ∧ _ := it_ H
         have c12b0 := decide_eq_true c12
         clear c12
         obtain ⟨c13, H⟩ : (0 ≤ x9_3) ∧ _ := it_ H
         have c13b0 := decide_eq_true c13
         clear c13
         obtain ⟨c14, H⟩ : (x9_3 < (l1.length : Int)) ∧ _ := it_ H
         have c14b0 := decide_eq_true c14
         clear c14
         revert H
         refine bd_ fun t255 A15 H => ?_
         by_cases c16 : t255 = 0
         ·rw [if_pos c16] at H
          have c16b0 := beq_iff_eq.mpr c16
          have c16b1 := bne_eq_false_iff_eq.mpr c16
          clear c16
          simp only [Option.some.injEq, Prod.mk.injEq] at H
          obtain ⟨rfl, rfl⟩ := H
          try go_wp2
          refine nx1_ (below_drew1 HB.out) ?_
          clear HB
          intro HB
          have p253 : 0 ≤ (x8_2 : Int) := od_
          have q253 : x8_2 < (l1.length : Int) := od_
          obtain ⟨ad253, e253, hx253_0⟩ := Kd.at_int HR1.out x8_2 p253 q253
          have hw253_0 := hx253_0
          cases e253
          replace hx253_0 := (HB.out.cell (World.block_lt_of_cell? w _ hx253_0)).trans hx253_0
          replace p253 := eq_true p253
          replace q253 := eq_true q253
          have p254 : 0 ≤ (x9_3 : Int) := od_
          have q254 : x9_3 < (l1.length : Int) := od_
          obtain ⟨ad254, e254, hx254_0⟩ := Kd.at_int HR1.out x9_3 p254 q254
          have hw254_0 := hx254_0
          obtain rfl : ad253 = ad254 := (by injection e254)
          replace hx254_0 := (HB.out.cell (World.block_lt_of_cell? w _ hx254_0)).trans hx254_0
          replace p254 := eq_true p254
          replace q254 := eq_true q254
          refine start_ (n := 11) (S := fun w' => w'.cell? (ad253.add (x8_2).toNat) = some (.int .u64 (rd l1 x8_2)) ∧ w'.cell? (ad253.add (x9_3).toNat) = some (.int .u64 (rd l1 x9_3))) (ds := []) (bv 11 0) (by kernel_rfl) rfl rfl ⟨((HB.out.cell (World.block_lt_of_cell? w _ hw253_0)).trans hw253_0), ((HB.out.cell (World.block_lt_of_cell? w _ hw254_0)).trans hw254_0)⟩ (fun hHeld => ?_); refine with_tabW attestorref03_Through.tab11 attestorref03_Through.bits11 (fun HT_ HW_ => ?_)
          generalize wr.drew = w17 at HB hx253_0 hx254_0 hHeld ⊢
          refine pq_ 0 40 11 1 HT_.out ?_
          refine pq_ 1 41 11 3 HT_.out ?_
          refine pq_ 2 42 11 7 HT_.out ?_
          refine pq_ 3 43 11 15 HT_.out ?_
          refine pq_ 5 45 11 47 HT_.out ?_
          refine pq_ 6 46 11 111 HT_.out ?_
          refine pq_ 7 47 11 239 HT_.out ?_
          refine tq_ 4 44 11 255 HT_.out HW_.out hHeld ?_
          refine tq_ 8 48 11 511 HT_.out HW_.out hHeld ?_
          refine oq_ 9 49 11 1023 HT_.out fun K hK => ?_
          refine gs_ Tryd.func71 #[.int .i64 a0, .int .u64 (rd l1 x8_2), .int .u64 (rd l1 x9_3)] ?_
          with_reducible refine (attestorref01_Sub.calls a0 (rd l1 x8_2) (rd l1 x9_3) t255 _ A15.out).mono ?_
          rintro e w' ⟨rfl, ⟨nd, rfl⟩⟩
          refine ⟨_, rfl, ?_⟩
          refine hK.out _ _ ⟨((HB.out.cell (World.block_lt_of_cell? w _ hw253_0)).trans hw253_0), ((HB.out.cell (World.block_lt_of_cell? w _ hw254_0)).trans hw254_0)⟩ (fun hHeld => ?_)
          clear hK K
          refine norm_ (a' := ?_) ?_ ?_
          rotate_left
          ·show Act.put _ (some 49) _ = _
           simp only [Act.put, s1_, s2_, s3_, i64_w, i32_w]
           rfl
          refine pq_ 10 50 11 2047 HT_.out ?_
          refine done_ (done_of HT_.out (by kernel_rfl)) ?_
          try go_wp2
          go_ret2
          exact ⟨_, eW_, by first | exact Kd.R_nil _ _ _ _ _ | exact Kd.N_nil _ _ _ _ _ | exact Kd.V_nil _ _ _ _ _ | exact Kd.Q_nil _ _ _ _ _ | exact Kd.S_nil _ _ _ _ _, bU_ HB.out⟩
         rw [if_neg c16] at H
         have c16b0 := beq_eq_false_iff_ne.mpr c16
         have c16b1 := bne_iff_ne.mpr c16
         have H' := ak H
         clear H
         try go_wp2
         refine nx1_ (below_drew1 HB.out) ?_
         clear HB
         intro HB
         have p253 : 0 ≤ (x8_2 : Int) := od_
         have q253 : x8_2 < (l1.length : Int) := od_
         obtain ⟨ad253, e253, hx253_0⟩ := Kd.at_int HR1.out x8_2 p253 q253
         have hw253_0 := hx253_0
         cases e253
         replace hx253_0 := (HB.out.cell (World.block_lt_of_cell? w _ hx253_0)).trans hx253_0
         replace p253 := eq_true p253
         replace q253 := eq_true q253
         have p254 : 0 ≤ (x9_3 : Int) := od_
         have q254 : x9_3 < (l1.length : Int) := od_
         obtain ⟨ad254, e254, hx254_0⟩ := Kd.at_int HR1.out x9_3 p254 q254
         have hw254_0 := hx254_0
         obtain rfl : ad253 = ad254 := (by injection e254)
         replace hx254_0 := (HB.out.cell (World.block_lt_of_cell? w _ hx254_0)).trans hx254_0
         replace p254 := eq_true p254
         replace q254 := eq_true q254
         refine start_ (n := 11) (S := fun w' => w'.cell? (ad253.add (x8_2).toNat) = some (.int .u64 (rd l1 x8_2)) ∧ w'.cell? (ad253.add (x9_3).toNat) = some (.int .u64 (rd l1 x9_3))) (ds := []) (bv 11 0) (by kernel_rfl) rfl rfl ⟨((HB.out.cell (World.block_lt_of_cell? w _ hw253_0)).trans hw253_0), ((HB.out.cell (World.block_lt_of_cell? w _ hw254_0)).trans hw254_0)⟩ (fun hHeld => ?_); refine with_tabW attestorref03_Through.tab11 attestorref03_Through.bits11 (fun HT_ HW_ => ?_)
         generalize wr.drew = w18 at HB hx253_0 hx254_0 hHeld ⊢
         refine pq_ 0 40 11 1 HT_.out ?_
         refine pq_ 1 41 11 3 HT_.out ?_
         refine pq_ 2 42 11 7 HT_.out ?_
         refine pq_ 3 43 11 15 HT_.out ?_
         refine pq_ 5 45 11 47 HT_.out ?_
         refine pq_ 6 46 11 111 HT_.out ?_
         refine pq_ 7 47 11 239 HT_.out ?_
         refine tq_ 4 44 11 255 HT_.out HW_.out hHeld ?_
         refine tq_ 8 48 11 511 HT_.out HW_.out hHeld ?_
         refine oq_ 9 49 11 1023 HT_.out fun K hK => ?_
         refine gs_ Tryd.func71 #[.int .i64 a0, .int .u64 (rd l1 x8_2), .int .u64 (rd l1 x9_3)] ?_
         with_reducible refine (attestorref01_Sub.calls a0 (rd l1 x8_2) (rd l1 x9_3) t255 _ A15.out).mono ?_
         rintro e w' ⟨rfl, ⟨nd, rfl⟩⟩
         refine ⟨_, rfl, ?_⟩
         refine hK.out _ _ ⟨((HB.out.cell (World.block_lt_of_cell? w _ hw253_0)).trans hw253_0), ((HB.out.cell (World.block_lt_of_cell? w _ hw254_0)).trans hw254_0)⟩ (fun hHeld => ?_)
         clear hK K
         refine norm_ (a' := ?_) ?_ ?_
         rotate_left
         ·show Act.put _ (some 49) _ = _
          simp only [Act.put, s1_, s2_, s3_, i64_w, i32_w]
          rfl
         refine pq_ 10 50 11 2047 HT_.out ?_
         refine done_ (done_of HT_.out (by kernel_rfl)) ?_
         try go_wp2
         go_roundg k3
         case measure => have := HJ3.out; have := HK2.out; have := HK3.out; omega
         case rel => exact ⟨(wrap64 (x9_3 + 1)), gb_, H', ⟨by have := HJ3.out; have := HK2.out; have := HK3.out; omega⟩, ⟨bU_ HB.out⟩⟩
        rw [if_neg c10] at H
        have c10b0 := decide_eq_false c10
        clear c10
        have H' := ak H
        clear H
        go_wp2
        go_roundg k3
        case measure => have := HJ3.out; have := HK2.out; have := HK3.out; omega
        case rel => exact ⟨(wrap64 (x8_2 + 1)), gb_, H', ⟨by have := HJ3.out; have := HK2.out; have := HK3.out; omega⟩, ⟨bU_ HB.out⟩⟩
     rw [if_neg c9] at H
     have c9b0 := decide_eq_false c9
     clear c9
     have H' := ak H
     clear H
     go_wp2
     go_loopg [10, 11] k2 (fun kq v10 v11 w' => ∃ (x10_3 : List Int) (x11_3 : Int), v11 = .int .i64 x11_3 ∧ Aside0 (attestorref03_Through.l2 kq a0 l1 l2 x10_3 x11_3 = some (r1, r2)) ∧ Aside0 (kq ≤ k2) ∧ Aside0 (Kd.R (Kd.int .u64) 22 w' w.heap.size (fun _ => True) v10 x10_3) ∧ Aside0 (Below w.heap.size w w'))
     case atStart => exact ⟨(([] : List Int)), (0), gb_, H', ⟨Nat.le_refl _⟩, ⟨by first | exact Kd.R_nil _ _ _ _ _ | exact Kd.N_nil _ _ _ _ _ | exact Kd.V_nil _ _ _ _ _ | exact Kd.Q_nil _ _ _ _ _ | exact Kd.S_nil _ _ _ _ _⟩, ⟨bU_ HB.out⟩⟩
     case round =>
      clear H'
      (try clear c1); (try clear c2); (try clear p2); (try clear q2); (try clear hx2); (try clear c5); (try clear c6); (try clear p6); (try clear c7); (try clear c8); (try clear c8b0); (try clear c8b1); (try clear c9); (try clear c9b0); (try clear c10); (try clear c10b0); (try clear c11); (try clear c11b0); (try clear c12); (try clear c12b0); (try clear c13); (try clear c13b0); (try clear c14); (try clear c14b0); (try clear c16); (try clear c16b0); (try clear c16b1); (try clear hx253_0); (try clear hx254_0); (try clear p253); (try clear p254); (try clear q253); (try clear q254)
      obtain ⟨x10_3, x11_3, rfl, HA, HK3, HO_10, HB⟩ := hrel
      cases gk with
      | zero => exact absurd HA.out (by simp [attestorref03_Through.l2])
      | succ k3 =>
       have H := HA.out
       clear HA
       simp only [attestorref03_Through.l2] at H
       by_cases c19 : x11_3 < (l1.length : Int)
       ·rw [if_pos c19] at H
        have c19b0 := decide_eq_true c19
        clear c19
        have H' := ak H
        clear H
        go_wp2
        go_loopg [12, 13] k3 (fun kq v12 v13 w' => ∃ (x12_4 : List Int) (x13_4 : Int), v13 = .int .i64 x13_4 ∧ Aside0 (attestorref03_Through.l3 kq a0 l1 l2 x10_3 x11_3 x12_4 x13_4 = some (r1, r2)) ∧ Aside0 (kq ≤ k3) ∧ Aside0 (Kd.R (Kd.int .u64) 22 w' w.heap.size (fun k_ => some k_ ≠ (v12 : Value).ownBlock) u10 x10_3) ∧ Aside0 (Kd.R (Kd.int .u64) 22 w' w.heap.size (fun k_ => some k_ ≠ (u10 : Value).ownBlock) v12 x12_4) ∧ Aside0 (Below w.heap.size w w'))
        case atStart => exact ⟨(([] : List Int)), (0), gb_, H', ⟨Nat.le_refl _⟩, ⟨R_mono (rU_ HO_10.out) (fun _ hk => (by simp [Value.ownBlock]))⟩, ⟨by first | exact Kd.R_nil _ _ _ _ _ | exact Kd.N_nil _ _ _ _ _ | exact Kd.V_nil _ _ _ _ _ | exact Kd.Q_nil _ _ _ _ _ | exact Kd.S_nil _ _ _ _ _⟩, ⟨bU_ HB.out⟩⟩
        case round =>
         clear H'
         (try clear c1); (try clear c2); (try clear p2); (try clear q2); (try clear hx2); (try clear c5); (try clear c6); (try clear p6); (try clear c7); (try clear c8); (try clear c8b0); (try clear c8b1); (try clear c9); (try clear c9b0); (try clear c10); (try clear c10b0); (try clear c11); (try clear c11b0); (try clear c12); (try clear c12b0); (try clear c13); (try clear c13b0); (try clear c14); (try clear c14b0); (try clear c16); (try clear c16b0); (try clear c16b1); (try clear c19); (try clear c19b0); (try clear hx253_0); (try clear hx254_0); (try clear p253); (try clear p254); (try clear q253); (try clear q254)
         obtain ⟨x12_4, x13_4, rfl, HA, HK4, HO_10, HO_12, HB⟩ := hrel
         cases gk with
         | zero => exact absurd HA.out (by simp [attestorref03_Through.l3])
         | succ k4 =>
          have H := HA.out
          clear HA
          simp only [attestorref03_Through.l3] at H
          by_cases c20 : x13_4 < (l1.length : Int)
          ·rw [if_pos c20] at H
           have c20b0 := decide_eq_true c20
           clear c20
           by_cases c21 : x13_4 = x11_3
           ·rw [if_pos c21] at H
            have c21b0 := beq_iff_eq.mpr c21
            have c21b1 := bne_eq_false_iff_eq.mpr c21
            clear c21
            have H' := ak H
            clear H
            go_wp2
            go_roundg k4
            case measure => have := HJ3.out; have := HK2.out; have := HK3.out; have := HK4.out; omega
            case rel => exact ⟨(x12_4), (wrap64 (x13_4 + 1)), gb_, H', ⟨by have := HJ3.out; have := HK2.out; have := HK3.out; have := HK4.out; omega⟩, ⟨rU_ HO_10.out⟩, ⟨rU_ HO_12.out⟩, ⟨bU_ HB.out⟩⟩
           rw [if_neg c21] at H
           have c21b0 := beq_eq_false_iff_ne.mpr c21
           have c21b1 := bne_iff_ne.mpr c21
           obtain ⟨c22, H⟩ : (0 ≤ x13_4) ∧ _ := it_ H
           have c22b0 := decide_eq_true c22
           clear c22
           obtain ⟨c23, H⟩ : (x12_4.length < 17592186044416) ∧ _ := it_ H
           have LMc23 := ak c23
           clear c23
           obtain ⟨y257, hy257⟩ : ∃ y_ : List Int, y_ = (x12_4 ++ [rd l1 x13_4]) := ⟨_, rfl⟩
           first | rw [Option.bind_some, ← hy257] at H | rw [← hy257] at H
           have Ny257 := ak hy257
           clear hy257
           have H' := ak H
           clear H
           have p256 : 0 ≤ (x13_4 : Int) := od_
           have q256 : x13_4 < (l1.length : Int) := od_
           obtain ⟨ad256, e256, hx256_0⟩ := Kd.at_int HR1.out x13_4 p256 q256
           cases e256
           replace hx256_0 := (HB.out.cell (World.block_lt_of_cell? w _ hx256_0)).trans hx256_0
           replace p256 := eq_true p256
           replace q256 := eq_true q256
           go_wp2_with (first | ((with_reducible refine gate_builtin (b := .append) (xs := #[.tmp 66, .tmp 71]) rfl ?_); (try (refine gate_guard (by rfl) ?_; dsimp only)); at_builtin; refine Kd.R_append (Kd.int .u64) (w0 := w) w.heap.size rfl (.tmp 66) (.tmp 71) 33 22 (.int .u64 0) 8 rfl Tryd.underlying33 info22 rfl (by decide) (by omega) u12 x12_4 (rd l1 x13_4) [.int .u64 (rd l1 x13_4)] (fun k_ => some k_ ≠ (u10 : Value).ownBlock) (fun _ => False) rfl rfl ?aP (fun _ hk => hk.elim) ?aF ?aO ?aB ?aS ?aL ?_; (case aP => exact rfl); (case aB => exact (bU_ HB.out)); (case aF => exact (fun k_ hk => fresh' (R_lt (rU_ HO_10.out)) k_ hk)); (case aO => exact (rU_ HO_12.out)); (case aS => exact (below_size (bU_ HB.out))); (case aL => have := LMc23.out; omega); intro v258 w24 ho hb hg hat; rw [← Ny257.out] at ho; refine nx3_ (Kd.R_after (ok := (fun _ => True)) (R_mono (rU_ HO_10.out) (fun _ hk => ⟨trivial, hk⟩)) hg hat) (hb) (ho) ?_; clear HO_10 HB HO_12; intro HO_10 HB HO259; clear ho hb hg hat))
           go_roundg k4
           case measure => have := HJ3.out; have := HK2.out; have := HK3.out; have := HK4.out; omega
           case rel => exact ⟨(y257), (wrap64 (x13_4 + 1)), gb_, H', ⟨by have := HJ3.out; have := HK2.out; have := HK3.out; have := HK4.out; omega⟩, ⟨R_mono (rU_ HO_10.out) (fun _ hk => hk.2)⟩, ⟨rU_ HO259.out⟩, ⟨bU_ HB.out⟩⟩
          rw [if_neg c20] at H
          have c20b0 := decide_eq_false c20
          clear c20
          revert H
          refine bd2_ fun t260 t261 A25 H => ?_
          try dsimp only at H
          obtain ⟨c26, H⟩ : (0 ≤ x11_3) ∧ _ := it_ H
          have c26b0 := decide_eq_true c26
          clear c26
          obtain ⟨c27, H⟩ : (x11_3 < (l2.length : Int)) ∧ _ := it_ H
          have c27b0 := decide_eq_true c27
          clear c27
          obtain ⟨c28, H⟩ : (x11_3 < (l1.length : Int)) ∧ _ := it_ H
          have c28b0 := decide_eq_true c28
          clear c28
          revert H
          refine bd_ fun t266 A29 H => ?_
          revert H
          refine bd_ fun t267 A30 H => ?_
          revert H
          refine bd_ fun t268 A31 H => ?_
          revert H
          refine bd_ fun t271 A32 H => ?_
          have H' := ak H
          clear H
          obtain ⟨Ao33, co33, eo33⟩ := R_slice HO_12.out
          subst eo33
          try go_wp2_with (first | ((with_reducible refine gate_callee (f := 72) rfl ?_); refine gl_ (some 76) Tryd.func72 #[.int .i64 a0, .slice Ao33 x12_4.length co33] ?_; (with_reducible refine (attestorref03_Vanish.calls k4 a0 _ _ x12_4 t260 t261 _ ?side1 ?side2 A25.out).mono ?_); (case side1 => exact cU_ ((R_reads' HO_12.out).2.2)); (case side2 => exact (R_reads' HO_12.out).2.1); rintro e w34 ⟨v262, rfl, ho0, hb⟩; refine ⟨_, rfl, ?_⟩; refine nx4_ (R_elder' (rU_ HO_10.out) (R_base ho0) hb) (R_elder' (rU_ HO_12.out) (R_base ho0) hb) (R_lower (R_new' (R_new' ho0 (R_lt (rU_ HO_10.out))) (R_lt (rU_ HO_12.out))) (below_size (bU_ HB.out))) (below_step (bU_ HB.out) hb) ?_; clear HO_10 HO_12 HB; intro HO_10 HO_12 HO263 HB; clear hb ho0))
          refine nx4_ (R_drew HO_10.out) (R_drew HO_12.out) (R_drew HO263.out) (below_drew1 HB.out) ?_
          clear HO_10 HO_12 HO263 HB
          intro HO_10 HO_12 HO263 HB
          have p264 : 0 ≤ (x11_3 : Int) := od_
          have q264 : x11_3 < (l2.length : Int) := od_
          obtain ⟨ad264, e264, hx264_0⟩ := Kd.at_int HR2.out x11_3 p264 q264
          have hw264_0 := hx264_0
          cases e264
          replace hx264_0 := (HB.out.cell (World.block_lt_of_cell? w _ hx264_0)).trans hx264_0
          replace p264 := eq_true p264
          replace q264 := eq_true q264
          have p265 : 0 ≤ (x11_3 : Int) := od_
          have q265 : x11_3 < (l1.length : Int) := od_
          obtain ⟨ad265, e265, hx265_0⟩ := Kd.at_int HR1.out x11_3 p265 q265
          have hw265_0 := hx265_0
          cases e265
          replace hx265_0 := (HB.out.cell (World.block_lt_of_cell? w _ hx265_0)).trans hx265_0
          replace p265 := eq_true p265
          replace q265 := eq_true q265
          obtain ⟨Ao36, co36, eo36⟩ := R_slice HO263.out
          (first | subst eo36 | (injection eo36 with f1_ f2_ f3_; have f4_ := f1_.symm; have f5_ := f3_.symm; clear f1_ f2_ f3_; subst f4_; subst f5_))
          refine start_ (n := 20) (S := fun w' => w'.cell? (ad264.add (x11_3).toNat) = some (.int .u64 (rd l2 x11_3)) ∧ w'.cell? (ad265.add (x11_3).toNat) = some (.int .u64 (rd l1 x11_3))) (ds := []) (bv 20 0) (by kernel_rfl) rfl rfl ⟨((HB.out.cell (World.block_lt_of_cell? w _ hw264_0)).trans hw264_0), ((HB.out.cell (World.block_lt_of_cell? w _ hw265_0)).trans hw265_0)⟩ (fun hHeld => ?_); refine with_tabW attestorref03_Through.tab24 attestorref03_Through.bits24 (fun HT_ HW_ => ?_)
          generalize w34.drew = w35 at HO_10 HO_12 HO263 HB hx264_0 hx265_0 hHeld ⊢
          refine pq_ 0 79 20 1 HT_.out ?_
          refine pq_ 1 80 20 3 HT_.out ?_
          refine pq_ 2 81 20 7 HT_.out ?_
          refine pq_ 3 82 20 15 HT_.out ?_
          refine pq_ 4 83 20 31 HT_.out ?_
          refine pq_ 5 84 20 63 HT_.out ?_
          refine pq_ 6 85 20 127 HT_.out ?_
          refine pq_ 7 86 20 255 HT_.out ?_
          refine pq_ 9 88 20 767 HT_.out ?_
          refine pq_ 10 89 20 1791 HT_.out ?_
          refine pq_ 11 90 20 3839 HT_.out ?_
          refine pq_ 12 91 20 7935 HT_.out ?_
          refine pq_ 13 92 20 16127 HT_.out ?_
          refine tq_ 8 87 20 16383 HT_.out HW_.out hHeld ?_
          refine tq_ 14 93 20 32767 HT_.out HW_.out hHeld ?_
          refine oq_ 15 94 20 65535 HT_.out fun K hK => ?_
          refine gs_ Tryd.func51 #[.int .i64 a0, .slice Ao36 t260.length co36, .int .u64 (rd l1 x11_3)] ?_
          with_reducible refine (attestorref03_Eval.calls k4 a0 _ _ t260 (rd l1 x11_3) t266 _ ?side1 ?side2 A29.out).mono ?_
          (case side1 => exact cU_ ((R_reads' HO263.out).2.2))
          (case side2 => exact (R_reads' HO263.out).2.1)
          rintro e w' ⟨rfl, ⟨nd, rfl⟩⟩
          refine ⟨_, rfl, ?_⟩
          refine hK.out _ _ ⟨((HB.out.cell (World.block_lt_of_cell? w _ hw264_0)).trans hw264_0), ((HB.out.cell (World.block_lt_of_cell? w _ hw265_0)).trans hw265_0)⟩ (fun hHeld => ?_)
          clear hK K
          refine norm_ (a' := ?_) ?_ ?_
          rotate_left
          ·show Act.put _ (some 94) _ = _
           simp only [Act.put, s1_, s2_, s3_, i64_w, i32_w]
           rfl
          refine oq_ 16 95 20 131071 HT_.out fun K hK => ?_
          refine gs_ Tryd.func75 #[.int .i64 a0, .int .u64 (rd l2 x11_3), .int .u64 t266] ?_
          with_reducible refine (attestorref01_Div.calls k4 a0 (rd l2 x11_3) t266 t267 _ A30.out).mono ?_
          rintro e w' ⟨rfl, ⟨nd, rfl⟩⟩
          refine ⟨_, rfl, ?_⟩
          refine hK.out _ _ ⟨((HB.out.cell (World.block_lt_of_cell? w _ hw264_0)).trans hw264_0), ((HB.out.cell (World.block_lt_of_cell? w _ hw265_0)).trans hw265_0)⟩ (fun hHeld => ?_)
          clear hK K
          refine norm_ (a' := ?_) ?_ ?_
          rotate_left
          ·show Act.put _ (some 95) _ = _
           simp only [Act.put, s1_, s2_, s3_, i64_w, i32_w]
           rfl
          refine oq_ 17 96 20 262143 HT_.out fun K hK => ?_
          refine gs_ Tryd.func74 #[.int .i64 a0, .slice Ao36 t260.length co36, .int .u64 t267] ?_
          with_reducible refine (attestorref03_Scale.calls k4 a0 _ _ t260 t267 t268 _ ?side1 ?side2 A31.out).mono ?_
          (case side1 => exact cU_ ((R_reads' HO263.out).2.2))
          (case side2 => exact (R_reads' HO263.out).2.1)
          rintro e w37 ⟨v269, rfl, ho0, hb⟩
          refine ⟨_, rfl, ?_⟩
          refine nx5_ (R_elder' (rU_ HO_10.out) (R_base ho0) hb) (R_elder' (rU_ HO_12.out) (R_base ho0) hb) (R_elder' (rU_ HO263.out) (R_base ho0) hb) (R_lower (R_new' (R_new' (R_new' ho0 (R_lt (rU_ HO_10.out))) (R_lt (rU_ HO_12.out))) (R_lt (rU_ HO263.out))) (below_size (bU_ HB.out))) (below_step (bU_ HB.out) hb) ?_
          clear HO_10 HO_12 HO263 HB
          intro HO_10 HO_12 HO263 HO270 HB
          (try clear hb)
          (try clear hb2)
          (try clear hk)
          (try clear hi)
          (try clear ho0)
          obtain ⟨Ao38, co38, eo38⟩ := R_slice HO_10.out
          (first | subst eo38 | (injection eo38 with f1_ f2_ f3_; have f4_ := f1_.symm; have f5_ := f3_.symm; clear f1_ f2_ f3_; subst f4_; subst f5_))
          obtain ⟨Ao39, co39, eo39⟩ := R_slice HO270.out
          (first | subst eo39 | (injection eo39 with f1_ f2_ f3_; have f4_ := f1_.symm; have f5_ := f3_.symm; clear f1_ f2_ f3_; subst f4_; subst f5_))
          refine hK.out _ _ ⟨((HB.out.cell (World.block_lt_of_cell? w _ hw264_0)).trans hw264_0), ((HB.out.cell (World.block_lt_of_cell? w _ hw265_0)).trans hw265_0)⟩ (fun hHeld => ?_)
          clear hK K
          refine norm_ (a' := ?_) ?_ ?_
          rotate_left
          ·show Act.put _ (some 96) _ = _
           simp only [Act.put, s1_, s2_, s3_, i64_w, i32_w]
           rfl
          refine oq_ 18 97 20 524287 HT_.out fun K hK => ?_
          refine gs_ Tryd.func73 #[.int .i64 a0, .slice Ao38 x10_3.length co38, .slice Ao39 t268.length co39] ?_
          with_reducible refine (attestorref03_Add.calls k4 a0 _ _ x10_3 _ _ t268 t271 _ ?side1 ?side2 ?side3 ?side4 A32.out).mono ?_
          (case side1 => exact cU_ ((R_reads' HO_10.out).2.2))
          (case side2 => exact (R_reads' HO_10.out).2.1)
          (case side3 => exact cU_ ((R_reads' HO270.out).2.2))
          (case side4 => exact (R_reads' HO270.out).2.1)
          rintro e w40 ⟨v272, rfl, ho0, hb⟩
          refine ⟨_, rfl, ?_⟩
          refine nx6_ (R_elder' (rU_ HO_10.out) (R_base ho0) hb) (R_elder' (rU_ HO_12.out) (R_base ho0) hb) (R_elder' (rU_ HO263.out) (R_base ho0) hb) (R_elder' (rU_ HO270.out) (R_base ho0) hb) (R_lower (R_new' (R_new' (R_new' (R_new' ho0 (R_lt (rU_ HO_10.out))) (R_lt (rU_ HO_12.out))) (R_lt (rU_ HO263.out))) (R_lt (rU_ HO270.out))) (below_size (bU_ HB.out))) (below_step (bU_ HB.out) hb) ?_
          clear HO_10 HO_12 HO263 HO270 HB
          intro HO_10 HO_12 HO263 HO270 HO273 HB
          (try clear hb)
          (try clear hb2)
          (try clear hk)
          (try clear hi)
          (try clear ho0)
          refine hK.out _ _ ⟨((HB.out.cell (World.block_lt_of_cell? w _ hw264_0)).trans hw264_0), ((HB.out.cell (World.block_lt_of_cell? w _ hw265_0)).trans hw265_0)⟩ (fun hHeld => ?_)
          clear hK K
          refine norm_ (a' := ?_) ?_ ?_
          rotate_left
          ·show Act.put _ (some 97) _ = _
           simp only [Act.put, s1_, s2_, s3_, i64_w, i32_w]
           rfl
          refine pq_ 19 10 20 1048575 HT_.out ?_
          refine done_ (done_of HT_.out (by kernel_rfl)) ?_
          try go_wp2
          go_roundg k4
          case measure => have := HJ3.out; have := HK2.out; have := HK3.out; have := HK4.out; omega
          case rel => exact ⟨(t271), (wrap64 (x11_3 + 1)), gb_, H', ⟨by have := HJ3.out; have := HK2.out; have := HK3.out; have := HK4.out; omega⟩, ⟨R_mono (rU_ HO273.out) (fun _ hk => trivial)⟩, ⟨bU_ HB.out⟩⟩
       rw [if_neg c19] at H
       have c19b0 := decide_eq_false c19
       clear c19
       simp only [Option.some.injEq, Prod.mk.injEq] at H
       obtain ⟨rfl, rfl⟩ := H
       go_wp2
       go_ret2
       exact ⟨_, eW_, rU_ HO_10.out, bU_ HB.out⟩

def ix8 (j a b c d e f g h : Int) : Int := bco [a, b, c, d, e, f, g, h] j.toNat
theorem ix8_cell {w : World} {B t : Nat} {a b c d e f g i j : Int} (h : w.heap[B]? = some (.cells #[.int .u64 a, .int .u64 b, .int .u64 c, .int .u64 d, .int .u64 e, .int .u64 f, .int .u64 g, .int .u64 i] t (0, 0))) (h0 : 0 ≤ j) (h8 : j < 8) : w.cell? ⟨B, j.toNat, none⟩ = some (.int .u64 (ix8 j a b c d e f g i)) := by
 unfold ix8
 obtain ⟨n, rfl⟩ : ∃ n : Nat, j = n := ⟨j.toNat, by omega⟩
 rw [Int.toNat_natCast]
 have hn : n < 8 := by omega
 clear h0 h8
 rcases n with _ | _ | _ | _ | _ | _ | _ | _ | n
 ·exact (blk_cell h 0).trans rfl
 ·exact (blk_cell h 1).trans rfl
 ·exact (blk_cell h 2).trans rfl
 ·exact (blk_cell h 3).trans rfl
 ·exact (blk_cell h 4).trans rfl
 ·exact (blk_cell h 5).trans rfl
 ·exact (blk_cell h 6).trans rfl
 ·exact (blk_cell h 7).trans rfl
 omega
def attestorref09_At.l0 : Nat → Int → Int → Int → Int → List Int → List Int → Int → Int → Int → Int → Int → Int → Int → Int → Int → Option (Int)
 | 0, _, _, _, _, _, _, _, _, _, _, _, _, _, _, _ => none
 | k + 1, x0, x1, x3, x9, x10, x11, x12, x275000, x275001, x275002, x275003, x275004, x275005, x275006, x275007 => if x12 < 8 then ((attestorref01_Pow.f k x0 x9 (IntKind.u64.wrap (x12))).bind fun t277 => ((attestorref01_Mul.f x0 x1 t277).bind fun t278 => (if x10.length < 17592186044416 ∧ 0 ≤ x12 then (if x11.length < 17592186044416 then (attestorref09_At.l0 k x0 x1 x3 x9 (x10 ++ [t278]) (x11 ++ [ix8 x12 x275000 x275001 x275002 x275003 x275004 x275005 x275006 x275007]) (wrap64 (x12 + 1)) x275000 x275001 x275002 x275003 x275004 x275005 x275006 x275007) else (none)) else (none)))) else ((attestorref03_Through.f k x0 x10 x11).bind fun bt285 => ((attestorref03_Eval.f k x0 bt285.1 x3).bind fun t289 => (some t289)))
def attestorref09_At.f (k : Nat) (a0 : Int) (a1 : Int) (a2 : List Int) (a3 : Int) : Option (Int) := (attestorref01_Reduce.f a0 a1).bind fun t275 => (if t275 = 0 then (some 0) else ((attestorref01_Root.f k a0 3).bind fun t276 => (attestorref09_At.l0 k a0 a1 a3 t276 ([] : List Int) ([] : List Int) 0 (bco a2 0) (bco a2 1) (bco a2 2) (bco a2 3) (bco a2 4) (bco a2 5) (bco a2 6) (bco a2 7))))
set_option maxHeartbeats 8000000 in
set_option maxRecDepth 100000 in
theorem attestorref09_At.calls (k : Nat) (a0 : Int) (a1 : Int) (a2 : List Int) (a3 : Int) (r : Int) (w : World) (h : attestorref09_At.f k a0 a1 a2 a3 = some r) :
  Calls Tryd.prog 15 #[.int .i64 a0, .int .u64 a1, .agg #[.int .u64 (bco a2 0), .int .u64 (bco a2 1), .int .u64 (bco a2 2), .int .u64 (bco a2 3), .int .u64 (bco a2 4), .int .u64 (bco a2 5), .int .u64 (bco a2 6), .int .u64 (bco a2 7)], .int .u64 a3] w fun e w' => e = .returned (.int .u64 r) ∧ Below w.heap.size w w' := by
 have hu25 := Tryd.underlying25
 have HB := ak (Below.refl w.heap.size w)
 have H := h
 clear h
 unfold attestorref09_At.f at H
 revert H
 refine bd_ fun t275 A5 H => ?_
 by_cases c6 : t275 = 0
 ·rw [if_pos c6] at H
  have c6b0 := beq_iff_eq.mpr c6
  have c6b1 := bne_eq_false_iff_eq.mpr c6
  clear c6
  obtain rfl := Option.some.inj H
  go_enter Tryd.func15, Tryd.ntmps15
  go_wp2_with (first | ((with_reducible refine gate_dst (N := 6) rfl ?_); refine bx_ 6 25 #[.int .u64 (bco a2 0), .int .u64 (bco a2 1), .int .u64 (bco a2 2), .int .u64 (bco a2 3), .int .u64 (bco a2 4), .int .u64 (bco a2 5), .int .u64 (bco a2 6), .int .u64 (bco a2 7)] ?_; intro gb274 hg w7 hbox hb; refine nx4_ (below_step (bU_ HB.out) hb) (hbox) ((hs_ hg (below_size (bU_ HB.out)))) ((hs_ hg (below_size (bU_ HB.out)))) ?_; clear HB; intro HB BK274 GW274 GE274; clear hb hbox hg) | ((with_reducible refine gate_callee (f := 47) rfl ?_); refine gl_ (some 17) Tryd.func47 #[.int .i64 a0, .int .u64 a1] ?_; (with_reducible refine (attestorref01_Reduce.calls a0 a1 t275 _ A5.out).mono ?_); rintro e w' ⟨rfl, ⟨nd, rfl⟩⟩; refine ⟨_, rfl, ?_⟩))
  go_ret
  exact ⟨eW_, sU_⟩
 rw [if_neg c6] at H
 have c6b0 := beq_eq_false_iff_ne.mpr c6
 have c6b1 := bne_iff_ne.mpr c6
 revert H
 refine bd_ fun t276 A8 H => ?_
 have H' := ak H
 clear H
 go_enter Tryd.func15, Tryd.ntmps15
 go_wp2_with (first | ((with_reducible refine gate_dst (N := 6) rfl ?_); refine bx_ 6 25 #[.int .u64 (bco a2 0), .int .u64 (bco a2 1), .int .u64 (bco a2 2), .int .u64 (bco a2 3), .int .u64 (bco a2 4), .int .u64 (bco a2 5), .int .u64 (bco a2 6), .int .u64 (bco a2 7)] ?_; intro gb274 hg w9 hbox hb; refine nx4_ (below_step (bU_ HB.out) hb) (hbox) ((hs_ hg (below_size (bU_ HB.out)))) ((hs_ hg (below_size (bU_ HB.out)))) ?_; clear HB; intro HB BK274 GW274 GE274; clear hb hbox hg) | ((with_reducible refine gate_callee (f := 47) rfl ?_); refine gl_ (some 17) Tryd.func47 #[.int .i64 a0, .int .u64 a1] ?_; (with_reducible refine (attestorref01_Reduce.calls a0 a1 t275 _ A5.out).mono ?_); rintro e w' ⟨rfl, ⟨nd, rfl⟩⟩; refine ⟨_, rfl, ?_⟩) | ((with_reducible refine gate_callee (f := 48) rfl ?_); refine gl_ (some 20) Tryd.func48 #[.int .i64 a0, .int .i64 3] ?_; (with_reducible refine (attestorref01_Root.calls k a0 3 t276 _ A8.out).mono ?_); rintro e w' ⟨rfl, ⟨nd, rfl⟩⟩; refine ⟨_, rfl, ?_⟩))
 go_loopg [10, 11, 12] k (fun kq v10 v11 v12 w' => ∃ (x10_1 : List Int) (x11_1 : List Int) (x12_1 : Int), v12 = .int .i64 x12_1 ∧ Aside0 (attestorref09_At.l0 kq a0 a1 a3 t276 x10_1 x11_1 x12_1 (bco a2 0) (bco a2 1) (bco a2 2) (bco a2 3) (bco a2 4) (bco a2 5) (bco a2 6) (bco a2 7) = some r) ∧ Aside0 (kq ≤ k) ∧ Aside0 (Kd.R (Kd.int .u64) 22 w' w.heap.size (fun k_ => some k_ ≠ (v11 : Value).ownBlock) v10 x10_1) ∧ Aside0 (Kd.R (Kd.int .u64) 22 w' w.heap.size (fun k_ => some k_ ≠ (v10 : Value).ownBlock) v11 x11_1) ∧ Aside0 (w'.heap[gb274]? = some (.cells #[.int .u64 (bco a2 0), .int .u64 (bco a2 1), .int .u64 (bco a2 2), .int .u64 (bco a2 3), .int .u64 (bco a2 4), .int .u64 (bco a2 5), .int .u64 (bco a2 6), .int .u64 (bco a2 7)] 25 (0, 0))) ∧ Aside0 (Below w.heap.size w w'))
 case atStart => exact ⟨(([] : List Int)), (([] : List Int)), (0), gb_, H', ⟨Nat.le_refl _⟩, ⟨by first | exact Kd.R_nil _ _ _ _ _ | exact Kd.N_nil _ _ _ _ _ | exact Kd.V_nil _ _ _ _ _ | exact Kd.Q_nil _ _ _ _ _ | exact Kd.S_nil _ _ _ _ _⟩, ⟨by first | exact Kd.R_nil _ _ _ _ _ | exact Kd.N_nil _ _ _ _ _ | exact Kd.V_nil _ _ _ _ _ | exact Kd.Q_nil _ _ _ _ _ | exact Kd.S_nil _ _ _ _ _⟩, ⟨by (with_reducible repeat (first | refine blk_drewN ?_ _ | refine blk_drew ?_ | refine blk_alloc ?_ _)); exact BK274.out⟩, ⟨sU_⟩⟩
 case round =>
  clear H'
  (try clear c1); (try clear p2); (try clear c4); (try clear c6); (try clear c6b0); (try clear c6b1)
  obtain ⟨x10_1, x11_1, x12_1, rfl, HA, HK1, HO_10, HO_11, BK274, HB⟩ := hrel
  cases gk with
  | zero => exact absurd HA.out (by simp [attestorref09_At.l0])
  | succ k1 =>
   have H := HA.out
   clear HA
   simp only [attestorref09_At.l0] at H
   by_cases c10 : x12_1 < 8
   ·rw [if_pos c10] at H
    have c10b0 := decide_eq_true c10
    clear c10
    revert H
    refine bd_ fun t277 A11 H => ?_
    revert H
    refine bd_ fun t278 A12 H => ?_
    obtain ⟨c13, H⟩ : (x10_1.length < 17592186044416 ∧ 0 ≤ x12_1) ∧ _ := it_ H
    have LMc13 := ak c13
    clear c13
    obtain ⟨y279, hy279⟩ : ∃ y_ : List Int, y_ = (x10_1 ++ [t278]) := ⟨_, rfl⟩
    first | rw [Option.bind_some, ← hy279] at H | rw [← hy279] at H
    have Ny279 := ak hy279
    clear hy279
    obtain ⟨c14, H⟩ : (x11_1.length < 17592186044416) ∧ _ := it_ H
    have LMc14 := ak c14
    clear c14
    obtain ⟨y282, hy282⟩ : ∃ y_ : List Int, y_ = (x11_1 ++ [ix8 x12_1 (bco a2 0) (bco a2 1) (bco a2 2) (bco a2 3) (bco a2 4) (bco a2 5) (bco a2 6) (bco a2 7)]) := ⟨_, rfl⟩
    first | rw [Option.bind_some, ← hy282] at H | rw [← hy282] at H
    have Ny282 := ak hy282
    clear hy282
    have H' := ak H
    clear H
    go_wp2_with (first | ((with_reducible refine gate_callee (f := 45) rfl ?_); refine gl_ (some 32) Tryd.func45 #[.int .i64 a0, .int .u64 t276, .int .u64 (IntKind.u64.wrap (x12_1))] ?_; (with_reducible refine (attestorref01_Pow.calls k1 a0 t276 (IntKind.u64.wrap (x12_1)) t277 _ A11.out).mono ?_); rintro e w' ⟨rfl, ⟨nd, rfl⟩⟩; refine ⟨_, rfl, ?_⟩) | ((with_reducible refine gate_callee (f := 49) rfl ?_); refine gl_ (some 33) Tryd.func49 #[.int .i64 a0, .int .u64 a1, .int .u64 t277] ?_; (with_reducible refine (attestorref01_Mul.calls a0 a1 t277 t278 _ A12.out).mono ?_); rintro e w' ⟨rfl, ⟨nd, rfl⟩⟩; refine ⟨_, rfl, ?_⟩) | ((with_reducible refine gate_builtin (b := .append) (xs := #[.tmp 25, .tmp 34]) rfl ?_); at_builtin; refine Kd.R_append (Kd.int .u64) (w0 := w) w.heap.size rfl (.tmp 25) (.tmp 34) 33 22 (.int .u64 0) 8 rfl Tryd.underlying33 info22 rfl (by decide) (by omega) u10 x10_1 t278 [.int .u64 t278] (fun k_ => some k_ ≠ (u11 : Value).ownBlock) (fun _ => False) rfl rfl ?aP (fun _ hk => hk.elim) ?aF ?aO ?aB ?aS ?aL ?_; (case aP => exact rfl); (case aB => exact sU_); (case aF => exact (fun k_ hk => fresh' (R_lt (rU_ HO_11.out)) k_ hk)); (case aO => exact (rU_ HO_10.out)); (case aS => exact (below_size sU_)); (case aL => have := LMc13.out; omega); intro v280 w15 ho hb hg hat; rw [← Ny279.out] at ho; refine nx4_ (Kd.R_after (ok := (fun _ => True)) (R_mono (rU_ HO_11.out) (fun _ hk => ⟨trivial, hk⟩)) hg hat) (blk_grown (g := gb274) (o := .cells #[.int .u64 (bco a2 0), .int .u64 (bco a2 1), .int .u64 (bco a2 2), .int .u64 (bco a2 3), .int .u64 (bco a2 4), .int .u64 (bco a2 5), .int .u64 (bco a2 6), .int .u64 (bco a2 7)] 25 (0, 0)) (kU_ BK274.out) hg (Kd.R_ne HO_10.out BK274.out (by decide))) (hb) (ho) ?_; clear HO_11 BK274 HB HO_10; intro HO_11 BK274 HB HO281; clear ho hb hg hat; have hdp := LMc13.out.2; have hdq : x12_1 < 8 := of_decide_eq_true c10b0; have hdx := ix8_cell BK274.out hdp hdq) | ((with_reducible refine gate_builtin (b := .append) (xs := #[.tmp 36, .tmp 40]) rfl ?_); at_builtin; refine Kd.R_append (Kd.int .u64) (w0 := w) w.heap.size rfl (.tmp 36) (.tmp 40) 33 22 (.int .u64 0) 8 rfl Tryd.underlying33 info22 rfl (by decide) (by omega) u11 x11_1 (ix8 x12_1 (bco a2 0) (bco a2 1) (bco a2 2) (bco a2 3) (bco a2 4) (bco a2 5) (bco a2 6) (bco a2 7)) [.int .u64 (ix8 x12_1 (bco a2 0) (bco a2 1) (bco a2 2) (bco a2 3) (bco a2 4) (bco a2 5) (bco a2 6) (bco a2 7))] (fun k_ => some k_ ≠ (v280 : Value).ownBlock) (fun _ => False) rfl rfl ?aP (fun _ hk => hk.elim) ?aF ?aO ?aB ?aS ?aL ?_; (case aP => exact rfl); (case aB => exact sU_); (case aF => exact (fun k_ hk => fresh' (R_lt (rU_ HO281.out)) k_ hk)); (case aO => exact (R_mono (rU_ HO_11.out) (fun _ hk => hk.2))); (case aS => exact (below_size sU_)); (case aL => have := LMc14.out; omega); intro v283 w17 ho hb hg hat; rw [← Ny282.out] at ho; refine nx4_ (blk_grown (g := gb274) (o := .cells #[.int .u64 (bco a2 0), .int .u64 (bco a2 1), .int .u64 (bco a2 2), .int .u64 (bco a2 3), .int .u64 (bco a2 4), .int .u64 (bco a2 5), .int .u64 (bco a2 6), .int .u64 (bco a2 7)] 25 (0, 0)) (kU_ BK274.out) hg (Kd.R_ne HO_11.out BK274.out (by decide))) (Kd.R_after (ok := (fun _ => True)) (R_mono (rU_ HO281.out) (fun _ hk => ⟨trivial, hk⟩)) hg hat) (hb) (ho) ?_; clear BK274 HO281 HB HO_11; intro BK274 HO281 HB HO284; clear ho hb hg hat))
    go_roundg k1
    case measure => have := HK1.out; omega
    case rel => exact ⟨(y279), (y282), (wrap64 (x12_1 + 1)), (by have e_ : wrap64 (x12_1 + 1) = x12_1 + 1 := (by unfold wrap64; omega); rw [e_]), H', ⟨by have := HK1.out; omega⟩, ⟨R_mono (rU_ HO281.out) (fun _ hk => hk.2)⟩, ⟨rU_ HO284.out⟩, ⟨by (with_reducible repeat (first | refine blk_drewN ?_ _ | refine blk_drew ?_ | refine blk_alloc ?_ _)); exact BK274.out⟩, ⟨sU_⟩⟩
   rw [if_neg c10] at H
   have c10b0 := decide_eq_false c10
   clear c10
   revert H
   refine bd2_ fun t285 t286 A18 H => ?_
   try dsimp only at H
   revert H
   refine bd_ fun t289 A19 H => ?_
   obtain rfl := Option.some.inj H
   obtain ⟨Ao20, co20, eo20⟩ := R_slice HO_10.out
   subst eo20
   obtain ⟨Ao21, co21, eo21⟩ := R_slice HO_11.out
   subst eo21
   go_wp2_with (first | ((with_reducible refine gate_callee (f := 50) rfl ?_); refine gl_ (some 46) Tryd.func50 #[.int .i64 a0, .slice Ao20 x10_1.length co20, .slice Ao21 x11_1.length co21] ?_; (with_reducible refine (attestorref03_Through.calls k1 a0 _ _ x10_1 _ _ x11_1 t285 t286 _ ?side1 ?side2 ?side3 ?side4 A18.out).mono ?_); (case side1 => exact cU_ ((R_reads' HO_10.out).2.2)); (case side2 => exact (R_reads' HO_10.out).2.1); (case side3 => exact cU_ ((R_reads' HO_11.out).2.2)); (case side4 => exact (R_reads' HO_11.out).2.1); rintro e w22 ⟨v287, rfl, ho0, hb⟩; refine ⟨_, rfl, ?_⟩; refine nx5_ (R_elder' (rU_ HO_10.out) (R_base ho0) hb) (R_elder' (rU_ HO_11.out) (R_base ho0) hb) (R_lower (R_new' (R_new' ho0 (R_lt (rU_ HO_10.out))) (R_lt (rU_ HO_11.out))) (below_size sU_)) (blk_below (g := gb274) (o := .cells #[.int .u64 (bco a2 0), .int .u64 (bco a2 1), .int .u64 (bco a2 2), .int .u64 (bco a2 3), .int .u64 (bco a2 4), .int .u64 (bco a2 5), .int .u64 (bco a2 6), .int .u64 (bco a2 7)] 25 (0, 0)) (kU_ BK274.out) hb) (below_step sU_ hb) ?_; clear HO_10 HO_11 BK274 HB; intro HO_10 HO_11 HO288 BK274 HB; clear hb ho0; obtain ⟨Ao23, co23, eo23⟩ := R_slice HO288.out; subst eo23) | ((with_reducible refine gate_callee (f := 51) rfl ?_); refine gl_ (some 52) Tryd.func51 #[.int .i64 a0, .slice Ao23 t285.length co23, .int .u64 a3] ?_; (with_reducible refine (attestorref03_Eval.calls k1 a0 _ _ t285 a3 t289 _ ?side1 ?side2 A19.out).mono ?_); (case side1 => exact cU_ ((R_reads' HO288.out).2.2)); (case side2 => exact (R_reads' HO288.out).2.1); rintro e w' ⟨rfl, ⟨nd, rfl⟩⟩; refine ⟨_, rfl, ?_⟩))
   go_ret
   exact ⟨eW_, sU_⟩

end Go.Proofs.YthinfmfjpaikiaaDoor.Q

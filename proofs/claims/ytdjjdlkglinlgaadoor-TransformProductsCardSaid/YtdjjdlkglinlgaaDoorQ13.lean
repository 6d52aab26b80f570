-- Written by prx.py (this session's driver of the kit's print) out of the translation. Not trusted: Lean checks it.
import Derived.Test.YtdjjdlkglinlgaaDoorQ0
import Derived.Test.YtdjjdlkglinlgaaDoorQ2
import Derived.Test.YtdjjdlkglinlgaaDoorQ3
import Derived.Test.YtdjjdlkglinlgaaDoorQ4
namespace Go.Proofs.YtdjjdlkglinlgaaDoor.Q
open Go.RowKit Go.Proofs.YtdjjdlkglinlgaaDoorW.PrintWords Go.Proofs.YtdjjdlkglinlgaaDoorW.PrintLast Go.Proofs.YtdjjdlkglinlgaaDoorW.PrintMore
attribute [local go_sem] max2_int min2_int max_two min_two max_three min_three max_four min_four   -- for this text's walks alone
set_option linter.unusedVariables false
set_option linter.unusedSimpArgs false

/-! ### poly_Mul: function 30 -/
mutual
def poly_Mul.j0 : Nat → Int → List Int → List Int → Int → Bool → Option (List Int × Int)
 | 0, _, _, _, _, _ => none
 | k + 1, x0, x1, x2, x8, x29 => if x29 = true then (some (([] : List Int), 0)) else (if x8 > 32768 then (some (([] : List Int), 3)) else (if 0 ≤ x8 then (if (x8 : Int).toNat ≤ 35184372088832 then (poly_Mul.l0 k x0 x2 (List.replicate (x8 : Int).toNat 0) x1 (x1.length : Int) 0) else (none)) else (none)))
def poly_Mul.l0 : Nat → Int → List Int → List Int → List Int → Int → Int → Option (List Int × Int)
 | 0, _, _, _, _, _, _ => none
 | k + 1, x0, x2, x9, x43, x44, x45 => if x45 < x44 then (if 0 ≤ x45 then (if x45 < (x43.length : Int) then (if (rd x43 x45) = 0 then (poly_Mul.l0 k x0 x2 x9 x43 x44 (wrap64 (x45 + 1))) else (poly_Mul.l1 k x0 x2 x9 x45 (rd x43 x45) x43 x44 x45 x2 (x2.length : Int) 0)) else (none)) else (none)) else (some (x9, 0))
def poly_Mul.l1 : Nat → Int → List Int → List Int → Int → Int → List Int → Int → Int → List Int → Int → Int → Option (List Int × Int)
 | 0, _, _, _, _, _, _, _, _, _, _, _ => none
 | k + 1, x0, x2, x9, x10, x11, x43, x44, x45, x52, x53, x54 => if x54 < x53 then (if 0 ≤ x54 then (if x54 < (x52.length : Int) then (if 0 ≤ (wrap64 (x10 + x54)) then (if (wrap64 (x10 + x54)) < (x9.length : Int) then ((field_Mul.f x0 x11 (rd x52 x54)).bind fun t717 => ((field_Add.f x0 (rd x9 (wrap64 (x10 + x54))) t717).bind fun t718 => (poly_Mul.l1 k x0 x2 (x9.set ((wrap64 (x10 + x54)) : Int).toNat t718) x10 x11 x43 x44 x45 x52 x53 (wrap64 (x54 + 1))))) else (none)) else (none)) else (none)) else (none)) else (poly_Mul.l0 k x0 x2 x9 x43 x44 (wrap64 (x45 + 1)))
end
def poly_Mul.f (k : Nat) (a0 : Int) (l1 : List Int) (l2 : List Int) : Option (List Int × Int) := (field_Valid.f a0).bind fun t704 => (if t704 = true then ((poly_Normal.f k a0 l1).bind fun t705 => ((poly_Normal.f k a0 l2).bind fun t708 => (if (t705.length : Int) = 0 then (poly_Mul.j0 k a0 t705 t708 (wrap64 ((wrap64 ((t705.length : Int) + (t708.length : Int))) - 1)) true) else (poly_Mul.j0 k a0 t705 t708 (wrap64 ((wrap64 ((t705.length : Int) + (t708.length : Int))) - 1)) ((t708.length : Int) == 0))))) else (some (([] : List Int), 1)))
def poly_Mul.T17 : Bool × List (List Nat × List Nat) := (true, [([], []), ([], []), ([], []), ([1, 2], [1, 2]), ([], []), ([], []), ([], []), ([], []), ([6, 7], [6, 7]), ([5, 8], [5, 8]), ([9], [9]), ([], []), ([], []), ([], []), ([11, 12, 13], [11, 12, 13]), ([4, 10, 14, 14], [4, 10, 14]), ([0, 3, 0, 1, 2, 3, 4, 5, 6, 7, 8, 9, 10, 11, 12, 13, 14, 15], [0, 3]), ([16, 15, 15, 0, 1, 2, 3, 4, 5, 6, 7, 8, 9, 10, 11, 12, 13, 14, 15], [15, 16])])
def poly_Mul.B17 : List Nat := [0, 0, 0, 6, 0, 0, 0, 0, 192, 480, 992, 0, 0, 0, 14336, 32752, 65535, 131071]
theorem poly_Mul.tab17 : rtab .any (opsOf Tryd.f30 17) = poly_Mul.T17 := by kernel_rfl
theorem poly_Mul.bits17 : waitsOk poly_Mul.T17.2 poly_Mul.B17 = true := by kernel_rfl
set_option maxHeartbeats 8000000 in
set_option maxRecDepth 100000 in
theorem poly_Mul.calls (k : Nat) (a0 : Int) (A1 : Option Addr) (c1 : Nat) (l1 : List Int) (A2 : Option Addr) (c2 : Nat) (l2 : List Int) (r1 : List Int) (r2 : Int) (w : World) (hG : Fld w) (hr1 : Kd.C (Kd.int .u64) w A1 l1.length l1) (hc1 : l1.length ≤ c1) (hr2 : Kd.C (Kd.int .u64) w A2 l2.length l2) (hc2 : l2.length ≤ c2) (h : poly_Mul.f k a0 l1 l2 = some (r1, r2)) :
  Calls Tryd.prog 30 #[.int .i64 a0, .slice A1 l1.length c1, .slice A2 l2.length c2] w fun e w' => ∃ v0_ : Value, e = .returned (.tuple #[v0_, .int .i64 r2]) ∧ Kd.R (Kd.int .u64) 22 w' w.heap.size (fun _ => True) v0_ r1 ∧ Below w.heap.size w w' := by
 have HG := ak hG
 clear hG
 have HR1 := ak hr1
 have HC1 := ak hc1
 clear hr1 hc1
 have HR2 := ak hr2
 have HC2 := ak hc2
 clear hr2 hc2
 have HB := ak (Below.refl w.heap.size w)
 have H : ((field_Valid.f a0).bind fun t704 => (if t704 = true then ((poly_Normal.f k a0 l1).bind fun t705 => ((poly_Normal.f k a0 l2).bind fun t708 => (if (t705.length : Int) = 0 then (poly_Mul.j0 k a0 t705 t708 (wrap64 ((wrap64 ((t705.length : Int) + (t708.length : Int))) - 1)) true) else (poly_Mul.j0 k a0 t705 t708 (wrap64 ((wrap64 ((t705.length : Int) + (t708.length : Int))) - 1)) ((t708.length : Int) == 0))))) else (some (([] : List Int), 1)))) = some (r1, r2) := h
 clear h
 revert H
 refine bd_ fun t704 A4 H => ?_
 by_cases c5 : t704 = true
 ·subst c5
  rw [if_pos rfl] at H
  revert H
  refine bd_ fun t705 A6 H => ?_
  revert H
  refine bd_ fun t708 A7 H => ?_
  have HC8 := ak H
  clear H
  go_enter Tryd.func30, Tryd.ntmps30
  go_upto_region 5 with (first | ((with_reducible refine gate_callee (f := 52) rfl ?_); refine gl_ (some 15) Tryd.func52 #[.int .i64 a0] ?_; (with_reducible refine (field_Valid.calls a0 true _ A4.out).mono ?_); rintro e w' ⟨rfl, ⟨nd, rfl⟩⟩; refine ⟨_, rfl, ?_⟩) | ((with_reducible refine gate_callee (f := 56) rfl ?_); refine gl_ (some 19) Tryd.func56 #[.int .i64 a0, .slice A1 l1.length c1] ?_; (with_reducible refine (poly_Normal.calls k a0 _ _ l1 t705 _ ?side1 ?side2 ?side3 A6.out).mono ?_); (case side1 => exact fU_ HG.out HB.out); (case side2 => exact cU_ HR1.out); (case side3 => exact HC1.out); rintro e w9 ⟨v706, rfl, ho0, hb⟩; refine ⟨_, rfl, ?_⟩; refine nx2_ (Kd.R_lower ho0 (below_size (bU_ HB.out))) (below_step (bU_ HB.out) hb) ?_; clear HB; intro HO707 HB; clear hb ho0) | ((with_reducible refine gate_callee (f := 56) rfl ?_); refine gl_ (some 22) Tryd.func56 #[.int .i64 a0, .slice A2 l2.length c2] ?_; (with_reducible refine (poly_Normal.calls k a0 _ _ l2 t708 _ ?side1 ?side2 ?side3 A7.out).mono ?_); (case side1 => exact fU_ HG.out HB.out); (case side2 => exact cU_ (Kd.C_below HR2.out HB.out)); (case side3 => exact HC2.out); rintro e w10 ⟨v709, rfl, ho0, hb⟩; refine ⟨_, rfl, ?_⟩; refine nx3_ (Kd.R_elder' (rU_ HO707.out) (Kd.R_base ho0) hb) (Kd.R_lower (Kd.R_new' ho0 (Kd.R_lt (rU_ HO707.out))) (below_size (bU_ HB.out))) (below_step (bU_ HB.out) hb) ?_; clear HO707 HB; intro HO707 HO710 HB; clear hb ho0; obtain ⟨Ao11, co11, eo11⟩ := Kd.R_slice HO707.out; subst eo11; obtain ⟨Ao12, co12, eo12⟩ := Kd.R_slice HO710.out; subst eo12))
  (try simp only [Act.put, s1_, s2_, s3_])
  go_cut [29] (fun v29 wc => ∃ (kq : Nat) (x29_7 : Bool), v29 = .bool x29_7 ∧ Aside0 (poly_Mul.j0 kq a0 t705 t708 (wrap64 ((wrap64 ((t705.length : Int) + (t708.length : Int))) - 1)) x29_7 = some (r1, r2)) ∧ Aside0 (kq ≤ k) ∧ Aside0 (Kd.R (Kd.int .u64) 22 wc w.heap.size (fun k_ => some k_ ≠ ((.slice Ao12 t708.length co12) : Value).ownBlock) (.slice Ao11 t705.length co11) t705) ∧ Aside0 (Kd.R (Kd.int .u64) 22 wc w.heap.size (fun k_ => some k_ ≠ ((.slice Ao11 t705.length co11) : Value).ownBlock) (.slice Ao12 t708.length co12) t708) ∧ Aside0 (Below w.heap.size w wc))
  case first =>
   have H := HC8.out
   clear HC8
   by_cases c13 : (t705.length : Int) = 0
   ·rw [if_pos c13] at H
    have c13b0 := beq_iff_eq.mpr c13
    have c13b1 := bne_eq_false_iff_eq.mpr c13
    clear c13
    (first | rw [c13b0] | (simp only [i64_w, i32_w]; rw [c13b0]) | rw [c13b1] | skip)
    have H' := ak H
    clear H
    go_wp2
    go_meet
    case rel => exact ⟨_, (true), gb_, H', ⟨by first | omega | exact Nat.le_refl _⟩, ⟨Kd.R_mono (rU_ HO707.out) (fun _ hk => hk.2)⟩, ⟨Kd.R_mono (rU_ HO710.out) (fun _ hk => hk.2)⟩, ⟨bU_ HB.out⟩⟩
   ·rw [if_neg c13] at H
    have c13b0 := beq_eq_false_iff_ne.mpr c13
    have c13b1 := bne_iff_ne.mpr c13
    have c13b2 : ¬ (t705 = []) := fun h_ => c13 (by rw [h_]; rfl)
    (first | rw [c13b0] | (simp only [i64_w, i32_w]; rw [c13b0]) | rw [c13b1] | skip)
    have H' := ak H
    clear H
    go_wp2
    go_meet
    case rel => exact ⟨_, (((t708.length : Int) == 0)), gb_, H', ⟨by first | omega | exact Nat.le_refl _⟩, ⟨Kd.R_mono (rU_ HO707.out) (fun _ hk => hk.2)⟩, ⟨Kd.R_mono (rU_ HO710.out) (fun _ hk => hk.2)⟩, ⟨bU_ HB.out⟩⟩
  case rest =>
   clear HC8
   (try clear c1); (try clear c2); (try clear p2); (try clear c3); (try clear c5); (try clear p6); (try clear c13); (try clear c13b0); (try clear c13b1); (try clear c13b2)
   obtain ⟨kq, x29_7, rfl, HA, HJ7, HO_1, HO_2, HB⟩ := hcut
   cases kq with
   | zero => exact absurd HA.out (by simp [poly_Mul.j0])
   | succ kj7 =>
    have H := HA.out
    clear HA
    simp only [poly_Mul.j0] at H
    by_cases c14 : x29_7 = true
    ·subst c14
     rw [if_pos rfl] at H
     simp only [Option.some.injEq, Prod.mk.injEq] at H
     obtain ⟨rfl, rfl⟩ := H
     go_wp2
     go_ret2
     exact ⟨_, by first | rfl | (simp [errW_none, errW_some] <;> rfl) | (simp [*, errW_none, errW_some] <;> rfl), by first | exact Kd.R_nil _ _ _ _ _ | exact Kd.N_nil _ _ _ _ _ | exact Kd.V_nil _ _ _ _ _ | exact Kd.Q_nil _ _ _ _ _ | exact Kd.S_nil _ _ _ _ _, bU_ HB.out⟩
    ·replace c14 := Bool.eq_false_iff.mpr c14
     subst c14
     rw [if_neg (show ¬ (false = true) by decide)] at H
     by_cases c15 : (wrap64 ((wrap64 ((t705.length : Int) + (t708.length : Int))) - 1)) > 32768
     ·rw [if_pos c15] at H
      have c15b0 : decide (32768 < (wrap64 ((wrap64 ((t705.length : Int) + (t708.length : Int))) - 1))) = true := decide_eq_true c15
      clear c15
      simp only [Option.some.injEq, Prod.mk.injEq] at H
      obtain ⟨rfl, rfl⟩ := H
      go_wp2
      go_ret2
      exact ⟨_, by first | rfl | (simp [errW_none, errW_some] <;> rfl) | (simp [*, errW_none, errW_some] <;> rfl), by first | exact Kd.R_nil _ _ _ _ _ | exact Kd.N_nil _ _ _ _ _ | exact Kd.V_nil _ _ _ _ _ | exact Kd.Q_nil _ _ _ _ _ | exact Kd.S_nil _ _ _ _ _, bU_ HB.out⟩
     ·rw [if_neg c15] at H
      have c15b0 : decide (32768 < (wrap64 ((wrap64 ((t705.length : Int) + (t708.length : Int))) - 1))) = false := decide_eq_false c15
      clear c15
      obtain ⟨ji16, hji16⟩ : ∃ j_ : Int, (wrap64 ((wrap64 ((t705.length : Int) + (t708.length : Int))) - 1)) = j_ := ⟨_, rfl⟩
      first | rw [hji16] at H | simp only [hji16] at H
      (try rw [hji16] at c15b0)
      have hji16w : (IntKind.i64.wrap ((wrap64 ((t705.length : Int) + (t708.length : Int))) - 1)) = ji16 := (i64_w _).trans hji16
      obtain ⟨c17, H⟩ : (0 ≤ (ji16)) ∧ _ := it_ H
      have c17b0 := eq_true c17
      have c17b1 := decide_eq_true c17
      clear c17
      obtain ⟨c18, H⟩ : (((ji16) : Int).toNat ≤ 35184372088832) ∧ _ := it_ H
      have c18b0 := eq_true c18
      have c18b1 := decide_eq_true c18
      clear c18
      obtain ⟨y711, hy711⟩ : ∃ y_ : List Int, y_ = (List.replicate ((ji16) : Int).toNat 0) := ⟨_, rfl⟩
      first | rw [Option.bind_some, ← hy711] at H | rw [← hy711] at H
      have Ny711 := ak hy711
      clear hy711
      have H' := ak H
      clear H
      go_wp2_with (first | ((with_reducible refine gate_dst (N := 42) rfl ?_); (try (refine gate_guard (by rfl) ?_; dsimp only)); refine Kd.R_make (Kd.int .u64) _ 22 rfl (N := 42) rfl 23 _ _ rfl (ji16) ?hx ?hy Tryd.underlying23 (.int .u64 0) 8 info22 rfl (by decide) (by omega) 0 (ok := fun _ => True) (okp := fun _ => True) rfl (fun _ hk => hk) trivial od_ (Nat.le_trans (Nat.mul_le_mul_right _ (od_ : (ji16).toNat ≤ 35184372088832)) (by omega)) (Below.refl _ _) (Nat.le_refl _) ?_; (case hx => first | rfl | (simp only [hji16]; rfl)); (case hy => first | rfl | (simp only [hji16]; rfl)); intro v712 w19 ho20 hb hg_ hnew_; clear hg_ hnew_; (first | rw [← Ny711.out] at ho20 | (simp only [Int.reduceToNat] at ho20; rw [← Ny711.out] at ho20)); refine nx4_ (Kd.R_elder' (rU_ HO_1.out) (Kd.R_base ho20) hb) (Kd.R_elder' (rU_ HO_2.out) (Kd.R_base ho20) hb) (Kd.R_lower (Kd.R_new' (Kd.R_new' ho20 (Kd.R_lt (rU_ HO_1.out))) (Kd.R_lt (rU_ HO_2.out))) (below_size (bU_ HB.out))) (below_step (bU_ HB.out) hb) ?_; clear HO_1 HO_2 HB; intro HO_1 HO_2 HO713 HB; clear hb ho20))
      go_loopg [45] kj7 (fun kq v45 w' => ∃ (x9_2 : List Int) (x45_2 : Int), v45 = .int .i64 x45_2 ∧ Aside0 (poly_Mul.l0 kq a0 t708 x9_2 t705 (t705.length : Int) x45_2 = some (r1, r2)) ∧ Aside0 (kq ≤ kj7) ∧ Aside0 (Kd.R (Kd.int .u64) 22 w' w.heap.size (fun k_ => some k_ ≠ (v712 : Value).ownBlock ∧ some k_ ≠ ((.slice Ao11 t705.length co11) : Value).ownBlock) (.slice Ao12 t708.length co12) t708) ∧ Aside0 (Kd.R (Kd.int .u64) 22 w' w.heap.size (fun k_ => some k_ ≠ ((.slice Ao12 t708.length co12) : Value).ownBlock ∧ some k_ ≠ ((.slice Ao11 t705.length co11) : Value).ownBlock) v712 x9_2) ∧ Aside0 (Kd.R (Kd.int .u64) 22 w' w.heap.size (fun k_ => some k_ ≠ ((.slice Ao12 t708.length co12) : Value).ownBlock ∧ some k_ ≠ (v712 : Value).ownBlock) (.slice Ao11 t705.length co11) t705) ∧ Aside0 (Below w.heap.size w w'))
      case atStart => exact ⟨(y711), (0), gb_, H', ⟨Nat.le_refl _⟩, ⟨Kd.R_mono (rU_ HO_2.out) (fun _ hk => ⟨hk.2, hk.1⟩)⟩, ⟨Kd.R_mono (rU_ HO713.out) (fun _ hk => ⟨hk.2, hk.1.2⟩)⟩, ⟨rU_ HO_1.out⟩, ⟨bU_ HB.out⟩⟩
      case round =>
       clear H'
       (try clear c1); (try clear c2); (try clear p2); (try clear c3); (try clear c5); (try clear p6); (try clear c13); (try clear c13b0); (try clear c13b1); (try clear c13b2); (try clear c14); (try clear c15); (try clear c15b0); (try clear c17); (try clear c17b0); (try clear c17b1); (try clear c18); (try clear c18b0); (try clear c18b1)
       obtain ⟨x9_2, x45_2, rfl, HA, HK2, HO_2, HO_9, HO_43, HB⟩ := hrel
       cases gk with
       | zero => exact absurd HA.out (by simp [poly_Mul.l0])
       | succ k2 =>
        have H := HA.out
        clear HA
        simp only [poly_Mul.l0] at H
        by_cases c21 : x45_2 < (t705.length : Int)
        ·rw [if_pos c21] at H
         have c21b0 := decide_eq_true c21
         clear c21
         obtain ⟨c22, H⟩ : (0 ≤ x45_2) ∧ _ := it_ H
         have c22b0 := decide_eq_true c22
         clear c22
         obtain ⟨c23, H⟩ : (x45_2 < (t705.length : Int)) ∧ _ := it_ H
         have c23b0 := decide_eq_true c23
         clear c23
         by_cases c24 : (rd t705 x45_2) = 0
         ·rw [if_pos c24] at H
          have c24b0 := beq_iff_eq.mpr c24
          have c24b1 := bne_eq_false_iff_eq.mpr c24
          clear c24
          have H' := ak H
          clear H
          have pfr25 : 0 ≤ (x45_2 : Int) := od_
          have qfr25 : (x45_2 : Int) < ((t705.length : Int) : Int) := od_
          obtain ⟨gofr25, cofr25, eofr25, gbfr25, glfr25, clfr25, HGfr25⟩ := Kd.R_form HO_43.out (by omega)
          (first | cases eofr25 | (injection eofr25 with ea_ en_ ec_; (first | subst ea_ | (injection ea_ with ea_; subst ea_)); subst ec_; clear en_))
          have GBfr25 := ak gbfr25
          have GGfr25 := ak HGfr25
          clear gbfr25 glfr25 HGfr25
          clear pfr25 qfr25
          have p714 : 0 ≤ (x45_2 : Int) := od_
          have q714 : x45_2 < (t705.length : Int) := od_
          obtain ⟨ad714, e714, hx714_0⟩ := Kd.at_int (Kd.R_reads' HO_43.out).2.2 x45_2 p714 q714
          obtain rfl : (⟨gofr25, 0, none⟩ : Addr) = ad714 := (by injection e714)
          (first | simp only [add_plain] at hx714_0 | simp only [add_at] at hx714_0 | simp only [Addr.add, Nat.zero_add] at hx714_0 | skip)
          replace p714 := eq_true p714
          replace q714 := eq_true q714
          go_wp2
          go_roundg k2
          case measure => have := HJ7.out; have := HK2.out; omega
          case rel => exact ⟨(x9_2), (wrap64 (x45_2 + 1)), gb_, H', ⟨by have := HJ7.out; have := HK2.out; omega⟩, ⟨rU_ HO_2.out⟩, ⟨rU_ HO_9.out⟩, ⟨rU_ HO_43.out⟩, ⟨bU_ HB.out⟩⟩
         ·rw [if_neg c24] at H
          have c24b0 := beq_eq_false_iff_ne.mpr c24
          have c24b1 := bne_iff_ne.mpr c24
          have H' := ak H
          clear H
          have pfr26 : 0 ≤ (x45_2 : Int) := od_
          have qfr26 : (x45_2 : Int) < ((t705.length : Int) : Int) := od_
          obtain ⟨gofr26, cofr26, eofr26, gbfr26, glfr26, clfr26, HGfr26⟩ := Kd.R_form HO_43.out (by omega)
          (first | cases eofr26 | (injection eofr26 with ea_ en_ ec_; (first | subst ea_ | (injection ea_ with ea_; subst ea_)); subst ec_; clear en_))
          have GBfr26 := ak gbfr26
          have GGfr26 := ak HGfr26
          clear gbfr26 glfr26 HGfr26
          clear pfr26 qfr26
          have p714 : 0 ≤ (x45_2 : Int) := od_
          have q714 : x45_2 < (t705.length : Int) := od_
          obtain ⟨ad714, e714, hx714_0⟩ := Kd.at_int (Kd.R_reads' HO_43.out).2.2 x45_2 p714 q714
          obtain rfl : (⟨gofr26, 0, none⟩ : Addr) = ad714 := (by injection e714)
          (first | simp only [add_plain] at hx714_0 | simp only [add_at] at hx714_0 | simp only [Addr.add, Nat.zero_add] at hx714_0 | skip)
          replace p714 := eq_true p714
          replace q714 := eq_true q714
          go_wp2
          go_loopg [54] k2 (fun kq v54 w' => ∃ (x9_3 : List Int) (x54_3 : Int), v54 = .int .i64 x54_3 ∧ Aside0 (poly_Mul.l1 kq a0 t708 x9_3 x45_2 (rd t705 x45_2) t705 (t705.length : Int) x45_2 t708 (t708.length : Int) x54_3 = some (r1, r2)) ∧ Aside0 (kq ≤ k2) ∧ Aside0 (Kd.R (Kd.int .u64) 22 w' w.heap.size (fun k_ => some k_ ≠ (v712 : Value).ownBlock ∧ some k_ ≠ ((.slice (some ⟨gofr26, 0, none⟩) t705.length co11) : Value).ownBlock) (.slice Ao12 t708.length co12) t708) ∧ Aside0 (Kd.R (Kd.int .u64) 22 w' w.heap.size (fun k_ => some k_ ≠ ((.slice Ao12 t708.length co12) : Value).ownBlock ∧ some k_ ≠ ((.slice (some ⟨gofr26, 0, none⟩) t705.length co11) : Value).ownBlock ∧ some k_ ≠ ((.slice Ao12 t708.length co12) : Value).ownBlock) v712 x9_3) ∧ Aside0 (Kd.R (Kd.int .u64) 22 w' w.heap.size (fun k_ => some k_ ≠ ((.slice Ao12 t708.length co12) : Value).ownBlock ∧ some k_ ≠ (v712 : Value).ownBlock ∧ some k_ ≠ ((.slice Ao12 t708.length co12) : Value).ownBlock) (.slice (some ⟨gofr26, 0, none⟩) t705.length co11) t705) ∧ Aside0 (Kd.R (Kd.int .u64) 22 w' w.heap.size (fun k_ => some k_ ≠ (v712 : Value).ownBlock ∧ some k_ ≠ ((.slice (some ⟨gofr26, 0, none⟩) t705.length co11) : Value).ownBlock) (.slice Ao12 t708.length co12) t708) ∧ Aside0 (Below w.heap.size w w'))
          case atStart => exact ⟨(x9_2), (0), gb_, H', ⟨Nat.le_refl _⟩, ⟨rU_ HO_2.out⟩, ⟨Kd.R_mono (rU_ HO_9.out) (fun _ hk => ⟨hk.1, ⟨hk.2, hk.1⟩⟩)⟩, ⟨Kd.R_mono (rU_ HO_43.out) (fun _ hk => ⟨hk.1, ⟨hk.2, hk.1⟩⟩)⟩, ⟨rU_ HO_2.out⟩, ⟨bU_ HB.out⟩⟩
          case round =>
           clear H'
           (try clear c1); (try clear c2); (try clear p2); (try clear c3); (try clear c5); (try clear p6); (try clear p7); (try clear q7); (try clear hx7); (try clear c13); (try clear c13b0); (try clear c13b1); (try clear c13b2); (try clear c14); (try clear c15); (try clear c15b0); (try clear c17); (try clear c17b0); (try clear c17b1); (try clear c18); (try clear c18b0); (try clear c18b1); (try clear c21); (try clear c21b0); (try clear c22); (try clear c22b0); (try clear c23); (try clear c23b0); (try clear c24); (try clear c24b0); (try clear c24b1); (try clear hx714_0); (try clear p714); (try clear q714)
           obtain ⟨x9_3, x54_3, rfl, HA, HK3, HO_2, HO_9, HO_43, HO_52, HB⟩ := hrel
           cases gk with
           | zero => exact absurd HA.out (by simp [poly_Mul.l1])
           | succ k3 =>
            have H := HA.out
            clear HA
            simp only [poly_Mul.l1] at H
            by_cases c27 : x54_3 < (t708.length : Int)
            ·rw [if_pos c27] at H
             have c27b0 := decide_eq_true c27
             clear c27
             obtain ⟨c28, H⟩ : (0 ≤ x54_3) ∧ _ := it_ H
             have c28b0 := decide_eq_true c28
             clear c28
             obtain ⟨c29, H⟩ : (x54_3 < (t708.length : Int)) ∧ _ := it_ H
             have c29b0 := decide_eq_true c29
             clear c29
             obtain ⟨ji30, hji30⟩ : ∃ j_ : Int, (wrap64 (x45_2 + x54_3)) = j_ := ⟨_, rfl⟩
             first | rw [hji30] at H | simp only [hji30] at H
             have hji30w : (IntKind.i64.wrap (x45_2 + x54_3)) = ji30 := (i64_w _).trans hji30
             obtain ⟨c31, H⟩ : (0 ≤ (ji30)) ∧ _ := it_ H
             have c31b0 := decide_eq_true c31
             clear c31
             obtain ⟨c32, H⟩ : ((ji30) < (x9_3.length : Int)) ∧ _ := it_ H
             have c32b0 := decide_eq_true c32
             clear c32
             revert H
             refine bd_ fun t717 A33 H => ?_
             revert H
             refine bd_ fun t718 A34 H => ?_
             obtain ⟨y719, hy719⟩ : ∃ y_ : List Int, y_ = (x9_3.set ((ji30) : Int).toNat t718) := ⟨_, rfl⟩
             first | rw [Option.bind_some, ← hy719] at H | rw [← hy719] at H
             have Ny719 := ak hy719
             clear hy719
             have H' := ak H
             clear H
             have pfr36 : 0 ≤ (x54_3 : Int) := od_
             have qfr36 : (x54_3 : Int) < ((t708.length : Int) : Int) := od_
             obtain ⟨gofr36, cofr36, eofr36, gbfr36, glfr36, clfr36, HGfr36⟩ := Kd.R_form HO_52.out (by omega)
             (first | cases eofr36 | (injection eofr36 with ea_ en_ ec_; (first | subst ea_ | (injection ea_ with ea_; subst ea_)); subst ec_; clear en_))
             have GBfr36 := ak gbfr36
             have GGfr36 := ak HGfr36
             clear gbfr36 glfr36 HGfr36
             clear pfr36 qfr36
             have p715 : 0 ≤ (x54_3 : Int) := od_
             have q715 : x54_3 < (t708.length : Int) := od_
             obtain ⟨ad715, e715, hx715_0⟩ := Kd.at_int (Kd.R_reads' HO_52.out).2.2 x54_3 p715 q715
             obtain rfl : (⟨gofr36, 0, none⟩ : Addr) = ad715 := (by injection e715)
             (first | simp only [add_plain] at hx715_0 | simp only [add_at] at hx715_0 | simp only [Addr.add, Nat.zero_add] at hx715_0 | skip)
             replace p715 := eq_true p715
             replace q715 := eq_true q715
             try go_wp2
             refine nx5_ (Kd.R_drew HO_2.out) (Kd.R_drew HO_9.out) (Kd.R_drew HO_43.out) (Kd.R_drew HO_52.out) (below_drew1 HB.out) ?_
             clear HO_2 HO_9 HO_43 HO_52 HB
             intro HO_2 HO_9 HO_43 HO_52 HB
             obtain ⟨Ao39, co39, eo39⟩ := Kd.R_slice HO_9.out
             (first | subst eo39 | (injection eo39 with f1_ f2_ f3_; have f4_ := f1_.symm; have f5_ := f3_.symm; clear f1_ f2_ f3_; subst f4_; subst f5_))
             have pfr38 : 0 ≤ ((ji30) : Int) := od_
             have qfr38 : ((ji30) : Int) < ((x9_3.length : Int) : Int) := od_
             obtain ⟨gofr38, cofr38, eofr38, gbfr38, glfr38, clfr38, HGfr38⟩ := Kd.R_form HO_9.out (by omega)
             (first | cases eofr38 | (injection eofr38 with ea_ en_ ec_; (first | subst ea_ | (injection ea_ with ea_; subst ea_)); subst ec_; clear en_))
             have GBfr38 := ak gbfr38
             have GGfr38 := ak HGfr38
             clear gbfr38 glfr38 HGfr38
             clear pfr38 qfr38
             have p716 : 0 ≤ ((ji30) : Int) := od_
             have q716 : (ji30) < (x9_3.length : Int) := od_
             obtain ⟨ad716, e716, hx716_0⟩ := Kd.at_int (Kd.R_reads' HO_9.out).2.2 (ji30) p716 q716
             obtain rfl : (⟨gofr38, 0, none⟩ : Addr) = ad716 := (by injection e716)
             (first | simp only [add_plain] at hx716_0 | simp only [add_at] at hx716_0 | simp only [Addr.add, Nat.zero_add] at hx716_0 | skip)
             replace p716 := eq_true p716
             replace q716 := eq_true q716
             refine start_ (n := 18) (S := fun w' => w'.cell? ⟨gofr38, ((ji30)).toNat, none⟩ = some (.int .u64 (rd x9_3 (ji30)))) (ds := [17]) (bv 18 0) (by kernel_rfl) rfl rfl (hx716_0) (fun hHeld => ?_); refine with_tabW poly_Mul.tab17 poly_Mul.bits17 (fun HT_ HW_ => ?_)
             generalize wr.drew = w37 at HO_2 HO_9 HO_43 HO_52 HB hx716_0 hHeld ⊢
             refine pr_ (i := 0) (N := some 59) (v := ?_) (a' := ?_) (bv 18 1) HT_.out ?_ ?_ ?_; rotate_left 2; (intro w'; go_simp; with_reducible rfl); (simp only [Act.put, s1_, s2_, s3_, i64_w, i32_w]; rfl)
             refine pr_ (i := 1) (N := some 60) (v := ?_) (a' := ?_) (bv 18 3) HT_.out ?_ ?_ ?_; rotate_left 2; (intro w'; go_simp; with_reducible rfl); (simp only [Act.put, s1_, s2_, s3_, i64_w, i32_w]; rfl)
             refine pr_ (i := 2) (N := some 61) (v := ?_) (a' := ?_) (bv 18 7) HT_.out ?_ ?_ ?_; rotate_left 2; (intro w'; go_simp; with_reducible rfl); (simp only [Act.put, s1_, s2_, s3_, i64_w, i32_w]; rfl)
             refine pr_ (i := 3) (N := some 62) (v := ?_) (a' := ?_) (bv 18 15) HT_.out ?_ ?_ ?_; rotate_left 2; (intro w'; go_simp; with_reducible rfl); (simp only [Act.put, s1_, s2_, s3_, i64_w, i32_w]; rfl)
             refine pr_ (i := 4) (N := some 63) (v := ?_) (a' := ?_) (bv 18 31) HT_.out ?_ ?_ ?_; rotate_left 2; (intro w'; go_simp; with_reducible rfl); (simp only [Act.put, s1_, s2_, s3_, i64_w, i32_w]; rfl)
             refine pr_ (i := 5) (N := some 64) (v := ?_) (a' := ?_) (bv 18 63) HT_.out ?_ ?_ ?_; rotate_left 2; (intro w'; go_simp; with_reducible rfl); (simp only [Act.put, s1_, s2_, s3_, i64_w, i32_w]; rfl)
             refine pr_ (i := 6) (N := some 65) (v := ?_) (a' := ?_) (bv 18 127) HT_.out ?_ ?_ ?_; rotate_left 2; (intro w'; go_simp; with_reducible rfl); (simp only [Act.put, s1_, s2_, s3_, i64_w, i32_w]; rfl)
             refine pr_ (i := 7) (N := some 66) (v := ?_) (a' := ?_) (bv 18 255) HT_.out ?_ ?_ ?_; rotate_left 2; (intro w'; go_simp; with_reducible rfl); (simp only [Act.put, s1_, s2_, s3_, i64_w, i32_w]; rfl)
             refine pr_ (i := 8) (N := some 67) (v := ?_) (a' := ?_) (bv 18 511) HT_.out ?_ ?_ ?_; rotate_left 2; (intro w'; go_simp; with_reducible rfl); (simp only [Act.put, s1_, s2_, s3_, i64_w, i32_w]; rfl)
             refine pr_ (i := 9) (N := some 68) (v := ?_) (a' := ?_) (bv 18 1023) HT_.out ?_ ?_ ?_; rotate_left 2; (intro w'; go_simp; with_reducible rfl); (simp only [Act.put, s1_, s2_, s3_, i64_w, i32_w]; rfl)
             refine pr_ (i := 11) (N := some 70) (v := ?_) (a' := ?_) (bv 18 3071) HT_.out ?_ ?_ ?_; rotate_left 2; (intro w'; go_simp; with_reducible rfl); (simp only [Act.put, s1_, s2_, s3_, i64_w, i32_w]; rfl)
             refine pr_ (i := 12) (N := some 71) (v := ?_) (a' := ?_) (bv 18 7167) HT_.out ?_ ?_ ?_; rotate_left 2; (intro w'; go_simp; with_reducible rfl); (simp only [Act.put, s1_, s2_, s3_, i64_w, i32_w]; rfl)
             refine pr_ (i := 13) (N := some 72) (v := ?_) (a' := ?_) (bv 18 15359) HT_.out ?_ ?_ ?_; rotate_left 2; (intro w'; go_simp; with_reducible rfl); (simp only [Act.put, s1_, s2_, s3_, i64_w, i32_w]; rfl)
             refine take_ (i := 10) (N := some 69) (v := ?_) (a' := ?_) (bv 18 16383) rfl rfl (take_ofW HT_.out HW_.out (by kernel_rfl)) (fun _ _ _ h => h) (Or.inl ⟨by rfl, ?_⟩) hHeld ?_ ?_
             rotate_left
             ·intro w' s0
              go_simp
              with_reducible rfl
             rotate_left
             ·simp only [Act.put, s1_, s2_, s3_, i64_w, i32_w]
              rfl
             refine one_ (i := 14) (N := some 73) (bv 18 32767) rfl rfl (one_of HT_.out (by kernel_rfl)) (by decide) (fun K hK => ?_)
             refine goes_ Tryd.func26 (by kernel_rfl) rfl #[.int .i64 a0, .int .u64 (rd t705 x45_2), .int .u64 (rd t708 x54_3)] (by rfl) rfl rfl ga_ ?_
             with_reducible refine (field_Mul.calls a0 (rd t705 x45_2) (rd t708 x54_3) t717 _ ?side1 A33.out).mono ?_
             (case side1 => exact fU_ HG.out HB.out)
             rintro e w40 ⟨rfl, hb⟩
             have HS0_ := (hb.cell (World.block_lt_of_cell? _ _ (hHeld))).trans (hHeld)
             refine ⟨_, rfl, ?_⟩
             refine nx5_ (Kd.R_below (rU_ HO_2.out) hb) (Kd.R_below (rU_ HO_9.out) hb) (Kd.R_below (rU_ HO_43.out) hb) (Kd.R_below (rU_ HO_52.out) hb) (below_step (bU_ HB.out) hb) ?_
             clear HO_2 HO_9 HO_43 HO_52 HB
             intro HO_2 HO_9 HO_43 HO_52 HB
             (try clear hb)
             (try clear hb2)
             (try clear hk)
             (try clear hi)
             refine hK.out _ _ (HS0_) (fun hHeld => ?_)
             clear hK K
             refine norm_ (a' := ?_) ?_ ?_
             rotate_left
             ·show Act.put _ (some 73) _ = _
              simp only [Act.put, s1_, s2_, s3_, i64_w, i32_w]
              rfl
             refine one_ (i := 15) (N := some 74) (bv 18 65535) rfl rfl (one_of HT_.out (by kernel_rfl)) (by decide) (fun K hK => ?_)
             refine goes_ Tryd.func33 (by kernel_rfl) rfl #[.int .i64 a0, .int .u64 (rd x9_3 (ji30)), .int .u64 t717] (by rfl) rfl rfl (by (try simp only [List.map_toArray, List.map_cons, List.map_nil]); first | done | (simp only [hji30]; rfl) | rfl | (simp only [List.length_drop, List.length_take]; rfl)) ?_
             with_reducible refine (field_Add.calls a0 (rd x9_3 (ji30)) t717 t718 _ ?side1 A34.out).mono ?_
             (case side1 => exact fU_ HG.out HB.out)
             rintro e w41 ⟨rfl, hb⟩
             have HS0_ := (hb.cell (World.block_lt_of_cell? _ _ (hHeld))).trans (hHeld)
             refine ⟨_, rfl, ?_⟩
             refine nx5_ (Kd.R_below (rU_ HO_2.out) hb) (Kd.R_below (rU_ HO_9.out) hb) (Kd.R_below (rU_ HO_43.out) hb) (Kd.R_below (rU_ HO_52.out) hb) (below_step (bU_ HB.out) hb) ?_
             clear HO_2 HO_9 HO_43 HO_52 HB
             intro HO_2 HO_9 HO_43 HO_52 HB
             (try clear hb)
             (try clear hb2)
             (try clear hk)
             (try clear hi)
             have p35 : 0 ≤ ((ji30) : Int) := od_
             have q35 : ((ji30) : Int) < ((x9_3.length : Int) : Int) := od_
             obtain ⟨hx35_0, hf35_0⟩ := Kd.R_celln 0 HO_9.out ((ji30) : Int) p35 q35
             replace p35 := eq_true p35
             replace q35 := eq_true q35
             have HP42 := Kd.R_putn HO_9.out ((ji30) : Int) t718
             rw [← Ny719.out] at HP42
             have HQ42 := ak HP42
             clear HP42
             refine hK.out _ _ (HS0_) (fun hHeld => ?_)
             clear hK K
             refine norm_ (a' := ?_) ?_ ?_
             rotate_left
             ·show Act.put _ (some 74) _ = _
              simp only [Act.put, s1_, s2_, s3_, i64_w, i32_w]
              rfl
             refine pr_ (i := 16) (N := some 75) (v := ?_) (a' := ?_) (bv 18 131071) HT_.out ?_ ?_ ?_; rotate_left 2; (intro w'; go_simp; with_reducible rfl); (simp only [Act.put, s1_, s2_, s3_, i64_w, i32_w]; rfl)
             refine last_ (i := 17) (N := none) #[true, true, true, true, true, true, true, true, true, true, true, true, true, true, true, true, true, true] rfl rfl (one_of HT_.out (by kernel_rfl)) (by decide) (fun K hK => ?_)
             refine skip_ (w1 := ?_) (by rfl) rfl ?_ ?_
             rotate_left
             ·go_simp
              rfl
             refine hK.out _ _ ?_
             clear hK K
             refine done_ (done_of HT_.out (by kernel_rfl)) ?_
             try go_wp2
             go_roundg k3
             case measure => have := HJ7.out; have := HK2.out; have := HK3.out; omega
             case rel => exact ⟨(y719), (wrap64 (x54_3 + 1)), gb_, H', ⟨by have := HJ7.out; have := HK2.out; have := HK3.out; omega⟩, ⟨by (with_reducible repeat (first | apply Kd.R_alloc | apply Kd.R_drewN | apply Kd.R_drew)); exact Kd.R_mono (Kd.R_far (p := ⟨gofr38, ((ji30) : Int).toNat, none⟩) (Kd.R_mono HO_2.out (fun k_ hk => (⟨hk, fun e_ => hk.1 (by rw [e_]; rfl)⟩ : _ ∧ k_ ≠ gofr38))) (fun _ hk => hk.2) (.int .u64 t718)) (fun _ hk => ⟨hk.1.1, hk.1.2⟩)⟩, ⟨rU_ HQ42.out⟩, ⟨by (with_reducible repeat (first | apply Kd.R_alloc | apply Kd.R_drewN | apply Kd.R_drew)); exact Kd.R_mono (Kd.R_far (p := ⟨gofr38, ((ji30) : Int).toNat, none⟩) (Kd.R_mono HO_43.out (fun k_ hk => (⟨hk, fun e_ => hk.2.1 (by rw [e_]; rfl)⟩ : _ ∧ k_ ≠ gofr38))) (fun _ hk => hk.2) (.int .u64 t718)) (fun _ hk => ⟨hk.1.1, ⟨hk.1.2.1, hk.1.2.2⟩⟩)⟩, ⟨by (with_reducible repeat (first | apply Kd.R_alloc | apply Kd.R_drewN | apply Kd.R_drew)); exact Kd.R_mono (Kd.R_far (p := ⟨gofr38, ((ji30) : Int).toNat, none⟩) (Kd.R_mono HO_52.out (fun k_ hk => (⟨hk, fun e_ => hk.1 (by rw [e_]; rfl)⟩ : _ ∧ k_ ≠ gofr38))) (fun _ hk => hk.2) (.int .u64 t718)) (fun _ hk => ⟨hk.1.1, hk.1.2⟩)⟩, ⟨by repeat (first | (with_reducible first | exact HB.out | apply below_alloc | apply pw_below_drewN | apply below_drew1 | refine below_set ?_ GBfr38.out) | exact HB.out)⟩⟩
            ·rw [if_neg c27] at H
             have c27b0 := decide_eq_false c27
             clear c27
             have H' := ak H
             clear H
             go_wp2
             go_roundg k3
             case measure => have := HJ7.out; have := HK2.out; have := HK3.out; omega
             case rel => exact ⟨(x9_3), (wrap64 (x45_2 + 1)), gb_, H', ⟨by have := HJ7.out; have := HK2.out; have := HK3.out; omega⟩, ⟨rU_ HO_2.out⟩, ⟨Kd.R_mono (rU_ HO_9.out) (fun _ hk => ⟨hk.1, hk.2.1⟩)⟩, ⟨Kd.R_mono (rU_ HO_43.out) (fun _ hk => ⟨hk.1, hk.2.1⟩)⟩, ⟨bU_ HB.out⟩⟩
        ·rw [if_neg c21] at H
         have c21b0 := decide_eq_false c21
         clear c21
         simp only [Option.some.injEq, Prod.mk.injEq] at H
         obtain ⟨rfl, rfl⟩ := H
         go_wp2
         go_ret2
         exact ⟨_, by first | rfl | (simp [errW_none, errW_some] <;> rfl) | (simp only [← hji16]; first | rfl | (simp [errW_none, errW_some] <;> rfl)) | (simp [*, errW_none, errW_some] <;> rfl), Kd.R_mono (rU_ HO_9.out) (fun _ hk => trivial), bU_ HB.out⟩
 ·replace c5 := Bool.eq_false_iff.mpr c5
  subst c5
  rw [if_neg (show ¬ (false = true) by decide)] at H
  simp only [Option.some.injEq, Prod.mk.injEq] at H
  obtain ⟨rfl, rfl⟩ := H
  go_enter Tryd.func30, Tryd.ntmps30
  go_wp2_with (first | ((with_reducible refine gate_callee (f := 52) rfl ?_); refine gl_ (some 15) Tryd.func52 #[.int .i64 a0] ?_; (with_reducible refine (field_Valid.calls a0 false _ A4.out).mono ?_); rintro e w' ⟨rfl, ⟨nd, rfl⟩⟩; refine ⟨_, rfl, ?_⟩))
  go_ret2
  exact ⟨_, by first | rfl | (simp [errW_none, errW_some] <;> rfl) | (simp [*, errW_none, errW_some] <;> rfl), by first | exact Kd.R_nil _ _ _ _ _ | exact Kd.N_nil _ _ _ _ _ | exact Kd.V_nil _ _ _ _ _ | exact Kd.Q_nil _ _ _ _ _ | exact Kd.S_nil _ _ _ _ _, bU_ HB.out⟩

/-! ### poly_Add_yes: function 31 -/
def poly_Add_yes.l0 : Nat → Int → List Int → List Int → Int → Int → Option (List Int)
 | 0, _, _, _, _, _ => none
 | k + 1, x0, x7, x23, x24, x25 => if x25 < x24 then (if 0 ≤ x25 then (if x25 < (x23.length : Int) then (if x25 < (x7.length : Int) then ((field_Add.f x0 (rd x7 x25) (rd x23 x25)).bind fun t727 => (poly_Add_yes.l0 k x0 (x7.set (x25 : Int).toNat t727) x23 x24 (wrap64 (x25 + 1)))) else (none)) else (none)) else (none)) else ((poly_Normal.f k x0 x7).bind fun t729 => (some t729))
def poly_Add_yes.f (k : Nat) (a0 : Int) (l1 : List Int) (l2 : List Int) : Option (List Int) := if 0 ≤ (l2.length : Int) then (if ((l2.length : Int) : Int).toNat ≤ 35184372088832 then (poly_Add_yes.l0 k a0 (cpyAt (List.replicate ((l2.length : Int) : Int).toNat 0) 0 l2) l1 (l1.length : Int) 0) else (none)) else (none)
set_option maxHeartbeats 8000000 in
set_option maxRecDepth 100000 in
theorem poly_Add_yes.calls (k : Nat) (a0 : Int) (A1 : Option Addr) (c1 : Nat) (l1 : List Int) (A2 : Option Addr) (c2 : Nat) (l2 : List Int) (r : List Int) (w : World) (hX : (l1.length : Int) < (l2.length : Int)) (hG : Fld w) (hr1 : Kd.C (Kd.int .u64) w A1 l1.length l1) (hc1 : l1.length ≤ c1) (hr2 : Kd.C (Kd.int .u64) w A2 l2.length l2) (hc2 : l2.length ≤ c2) (h : poly_Add_yes.f k a0 l1 l2 = some r) :
  Calls Tryd.prog 31 #[.int .i64 a0, .slice A1 l1.length c1, .slice A2 l2.length c2] w fun e w' => ∃ v0_ : Value, e = .returned (v0_) ∧ Kd.R (Kd.int .u64) 22 w' w.heap.size (fun _ => True) v0_ r ∧ Below w.heap.size w w' := by
 have HG := ak hG
 clear hG
 have hXb0 : decide ((l1.length : Int) < (l2.length : Int)) = true := decide_eq_true hX
 have hXb1 : decide (l1.length < l2.length) = true := decide_eq_true (Int.ofNat_lt.mp hX)
 clear hX
 have HR1 := ak hr1
 have HC1 := ak hc1
 clear hr1 hc1
 have HR2 := ak hr2
 have HC2 := ak hc2
 clear hr2 hc2
 have HB := ak (Below.refl w.heap.size w)
 have H : (if 0 ≤ (l2.length : Int) then (if ((l2.length : Int) : Int).toNat ≤ 35184372088832 then (poly_Add_yes.l0 k a0 (cpyAt (List.replicate ((l2.length : Int) : Int).toNat 0) 0 l2) l1 (l1.length : Int) 0) else (none)) else (none)) = some r := h
 clear h
 obtain ⟨c4, H⟩ : (0 ≤ (l2.length : Int)) ∧ _ := it_ H
 have c4b0 := eq_true c4
 have c4b1 := decide_eq_true c4
 clear c4
 obtain ⟨c5, H⟩ : (((l2.length : Int) : Int).toNat ≤ 35184372088832) ∧ _ := it_ H
 have c5b0 := eq_true c5
 have c5b1 := decide_eq_true c5
 clear c5
 obtain ⟨y720, hy720⟩ : ∃ y_ : List Int, y_ = (List.replicate ((l2.length : Int) : Int).toNat 0) := ⟨_, rfl⟩
 first | rw [Option.bind_some, ← hy720] at H | rw [← hy720] at H
 have Ny720 := ak hy720
 clear hy720
 obtain ⟨y723, hy723⟩ : ∃ y_ : List Int, y_ = (cpyAt y720 0 l2) := ⟨_, rfl⟩
 first | rw [Option.bind_some, ← hy723] at H | rw [← hy723] at H
 have Ny723 := ak hy723
 clear hy723
 have H' := ak H
 clear H
 go_enter Tryd.func31, Tryd.ntmps31
 go_wp2_with (first | ((with_reducible refine gate_dst (N := 19) rfl ?_); refine Kd.R_make (Kd.int .u64) _ 22 rfl (N := 19) rfl 23 _ _ rfl (l2.length : Int) ?hx ?hy Tryd.underlying23 (.int .u64 0) 8 info22 rfl (by decide) (by omega) 0 (ok := fun _ => True) (okp := fun _ => True) rfl (fun _ hk => hk) trivial od_ (Nat.le_trans (Nat.mul_le_mul_right _ (od_ : (l2.length : Int).toNat ≤ 35184372088832)) (by omega)) (Below.refl _ _) (Nat.le_refl _) ?_; (case hx => first | rfl); (case hy => first | rfl); intro v721 w6 ho7 hb hg_ hnew_; clear hg_ hnew_; (first | rw [← Ny720.out] at ho7 | (simp only [Int.reduceToNat] at ho7; rw [← Ny720.out] at ho7)); refine nx2_ (Kd.R_lower ho7 (below_size (bU_ HB.out))) (below_step (bU_ HB.out) hb) ?_; clear HB; intro HO722 HB; clear hb ho7; obtain ⟨Ao9, co9, eo9⟩ := Kd.R_slice HO722.out; subst eo9) | ((with_reducible refine gate_builtin (b := .copy) (xs := #[.tmp 20, .tmp 21]) rfl ?_); skip; refine copy_own_ .u64 (w0 := w) w.heap.size rfl (.tmp 20) (.tmp 21) 23 23 22 rfl Tryd.underlying23 (show (Tryd.prog.info? 22).map (·.size) = some 1 by kernel_rfl) (.slice Ao9 y720.length co9) y720 l2 _ _ _ (fun _ => True) rfl rfl ?aO ?aR (fun _ _ h => h) ?aF ?aB ?aS ?_; (case aR => exact cU_ (Kd.C_below HR2.out HB.out)); (case aB => exact (bU_ HB.out)); (case aF => exact (fun _ _ => trivial)); (case aO => exact (rU_ HO722.out)); (case aS => exact (below_size (bU_ HB.out))); intro w8 ho hb hg hat; rw [← Ny723.out] at ho; refine nx2_ (hb) (ho) ?_; clear HB HO722; intro HB HO724; clear ho hb hg hat))
 go_loopg [25] k (fun kq v25 w' => ∃ (x7_1 : List Int) (x25_1 : Int), v25 = .int .i64 x25_1 ∧ Aside0 (poly_Add_yes.l0 kq a0 x7_1 l1 (l1.length : Int) x25_1 = some r) ∧ Aside0 (kq ≤ k) ∧ Aside0 (Kd.R (Kd.int .u64) 22 w' w.heap.size (fun _ => True) (.slice Ao9 y720.length co9) x7_1) ∧ Aside0 (Below w.heap.size w w'))
 case atStart => exact ⟨(y723), (0), gb_, H', ⟨Nat.le_refl _⟩, ⟨rU_ HO724.out⟩, ⟨bU_ HB.out⟩⟩
 case round =>
  clear H'
  (try clear c1); (try clear c2); (try clear p2); (try clear c3); (try clear c4); (try clear c4b0); (try clear c4b1); (try clear c5); (try clear c5b0); (try clear c5b1)
  obtain ⟨x7_1, x25_1, rfl, HA, HK1, HO_7, HB⟩ := hrel
  have hl7_1 := (Kd.R_reads' HO_7.out).1
  rw [hl7_1] at HO_7
  (try simp only [hl7_1])
  cases gk with
  | zero => exact absurd HA.out (by simp [poly_Add_yes.l0])
  | succ k1 =>
   have H := HA.out
   clear HA
   simp only [poly_Add_yes.l0] at H
   by_cases c10 : x25_1 < (l1.length : Int)
   ·rw [if_pos c10] at H
    have c10b0 := decide_eq_true c10
    clear c10
    obtain ⟨c11, H⟩ : (0 ≤ x25_1) ∧ _ := it_ H
    have c11b0 := decide_eq_true c11
    clear c11
    obtain ⟨c12, H⟩ : (x25_1 < (l1.length : Int)) ∧ _ := it_ H
    have c12b0 := decide_eq_true c12
    clear c12
    obtain ⟨c13, H⟩ : (x25_1 < (x7_1.length : Int)) ∧ _ := it_ H
    have c13b0 := decide_eq_true c13
    clear c13
    revert H
    refine bd_ fun t727 A14 H => ?_
    obtain ⟨y728, hy728⟩ : ∃ y_ : List Int, y_ = (x7_1.set (x25_1 : Int).toNat t727) := ⟨_, rfl⟩
    first | rw [Option.bind_some, ← hy728] at H | rw [← hy728] at H
    have Ny728 := ak hy728
    clear hy728
    have H' := ak H
    clear H
    have p725 : 0 ≤ (x25_1 : Int) := od_
    have q725 : x25_1 < (l1.length : Int) := od_
    obtain ⟨ad725, e725, hx725_0⟩ := Kd.at_int HR1.out x25_1 p725 q725
    cases e725
    replace hx725_0 := (HB.out.cell (World.block_lt_of_cell? w _ hx725_0)).trans hx725_0
    replace p725 := eq_true p725
    replace q725 := eq_true q725
    have pfr16 : 0 ≤ (x25_1 : Int) := od_
    have qfr16 : (x25_1 : Int) < ((x7_1.length : Int) : Int) := od_
    obtain ⟨gofr16, cofr16, eofr16, gbfr16, glfr16, clfr16, HGfr16⟩ := Kd.R_form HO_7.out (by omega)
    (first | cases eofr16 | (injection eofr16 with ea_ en_ ec_; (first | subst ea_ | (injection ea_ with ea_; subst ea_)); subst ec_; clear en_))
    have GBfr16 := ak gbfr16
    have GGfr16 := ak HGfr16
    clear gbfr16 glfr16 HGfr16
    clear pfr16 qfr16
    have p726 : 0 ≤ (x25_1 : Int) := od_
    have q726 : x25_1 < (x7_1.length : Int) := od_
    obtain ⟨ad726, e726, hx726_0⟩ := Kd.at_int (Kd.R_reads' HO_7.out).2.2 x25_1 p726 q726
    obtain rfl : (⟨gofr16, 0, none⟩ : Addr) = ad726 := (by injection e726)
    (first | simp only [add_plain] at hx726_0 | simp only [add_at] at hx726_0 | simp only [Addr.add, Nat.zero_add] at hx726_0 | skip)
    replace p726 := eq_true p726
    replace q726 := eq_true q726
    go_wp2_with (first | ((with_reducible refine gate_callee (f := 33) rfl ?_); refine gl_ (some 38) Tryd.func33 #[.int .i64 a0, .int .u64 (rd x7_1 x25_1), .int .u64 (rd l1 x25_1)] ?_; (with_reducible refine (field_Add.calls a0 (rd x7_1 x25_1) (rd l1 x25_1) t727 _ ?side1 A14.out).mono ?_); (case side1 => exact fU_ HG.out HB.out); rintro e w17 ⟨rfl, hb⟩; refine ⟨_, rfl, ?_⟩; refine nx2_ (Kd.R_below (rU_ HO_7.out) hb) (below_step (bU_ HB.out) hb) ?_; clear HO_7 HB; intro HO_7 HB; clear hb; have p15 : 0 ≤ (x25_1 : Int) := od_; have q15 : (x25_1 : Int) < ((x7_1.length : Int) : Int) := od_; obtain ⟨hx15_0, hf15_0⟩ := Kd.R_celln 0 HO_7.out (x25_1 : Int) p15 q15; replace p15 := eq_true p15; replace q15 := eq_true q15; obtain ⟨hy18_, hz18_⟩ := Kd.R_celln 0 HO_7.out (x25_1 : Int) od_ od_; have HP18 := Kd.R_putg HO_7.out (x25_1 : Int) t727) | ((with_reducible refine gate_store (t := 22) (p := 39) rfl ?_); refine store_event (t := 22) (p := 39) (v := ?vo_w19) (w1 := (w17.setCell ⟨gofr16, (x25_1 : Int).toNat, none⟩ (.int .u64 t727))) ?hg ?ho ?hn ?hr ?_; (case ho => rfl); (case hg => rfl); (case hn => rfl); (case hr => first | (go_simp; done) | (go_simp; rfl)); intro w19 hw; have hg : w17.grownBy w19 (some gofr16) := (by rw [hw]; exact HP18.2); have hp_ : Kd.R (Kd.int .u64) 22 w19 w.heap.size (fun _ => True) (.slice (some ⟨gofr16, 0, none⟩) x7_1.length co9) y728 := (by rw [hw, Ny728.out]; exact HP18.1); clear HP18; refine nx2_ (hp_) ((by rw [hw]; exact below_set (HB.out) GBfr16.out : Below w.heap.size w w19)) ?_; clear HO_7 HB; intro HO_7 HB; clear hg hw hp_))
    (try simp only [← hl7_1])
    go_roundg k1
    case measure => have := HK1.out; omega
    case rel => exact ⟨(y728), (wrap64 (x25_1 + 1)), gb_, H', ⟨by have := HK1.out; omega⟩, ⟨by (try simp only [hl7_1]); (with_reducible repeat (first | apply Kd.R_alloc | apply Kd.R_drewN | apply Kd.R_drew)); exact HO_7.out⟩, ⟨bU_ HB.out⟩⟩
   ·rw [if_neg c10] at H
    have c10b0 := decide_eq_false c10
    clear c10
    revert H
    refine bd_ fun t729 A20 H => ?_
    obtain rfl := Option.some.inj H
    go_wp2_with (first | ((with_reducible refine gate_callee (f := 56) rfl ?_); refine gl_ (some 43) Tryd.func56 #[.int .i64 a0, .slice Ao9 x7_1.length co9] ?_; (with_reducible refine (poly_Normal.calls k1 a0 _ _ x7_1 t729 _ ?side1 ?side2 ?side3 A20.out).mono ?_); (case side1 => exact fU_ HG.out HB.out); (case side2 => exact cU_ ((Kd.R_reads' HO_7.out).2.2)); (case side3 => exact (Kd.R_reads' HO_7.out).2.1); rintro e w21 ⟨v730, rfl, ho0, hb⟩; refine ⟨_, rfl, ?_⟩; refine nx3_ (Kd.R_elder' (rU_ HO_7.out) (Kd.R_base ho0) hb) (Kd.R_lower (Kd.R_new' ho0 (Kd.R_lt (rU_ HO_7.out))) (below_size (bU_ HB.out))) (below_step (bU_ HB.out) hb) ?_; clear HO_7 HB; intro HO_7 HO731 HB; clear hb ho0))
    go_ret
    exact ⟨_, by first | rfl | (simp [errW_none, errW_some] <;> rfl) | (simp [*, errW_none, errW_some] <;> rfl), Kd.R_mono (rU_ HO731.out) (fun _ hk => trivial), bU_ HB.out⟩

/-! ### poly_Add_no: function 31 -/
def poly_Add_no.l0 : Nat → Int → List Int → List Int → Int → Int → Option (List Int)
 | 0, _, _, _, _, _ => none
 | k + 1, x0, x7, x23, x24, x25 => if x25 < x24 then (if 0 ≤ x25 then (if x25 < (x23.length : Int) then (if x25 < (x7.length : Int) then ((field_Add.f x0 (rd x7 x25) (rd x23 x25)).bind fun t739 => (poly_Add_no.l0 k x0 (x7.set (x25 : Int).toNat t739) x23 x24 (wrap64 (x25 + 1)))) else (none)) else (none)) else (none)) else ((poly_Normal.f k x0 x7).bind fun t741 => (some t741))
def poly_Add_no.f (k : Nat) (a0 : Int) (l1 : List Int) (l2 : List Int) : Option (List Int) := if 0 ≤ (l1.length : Int) then (if ((l1.length : Int) : Int).toNat ≤ 35184372088832 then (poly_Add_no.l0 k a0 (cpyAt (List.replicate ((l1.length : Int) : Int).toNat 0) 0 l1) l2 (l2.length : Int) 0) else (none)) else (none)
set_option maxHeartbeats 8000000 in
set_option maxRecDepth 100000 in
theorem poly_Add_no.calls (k : Nat) (a0 : Int) (A1 : Option Addr) (c1 : Nat) (l1 : List Int) (A2 : Option Addr) (c2 : Nat) (l2 : List Int) (r : List Int) (w : World) (hX : ¬ ((l1.length : Int) < (l2.length : Int))) (hG : Fld w) (hr1 : Kd.C (Kd.int .u64) w A1 l1.length l1) (hc1 : l1.length ≤ c1) (hr2 : Kd.C (Kd.int .u64) w A2 l2.length l2) (hc2 : l2.length ≤ c2) (h : poly_Add_no.f k a0 l1 l2 = some r) :
  Calls Tryd.prog 31 #[.int .i64 a0, .slice A1 l1.length c1, .slice A2 l2.length c2] w fun e w' => ∃ v0_ : Value, e = .returned (v0_) ∧ Kd.R (Kd.int .u64) 22 w' w.heap.size (fun _ => True) v0_ r ∧ Below w.heap.size w w' := by
 have HG := ak hG
 clear hG
 have hXb0 : decide ((l1.length : Int) < (l2.length : Int)) = false := decide_eq_false hX
 have hXb1 : decide (l1.length < l2.length) = false := decide_eq_false (fun h => hX (Int.ofNat_lt.mpr h))
 clear hX
 have HR1 := ak hr1
 have HC1 := ak hc1
 clear hr1 hc1
 have HR2 := ak hr2
 have HC2 := ak hc2
 clear hr2 hc2
 have HB := ak (Below.refl w.heap.size w)
 have H : (if 0 ≤ (l1.length : Int) then (if ((l1.length : Int) : Int).toNat ≤ 35184372088832 then (poly_Add_no.l0 k a0 (cpyAt (List.replicate ((l1.length : Int) : Int).toNat 0) 0 l1) l2 (l2.length : Int) 0) else (none)) else (none)) = some r := h
 clear h
 obtain ⟨c4, H⟩ : (0 ≤ (l1.length : Int)) ∧ _ := it_ H
 have c4b0 := eq_true c4
 have c4b1 := decide_eq_true c4
 clear c4
 obtain ⟨c5, H⟩ : (((l1.length : Int) : Int).toNat ≤ 35184372088832) ∧ _ := it_ H
 have c5b0 := eq_true c5
 have c5b1 := decide_eq_true c5
 clear c5
 obtain ⟨y732, hy732⟩ : ∃ y_ : List Int, y_ = (List.replicate ((l1.length : Int) : Int).toNat 0) := ⟨_, rfl⟩
 first | rw [Option.bind_some, ← hy732] at H | rw [← hy732] at H
 have Ny732 := ak hy732
 clear hy732
 obtain ⟨y735, hy735⟩ : ∃ y_ : List Int, y_ = (cpyAt y732 0 l1) := ⟨_, rfl⟩
 first | rw [Option.bind_some, ← hy735] at H | rw [← hy735] at H
 have Ny735 := ak hy735
 clear hy735
 have H' := ak H
 clear H
 go_enter Tryd.func31, Tryd.ntmps31
 go_wp2_with (first | ((with_reducible refine gate_dst (N := 19) rfl ?_); refine Kd.R_make (Kd.int .u64) _ 22 rfl (N := 19) rfl 23 _ _ rfl (l1.length : Int) ?hx ?hy Tryd.underlying23 (.int .u64 0) 8 info22 rfl (by decide) (by omega) 0 (ok := fun _ => True) (okp := fun _ => True) rfl (fun _ hk => hk) trivial od_ (Nat.le_trans (Nat.mul_le_mul_right _ (od_ : (l1.length : Int).toNat ≤ 35184372088832)) (by omega)) (Below.refl _ _) (Nat.le_refl _) ?_; (case hx => first | rfl); (case hy => first | rfl); intro v733 w6 ho7 hb hg_ hnew_; clear hg_ hnew_; (first | rw [← Ny732.out] at ho7 | (simp only [Int.reduceToNat] at ho7; rw [← Ny732.out] at ho7)); refine nx2_ (Kd.R_lower ho7 (below_size (bU_ HB.out))) (below_step (bU_ HB.out) hb) ?_; clear HB; intro HO734 HB; clear hb ho7; obtain ⟨Ao9, co9, eo9⟩ := Kd.R_slice HO734.out; subst eo9) | ((with_reducible refine gate_builtin (b := .copy) (xs := #[.tmp 20, .tmp 21]) rfl ?_); skip; refine copy_own_ .u64 (w0 := w) w.heap.size rfl (.tmp 20) (.tmp 21) 23 23 22 rfl Tryd.underlying23 (show (Tryd.prog.info? 22).map (·.size) = some 1 by kernel_rfl) (.slice Ao9 y732.length co9) y732 l1 _ _ _ (fun _ => True) rfl rfl ?aO ?aR (fun _ _ h => h) ?aF ?aB ?aS ?_; (case aR => exact cU_ (Kd.C_below HR1.out HB.out)); (case aB => exact (bU_ HB.out)); (case aF => exact (fun _ _ => trivial)); (case aO => exact (rU_ HO734.out)); (case aS => exact (below_size (bU_ HB.out))); intro w8 ho hb hg hat; rw [← Ny735.out] at ho; refine nx2_ (hb) (ho) ?_; clear HB HO734; intro HB HO736; clear ho hb hg hat))
 go_loopg [25] k (fun kq v25 w' => ∃ (x7_1 : List Int) (x25_1 : Int), v25 = .int .i64 x25_1 ∧ Aside0 (poly_Add_no.l0 kq a0 x7_1 l2 (l2.length : Int) x25_1 = some r) ∧ Aside0 (kq ≤ k) ∧ Aside0 (Kd.R (Kd.int .u64) 22 w' w.heap.size (fun _ => True) (.slice Ao9 y732.length co9) x7_1) ∧ Aside0 (Below w.heap.size w w'))
 case atStart => exact ⟨(y735), (0), gb_, H', ⟨Nat.le_refl _⟩, ⟨rU_ HO736.out⟩, ⟨bU_ HB.out⟩⟩
 case round =>
  clear H'
  (try clear c1); (try clear c2); (try clear p2); (try clear c3); (try clear c4); (try clear c4b0); (try clear c4b1); (try clear c5); (try clear c5b0); (try clear c5b1)
  obtain ⟨x7_1, x25_1, rfl, HA, HK1, HO_7, HB⟩ := hrel
  have hl7_1 := (Kd.R_reads' HO_7.out).1
  rw [hl7_1] at HO_7
  (try simp only [hl7_1])
  cases gk with
  | zero => exact absurd HA.out (by simp [poly_Add_no.l0])
  | succ k1 =>
   have H := HA.out
   clear HA
   simp only [poly_Add_no.l0] at H
   by_cases c10 : x25_1 < (l2.length : Int)
   ·rw [if_pos c10] at H
    have c10b0 := decide_eq_true c10
    clear c10
    obtain ⟨c11, H⟩ : (0 ≤ x25_1) ∧ _ := it_ H
    have c11b0 := decide_eq_true c11
    clear c11
    obtain ⟨c12, H⟩ : (x25_1 < (l2.length : Int)) ∧ _ := it_ H
    have c12b0 := decide_eq_true c12
    clear c12
    obtain ⟨c13, H⟩ : (x25_1 < (x7_1.length : Int)) ∧ _ := it_ H
    have c13b0 := decide_eq_true c13
    clear c13
    revert H
    refine bd_ fun t739 A14 H => ?_
    obtain ⟨y740, hy740⟩ : ∃ y_ : List Int, y_ = (x7_1.set (x25_1 : Int).toNat t739) := ⟨_, rfl⟩
    first | rw [Option.bind_some, ← hy740] at H | rw [← hy740] at H
    have Ny740 := ak hy740
    clear hy740
    have H' := ak H
    clear H
    have p737 : 0 ≤ (x25_1 : Int) := od_
    have q737 : x25_1 < (l2.length : Int) := od_
    obtain ⟨ad737, e737, hx737_0⟩ := Kd.at_int HR2.out x25_1 p737 q737
    cases e737
    replace hx737_0 := (HB.out.cell (World.block_lt_of_cell? w _ hx737_0)).trans hx737_0
    replace p737 := eq_true p737
    replace q737 := eq_true q737
    have pfr16 : 0 ≤ (x25_1 : Int) := od_
    have qfr16 : (x25_1 : Int) < ((x7_1.length : Int) : Int) := od_
    obtain ⟨gofr16, cofr16, eofr16, gbfr16, glfr16, clfr16, HGfr16⟩ := Kd.R_form HO_7.out (by omega)
    (first | cases eofr16 | (injection eofr16 with ea_ en_ ec_; (first | subst ea_ | (injection ea_ with ea_; subst ea_)); subst ec_; clear en_))
    have GBfr16 := ak gbfr16
    have GGfr16 := ak HGfr16
    clear gbfr16 glfr16 HGfr16
    clear pfr16 qfr16
    have p738 : 0 ≤ (x25_1 : Int) := od_
    have q738 : x25_1 < (x7_1.length : Int) := od_
    obtain ⟨ad738, e738, hx738_0⟩ := Kd.at_int (Kd.R_reads' HO_7.out).2.2 x25_1 p738 q738
    obtain rfl : (⟨gofr16, 0, none⟩ : Addr) = ad738 := (by injection e738)
    (first | simp only [add_plain] at hx738_0 | simp only [add_at] at hx738_0 | simp only [Addr.add, Nat.zero_add] at hx738_0 | skip)
    replace p738 := eq_true p738
    replace q738 := eq_true q738
    go_wp2_with (first | ((with_reducible refine gate_callee (f := 33) rfl ?_); refine gl_ (some 38) Tryd.func33 #[.int .i64 a0, .int .u64 (rd x7_1 x25_1), .int .u64 (rd l2 x25_1)] ?_; (with_reducible refine (field_Add.calls a0 (rd x7_1 x25_1) (rd l2 x25_1) t739 _ ?side1 A14.out).mono ?_); (case side1 => exact fU_ HG.out HB.out); rintro e w17 ⟨rfl, hb⟩; refine ⟨_, rfl, ?_⟩; refine nx2_ (Kd.R_below (rU_ HO_7.out) hb) (below_step (bU_ HB.out) hb) ?_; clear HO_7 HB; intro HO_7 HB; clear hb; have p15 : 0 ≤ (x25_1 : Int) := od_; have q15 : (x25_1 : Int) < ((x7_1.length : Int) : Int) := od_; obtain ⟨hx15_0, hf15_0⟩ := Kd.R_celln 0 HO_7.out (x25_1 : Int) p15 q15; replace p15 := eq_true p15; replace q15 := eq_true q15; obtain ⟨hy18_, hz18_⟩ := Kd.R_celln 0 HO_7.out (x25_1 : Int) od_ od_; have HP18 := Kd.R_putg HO_7.out (x25_1 : Int) t739) | ((with_reducible refine gate_store (t := 22) (p := 39) rfl ?_); refine store_event (t := 22) (p := 39) (v := ?vo_w19) (w1 := (w17.setCell ⟨gofr16, (x25_1 : Int).toNat, none⟩ (.int .u64 t739))) ?hg ?ho ?hn ?hr ?_; (case ho => rfl); (case hg => rfl); (case hn => rfl); (case hr => first | (go_simp; done) | (go_simp; rfl)); intro w19 hw; have hg : w17.grownBy w19 (some gofr16) := (by rw [hw]; exact HP18.2); have hp_ : Kd.R (Kd.int .u64) 22 w19 w.heap.size (fun _ => True) (.slice (some ⟨gofr16, 0, none⟩) x7_1.length co9) y740 := (by rw [hw, Ny740.out]; exact HP18.1); clear HP18; refine nx2_ (hp_) ((by rw [hw]; exact below_set (HB.out) GBfr16.out : Below w.heap.size w w19)) ?_; clear HO_7 HB; intro HO_7 HB; clear hg hw hp_))
    (try simp only [← hl7_1])
    go_roundg k1
    case measure => have := HK1.out; omega
    case rel => exact ⟨(y740), (wrap64 (x25_1 + 1)), gb_, H', ⟨by have := HK1.out; omega⟩, ⟨by (try simp only [hl7_1]); (with_reducible repeat (first | apply Kd.R_alloc | apply Kd.R_drewN | apply Kd.R_drew)); exact HO_7.out⟩, ⟨bU_ HB.out⟩⟩
   ·rw [if_neg c10] at H
    have c10b0 := decide_eq_false c10
    clear c10
    revert H
    refine bd_ fun t741 A20 H => ?_
    obtain rfl := Option.some.inj H
    go_wp2_with (first | ((with_reducible refine gate_callee (f := 56) rfl ?_); refine gl_ (some 43) Tryd.func56 #[.int .i64 a0, .slice Ao9 x7_1.length co9] ?_; (with_reducible refine (poly_Normal.calls k1 a0 _ _ x7_1 t741 _ ?side1 ?side2 ?side3 A20.out).mono ?_); (case side1 => exact fU_ HG.out HB.out); (case side2 => exact cU_ ((Kd.R_reads' HO_7.out).2.2)); (case side3 => exact (Kd.R_reads' HO_7.out).2.1); rintro e w21 ⟨v742, rfl, ho0, hb⟩; refine ⟨_, rfl, ?_⟩; refine nx3_ (Kd.R_elder' (rU_ HO_7.out) (Kd.R_base ho0) hb) (Kd.R_lower (Kd.R_new' ho0 (Kd.R_lt (rU_ HO_7.out))) (below_size (bU_ HB.out))) (below_step (bU_ HB.out) hb) ?_; clear HO_7 HB; intro HO_7 HO743 HB; clear hb ho0))
    go_ret
    exact ⟨_, by first | rfl | (simp [errW_none, errW_some] <;> rfl) | (simp [*, errW_none, errW_some] <;> rfl), Kd.R_mono (rU_ HO743.out) (fun _ hk => trivial), bU_ HB.out⟩

/-! ### poly_Add: function 31 -/
def poly_Add.f (k : Nat) (a0 : Int) (l1 : List Int) (l2 : List Int) : Option (List Int) := if (l1.length : Int) < (l2.length : Int) then poly_Add_yes.f k a0 l1 l2 else poly_Add_no.f k a0 l1 l2
theorem poly_Add.calls (k : Nat) (a0 : Int) (A1 : Option Addr) (c1 : Nat) (l1 : List Int) (A2 : Option Addr) (c2 : Nat) (l2 : List Int) (r : List Int) (w : World) (hG : Fld w) (hr1 : Kd.C (Kd.int .u64) w A1 l1.length l1) (hc1 : l1.length ≤ c1) (hr2 : Kd.C (Kd.int .u64) w A2 l2.length l2) (hc2 : l2.length ≤ c2) (h : poly_Add.f k a0 l1 l2 = some r) :
  Calls Tryd.prog 31 #[.int .i64 a0, .slice A1 l1.length c1, .slice A2 l2.length c2] w fun e w' => ∃ v0_ : Value, e = .returned (v0_) ∧ Kd.R (Kd.int .u64) 22 w' w.heap.size (fun _ => True) v0_ r ∧ Below w.heap.size w w' := by
 unfold poly_Add.f at h
 by_cases hX : (l1.length : Int) < (l2.length : Int)
 ·rw [if_pos hX] at h
  exact poly_Add_yes.calls k a0 A1 c1 l1 A2 c2 l2 r w hX hG hr1 hc1 hr2 hc2 h
 ·rw [if_neg hX] at h
  exact poly_Add_no.calls k a0 A1 c1 l1 A2 c2 l2 r w hX hG hr1 hc1 hr2 hc2 h

/-! ### poly_Scale: function 32 -/
def poly_Scale.l0 : Nat → Int → Int → List Int → List Int → Int → Int → Option (List Int)
 | 0, _, _, _, _, _, _ => none
 | k + 1, x0, x2, x7, x13, x14, x15 => if x15 < x14 then (if 0 ≤ x15 then (if x15 < (x13.length : Int) then ((field_Mul.f x0 (rd x13 x15) x2).bind fun t748 => (if x15 < (x7.length : Int) then (poly_Scale.l0 k x0 x2 (x7.set (x15 : Int).toNat t748) x13 x14 (wrap64 (x15 + 1))) else (none))) else (none)) else (none)) else ((poly_trim.f k x7).bind fun t750 => (some t750))
def poly_Scale.f (k : Nat) (a0 : Int) (l1 : List Int) (a2 : Int) : Option (List Int) := if 0 ≤ (l1.length : Int) then (if ((l1.length : Int) : Int).toNat ≤ 35184372088832 then (poly_Scale.l0 k a0 a2 (List.replicate ((l1.length : Int) : Int).toNat 0) l1 (l1.length : Int) 0) else (none)) else (none)
set_option maxHeartbeats 8000000 in
set_option maxRecDepth 100000 in
theorem poly_Scale.calls (k : Nat) (a0 : Int) (A1 : Option Addr) (c1 : Nat) (l1 : List Int) (a2 : Int) (r : List Int) (w : World) (hG : Fld w) (hr1 : Kd.C (Kd.int .u64) w A1 l1.length l1) (hc1 : l1.length ≤ c1) (h : poly_Scale.f k a0 l1 a2 = some r) :
  Calls Tryd.prog 32 #[.int .i64 a0, .slice A1 l1.length c1, .int .u64 a2] w fun e w' => ∃ v0_ : Value, e = .returned (v0_) ∧ Kd.R (Kd.int .u64) 22 w' w.heap.size (fun _ => True) v0_ r ∧ Below w.heap.size w w' := by
 have HG := ak hG
 clear hG
 have HR1 := ak hr1
 have HC1 := ak hc1
 clear hr1 hc1
 have HB := ak (Below.refl w.heap.size w)
 have H : (if 0 ≤ (l1.length : Int) then (if ((l1.length : Int) : Int).toNat ≤ 35184372088832 then (poly_Scale.l0 k a0 a2 (List.replicate ((l1.length : Int) : Int).toNat 0) l1 (l1.length : Int) 0) else (none)) else (none)) = some r := h
 clear h
 obtain ⟨c4, H⟩ : (0 ≤ (l1.length : Int)) ∧ _ := it_ H
 have c4b0 := eq_true c4
 have c4b1 := decide_eq_true c4
 clear c4
 obtain ⟨c5, H⟩ : (((l1.length : Int) : Int).toNat ≤ 35184372088832) ∧ _ := it_ H
 have c5b0 := eq_true c5
 have c5b1 := decide_eq_true c5
 clear c5
 obtain ⟨y744, hy744⟩ : ∃ y_ : List Int, y_ = (List.replicate ((l1.length : Int) : Int).toNat 0) := ⟨_, rfl⟩
 first | rw [Option.bind_some, ← hy744] at H | rw [← hy744] at H
 have Ny744 := ak hy744
 clear hy744
 have H' := ak H
 clear H
 go_enter Tryd.func32, Tryd.ntmps32
 go_wp2_with (first | ((with_reducible refine gate_dst (N := 12) rfl ?_); refine Kd.R_make (Kd.int .u64) _ 22 rfl (N := 12) rfl 23 _ _ rfl (l1.length : Int) ?hx ?hy Tryd.underlying23 (.int .u64 0) 8 info22 rfl (by decide) (by omega) 0 (ok := fun _ => True) (okp := fun _ => True) rfl (fun _ hk => hk) trivial od_ (Nat.le_trans (Nat.mul_le_mul_right _ (od_ : (l1.length : Int).toNat ≤ 35184372088832)) (by omega)) (Below.refl _ _) (Nat.le_refl _) ?_; (case hx => first | rfl); (case hy => first | rfl); intro v745 w6 ho7 hb hg_ hnew_; clear hg_ hnew_; (first | rw [← Ny744.out] at ho7 | (simp only [Int.reduceToNat] at ho7; rw [← Ny744.out] at ho7)); refine nx2_ (Kd.R_lower ho7 (below_size (bU_ HB.out))) (below_step (bU_ HB.out) hb) ?_; clear HB; intro HO746 HB; clear hb ho7))
 go_loopg [15] k (fun kq v15 w' => ∃ (x7_1 : List Int) (x15_1 : Int), v15 = .int .i64 x15_1 ∧ Aside0 (poly_Scale.l0 kq a0 a2 x7_1 l1 (l1.length : Int) x15_1 = some r) ∧ Aside0 (kq ≤ k) ∧ Aside0 (Kd.R (Kd.int .u64) 22 w' w.heap.size (fun _ => True) v745 x7_1) ∧ Aside0 (Below w.heap.size w w'))
 case atStart => exact ⟨(y744), (0), gb_, H', ⟨Nat.le_refl _⟩, ⟨rU_ HO746.out⟩, ⟨bU_ HB.out⟩⟩
 case round =>
  clear H'
  (try clear c1); (try clear p2); (try clear c3); (try clear c4); (try clear c4b0); (try clear c4b1); (try clear c5); (try clear c5b0); (try clear c5b1)
  obtain ⟨x7_1, x15_1, rfl, HA, HK1, HO_7, HB⟩ := hrel
  cases gk with
  | zero => exact absurd HA.out (by simp [poly_Scale.l0])
  | succ k1 =>
   have H := HA.out
   clear HA
   simp only [poly_Scale.l0] at H
   by_cases c8 : x15_1 < (l1.length : Int)
   ·rw [if_pos c8] at H
    have c8b0 := decide_eq_true c8
    clear c8
    obtain ⟨c9, H⟩ : (0 ≤ x15_1) ∧ _ := it_ H
    have c9b0 := decide_eq_true c9
    clear c9
    obtain ⟨c10, H⟩ : (x15_1 < (l1.length : Int)) ∧ _ := it_ H
    have c10b0 := decide_eq_true c10
    clear c10
    revert H
    refine bd_ fun t748 A11 H => ?_
    obtain ⟨c12, H⟩ : (x15_1 < (x7_1.length : Int)) ∧ _ := it_ H
    have c12b0 := decide_eq_true c12
    clear c12
    obtain ⟨y749, hy749⟩ : ∃ y_ : List Int, y_ = (x7_1.set (x15_1 : Int).toNat t748) := ⟨_, rfl⟩
    first | rw [Option.bind_some, ← hy749] at H | rw [← hy749] at H
    have Ny749 := ak hy749
    clear hy749
    have H' := ak H
    clear H
    have p747 : 0 ≤ (x15_1 : Int) := od_
    have q747 : x15_1 < (l1.length : Int) := od_
    obtain ⟨ad747, e747, hx747_0⟩ := Kd.at_int HR1.out x15_1 p747 q747
    cases e747
    replace hx747_0 := (HB.out.cell (World.block_lt_of_cell? w _ hx747_0)).trans hx747_0
    replace p747 := eq_true p747
    replace q747 := eq_true q747
    go_wp2_with (first | ((with_reducible refine gate_callee (f := 26) rfl ?_); refine gl_ (some 25) Tryd.func26 #[.int .i64 a0, .int .u64 (rd l1 x15_1), .int .u64 a2] ?_; (with_reducible refine (field_Mul.calls a0 (rd l1 x15_1) a2 t748 _ ?side1 A11.out).mono ?_); (case side1 => exact fU_ HG.out HB.out); rintro e w14 ⟨rfl, hb⟩; refine ⟨_, rfl, ?_⟩; refine nx2_ (Kd.R_below (rU_ HO_7.out) hb) (below_step (bU_ HB.out) hb) ?_; clear HO_7 HB; intro HO_7 HB; clear hb; have p13 : 0 ≤ (x15_1 : Int) := od_; have q13 : (x15_1 : Int) < ((x7_1.length : Int) : Int) := od_; obtain ⟨go13, co13, eo13, gb13, gl13, cl13, HG13⟩ := Kd.R_form HO_7.out (by omega); (first | cases eo13 | (injection eo13 with ea_ en_ ec_; (first | subst ea_ | (injection ea_ with ea_; subst ea_)); subst ec_; clear en_)); have GB13 := ak gb13; have GG13 := ak HG13; clear gb13 gl13 HG13; obtain ⟨hx13_0, hf13_0⟩ := Kd.R_celln 0 HO_7.out (x15_1 : Int) p13 q13; replace p13 := eq_true p13; replace q13 := eq_true q13; obtain ⟨hy15_, hz15_⟩ := Kd.R_celln 0 HO_7.out (x15_1 : Int) od_ od_; have HP15 := Kd.R_putg HO_7.out (x15_1 : Int) t748) | ((with_reducible refine gate_store (t := 22) (p := 26) rfl ?_); refine store_event (t := 22) (p := 26) (v := ?vo_w16) (w1 := (w14.setCell ⟨go13, (x15_1 : Int).toNat, none⟩ (.int .u64 t748))) ?hg ?ho ?hn ?hr ?_; (case ho => rfl); (case hg => rfl); (case hn => rfl); (case hr => first | (go_simp; done) | (go_simp; rfl)); intro w16 hw; have hg : w14.grownBy w16 (some go13) := (by rw [hw]; exact HP15.2); have hp_ : Kd.R (Kd.int .u64) 22 w16 w.heap.size (fun _ => True) (.slice (some ⟨go13, 0, none⟩) x7_1.length co13) y749 := (by rw [hw, Ny749.out]; exact HP15.1); clear HP15; refine nx2_ (hp_) ((by rw [hw]; exact below_set (HB.out) GB13.out : Below w.heap.size w w16)) ?_; clear HO_7 HB; intro HO_7 HB; clear hg hw hp_))
    go_roundg k1
    case measure => have := HK1.out; omega
    case rel => exact ⟨(y749), (wrap64 (x15_1 + 1)), gb_, H', ⟨by have := HK1.out; omega⟩, ⟨rU_ HO_7.out⟩, ⟨bU_ HB.out⟩⟩
   ·rw [if_neg c8] at H
    have c8b0 := decide_eq_false c8
    clear c8
    revert H
    refine bd_ fun t750 A17 H => ?_
    obtain rfl := Option.some.inj H
    obtain ⟨Ao18, co18, eo18⟩ := Kd.R_slice HO_7.out
    subst eo18
    go_wp2_with (first | ((with_reducible refine gate_callee (f := 60) rfl ?_); refine gl_ (some 29) Tryd.func60 #[.slice Ao18 x7_1.length co18] ?_; (with_reducible refine (poly_trim.calls k1 (fun k_ => some k_ = (.slice Ao18 x7_1.length co18 : Value).ownBlock) (.slice Ao18 x7_1.length co18) x7_1 t750 w _ ?side1 ?side2 A17.out).mono ?_); (case side1 => repeat (first | (with_reducible first | exact HB.out | apply below_alloc | apply pw_below_drewN | apply below_drew1) | exact HB.out)); (case side2 => exact Kd.R_tight rfl HO_7.out); rintro e w19 ⟨v751, rfl, ho0, hb, hkp⟩; refine ⟨_, rfl, ?_⟩; refine nx2_ (Kd.R_mono (ok' := fun k_ => True) ho0 (fun k_ hk_ => trivial)) (hb) ?_; clear HB HO_7; intro HO752 HB; clear hb hkp ho0))
    go_ret
    exact ⟨_, by first | rfl | (simp [errW_none, errW_some] <;> rfl) | (simp [*, errW_none, errW_some] <;> rfl), rU_ HO752.out, bU_ HB.out⟩

/-! ### attestorlaw04_TransformProducts: function 9 -/
mutual
def attestorlaw04_TransformProducts.j0 : Nat → List Int → List Int → Int → Int → Int → Option (Bool)
 | 0, _, _, _, _, _ => none
 | k + 1, x1, x2, x3, x4, x11 => (transform_Multiply.f k x11 x1 x2).bind fun bt760 => ((poly_Mul.f k x11 x1 x2).bind fun bt764 => (if bt760.2 = 0 then (if bt764.2 = 0 then ((attestorlaw04_same.f k bt760.1 bt764.1).bind fun t768 => (if t768 = true then (attestorlaw04_TransformProducts.j1 k x1 x2 x3 x4 x11 bt760.1) else (none))) else (none)) else (none)))
def attestorlaw04_TransformProducts.j1 : Nat → List Int → List Int → Int → Int → Int → List Int → Option (Bool)
 | 0, _, _, _, _, _, _ => none
 | k + 1, x1, x2, x3, x4, x11, x12 => (transform_Values.f k x11 5 x4 x1).bind fun bt769 => ((transform_Values.f k x11 5 x4 x2).bind fun bt773 => ((transform_Values.f k x11 5 x4 x12).bind fun bt777 => ((poly_Scale.f k x11 x1 x3).bind fun t781 => ((poly_Add.f k x11 t781 x2).bind fun t784 => ((transform_Values.f k x11 5 x4 t784).bind fun bt787 => (if bt769.2 = 0 then (if bt773.2 = 0 then (if bt777.2 = 0 then (if bt787.2 = 0 then (if (bt769.1.length : Int) = 32 then (if (bt773.1.length : Int) = 32 then (if (bt777.1.length : Int) = 32 then (if (bt787.1.length : Int) = 32 then (attestorlaw04_TransformProducts.j2 k x3 x11 bt769.1 bt773.1 bt777.1 bt787.1) else (none)) else (none)) else (none)) else (none)) else (none)) else (none)) else (none)) else (none)))))))
def attestorlaw04_TransformProducts.j2 : Nat → Int → Int → List Int → List Int → List Int → List Int → Option (Bool)
 | 0, _, _, _, _, _, _ => none
 | k + 1, x3, x11, x16, x17, x18, x20 => attestorlaw04_TransformProducts.l0 k x3 x11 x16 x17 x18 x20 0
def attestorlaw04_TransformProducts.l0 : Nat → Int → Int → List Int → List Int → List Int → List Int → Int → Option (Bool)
 | 0, _, _, _, _, _, _, _ => none
 | k + 1, x3, x11, x16, x17, x18, x20, x22 => if x22 < 32 then (attestorlaw04_TransformProducts.j4 k x3 x11 x16 x17 x18 x20 x22) else ((attestorlaw04_works.f k).bind fun t791 => (some t791))
def attestorlaw04_TransformProducts.j4 : Nat → Int → Int → List Int → List Int → List Int → List Int → Int → Option (Bool)
 | 0, _, _, _, _, _, _, _ => none
 | k + 1, x3, x11, x16, x17, x18, x20, x22 => if 0 ≤ x22 then (if x22 < (x18.length : Int) then (if x22 < (x16.length : Int) then (if x22 < (x17.length : Int) then ((field_Mul.f x11 (rd x16 x22) (rd x17 x22)).bind fun t795 => (if (rd x18 x22) = t795 then (if x22 < (x20.length : Int) then ((field_Mul.f x11 (rd x16 x22) x3).bind fun t798 => ((field_Add.f x11 t798 (rd x17 x22)).bind fun t800 => (if (rd x20 x22) = t800 then (attestorlaw04_TransformProducts.l0 k x3 x11 x16 x17 x18 x20 (wrap64 (x22 + 1))) else (none)))) else (none)) else (none))) else (none)) else (none)) else (none)) else (none)
end
def attestorlaw04_TransformProducts.f (k : Nat) (a0 : Int) (l1 : List Int) (l2 : List Int) (a3 : Int) (a4 : Int) : Option (Bool) := (attestorlaw04_own.f l1 14).bind fun t753 => ((attestorlaw04_own.f l2 14).bind fun t756 => ((field_Reduce.f (wrap64 (Int.tmod a0 4)) a4).bind fun t759 => (if t759 = 0 then (attestorlaw04_TransformProducts.j0 k t753 t756 a3 1 (wrap64 (Int.tmod a0 4))) else (attestorlaw04_TransformProducts.j0 k t753 t756 a3 a4 (wrap64 (Int.tmod a0 4))))))
def attestorlaw04_TransformProducts.T18 : Bool × List (List Nat × List Nat) := (true, [([], []), ([], []), ([0, 1], [0, 1]), ([2], [2]), ([], []), ([], []), ([], []), ([5, 6], [5, 6]), ([7], [7]), ([], []), ([], []), ([9, 10], [9, 10]), ([11], [11]), ([4, 8, 12], [4, 8, 12]), ([3, 13], [3, 13]), ([14, 13], [14]), ([15], [15]), ([15], [15]), ([16, 17, 15], [15, 16, 17]), ([18, 15], [15, 18]), ([15], [15]), ([15], [15]), ([15], [15]), ([15], [15]), ([22, 23, 15], [15, 22, 23]), ([24, 15], [15, 24]), ([15], [15]), ([21, 25, 26, 15, 15], [15, 21, 25, 26]), ([15], [15]), ([15], [15]), ([28, 29, 15], [15, 28, 29]), ([30, 15], [15, 30]), ([20, 27, 31, 27, 15], [15, 20, 27, 31]), ([19, 32, 15], [15, 19, 32]), ([15, 33], [15, 33])])
def attestorlaw04_TransformProducts.B18 : List Nat := [0, 0, 3, 7, 0, 0, 0, 96, 224, 0, 0, 1536, 3584, 8176, 16383, 32767, 65535, 65535, 262143, 524287, 65535, 65535, 65535, 65535, 12648447, 29425663, 65535, 132186111, 65535, 65535, 805371903, 1879113727, 4293984255, 8589934591, 17179869183]
theorem attestorlaw04_TransformProducts.tab18 : rtab .any (opsOf Tryd.f9 18) = attestorlaw04_TransformProducts.T18 := by kernel_rfl
theorem attestorlaw04_TransformProducts.bits18 : waitsOk attestorlaw04_TransformProducts.T18.2 attestorlaw04_TransformProducts.B18 = true := by kernel_rfl
set_option maxHeartbeats 8000000 in
set_option maxRecDepth 100000 in
theorem attestorlaw04_TransformProducts.calls (k : Nat) (a0 : Int) (A1 : Option Addr) (c1 : Nat) (l1 : List Int) (A2 : Option Addr) (c2 : Nat) (l2 : List Int) (a3 : Int) (a4 : Int) (r : Bool) (w : World) (hG : Fld w) (hr1 : Kd.C (Kd.int .u64) w A1 l1.length l1) (hc1 : l1.length ≤ c1) (hr2 : Kd.C (Kd.int .u64) w A2 l2.length l2) (hc2 : l2.length ≤ c2) (h : attestorlaw04_TransformProducts.f k a0 l1 l2 a3 a4 = some r) :
  Calls Tryd.prog 9 #[.int .u8 a0, .slice A1 l1.length c1, .slice A2 l2.length c2, .int .u64 a3, .int .u64 a4] w fun e w' => e = .returned (.bool r) ∧ Below w.heap.size w w' := by
 have HG := ak hG
 clear hG
 have HR1 := ak hr1
 have HC1 := ak hc1
 clear hr1 hc1
 have HR2 := ak hr2
 have HC2 := ak hc2
 clear hr2 hc2
 have HB := ak (Below.refl w.heap.size w)
 have H : ((attestorlaw04_own.f l1 14).bind fun t753 => ((attestorlaw04_own.f l2 14).bind fun t756 => ((field_Reduce.f (wrap64 (Int.tmod a0 4)) a4).bind fun t759 => (if t759 = 0 then (attestorlaw04_TransformProducts.j0 k t753 t756 a3 1 (wrap64 (Int.tmod a0 4))) else (attestorlaw04_TransformProducts.j0 k t753 t756 a3 a4 (wrap64 (Int.tmod a0 4))))))) = some r := h
 clear h
 revert H
 refine bd_ fun t753 A6 H => ?_
 revert H
 refine bd_ fun t756 A7 H => ?_
 revert H
 refine bd_ fun t759 A8 H => ?_
 have HC9 := ak H
 clear H
 go_enter Tryd.func9, Tryd.ntmps9
 go_upto_if 33 with (first | ((with_reducible refine gate_callee (f := 11) rfl ?_); refine gl_ (some 27) Tryd.func11 #[.slice A1 l1.length c1, .int .i64 14] ?_; (with_reducible refine (attestorlaw04_own.calls _ _ l1 14 t753 _ ?side1 ?side2 A6.out).mono ?_); (case side1 => exact cU_ HR1.out); (case side2 => exact HC1.out); rintro e w10 ⟨v754, rfl, ho0, hb⟩; refine ⟨_, rfl, ?_⟩; refine nx2_ (Kd.R_lower ho0 (below_size (bU_ HB.out))) (below_step (bU_ HB.out) hb) ?_; clear HB; intro HO755 HB; clear hb ho0) | ((with_reducible refine gate_callee (f := 11) rfl ?_); refine gl_ (some 29) Tryd.func11 #[.slice A2 l2.length c2, .int .i64 14] ?_; (with_reducible refine (attestorlaw04_own.calls _ _ l2 14 t756 _ ?side1 ?side2 A7.out).mono ?_); (case side1 => exact cU_ (Kd.C_below HR2.out HB.out)); (case side2 => exact HC2.out); rintro e w11 ⟨v757, rfl, ho0, hb⟩; refine ⟨_, rfl, ?_⟩; refine nx3_ (Kd.R_elder' (rU_ HO755.out) (Kd.R_base ho0) hb) (Kd.R_lower (Kd.R_new' ho0 (Kd.R_lt (rU_ HO755.out))) (below_size (bU_ HB.out))) (below_step (bU_ HB.out) hb) ?_; clear HO755 HB; intro HO755 HO758 HB; clear hb ho0) | ((with_reducible refine gate_callee (f := 23) rfl ?_); refine gl_ (some 32) Tryd.func23 #[.int .i64 (wrap64 (Int.tmod a0 4)), .int .u64 a4] ?_; (with_reducible refine (field_Reduce.calls (wrap64 (Int.tmod a0 4)) a4 t759 _ ?side1 A8.out).mono ?_); (case side1 => exact fU_ HG.out HB.out); rintro e w12 ⟨rfl, hb⟩; refine ⟨_, rfl, ?_⟩; refine nx3_ (Kd.R_below (rU_ HO755.out) hb) (Kd.R_below (rU_ HO758.out) hb) (below_step (bU_ HB.out) hb) ?_; clear HO755 HO758 HB; intro HO755 HO758 HB; clear hb))
 (try simp only [Act.put, s1_, s2_, s3_])
 go_cut [4] (fun v4 wc => ∃ (kq : Nat) (x4_8 : Int), v4 = .int .u64 x4_8 ∧ Aside0 (attestorlaw04_TransformProducts.j0 kq t753 t756 a3 x4_8 (wrap64 (Int.tmod a0 4)) = some r) ∧ Aside0 (kq ≤ k) ∧ Aside0 (Kd.R (Kd.int .u64) 22 wc w.heap.size (fun k_ => some k_ ≠ (v757 : Value).ownBlock) v754 t753) ∧ Aside0 (Kd.R (Kd.int .u64) 22 wc w.heap.size (fun k_ => some k_ ≠ (v754 : Value).ownBlock) v757 t756) ∧ Aside0 (Below w.heap.size w wc))
 case first =>
  have H := HC9.out
  clear HC9
  by_cases c13 : t759 = 0
  ·rw [if_pos c13] at H
   have c13b0 := beq_iff_eq.mpr c13
   have c13b1 := bne_eq_false_iff_eq.mpr c13
   clear c13
   (first | rw [c13b0] | (simp only [i64_w, i32_w]; rw [c13b0]) | rw [c13b1] | skip)
   have H' := ak H
   clear H
   go_wp2
   go_meet
   case rel => exact ⟨_, (1), gb_, H', ⟨by first | omega | exact Nat.le_refl _⟩, ⟨Kd.R_mono (rU_ HO755.out) (fun _ hk => hk.2)⟩, ⟨Kd.R_mono (rU_ HO758.out) (fun _ hk => hk.2)⟩, ⟨bU_ HB.out⟩⟩
  ·rw [if_neg c13] at H
   have c13b0 := beq_eq_false_iff_ne.mpr c13
   have c13b1 := bne_iff_ne.mpr c13
   (first | rw [c13b0] | (simp only [i64_w, i32_w]; rw [c13b0]) | rw [c13b1] | skip)
   have H' := ak H
   clear H
   go_wp2
   go_meet
   case rel => exact ⟨_, (a4), gb_, H', ⟨by first | omega | exact Nat.le_refl _⟩, ⟨Kd.R_mono (rU_ HO755.out) (fun _ hk => hk.2)⟩, ⟨Kd.R_mono (rU_ HO758.out) (fun _ hk => hk.2)⟩, ⟨bU_ HB.out⟩⟩
 case rest =>
  clear HC9
  (try clear c1); (try clear c2); (try clear p2); (try clear p6); (try clear c9); (try clear c11); (try clear c13); (try clear c13b0); (try clear c13b1)
  obtain ⟨kq, x4_8, rfl, HA, HJ8, HO_1, HO_2, HB⟩ := hcut
  cases kq with
  | zero => exact absurd HA.out (by simp [attestorlaw04_TransformProducts.j0])
  | succ kj8 =>
   have H := HA.out
   clear HA
   simp only [attestorlaw04_TransformProducts.j0] at H
   revert H
   refine bd2_ fun t760 t761 A14 H => ?_
   try dsimp only at H
   revert H
   refine bd2_ fun t764 t765 A15 H => ?_
   try dsimp only at H
   obtain ⟨c16, H⟩ : (t761 = 0) ∧ _ := it_ H
   have c16b0 := beq_iff_eq.mpr c16
   have c16b1 := bne_eq_false_iff_eq.mpr c16
   clear c16
   obtain ⟨c17, H⟩ : (t765 = 0) ∧ _ := it_ H
   have c17b0 := beq_iff_eq.mpr c17
   have c17b1 := bne_eq_false_iff_eq.mpr c17
   clear c17
   revert H
   refine bd_ fun t768 A18 H => ?_
   have HC19 := ak H
   clear H
   obtain ⟨Ao20, co20, eo20⟩ := Kd.R_slice HO_1.out
   subst eo20
   obtain ⟨Ao21, co21, eo21⟩ := Kd.R_slice HO_2.out
   subst eo21
   go_upto_if 59 with (first | ((with_reducible refine gate_callee (f := 20) rfl ?_); refine gl_ (some 38) Tryd.func20 #[.int .i64 (wrap64 (Int.tmod a0 4)), .slice Ao20 t753.length co20, .slice Ao21 t756.length co21] ?_; (with_reducible refine (transform_Multiply.calls kj8 (wrap64 (Int.tmod a0 4)) _ _ t753 _ _ t756 t760 t761 _ ?side1 ?side2 ?side3 ?side4 ?side5 A14.out).mono ?_); (case side1 => exact fU_ HG.out HB.out); (case side2 => exact cU_ ((Kd.R_reads' HO_1.out).2.2)); (case side3 => exact (Kd.R_reads' HO_1.out).2.1); (case side4 => exact cU_ ((Kd.R_reads' HO_2.out).2.2)); (case side5 => exact (Kd.R_reads' HO_2.out).2.1); rintro e w22 ⟨v762, rfl, ho0, hb⟩; refine ⟨_, rfl, ?_⟩; refine nx4_ (Kd.R_elder' (rU_ HO_1.out) (Kd.R_base ho0) hb) (Kd.R_elder' (rU_ HO_2.out) (Kd.R_base ho0) hb) (Kd.R_lower (Kd.R_new' (Kd.R_new' ho0 (Kd.R_lt (rU_ HO_1.out))) (Kd.R_lt (rU_ HO_2.out))) (below_size (bU_ HB.out))) (below_step (bU_ HB.out) hb) ?_; clear HO_1 HO_2 HB; intro HO_1 HO_2 HO763 HB; clear hb ho0) | ((with_reducible refine gate_callee (f := 30) rfl ?_); refine gl_ (some 45) Tryd.func30 #[.int .i64 (wrap64 (Int.tmod a0 4)), .slice Ao20 t753.length co20, .slice Ao21 t756.length co21] ?_; (with_reducible refine (poly_Mul.calls kj8 (wrap64 (Int.tmod a0 4)) _ _ t753 _ _ t756 t764 t765 _ ?side1 ?side2 ?side3 ?side4 ?side5 A15.out).mono ?_); (case side1 => exact fU_ HG.out HB.out); (case side2 => exact cU_ ((Kd.R_reads' HO_1.out).2.2)); (case side3 => exact (Kd.R_reads' HO_1.out).2.1); (case side4 => exact cU_ ((Kd.R_reads' HO_2.out).2.2)); (case side5 => exact (Kd.R_reads' HO_2.out).2.1); rintro e w23 ⟨v766, rfl, ho0, hb⟩; refine ⟨_, rfl, ?_⟩; refine nx5_ (Kd.R_elder' (rU_ HO_1.out) (Kd.R_base ho0) hb) (Kd.R_elder' (rU_ HO_2.out) (Kd.R_base ho0) hb) (Kd.R_elder' (rU_ HO763.out) (Kd.R_base ho0) hb) (Kd.R_lower (Kd.R_new' (Kd.R_new' (Kd.R_new' ho0 (Kd.R_lt (rU_ HO_1.out))) (Kd.R_lt (rU_ HO_2.out))) (Kd.R_lt (rU_ HO763.out))) (below_size (bU_ HB.out))) (below_step (bU_ HB.out) hb) ?_; clear HO_1 HO_2 HO763 HB; intro HO_1 HO_2 HO763 HO767 HB; clear hb ho0; obtain ⟨Ao24, co24, eo24⟩ := Kd.R_slice HO763.out; subst eo24; obtain ⟨Ao25, co25, eo25⟩ := Kd.R_slice HO767.out; subst eo25) | (go_at_call 24; (with_reducible refine (attestorlaw04_same.calls kj8 _ _ t760 _ _ t764 t768 _ ?side1 ?side2 ?side3 ?side4 A18.out).mono ?_); (case side1 => exact cU_ ((Kd.R_reads' HO763.out).2.2)); (case side2 => exact (Kd.R_reads' HO763.out).2.1); (case side3 => exact cU_ ((Kd.R_reads' HO767.out).2.2)); (case side4 => exact (Kd.R_reads' HO767.out).2.1); rintro e w' ⟨rfl, ⟨nd, rfl⟩⟩))
   (try simp only [Act.put, s1_, s2_, s3_])
   go_cut [] (fun wc => ∃ (kq : Nat), Aside0 (attestorlaw04_TransformProducts.j1 kq t753 t756 a3 x4_8 (wrap64 (Int.tmod a0 4)) t760 = some r) ∧ Aside0 (kq ≤ kj8) ∧ Aside0 (Kd.R (Kd.int .u64) 22 wc w.heap.size (fun k_ => some k_ ≠ ((.slice Ao21 t756.length co21) : Value).ownBlock ∧ some k_ ≠ ((.slice Ao24 t760.length co24) : Value).ownBlock) (.slice Ao20 t753.length co20) t753) ∧ Aside0 (Kd.R (Kd.int .u64) 22 wc w.heap.size (fun k_ => some k_ ≠ ((.slice Ao20 t753.length co20) : Value).ownBlock ∧ some k_ ≠ ((.slice Ao24 t760.length co24) : Value).ownBlock) (.slice Ao21 t756.length co21) t756) ∧ Aside0 (Kd.R (Kd.int .u64) 22 wc w.heap.size (fun k_ => some k_ ≠ ((.slice Ao20 t753.length co20) : Value).ownBlock ∧ some k_ ≠ ((.slice Ao21 t756.length co21) : Value).ownBlock) (.slice Ao24 t760.length co24) t760) ∧ Aside0 (Below w.heap.size w wc))
   case first =>
    have H := HC19.out
    clear HC19
    by_cases c26 : t768 = true
    ·subst c26
     rw [if_pos rfl] at H
     have H' := ak H
     clear H
     go_wp2
     go_meet
     case rel => exact ⟨_, H', ⟨by have := HJ8.out; first | omega | exact Nat.le_refl _⟩, ⟨Kd.R_mono (rU_ HO_1.out) (fun _ hk => ⟨hk.1.1, hk.1.2⟩)⟩, ⟨Kd.R_mono (rU_ HO_2.out) (fun _ hk => ⟨hk.1.1, hk.1.2⟩)⟩, ⟨Kd.R_mono (rU_ HO763.out) (fun _ hk => ⟨hk.1.1.2, hk.1.2⟩)⟩, ⟨bU_ HB.out⟩⟩
    ·replace c26 := Bool.eq_false_iff.mpr c26
     subst c26
     rw [if_neg (show ¬ (false = true) by decide)] at H
     exact absurd H (by simp)
   case rest =>
    clear HC19
    (try clear c1); (try clear c2); (try clear p2); (try clear c3); (try clear p6); (try clear c9); (try clear c11); (try clear c13); (try clear c13b0); (try clear c13b1); (try clear c16); (try clear c16b0); (try clear c16b1); (try clear c17); (try clear c17b0); (try clear c17b1); (try clear c20); (try clear c23); (try clear c26)
    obtain ⟨kq, HA, HJ18, HO_1, HO_2, HO_12, HB⟩ := hcut
    cases kq with
    | zero => exact absurd HA.out (by simp [attestorlaw04_TransformProducts.j1])
    | succ kj18 =>
     have H := HA.out
     clear HA
     simp only [attestorlaw04_TransformProducts.j1] at H
     revert H
     refine bd2_ fun t769 t770 A27 H => ?_
     try dsimp only at H
     revert H
     refine bd2_ fun t773 t774 A28 H => ?_
     try dsimp only at H
     revert H
     refine bd2_ fun t777 t778 A29 H => ?_
     try dsimp only at H
     revert H
     refine bd_ fun t781 A30 H => ?_
     revert H
     refine bd_ fun t784 A31 H => ?_
     revert H
     refine bd2_ fun t787 t788 A32 H => ?_
     try dsimp only at H
     obtain ⟨c33, H⟩ : (t770 = 0) ∧ _ := it_ H
     have c33b0 := beq_iff_eq.mpr c33
     have c33b1 := bne_eq_false_iff_eq.mpr c33
     clear c33
     obtain ⟨c34, H⟩ : (t774 = 0) ∧ _ := it_ H
     have c34b0 := beq_iff_eq.mpr c34
     have c34b1 := bne_eq_false_iff_eq.mpr c34
     clear c34
     obtain ⟨c35, H⟩ : (t778 = 0) ∧ _ := it_ H
     have c35b0 := beq_iff_eq.mpr c35
     have c35b1 := bne_eq_false_iff_eq.mpr c35
     clear c35
     obtain ⟨c36, H⟩ : (t788 = 0) ∧ _ := it_ H
     have c36b0 := beq_iff_eq.mpr c36
     have c36b1 := bne_eq_false_iff_eq.mpr c36
     clear c36
     obtain ⟨c37, H⟩ : ((t769.length : Int) = 32) ∧ _ := it_ H
     have c37b0 := beq_iff_eq.mpr c37
     have c37b1 := bne_eq_false_iff_eq.mpr c37
     clear c37
     obtain ⟨c38, H⟩ : ((t773.length : Int) = 32) ∧ _ := it_ H
     have c38b0 := beq_iff_eq.mpr c38
     have c38b1 := bne_eq_false_iff_eq.mpr c38
     clear c38
     obtain ⟨c39, H⟩ : ((t777.length : Int) = 32) ∧ _ := it_ H
     have c39b0 := beq_iff_eq.mpr c39
     have c39b1 := bne_eq_false_iff_eq.mpr c39
     clear c39
     have HC40 := ak H
     clear H
     go_upto_if 127 with (first | ((with_reducible refine gate_callee (f := 12) rfl ?_); refine gl_ (some 64) Tryd.func12 #[.int .i64 (wrap64 (Int.tmod a0 4)), .int .i64 5, .int .u64 x4_8, .slice Ao20 t753.length co20] ?_; (with_reducible refine (transform_Values.calls kj18 (wrap64 (Int.tmod a0 4)) 5 x4_8 _ _ t753 t769 t770 _ ?side1 ?side2 ?side3 A27.out).mono ?_); (case side1 => exact fU_ HG.out HB.out); (case side2 => exact cU_ ((Kd.R_reads' HO_1.out).2.2)); (case side3 => exact (Kd.R_reads' HO_1.out).2.1); rintro e w41 ⟨v771, rfl, ho0, hb⟩; refine ⟨_, rfl, ?_⟩; refine nx5_ (Kd.R_elder' (rU_ HO_1.out) (Kd.R_base ho0) hb) (Kd.R_elder' (rU_ HO_2.out) (Kd.R_base ho0) hb) (Kd.R_elder' (rU_ HO_12.out) (Kd.R_base ho0) hb) (Kd.R_lower (Kd.R_new' (Kd.R_new' (Kd.R_new' ho0 (Kd.R_lt (rU_ HO_1.out))) (Kd.R_lt (rU_ HO_2.out))) (Kd.R_lt (rU_ HO_12.out))) (below_size (bU_ HB.out))) (below_step (bU_ HB.out) hb) ?_; clear HO_1 HO_2 HO_12 HB; intro HO_1 HO_2 HO_12 HO772 HB; clear hb ho0) | ((with_reducible refine gate_callee (f := 12) rfl ?_); refine gl_ (some 71) Tryd.func12 #[.int .i64 (wrap64 (Int.tmod a0 4)), .int .i64 5, .int .u64 x4_8, .slice Ao21 t756.length co21] ?_; (with_reducible refine (transform_Values.calls kj18 (wrap64 (Int.tmod a0 4)) 5 x4_8 _ _ t756 t773 t774 _ ?side1 ?side2 ?side3 A28.out).mono ?_); (case side1 => exact fU_ HG.out HB.out); (case side2 => exact cU_ ((Kd.R_reads' HO_2.out).2.2)); (case side3 => exact (Kd.R_reads' HO_2.out).2.1); rintro e w42 ⟨v775, rfl, ho0, hb⟩; refine ⟨_, rfl, ?_⟩; refine nx6_ (Kd.R_elder' (rU_ HO_1.out) (Kd.R_base ho0) hb) (Kd.R_elder' (rU_ HO_2.out) (Kd.R_base ho0) hb) (Kd.R_elder' (rU_ HO_12.out) (Kd.R_base ho0) hb) (Kd.R_elder' (rU_ HO772.out) (Kd.R_base ho0) hb) (Kd.R_lower (Kd.R_new' (Kd.R_new' (Kd.R_new' (Kd.R_new' ho0 (Kd.R_lt (rU_ HO_1.out))) (Kd.R_lt (rU_ HO_2.out))) (Kd.R_lt (rU_ HO_12.out))) (Kd.R_lt (rU_ HO772.out))) (below_size (bU_ HB.out))) (below_step (bU_ HB.out) hb) ?_; clear HO_1 HO_2 HO_12 HO772 HB; intro HO_1 HO_2 HO_12 HO772 HO776 HB; clear hb ho0) | ((with_reducible refine gate_callee (f := 12) rfl ?_); refine gl_ (some 78) Tryd.func12 #[.int .i64 (wrap64 (Int.tmod a0 4)), .int .i64 5, .int .u64 x4_8, .slice Ao24 t760.length co24] ?_; (with_reducible refine (transform_Values.calls kj18 (wrap64 (Int.tmod a0 4)) 5 x4_8 _ _ t760 t777 t778 _ ?side1 ?side2 ?side3 A29.out).mono ?_); (case side1 => exact fU_ HG.out HB.out); (case side2 => exact cU_ ((Kd.R_reads' HO_12.out).2.2)); (case side3 => exact (Kd.R_reads' HO_12.out).2.1); rintro e w43 ⟨v779, rfl, ho0, hb⟩; refine ⟨_, rfl, ?_⟩; refine nx7_ (Kd.R_elder' (rU_ HO_1.out) (Kd.R_base ho0) hb) (Kd.R_elder' (rU_ HO_2.out) (Kd.R_base ho0) hb) (Kd.R_elder' (rU_ HO_12.out) (Kd.R_base ho0) hb) (Kd.R_elder' (rU_ HO772.out) (Kd.R_base ho0) hb) (Kd.R_elder' (rU_ HO776.out) (Kd.R_base ho0) hb) (Kd.R_lower (Kd.R_new' (Kd.R_new' (Kd.R_new' (Kd.R_new' (Kd.R_new' ho0 (Kd.R_lt (rU_ HO_1.out))) (Kd.R_lt (rU_ HO_2.out))) (Kd.R_lt (rU_ HO_12.out))) (Kd.R_lt (rU_ HO772.out))) (Kd.R_lt (rU_ HO776.out))) (below_size (bU_ HB.out))) (below_step (bU_ HB.out) hb) ?_; clear HO_1 HO_2 HO_12 HO772 HO776 HB; intro HO_1 HO_2 HO_12 HO772 HO776 HO780 HB; clear hb ho0) | ((with_reducible refine gate_callee (f := 32) rfl ?_); refine gl_ (some 88) Tryd.func32 #[.int .i64 (wrap64 (Int.tmod a0 4)), .slice Ao20 t753.length co20, .int .u64 a3] ?_; (with_reducible refine (poly_Scale.calls kj18 (wrap64 (Int.tmod a0 4)) _ _ t753 a3 t781 _ ?side1 ?side2 ?side3 A30.out).mono ?_); (case side1 => exact fU_ HG.out HB.out); (case side2 => exact cU_ ((Kd.R_reads' HO_1.out).2.2)); (case side3 => exact (Kd.R_reads' HO_1.out).2.1); rintro e w44 ⟨v782, rfl, ho0, hb⟩; refine ⟨_, rfl, ?_⟩; refine nx8_ (Kd.R_elder' (rU_ HO_1.out) (Kd.R_base ho0) hb) (Kd.R_elder' (rU_ HO_2.out) (Kd.R_base ho0) hb) (Kd.R_elder' (rU_ HO_12.out) (Kd.R_base ho0) hb) (Kd.R_elder' (rU_ HO772.out) (Kd.R_base ho0) hb) (Kd.R_elder' (rU_ HO776.out) (Kd.R_base ho0) hb) (Kd.R_elder' (rU_ HO780.out) (Kd.R_base ho0) hb) (Kd.R_lower (Kd.R_new' (Kd.R_new' (Kd.R_new' (Kd.R_new' (Kd.R_new' (Kd.R_new' ho0 (Kd.R_lt (rU_ HO_1.out))) (Kd.R_lt (rU_ HO_2.out))) (Kd.R_lt (rU_ HO_12.out))) (Kd.R_lt (rU_ HO772.out))) (Kd.R_lt (rU_ HO776.out))) (Kd.R_lt (rU_ HO780.out))) (below_size (bU_ HB.out))) (below_step (bU_ HB.out) hb) ?_; clear HO_1 HO_2 HO_12 HO772 HO776 HO780 HB; intro HO_1 HO_2 HO_12 HO772 HO776 HO780 HO783 HB; clear hb ho0; obtain ⟨Ao45, co45, eo45⟩ := Kd.R_slice HO783.out; subst eo45) | ((with_reducible refine gate_callee (f := 31) rfl ?_); refine gl_ (some 90) Tryd.func31 #[.int .i64 (wrap64 (Int.tmod a0 4)), .slice Ao45 t781.length co45, .slice Ao21 t756.length co21] ?_; (with_reducible refine (poly_Add.calls kj18 (wrap64 (Int.tmod a0 4)) _ _ t781 _ _ t756 t784 _ ?side1 ?side2 ?side3 ?side4 ?side5 A31.out).mono ?_); (case side1 => exact fU_ HG.out HB.out); (case side2 => exact cU_ ((Kd.R_reads' HO783.out).2.2)); (case side3 => exact (Kd.R_reads' HO783.out).2.1); (case side4 => exact cU_ ((Kd.R_reads' HO_2.out).2.2)); (case side5 => exact (Kd.R_reads' HO_2.out).2.1); rintro e w46 ⟨v785, rfl, ho0, hb⟩; refine ⟨_, rfl, ?_⟩; refine nx9_ (Kd.R_elder' (rU_ HO_1.out) (Kd.R_base ho0) hb) (Kd.R_elder' (rU_ HO_2.out) (Kd.R_base ho0) hb) (Kd.R_elder' (rU_ HO_12.out) (Kd.R_base ho0) hb) (Kd.R_elder' (rU_ HO772.out) (Kd.R_base ho0) hb) (Kd.R_elder' (rU_ HO776.out) (Kd.R_base ho0) hb) (Kd.R_elder' (rU_ HO780.out) (Kd.R_base ho0) hb) (Kd.R_elder' (rU_ HO783.out) (Kd.R_base ho0) hb) (Kd.R_lower (Kd.R_new' (Kd.R_new' (Kd.R_new' (Kd.R_new' (Kd.R_new' (Kd.R_new' (Kd.R_new' ho0 (Kd.R_lt (rU_ HO_1.out))) (Kd.R_lt (rU_ HO_2.out))) (Kd.R_lt (rU_ HO_12.out))) (Kd.R_lt (rU_ HO772.out))) (Kd.R_lt (rU_ HO776.out))) (Kd.R_lt (rU_ HO780.out))) (Kd.R_lt (rU_ HO783.out))) (below_size (bU_ HB.out))) (below_step (bU_ HB.out) hb) ?_; clear HO_1 HO_2 HO_12 HO772 HO776 HO780 HO783 HB; intro HO_1 HO_2 HO_12 HO772 HO776 HO780 HO783 HO786 HB; clear hb ho0; obtain ⟨Ao47, co47, eo47⟩ := Kd.R_slice HO786.out; subst eo47) | ((with_reducible refine gate_callee (f := 12) rfl ?_); refine gl_ (some 91) Tryd.func12 #[.int .i64 (wrap64 (Int.tmod a0 4)), .int .i64 5, .int .u64 x4_8, .slice Ao47 t784.length co47] ?_; (with_reducible refine (transform_Values.calls kj18 (wrap64 (Int.tmod a0 4)) 5 x4_8 _ _ t784 t787 t788 _ ?side1 ?side2 ?side3 A32.out).mono ?_); (case side1 => exact fU_ HG.out HB.out); (case side2 => exact cU_ ((Kd.R_reads' HO786.out).2.2)); (case side3 => exact (Kd.R_reads' HO786.out).2.1); rintro e w48 ⟨v789, rfl, ho0, hb⟩; refine ⟨_, rfl, ?_⟩; refine nx10_ (Kd.R_elder' (rU_ HO_1.out) (Kd.R_base ho0) hb) (Kd.R_elder' (rU_ HO_2.out) (Kd.R_base ho0) hb) (Kd.R_elder' (rU_ HO_12.out) (Kd.R_base ho0) hb) (Kd.R_elder' (rU_ HO772.out) (Kd.R_base ho0) hb) (Kd.R_elder' (rU_ HO776.out) (Kd.R_base ho0) hb) (Kd.R_elder' (rU_ HO780.out) (Kd.R_base ho0) hb) (Kd.R_elder' (rU_ HO783.out) (Kd.R_base ho0) hb) (Kd.R_elder' (rU_ HO786.out) (Kd.R_base ho0) hb) (Kd.R_lower (Kd.R_new' (Kd.R_new' (Kd.R_new' (Kd.R_new' (Kd.R_new' (Kd.R_new' (Kd.R_new' (Kd.R_new' ho0 (Kd.R_lt (rU_ HO_1.out))) (Kd.R_lt (rU_ HO_2.out))) (Kd.R_lt (rU_ HO_12.out))) (Kd.R_lt (rU_ HO772.out))) (Kd.R_lt (rU_ HO776.out))) (Kd.R_lt (rU_ HO780.out))) (Kd.R_lt (rU_ HO783.out))) (Kd.R_lt (rU_ HO786.out))) (below_size (bU_ HB.out))) (below_step (bU_ HB.out) hb) ?_; clear HO_1 HO_2 HO_12 HO772 HO776 HO780 HO783 HO786 HB; intro HO_1 HO_2 HO_12 HO772 HO776 HO780 HO783 HO786 HO790 HB; clear hb ho0; obtain ⟨Ao49, co49, eo49⟩ := Kd.R_slice HO772.out; subst eo49; obtain ⟨Ao50, co50, eo50⟩ := Kd.R_slice HO776.out; subst eo50; obtain ⟨Ao51, co51, eo51⟩ := Kd.R_slice HO780.out; subst eo51; obtain ⟨Ao52, co52, eo52⟩ := Kd.R_slice HO790.out; subst eo52))
     (try simp only [Act.put, s1_, s2_, s3_])
     go_cut [] (fun wc => ∃ (kq : Nat), Aside0 (attestorlaw04_TransformProducts.j2 kq a3 (wrap64 (Int.tmod a0 4)) t769 t773 t777 t787 = some r) ∧ Aside0 (kq ≤ kj18) ∧ Aside0 (Kd.R (Kd.int .u64) 22 wc w.heap.size (fun k_ => some k_ ≠ ((.slice Ao50 t773.length co50) : Value).ownBlock ∧ some k_ ≠ ((.slice Ao51 t777.length co51) : Value).ownBlock ∧ some k_ ≠ ((.slice Ao52 t787.length co52) : Value).ownBlock) (.slice Ao49 t769.length co49) t769) ∧ Aside0 (Kd.R (Kd.int .u64) 22 wc w.heap.size (fun k_ => some k_ ≠ ((.slice Ao49 t769.length co49) : Value).ownBlock ∧ some k_ ≠ ((.slice Ao51 t777.length co51) : Value).ownBlock ∧ some k_ ≠ ((.slice Ao52 t787.length co52) : Value).ownBlock) (.slice Ao50 t773.length co50) t773) ∧ Aside0 (Kd.R (Kd.int .u64) 22 wc w.heap.size (fun k_ => some k_ ≠ ((.slice Ao49 t769.length co49) : Value).ownBlock ∧ some k_ ≠ ((.slice Ao50 t773.length co50) : Value).ownBlock ∧ some k_ ≠ ((.slice Ao52 t787.length co52) : Value).ownBlock) (.slice Ao51 t777.length co51) t777) ∧ Aside0 (Kd.R (Kd.int .u64) 22 wc w.heap.size (fun k_ => some k_ ≠ ((.slice Ao49 t769.length co49) : Value).ownBlock ∧ some k_ ≠ ((.slice Ao50 t773.length co50) : Value).ownBlock ∧ some k_ ≠ ((.slice Ao51 t777.length co51) : Value).ownBlock) (.slice Ao52 t787.length co52) t787) ∧ Aside0 (Below w.heap.size w wc))
     case first =>
      have H := HC40.out
      clear HC40
      obtain ⟨c53, H⟩ : ((t787.length : Int) = 32) ∧ _ := it_ H
      have c53b0 := beq_iff_eq.mpr c53
      have c53b1 := bne_eq_false_iff_eq.mpr c53
      clear c53
      (first | rw [c53b0] | (simp only [i64_w, i32_w]; rw [c53b0]) | rw [c53b1] | skip)
      have H' := ak H
      clear H
      go_wp2
      go_meet
      case rel => exact ⟨_, H', ⟨by have := HJ8.out; have := HJ18.out; first | omega | exact Nat.le_refl _⟩, ⟨Kd.R_mono (rU_ HO772.out) (fun _ hk => ⟨hk.1.1.1.1.2, ⟨hk.1.1.1.2, hk.2⟩⟩)⟩, ⟨Kd.R_mono (rU_ HO776.out) (fun _ hk => ⟨hk.1.1.1.1.2, ⟨hk.1.1.1.2, hk.2⟩⟩)⟩, ⟨Kd.R_mono (rU_ HO780.out) (fun _ hk => ⟨hk.1.1.1.1.2, ⟨hk.1.1.1.2, hk.2⟩⟩)⟩, ⟨Kd.R_mono (rU_ HO790.out) (fun _ hk => ⟨hk.1.1.1.1.2, ⟨hk.1.1.1.2, hk.1.1.2⟩⟩)⟩, ⟨bU_ HB.out⟩⟩
     case rest =>
      clear HC40
      (try clear c1); (try clear c2); (try clear p2); (try clear c3); (try clear c5); (try clear p6); (try clear c9); (try clear c11); (try clear c12); (try clear c13); (try clear c13b0); (try clear c13b1); (try clear c16); (try clear c16b0); (try clear c16b1); (try clear c17); (try clear c17b0); (try clear c17b1); (try clear c20); (try clear c23); (try clear c26); (try clear c30); (try clear c31); (try clear c32); (try clear c33); (try clear c33b0); (try clear c33b1); (try clear c34); (try clear c34b0); (try clear c34b1); (try clear c35); (try clear c35b0); (try clear c35b1); (try clear c36); (try clear c36b0); (try clear c36b1); (try clear c37); (try clear c37b0); (try clear c37b1); (try clear c38); (try clear c38b0); (try clear c38b1); (try clear c39); (try clear c39b0); (try clear c39b1); (try clear c53); (try clear c53b0); (try clear c53b1)
      obtain ⟨kq, HA, HJ39, HO_16, HO_17, HO_18, HO_20, HB⟩ := hcut
      cases kq with
      | zero => exact absurd HA.out (by simp [attestorlaw04_TransformProducts.j2])
      | succ kj39 =>
       have H := HA.out
       clear HA
       simp only [attestorlaw04_TransformProducts.j2] at H
       have H' := ak H
       clear H
       go_wp2
       go_loopg [22] kj39 (fun kq v22 w' => ∃ (x22_4 : Int), v22 = .int .i64 x22_4 ∧ Aside0 (attestorlaw04_TransformProducts.l0 kq a3 (wrap64 (Int.tmod a0 4)) t769 t773 t777 t787 x22_4 = some r) ∧ Aside0 (kq ≤ kj39) ∧ Aside0 (Kd.R (Kd.int .u64) 22 w' w.heap.size (fun k_ => some k_ ≠ ((.slice Ao50 t773.length co50) : Value).ownBlock ∧ some k_ ≠ ((.slice Ao51 t777.length co51) : Value).ownBlock ∧ some k_ ≠ ((.slice Ao52 t787.length co52) : Value).ownBlock) (.slice Ao49 t769.length co49) t769) ∧ Aside0 (Kd.R (Kd.int .u64) 22 w' w.heap.size (fun k_ => some k_ ≠ ((.slice Ao49 t769.length co49) : Value).ownBlock ∧ some k_ ≠ ((.slice Ao51 t777.length co51) : Value).ownBlock ∧ some k_ ≠ ((.slice Ao52 t787.length co52) : Value).ownBlock) (.slice Ao50 t773.length co50) t773) ∧ Aside0 (Kd.R (Kd.int .u64) 22 w' w.heap.size (fun k_ => some k_ ≠ ((.slice Ao49 t769.length co49) : Value).ownBlock ∧ some k_ ≠ ((.slice Ao50 t773.length co50) : Value).ownBlock ∧ some k_ ≠ ((.slice Ao52 t787.length co52) : Value).ownBlock) (.slice Ao51 t777.length co51) t777) ∧ Aside0 (Kd.R (Kd.int .u64) 22 w' w.heap.size (fun k_ => some k_ ≠ ((.slice Ao49 t769.length co49) : Value).ownBlock ∧ some k_ ≠ ((.slice Ao50 t773.length co50) : Value).ownBlock ∧ some k_ ≠ ((.slice Ao51 t777.length co51) : Value).ownBlock) (.slice Ao52 t787.length co52) t787) ∧ Aside0 (Below w.heap.size w w'))
       case atStart => exact ⟨(0), gb_, H', ⟨Nat.le_refl _⟩, ⟨rU_ HO_16.out⟩, ⟨rU_ HO_17.out⟩, ⟨rU_ HO_18.out⟩, ⟨rU_ HO_20.out⟩, ⟨bU_ HB.out⟩⟩
       case round =>
        clear H'
        (try clear c1); (try clear c2); (try clear p2); (try clear c3); (try clear c5); (try clear p6); (try clear c9); (try clear c11); (try clear c12); (try clear c13); (try clear c13b0); (try clear c13b1); (try clear c16); (try clear c16b0); (try clear c16b1); (try clear c17); (try clear c17b0); (try clear c17b1); (try clear c20); (try clear c23); (try clear c26); (try clear c30); (try clear c31); (try clear c32); (try clear c33); (try clear c33b0); (try clear c33b1); (try clear c34); (try clear c34b0); (try clear c34b1); (try clear c35); (try clear c35b0); (try clear c35b1); (try clear c36); (try clear c36b0); (try clear c36b1); (try clear c37); (try clear c37b0); (try clear c37b1); (try clear c38); (try clear c38b0); (try clear c38b1); (try clear c39); (try clear c39b0); (try clear c39b1); (try clear c53); (try clear c53b0); (try clear c53b1)
        obtain ⟨x22_4, rfl, HA, HK4, HO_16, HO_17, HO_18, HO_20, HB⟩ := hrel
        cases gk with
        | zero => exact absurd HA.out (by simp [attestorlaw04_TransformProducts.l0])
        | succ k4 =>
         have H := HA.out
         clear HA
         simp only [attestorlaw04_TransformProducts.l0] at H
         have HC54 := ak H
         clear H
         go_upto_if 129 with (fail)
         go_cut [] (fun wc => ∃ (kq : Nat), Aside0 (attestorlaw04_TransformProducts.j4 kq a3 (wrap64 (Int.tmod a0 4)) t769 t773 t777 t787 x22_4 = some r) ∧ Aside0 (kq ≤ k4) ∧ Aside0 (Kd.R (Kd.int .u64) 22 wc w.heap.size (fun k_ => some k_ ≠ ((.slice Ao50 t773.length co50) : Value).ownBlock ∧ some k_ ≠ ((.slice Ao51 t777.length co51) : Value).ownBlock ∧ some k_ ≠ ((.slice Ao52 t787.length co52) : Value).ownBlock) (.slice Ao49 t769.length co49) t769) ∧ Aside0 (Kd.R (Kd.int .u64) 22 wc w.heap.size (fun k_ => some k_ ≠ ((.slice Ao49 t769.length co49) : Value).ownBlock ∧ some k_ ≠ ((.slice Ao51 t777.length co51) : Value).ownBlock ∧ some k_ ≠ ((.slice Ao52 t787.length co52) : Value).ownBlock) (.slice Ao50 t773.length co50) t773) ∧ Aside0 (Kd.R (Kd.int .u64) 22 wc w.heap.size (fun k_ => some k_ ≠ ((.slice Ao49 t769.length co49) : Value).ownBlock ∧ some k_ ≠ ((.slice Ao50 t773.length co50) : Value).ownBlock ∧ some k_ ≠ ((.slice Ao52 t787.length co52) : Value).ownBlock) (.slice Ao51 t777.length co51) t777) ∧ Aside0 (Kd.R (Kd.int .u64) 22 wc w.heap.size (fun k_ => some k_ ≠ ((.slice Ao49 t769.length co49) : Value).ownBlock ∧ some k_ ≠ ((.slice Ao50 t773.length co50) : Value).ownBlock ∧ some k_ ≠ ((.slice Ao51 t777.length co51) : Value).ownBlock) (.slice Ao52 t787.length co52) t787) ∧ Aside0 (Below w.heap.size w wc))
         case first =>
          have H := HC54.out
          clear HC54
          by_cases c55 : x22_4 < 32
          ·rw [if_pos c55] at H
           have c55b0 := decide_eq_true c55
           clear c55
           (first | rw [c55b0] | (simp only [i64_w, i32_w]; rw [c55b0]) | rw [c55b1] | skip)
           have H' := ak H
           clear H
           go_wp2
           go_meet
           case rel => exact ⟨_, H', ⟨by have := HJ8.out; have := HJ18.out; have := HJ39.out; have := HK4.out; first | omega | exact Nat.le_refl _⟩, ⟨rU_ HO_16.out⟩, ⟨rU_ HO_17.out⟩, ⟨rU_ HO_18.out⟩, ⟨rU_ HO_20.out⟩, ⟨bU_ HB.out⟩⟩
          ·rw [if_neg c55] at H
           have c55b0 := decide_eq_false c55
           clear c55
           (first | rw [c55b0] | (simp only [i64_w, i32_w]; rw [c55b0]) | rw [c55b1] | skip)
           revert H
           refine bd_ fun t791 A56 H => ?_
           obtain rfl := Option.some.inj H
           go_wp2_with (first | ((with_reducible refine gate_callee (f := 15) rfl ?_); refine gl_ (some 167) Tryd.func15 #[] ?_; (with_reducible refine (attestorlaw04_works.calls k4  t791 _ ?side1 A56.out).mono ?_); (case side1 => exact fU_ HG.out HB.out); rintro e w57 ⟨rfl, hb⟩; refine ⟨_, rfl, ?_⟩; refine nx5_ (Kd.R_below (rU_ HO_16.out) hb) (Kd.R_below (rU_ HO_17.out) hb) (Kd.R_below (rU_ HO_18.out) hb) (Kd.R_below (rU_ HO_20.out) hb) (below_step (bU_ HB.out) hb) ?_; clear HO_16 HO_17 HO_18 HO_20 HB; intro HO_16 HO_17 HO_18 HO_20 HB; clear hb))
           go_ret
           exact ⟨by first | rfl | (simp [errW_none, errW_some] <;> rfl) | (simp [*, errW_none, errW_some] <;> rfl), bU_ HB.out⟩
         case rest =>
          clear HC54
          (try clear c1); (try clear c2); (try clear p2); (try clear c3); (try clear c5); (try clear p6); (try clear c9); (try clear c11); (try clear c12); (try clear c13); (try clear c13b0); (try clear c13b1); (try clear c15); (try clear c16); (try clear c16b0); (try clear c16b1); (try clear c17); (try clear c17b0); (try clear c17b1); (try clear c20); (try clear c23); (try clear c26); (try clear c30); (try clear c31); (try clear c32); (try clear c33); (try clear c33b0); (try clear c33b1); (try clear c34); (try clear c34b0); (try clear c34b1); (try clear c35); (try clear c35b0); (try clear c35b1); (try clear c36); (try clear c36b0); (try clear c36b1); (try clear c37); (try clear c37b0); (try clear c37b1); (try clear c38); (try clear c38b0); (try clear c38b1); (try clear c39); (try clear c39b0); (try clear c39b1); (try clear c53); (try clear c53b0); (try clear c53b1); (try clear c55); (try clear c55b0); (try clear c55b1)
          obtain ⟨kq, HA, HJ53, HO_16, HO_17, HO_18, HO_20, HB⟩ := hcut
          cases kq with
          | zero => exact absurd HA.out (by simp [attestorlaw04_TransformProducts.j4])
          | succ kj53 =>
           have H := HA.out
           clear HA
           simp only [attestorlaw04_TransformProducts.j4] at H
           obtain ⟨c58, H⟩ : (0 ≤ x22_4) ∧ _ := it_ H
           have c58b0 := decide_eq_true c58
           clear c58
           obtain ⟨c59, H⟩ : (x22_4 < (t777.length : Int)) ∧ _ := it_ H
           have c59b0 := decide_eq_true c59
           clear c59
           obtain ⟨c60, H⟩ : (x22_4 < (t769.length : Int)) ∧ _ := it_ H
           have c60b0 := decide_eq_true c60
           clear c60
           obtain ⟨c61, H⟩ : (x22_4 < (t773.length : Int)) ∧ _ := it_ H
           have c61b0 := decide_eq_true c61
           clear c61
           revert H
           refine bd_ fun t795 A62 H => ?_
           obtain ⟨c63, H⟩ : ((rd t777 x22_4) = t795) ∧ _ := it_ H
           have c63b0 := beq_iff_eq.mpr c63
           have c63b1 := bne_eq_false_iff_eq.mpr c63
           clear c63
           obtain ⟨c64, H⟩ : (x22_4 < (t787.length : Int)) ∧ _ := it_ H
           have c64b0 := decide_eq_true c64
           clear c64
           revert H
           refine bd_ fun t798 A65 H => ?_
           revert H
           refine bd_ fun t800 A66 H => ?_
           obtain ⟨c67, H⟩ : ((rd t787 x22_4) = t800) ∧ _ := it_ H
           have c67b0 := beq_iff_eq.mpr c67
           have c67b1 := bne_eq_false_iff_eq.mpr c67
           clear c67
           have H' := ak H
           clear H
           try go_wp2
           refine nx5_ (Kd.R_drew HO_16.out) (Kd.R_drew HO_17.out) (Kd.R_drew HO_18.out) (Kd.R_drew HO_20.out) (below_drew1 HB.out) ?_
           clear HO_16 HO_17 HO_18 HO_20 HB
           intro HO_16 HO_17 HO_18 HO_20 HB
           have p792 : 0 ≤ (x22_4 : Int) := od_
           have q792 : x22_4 < (t777.length : Int) := od_
           obtain ⟨ad792, e792, hx792_0⟩ := Kd.at_int (Kd.R_reads' HO_18.out).2.2 x22_4 p792 q792
           cases e792
           replace p792 := eq_true p792
           replace q792 := eq_true q792
           have p793 : 0 ≤ (x22_4 : Int) := od_
           have q793 : x22_4 < (t769.length : Int) := od_
           obtain ⟨ad793, e793, hx793_0⟩ := Kd.at_int (Kd.R_reads' HO_16.out).2.2 x22_4 p793 q793
           cases e793
           replace p793 := eq_true p793
           replace q793 := eq_true q793
           have p794 : 0 ≤ (x22_4 : Int) := od_
           have q794 : x22_4 < (t773.length : Int) := od_
           obtain ⟨ad794, e794, hx794_0⟩ := Kd.at_int (Kd.R_reads' HO_17.out).2.2 x22_4 p794 q794
           cases e794
           replace p794 := eq_true p794
           replace q794 := eq_true q794
           have p796 : 0 ≤ (x22_4 : Int) := od_
           have q796 : x22_4 < (t787.length : Int) := od_
           obtain ⟨ad796, e796, hx796_0⟩ := Kd.at_int (Kd.R_reads' HO_20.out).2.2 x22_4 p796 q796
           cases e796
           replace p796 := eq_true p796
           replace q796 := eq_true q796
           have p797 : 0 ≤ (x22_4 : Int) := od_
           have q797 : x22_4 < (t769.length : Int) := od_
           obtain ⟨ad797, e797, hx797_0⟩ := Kd.at_int (Kd.R_reads' HO_16.out).2.2 x22_4 p797 q797
           obtain rfl : ad793 = ad797 := (by injection e797)
           replace p797 := eq_true p797
           replace q797 := eq_true q797
           have p799 : 0 ≤ (x22_4 : Int) := od_
           have q799 : x22_4 < (t773.length : Int) := od_
           obtain ⟨ad799, e799, hx799_0⟩ := Kd.at_int (Kd.R_reads' HO_17.out).2.2 x22_4 p799 q799
           obtain rfl : ad794 = ad799 := (by injection e799)
           replace p799 := eq_true p799
           replace q799 := eq_true q799
           refine start_ (n := 35) (S := fun w' => w'.cell? (ad792.add (x22_4).toNat) = some (.int .u64 (rd t777 x22_4)) ∧ w'.cell? (ad793.add (x22_4).toNat) = some (.int .u64 (rd t769 x22_4)) ∧ w'.cell? (ad794.add (x22_4).toNat) = some (.int .u64 (rd t773 x22_4)) ∧ w'.cell? (ad796.add (x22_4).toNat) = some (.int .u64 (rd t787 x22_4)) ∧ w'.cell? (ad793.add (x22_4).toNat) = some (.int .u64 (rd t769 x22_4)) ∧ w'.cell? (ad794.add (x22_4).toNat) = some (.int .u64 (rd t773 x22_4))) (ds := []) (bv 35 0) (by kernel_rfl) rfl rfl ⟨hx792_0, hx793_0, hx794_0, hx796_0, hx797_0, hx799_0⟩ (fun hHeld => ?_); refine with_tabW attestorlaw04_TransformProducts.tab18 attestorlaw04_TransformProducts.bits18 (fun HT_ HW_ => ?_)
           generalize wc.drew = w68 at HO_16 HO_17 HO_18 HO_20 HB hx792_0 hx793_0 hx794_0 hx796_0 hx797_0 hx799_0 hHeld ⊢
           refine pr_ (i := 0) (N := some 132) (v := ?_) (a' := ?_) (bv 35 1) HT_.out ?_ ?_ ?_; rotate_left 2; (intro w'; go_simp; with_reducible rfl); (simp only [Act.put, s1_, s2_, s3_, i64_w, i32_w]; rfl)
           refine pr_ (i := 1) (N := some 133) (v := ?_) (a' := ?_) (bv 35 3) HT_.out ?_ ?_ ?_; rotate_left 2; (intro w'; go_simp; with_reducible rfl); (simp only [Act.put, s1_, s2_, s3_, i64_w, i32_w]; rfl)
           refine pr_ (i := 2) (N := some 134) (v := ?_) (a' := ?_) (bv 35 7) HT_.out ?_ ?_ ?_; rotate_left 2; (intro w'; go_simp; with_reducible rfl); (simp only [Act.put, s1_, s2_, s3_, i64_w, i32_w]; rfl)
           refine pr_ (i := 4) (N := some 136) (v := ?_) (a' := ?_) (bv 35 23) HT_.out ?_ ?_ ?_; rotate_left 2; (intro w'; go_simp; with_reducible rfl); (simp only [Act.put, s1_, s2_, s3_, i64_w, i32_w]; rfl)
           refine pr_ (i := 5) (N := some 137) (v := ?_) (a' := ?_) (bv 35 55) HT_.out ?_ ?_ ?_; rotate_left 2; (intro w'; go_simp; with_reducible rfl); (simp only [Act.put, s1_, s2_, s3_, i64_w, i32_w]; rfl)
           refine pr_ (i := 6) (N := some 138) (v := ?_) (a' := ?_) (bv 35 119) HT_.out ?_ ?_ ?_; rotate_left 2; (intro w'; go_simp; with_reducible rfl); (simp only [Act.put, s1_, s2_, s3_, i64_w, i32_w]; rfl)
           refine pr_ (i := 7) (N := some 139) (v := ?_) (a' := ?_) (bv 35 247) HT_.out ?_ ?_ ?_; rotate_left 2; (intro w'; go_simp; with_reducible rfl); (simp only [Act.put, s1_, s2_, s3_, i64_w, i32_w]; rfl)
           refine pr_ (i := 9) (N := some 141) (v := ?_) (a' := ?_) (bv 35 759) HT_.out ?_ ?_ ?_; rotate_left 2; (intro w'; go_simp; with_reducible rfl); (simp only [Act.put, s1_, s2_, s3_, i64_w, i32_w]; rfl)
           refine pr_ (i := 10) (N := some 142) (v := ?_) (a' := ?_) (bv 35 1783) HT_.out ?_ ?_ ?_; rotate_left 2; (intro w'; go_simp; with_reducible rfl); (simp only [Act.put, s1_, s2_, s3_, i64_w, i32_w]; rfl)
           refine pr_ (i := 11) (N := some 143) (v := ?_) (a' := ?_) (bv 35 3831) HT_.out ?_ ?_ ?_; rotate_left 2; (intro w'; go_simp; with_reducible rfl); (simp only [Act.put, s1_, s2_, s3_, i64_w, i32_w]; rfl)
           refine take_ (i := 3) (N := some 135) (v := ?_) (a' := ?_) (bv 35 3839) rfl rfl (take_ofW HT_.out HW_.out (by kernel_rfl)) (fun _ _ _ h => h) (Or.inl ⟨by rfl, ?_⟩) hHeld ?_ ?_
           rotate_left
           ·rintro w' ⟨s0, s1, s2, s3, s4, s5⟩
            go_simp
            with_reducible rfl
           rotate_left
           ·simp only [Act.put, s1_, s2_, s3_, i64_w, i32_w]
            rfl
           refine take_ (i := 8) (N := some 140) (v := ?_) (a' := ?_) (bv 35 4095) rfl rfl (take_ofW HT_.out HW_.out (by kernel_rfl)) (fun _ _ _ h => h) (Or.inl ⟨by rfl, ?_⟩) hHeld ?_ ?_
           rotate_left
           ·rintro w' ⟨s0, s1, s2, s3, s4, s5⟩
            go_simp
            with_reducible rfl
           rotate_left
           ·simp only [Act.put, s1_, s2_, s3_, i64_w, i32_w]
            rfl
           refine take_ (i := 12) (N := some 144) (v := ?_) (a' := ?_) (bv 35 8191) rfl rfl (take_ofW HT_.out HW_.out (by kernel_rfl)) (fun _ _ _ h => h) (Or.inl ⟨by rfl, ?_⟩) hHeld ?_ ?_
           rotate_left
           ·rintro w' ⟨s0, s1, s2, s3, s4, s5⟩
            go_simp
            with_reducible rfl
           rotate_left
           ·simp only [Act.put, s1_, s2_, s3_, i64_w, i32_w]
            rfl
           refine one_ (i := 13) (N := some 145) (bv 35 16383) rfl rfl (one_of HT_.out (by kernel_rfl)) (by decide) (fun K hK => ?_)
           refine goes_ Tryd.func26 (by kernel_rfl) rfl #[.int .i64 (wrap64 (Int.tmod a0 4)), .int .u64 (rd t769 x22_4), .int .u64 (rd t773 x22_4)] (by rfl) rfl rfl ga_ ?_
           with_reducible refine (field_Mul.calls (wrap64 (Int.tmod a0 4)) (rd t769 x22_4) (rd t773 x22_4) t795 _ ?side1 A62.out).mono ?_
           (case side1 => exact fU_ HG.out HB.out)
           rintro e w69 ⟨rfl, hb⟩
           have HS0_ := (hb.cell (World.block_lt_of_cell? _ _ (hHeld.1))).trans (hHeld.1)
           have HS1_ := (hb.cell (World.block_lt_of_cell? _ _ (hHeld.2.1))).trans (hHeld.2.1)
           have HS2_ := (hb.cell (World.block_lt_of_cell? _ _ (hHeld.2.2.1))).trans (hHeld.2.2.1)
           have HS3_ := (hb.cell (World.block_lt_of_cell? _ _ (hHeld.2.2.2.1))).trans (hHeld.2.2.2.1)
           have HS4_ := (hb.cell (World.block_lt_of_cell? _ _ (hHeld.2.2.2.2.1))).trans (hHeld.2.2.2.2.1)
           have HS5_ := (hb.cell (World.block_lt_of_cell? _ _ (hHeld.2.2.2.2.2))).trans (hHeld.2.2.2.2.2)
           refine ⟨_, rfl, ?_⟩
           refine nx5_ (Kd.R_below (rU_ HO_16.out) hb) (Kd.R_below (rU_ HO_17.out) hb) (Kd.R_below (rU_ HO_18.out) hb) (Kd.R_below (rU_ HO_20.out) hb) (below_step (bU_ HB.out) hb) ?_
           clear HO_16 HO_17 HO_18 HO_20 HB
           intro HO_16 HO_17 HO_18 HO_20 HB
           (try clear hb)
           (try clear hb2)
           (try clear hk)
           (try clear hi)
           refine hK.out _ _ ⟨HS0_, HS1_, HS2_, HS3_, HS4_, HS5_⟩ (fun hHeld => ?_)
           clear hK K
           refine norm_ (a' := ?_) ?_ ?_
           rotate_left
           ·show Act.put _ (some 145) _ = _
            simp only [Act.put, s1_, s2_, s3_, i64_w, i32_w]
            rfl
           refine pr_ (i := 14) (N := some 146) (v := ?_) (a' := ?_) (bv 35 32767) HT_.out ?_ ?_ ?_; rotate_left 2; (intro w'; go_simp; with_reducible rfl); (simp only [Act.put, s1_, s2_, s3_, i64_w, i32_w]; rfl)
           refine pr_ (i := 15) (N := some 147) (v := ?_) (a' := ?_) (bv 35 65535) HT_.out ?_ ?_ ?_; rotate_left 2; (intro w'; go_simp; with_reducible rfl); (simp only [Act.put, s1_, s2_, s3_, i64_w, i32_w]; rfl)
           refine pr_ (i := 16) (N := some 148) (v := ?_) (a' := ?_) (bv 35 131071) HT_.out ?_ ?_ ?_; rotate_left 2; (intro w'; go_simp; with_reducible rfl); (simp only [Act.put, s1_, s2_, s3_, i64_w, i32_w]; rfl)
           refine pr_ (i := 17) (N := some 149) (v := ?_) (a' := ?_) (bv 35 262143) HT_.out ?_ ?_ ?_; rotate_left 2; (intro w'; go_simp; with_reducible rfl); (simp only [Act.put, s1_, s2_, s3_, i64_w, i32_w]; rfl)
           refine pr_ (i := 18) (N := some 150) (v := ?_) (a' := ?_) (bv 35 524287) HT_.out ?_ ?_ ?_; rotate_left 2; (intro w'; go_simp; with_reducible rfl); (simp only [Act.put, s1_, s2_, s3_, i64_w, i32_w]; rfl)
           refine pr_ (i := 20) (N := some 152) (v := ?_) (a' := ?_) (bv 35 1572863) HT_.out ?_ ?_ ?_; rotate_left 2; (intro w'; go_simp; with_reducible rfl); (simp only [Act.put, s1_, s2_, s3_, i64_w, i32_w]; rfl)
           refine pr_ (i := 21) (N := some 153) (v := ?_) (a' := ?_) (bv 35 3670015) HT_.out ?_ ?_ ?_; rotate_left 2; (intro w'; go_simp; with_reducible rfl); (simp only [Act.put, s1_, s2_, s3_, i64_w, i32_w]; rfl)
           refine pr_ (i := 22) (N := some 154) (v := ?_) (a' := ?_) (bv 35 7864319) HT_.out ?_ ?_ ?_; rotate_left 2; (intro w'; go_simp; with_reducible rfl); (simp only [Act.put, s1_, s2_, s3_, i64_w, i32_w]; rfl)
           refine pr_ (i := 23) (N := some 155) (v := ?_) (a' := ?_) (bv 35 16252927) HT_.out ?_ ?_ ?_; rotate_left 2; (intro w'; go_simp; with_reducible rfl); (simp only [Act.put, s1_, s2_, s3_, i64_w, i32_w]; rfl)
           refine pr_ (i := 24) (N := some 156) (v := ?_) (a' := ?_) (bv 35 33030143) HT_.out ?_ ?_ ?_; rotate_left 2; (intro w'; go_simp; with_reducible rfl); (simp only [Act.put, s1_, s2_, s3_, i64_w, i32_w]; rfl)
           refine pr_ (i := 26) (N := some 158) (v := ?_) (a' := ?_) (bv 35 100139007) HT_.out ?_ ?_ ?_; rotate_left 2; (intro w'; go_simp; with_reducible rfl); (simp only [Act.put, s1_, s2_, s3_, i64_w, i32_w]; rfl)
           refine pr_ (i := 28) (N := some 160) (v := ?_) (a' := ?_) (bv 35 368574463) HT_.out ?_ ?_ ?_; rotate_left 2; (intro w'; go_simp; with_reducible rfl); (simp only [Act.put, s1_, s2_, s3_, i64_w, i32_w]; rfl)
           refine pr_ (i := 29) (N := some 161) (v := ?_) (a' := ?_) (bv 35 905445375) HT_.out ?_ ?_ ?_; rotate_left 2; (intro w'; go_simp; with_reducible rfl); (simp only [Act.put, s1_, s2_, s3_, i64_w, i32_w]; rfl)
           refine pr_ (i := 30) (N := some 162) (v := ?_) (a' := ?_) (bv 35 1979187199) HT_.out ?_ ?_ ?_; rotate_left 2; (intro w'; go_simp; with_reducible rfl); (simp only [Act.put, s1_, s2_, s3_, i64_w, i32_w]; rfl)
           refine take_ (i := 19) (N := some 151) (v := ?_) (a' := ?_) (bv 35 1979711487) rfl rfl (take_ofW HT_.out HW_.out (by kernel_rfl)) (fun _ _ _ h => h) (Or.inl ⟨by rfl, ?_⟩) hHeld ?_ ?_
           rotate_left
           ·rintro w' ⟨s0, s1, s2, s3, s4, s5⟩
            go_simp
            with_reducible rfl
           rotate_left
           ·simp only [Act.put, s1_, s2_, s3_, i64_w, i32_w]
            rfl
           refine take_ (i := 25) (N := some 157) (v := ?_) (a' := ?_) (bv 35 2013265919) rfl rfl (take_ofW HT_.out HW_.out (by kernel_rfl)) (fun _ _ _ h => h) (Or.inl ⟨by rfl, ?_⟩) hHeld ?_ ?_
           rotate_left
           ·rintro w' ⟨s0, s1, s2, s3, s4, s5⟩
            go_simp
            with_reducible rfl
           rotate_left
           ·simp only [Act.put, s1_, s2_, s3_, i64_w, i32_w]
            rfl
           refine take_ (i := 31) (N := some 163) (v := ?_) (a' := ?_) (bv 35 4160749567) rfl rfl (take_ofW HT_.out HW_.out (by kernel_rfl)) (fun _ _ _ h => h) (Or.inl ⟨by rfl, ?_⟩) hHeld ?_ ?_
           rotate_left
           ·rintro w' ⟨s0, s1, s2, s3, s4, s5⟩
            go_simp
            with_reducible rfl
           rotate_left
           ·simp only [Act.put, s1_, s2_, s3_, i64_w, i32_w]
            rfl
           refine one_ (i := 27) (N := some 159) (bv 35 4294967295) rfl rfl (one_of HT_.out (by kernel_rfl)) (by decide) (fun K hK => ?_)
           refine goes_ Tryd.func26 (by kernel_rfl) rfl #[.int .i64 (wrap64 (Int.tmod a0 4)), .int .u64 (rd t769 x22_4), .int .u64 a3] (by rfl) rfl rfl ga_ ?_
           with_reducible refine (field_Mul.calls (wrap64 (Int.tmod a0 4)) (rd t769 x22_4) a3 t798 _ ?side1 A65.out).mono ?_
           (case side1 => exact fU_ HG.out HB.out)
           rintro e w70 ⟨rfl, hb⟩
           have HS0_ := (hb.cell (World.block_lt_of_cell? _ _ (hHeld.1))).trans (hHeld.1)
           have HS1_ := (hb.cell (World.block_lt_of_cell? _ _ (hHeld.2.1))).trans (hHeld.2.1)
           have HS2_ := (hb.cell (World.block_lt_of_cell? _ _ (hHeld.2.2.1))).trans (hHeld.2.2.1)
           have HS3_ := (hb.cell (World.block_lt_of_cell? _ _ (hHeld.2.2.2.1))).trans (hHeld.2.2.2.1)
           have HS4_ := (hb.cell (World.block_lt_of_cell? _ _ (hHeld.2.2.2.2.1))).trans (hHeld.2.2.2.2.1)
           have HS5_ := (hb.cell (World.block_lt_of_cell? _ _ (hHeld.2.2.2.2.2))).trans (hHeld.2.2.2.2.2)
           refine ⟨_, rfl, ?_⟩
           refine nx5_ (Kd.R_below (rU_ HO_16.out) hb) (Kd.R_below (rU_ HO_17.out) hb) (Kd.R_below (rU_ HO_18.out) hb) (Kd.R_below (rU_ HO_20.out) hb) (below_step (bU_ HB.out) hb) ?_
           clear HO_16 HO_17 HO_18 HO_20 HB
           intro HO_16 HO_17 HO_18 HO_20 HB
           (try clear hb)
           (try clear hb2)
           (try clear hk)
           (try clear hi)
           refine hK.out _ _ ⟨HS0_, HS1_, HS2_, HS3_, HS4_, HS5_⟩ (fun hHeld => ?_)
           clear hK K
           refine norm_ (a' := ?_) ?_ ?_
           rotate_left
           ·show Act.put _ (some 159) _ = _
            simp only [Act.put, s1_, s2_, s3_, i64_w, i32_w]
            rfl
           refine one_ (i := 32) (N := some 164) (bv 35 8589934591) rfl rfl (one_of HT_.out (by kernel_rfl)) (by decide) (fun K hK => ?_)
           refine goes_ Tryd.func33 (by kernel_rfl) rfl #[.int .i64 (wrap64 (Int.tmod a0 4)), .int .u64 t798, .int .u64 (rd t773 x22_4)] (by rfl) rfl rfl ga_ ?_
           with_reducible refine (field_Add.calls (wrap64 (Int.tmod a0 4)) t798 (rd t773 x22_4) t800 _ ?side1 A66.out).mono ?_
           (case side1 => exact fU_ HG.out HB.out)
           rintro e w71 ⟨rfl, hb⟩
           have HS0_ := (hb.cell (World.block_lt_of_cell? _ _ (hHeld.1))).trans (hHeld.1)
           have HS1_ := (hb.cell (World.block_lt_of_cell? _ _ (hHeld.2.1))).trans (hHeld.2.1)
           have HS2_ := (hb.cell (World.block_lt_of_cell? _ _ (hHeld.2.2.1))).trans (hHeld.2.2.1)
           have HS3_ := (hb.cell (World.block_lt_of_cell? _ _ (hHeld.2.2.2.1))).trans (hHeld.2.2.2.1)
           have HS4_ := (hb.cell (World.block_lt_of_cell? _ _ (hHeld.2.2.2.2.1))).trans (hHeld.2.2.2.2.1)
           have HS5_ := (hb.cell (World.block_lt_of_cell? _ _ (hHeld.2.2.2.2.2))).trans (hHeld.2.2.2.2.2)
           refine ⟨_, rfl, ?_⟩
           refine nx5_ (Kd.R_below (rU_ HO_16.out) hb) (Kd.R_below (rU_ HO_17.out) hb) (Kd.R_below (rU_ HO_18.out) hb) (Kd.R_below (rU_ HO_20.out) hb) (below_step (bU_ HB.out) hb) ?_
           clear HO_16 HO_17 HO_18 HO_20 HB
           intro HO_16 HO_17 HO_18 HO_20 HB
           (try clear hb)
           (try clear hb2)
           (try clear hk)
           (try clear hi)
           refine hK.out _ _ ⟨HS0_, HS1_, HS2_, HS3_, HS4_, HS5_⟩ (fun hHeld => ?_)
           clear hK K
           refine norm_ (a' := ?_) ?_ ?_
           rotate_left
           ·show Act.put _ (some 164) _ = _
            simp only [Act.put, s1_, s2_, s3_, i64_w, i32_w]
            rfl
           refine pr_ (i := 33) (N := some 165) (v := ?_) (a' := ?_) (bv 35 17179869183) HT_.out ?_ ?_ ?_; rotate_left 2; (intro w'; go_simp; with_reducible rfl); (simp only [Act.put, s1_, s2_, s3_, i64_w, i32_w]; rfl)
           refine pr_ (i := 34) (N := some 166) (v := ?_) (a' := ?_) (bv 35 34359738367) HT_.out ?_ ?_ ?_; rotate_left 2; (intro w'; go_simp; with_reducible rfl); (simp only [Act.put, s1_, s2_, s3_, i64_w, i32_w]; rfl)
           refine done_ (done_of HT_.out (by kernel_rfl)) ?_
           try go_wp2
           go_roundg kj53
           case measure => have := HJ8.out; have := HJ18.out; have := HJ39.out; have := HK4.out; have := HJ53.out; omega
           case rel => exact ⟨(wrap64 (x22_4 + 1)), gb_, H', ⟨by have := HJ8.out; have := HJ18.out; have := HJ39.out; have := HK4.out; have := HJ53.out; omega⟩, ⟨rU_ HO_16.out⟩, ⟨rU_ HO_17.out⟩, ⟨rU_ HO_18.out⟩, ⟨rU_ HO_20.out⟩, ⟨bU_ HB.out⟩⟩

/-- THE ONE PURE STATEMENT of attestorlaw04_TransformProducts: yours. -/
def attestorlaw04_TransformProducts.Pure : Prop := ∀ (a0 : Int) (l1 : List Int) (l2 : List Int) (a3 : Int) (a4 : Int), (Lit.int .u8 a0).wf = true → l1.length ≤ maxLen → l1.length * 8 ≤ 140737488351232 → (∀ x ∈ l1, (Lit.int .u64 x).wf = true) → l2.length ≤ maxLen → l2.length * 8 ≤ 140737488351232 → (∀ x ∈ l2, (Lit.int .u64 x).wf = true) → (Lit.int .u64 a3).wf = true → (Lit.int .u64 a4).wf = true → ∃ k, attestorlaw04_TransformProducts.f k a0 l1 l2 a3 a4 = some true
theorem attestorlaw04_TransformProducts.walk (P : attestorlaw04_TransformProducts.Pure) (a0 : Int) (a1 : Option Addr) (len1 cap1 : Nat) (z1 : List Int) (a2 : Option Addr) (len2 cap2 : Nat) (z2 : List Int) (a3 : Int) (a4 : Int) (w : World) (hG : Fld w) (w0 : (Lit.int .u8 a0).wf = true) (w1 : (a1 = none ∧ len1 = 0 ∧ cap1 = 0 ∧ z1 = []) ∨ ∃ x, a1 = some x ∧ len1 ≤ cap1 ∧ cap1 ≤ maxLen ∧ z1.length = cap1 ∧ (∀ i, i < z1.length → w.cell? (x.add i) = some (.int .u64 (z1.getD i 0))) ∧ ∀ n ∈ z1, (Lit.int .u64 n).wf = true) (y1 : len1 * 8 ≤ 140737488351232) (w2 : (a2 = none ∧ len2 = 0 ∧ cap2 = 0 ∧ z2 = []) ∨ ∃ x, a2 = some x ∧ len2 ≤ cap2 ∧ cap2 ≤ maxLen ∧ z2.length = cap2 ∧ (∀ i, i < z2.length → w.cell? (x.add i) = some (.int .u64 (z2.getD i 0))) ∧ ∀ n ∈ z2, (Lit.int .u64 n).wf = true) (y2 : len2 * 8 ≤ 140737488351232) (w3 : (Lit.int .u64 a3).wf = true) (w4 : (Lit.int .u64 a4).wf = true) :
  Calls Tryd.prog 9 #[.int .u8 a0, .slice a1 len1 cap1, .slice a2 len2 cap2, .int .u64 a3, .int .u64 a4] w fun e w' => e = .returned (.bool true) ∧ Below w.heap.size w w' := by
 obtain ⟨l1, rfl, hr1, hm1, hw1, hc1⟩ := ReadsInt.ofRowC w1
 obtain ⟨l2, rfl, hr2, hm2, hw2, hc2⟩ := ReadsInt.ofRowC w2
 obtain ⟨k, h⟩ := P a0 l1 l2 a3 a4 w0 hm1 y1 hw1 hm2 y2 hw2 w3 w4
 refine (attestorlaw04_TransformProducts.calls k a0 _ _ l1 _ _ l2 a3 a4 true w hG (Kd.C_of_reads (d := (0 : Int)) (h1 := fun _ => rfl) hr1) hc1 (Kd.C_of_reads (d := (0 : Int)) (h1 := fun _ => rfl) hr2) hc2 h).mono ?_
 rintro e w' ⟨rfl, hd⟩
 exact ⟨rfl, hd⟩

end Go.Proofs.YtdjjdlkglinlgaaDoor.Q

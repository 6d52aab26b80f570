-- Written by prx.py (this session's driver of the kit's print) out of the translation. Not trusted: Lean checks it.
import Derived.Test.YtmnahhacobfafaaDoorQ0
import Derived.Test.YtmnahhacobfafaaDoorQ2
namespace Go.Proofs.YtmnahhacobfafaaDoor.Q
open Go.RowKit Go.Proofs.YtmnahhacobfafaaDoorW.PrintWords Go.Proofs.YtmnahhacobfafaaDoorW.PrintLast Go.Proofs.YtmnahhacobfafaaDoorW.PrintMore
attribute [local go_sem] max2_int min2_int max_two min_two max_three min_three max_four min_four   -- for this text's walks alone
set_option linter.unusedVariables false
set_option linter.unusedSimpArgs false

/-! ### poly_Split: function 40 -/
mutual
def poly_Split.j0 : Nat → Int → List Int → Int → Bool → Option ((List (List Int)))
 | 0, _, _, _, _ => none
 | k + 1, x0, x1, x2, x21 => if x21 = true then (some ([] : List (List Int))) else (if 0 ≤ x2 then (if (x2 : Int).toNat ≤ 11728124029610 then (poly_Split.l0 k x0 x2 (List.replicate (x2 : Int).toNat []) x1 (x1.length : Int) 0) else (none)) else (none))
def poly_Split.l0 : Nat → Int → Int → List (List Int) → List Int → Int → Int → Option ((List (List Int)))
 | 0, _, _, _, _, _, _ => none
 | k + 1, x0, x2, x7, x24, x25, x26 => if x26 < x25 then (if 0 ≤ x26 then (if x26 < (x24.length : Int) then (if x2 = 0 then (none) else (if 0 ≤ (Int.tmod x26 x2) then (if (Int.tmod x26 x2) < (x7.length : Int) then ((field_Reduce.f x0 (rd x24 x26)).bind fun t680 => (if (rd_L1 x7 (Int.tmod x26 x2)).length < 17592186044416 then (poly_Split.l0 k x0 x2 (x7.set ((Int.tmod x26 x2) : Int).toNat ((rd_L1 x7 (Int.tmod x26 x2)) ++ [t680])) x24 x25 (wrap64 (x26 + 1))) else (none))) else (none)) else (none))) else (none)) else (none)) else (poly_Split.l1 k x7 (x7.length : Int) 0)
def poly_Split.l1 : Nat → List (List Int) → Int → Int → Option ((List (List Int)))
 | 0, _, _, _ => none
 | k + 1, x7, x49, x50 => if x50 < x49 then (if 0 ≤ x50 then (if x50 < (x7.length : Int) then ((poly_trim.f k (rd_L1 x7 x50)).bind fun t686 => (poly_Split.l1 k (x7.set (x50 : Int).toNat t686) x49 (wrap64 (x50 + 1)))) else (none)) else (none)) else (some x7)
end
def poly_Split.f (k : Nat) (a0 : Int) (l1 : List Int) (a2 : Int) : Option ((List (List Int))) := (field_Valid.f a0).bind fun t674 => (if t674 = true then (if a2 < 1 then (poly_Split.j0 k a0 l1 a2 true) else (poly_Split.j0 k a0 l1 a2 (decide (a2 > 64)))) else (poly_Split.j0 k a0 l1 a2 true))
def poly_Split.T7 : Bool × List (List Nat × List Nat) := (true, [([], []), ([], []), ([], []), ([1, 2], [1, 2]), ([], []), ([], []), ([], []), ([5, 6], [5, 6]), ([4, 7], [4, 7]), ([8], [8]), ([], []), ([], []), ([10, 11], [10, 11]), ([12], [12]), ([9, 13, 12], [9, 13]), ([0, 3, 0, 1, 2, 3, 4, 5, 6, 7, 8, 9, 10, 11, 12, 13, 14], [0, 3]), ([15, 14, 14, 0, 1, 2, 3, 4, 5, 6, 7, 8, 9, 10, 11, 12, 13, 14], [14, 15])])
def poly_Split.B7 : List Nat := [0, 0, 0, 6, 0, 0, 0, 96, 240, 496, 0, 0, 3072, 7168, 16368, 32767, 65535]
theorem poly_Split.tab7 : rtab .any (opsOf Tryd.f40 7) = poly_Split.T7 := by kernel_rfl
theorem poly_Split.bits7 : waitsOk poly_Split.T7.2 poly_Split.B7 = true := by kernel_rfl
set_option maxHeartbeats 8000000 in
set_option maxRecDepth 100000 in
theorem poly_Split.calls (k : Nat) (a0 : Int) (A1 : Option Addr) (c1 : Nat) (l1 : List Int) (a2 : Int) (r : List (List Int)) (w : World) (hG : Fld w) (hr1 : Kd.C (Kd.int .u64) w A1 l1.length l1) (hc1 : l1.length ≤ c1) (h : poly_Split.f k a0 l1 a2 = some r) :
  Calls Tryd.prog 40 #[.int .i64 a0, .slice A1 l1.length c1, .int .i64 a2] w fun e w' => ∃ v0_ : Value, e = .returned (v0_) ∧ Kd.S (Kd.slice 32 (Kd.int .u64)) 22 w' w.heap.size (fun _ => True) v0_ r ∧ Below w.heap.size w w' := by
 have HG := Aside0.mk hG
 clear hG
 have HR1 := Aside0.mk hr1
 have HC1 := Aside0.mk hc1
 clear hr1 hc1
 have HB := Aside0.mk (Below.refl w.heap.size w)
 have H : ((field_Valid.f a0).bind fun t674 => (if t674 = true then (if a2 < 1 then (poly_Split.j0 k a0 l1 a2 true) else (poly_Split.j0 k a0 l1 a2 (decide (a2 > 64)))) else (poly_Split.j0 k a0 l1 a2 true))) = some r := h
 clear h
 have HC4 := Aside0.mk H
 clear H
 go_enter Tryd.func40, Tryd.ntmps40
 go_upto_region 1 with (fail)
 go_cut [21] (fun v21 wc => ∃ (kq : Nat) (x21_3 : Bool), v21 = .bool x21_3 ∧ Aside0 (poly_Split.j0 kq a0 l1 a2 x21_3 = some r) ∧ Aside0 (kq ≤ k) ∧ Aside0 (Below w.heap.size w wc))
 case first =>
  have H := HC4.out
  clear HC4
  replace H := Option.bind_eq_some_iff.mp H
  obtain ⟨t674, A50, H⟩ := H
  replace H : (if t674 = true then (if a2 < 1 then (poly_Split.j0 k a0 l1 a2 true) else (poly_Split.j0 k a0 l1 a2 (decide (a2 > 64)))) else (poly_Split.j0 k a0 l1 a2 true)) = some r := H
  have A5 := Aside0.mk A50
  clear A50
  by_cases c6 : t674 = true
  ·subst c6
   have H1 : (if a2 < 1 then (poly_Split.j0 k a0 l1 a2 true) else (poly_Split.j0 k a0 l1 a2 (decide (a2 > 64)))) = some r := by rw [if_pos rfl] at H; exact H
   clear H
   have H := H1
   clear H1
   by_cases c7 : a2 < 1
   ·rw [if_pos c7] at H
    have c7b0 : decide (a2 < 1) = true := decide_eq_true c7
    clear c7
    (first | rw [c7b0] | (simp only [i64_w, i32_w]; rw [c7b0]) | rw [c7b1] | skip)
    have H' := Aside0.mk H
    clear H
    go_wp2_with (first | ((with_reducible refine gate_callee (f := 47) rfl ?_); refine goesL_ (some 12) rfl rfl Tryd.func47 (by kernel_rfl) rfl #[.int .i64 a0] rfl (by (try simp only [List.map_toArray, List.map_cons, List.map_nil]); first | done | rfl | (simp only [List.length_drop, List.length_take]; rfl)) ?_; (with_reducible refine (field_Valid.calls a0 true _ A5.out).mono ?_); rintro e w' ⟨rfl, ⟨nd, rfl⟩⟩; refine ⟨_, rfl, ?_⟩))
    go_meet
    case rel => exact ⟨_, (true), (by first | rfl | (simp; done) | (simp [*]; done)), H', ⟨by first | omega | exact Nat.le_refl _⟩, ⟨bU_ HB.out⟩⟩
   ·rw [if_neg c7] at H
    have c7b0 : decide (a2 < 1) = false := decide_eq_false c7
    clear c7
    (first | rw [c7b0] | (simp only [i64_w, i32_w]; rw [c7b0]) | rw [c7b1] | skip)
    have H' := Aside0.mk H
    clear H
    go_wp2_with (first | ((with_reducible refine gate_callee (f := 47) rfl ?_); refine goesL_ (some 12) rfl rfl Tryd.func47 (by kernel_rfl) rfl #[.int .i64 a0] rfl (by (try simp only [List.map_toArray, List.map_cons, List.map_nil]); first | done | rfl | (simp only [List.length_drop, List.length_take]; rfl)) ?_; (with_reducible refine (field_Valid.calls a0 true _ A5.out).mono ?_); rintro e w' ⟨rfl, ⟨nd, rfl⟩⟩; refine ⟨_, rfl, ?_⟩))
    go_meet
    case rel => exact ⟨_, (decide (a2 > 64)), (by first | rfl | (simp; done) | (simp [*]; done)), H', ⟨by first | omega | exact Nat.le_refl _⟩, ⟨bU_ HB.out⟩⟩
  ·replace c6 := Bool.eq_false_iff.mpr c6
   subst c6
   have H1 : (poly_Split.j0 k a0 l1 a2 true) = some r := by rw [if_neg (show ¬ (false = true) by decide)] at H; exact H
   clear H
   have H := H1
   clear H1
   have H' := Aside0.mk H
   clear H
   go_wp2_with (first | ((with_reducible refine gate_callee (f := 47) rfl ?_); refine goesL_ (some 12) rfl rfl Tryd.func47 (by kernel_rfl) rfl #[.int .i64 a0] rfl (by (try simp only [List.map_toArray, List.map_cons, List.map_nil]); first | done | rfl | (simp only [List.length_drop, List.length_take]; rfl)) ?_; (with_reducible refine (field_Valid.calls a0 false _ A5.out).mono ?_); rintro e w' ⟨rfl, ⟨nd, rfl⟩⟩; refine ⟨_, rfl, ?_⟩))
   go_meet
   case rel => exact ⟨_, (true), (by first | rfl | (simp; done) | (simp [*]; done)), H', ⟨by first | omega | exact Nat.le_refl _⟩, ⟨bU_ HB.out⟩⟩
 case rest =>
  clear HC4
  try clear c1
  try clear p2
  try clear c4
  try clear c6
  try clear c7
  try clear c7b0
  try clear c7b1
  obtain ⟨kq, x21_3, rfl, HA, HJ3, HB⟩ := hcut
  cases kq with
  | zero => exact absurd HA.out (by simp [poly_Split.j0])
  | succ kj3 =>
   have H := HA.out
   clear HA
   simp only [poly_Split.j0] at H
   by_cases c8 : x21_3 = true
   ·subst c8
    have H1 : (some ([] : List (List Int))) = some r := by rw [if_pos rfl] at H; exact H
    clear H
    have H := H1
    clear H1
    obtain rfl := Option.some.inj H
    go_wp2
    go_ret
    exact ⟨_, by first | rfl | (simp [errW_none, errW_some] <;> rfl) | (simp [*, errW_none, errW_some] <;> rfl), by first | exact Kd.S_nil _ _ _ _ _ | exact Kd.N_nil _ _ _ _ _ | exact Kd.V_nil _ _ _ _ _ | exact Kd.Q_nil _ _ _ _ _ | exact Kd.R_nil _ _ _ _ _, bU_ HB.out⟩
   ·replace c8 := Bool.eq_false_iff.mpr c8
    subst c8
    have H1 : (if 0 ≤ a2 then (if (a2 : Int).toNat ≤ 11728124029610 then (poly_Split.l0 kj3 a0 a2 (List.replicate (a2 : Int).toNat []) l1 (l1.length : Int) 0) else (none)) else (none)) = some r := by rw [if_neg (show ¬ (false = true) by decide)] at H; exact H
    clear H
    have H := H1
    clear H1
    by_cases c9 : 0 ≤ a2
    ·rw [if_pos c9] at H
     have c9b0 := eq_true c9
     have c9b1 : decide (0 ≤ a2) = true := decide_eq_true c9
     clear c9
     by_cases c10 : (a2 : Int).toNat ≤ 11728124029610
     ·rw [if_pos c10] at H
      have c10b0 := eq_true c10
      have c10b1 : decide ((a2 : Int).toNat ≤ 11728124029610) = true := decide_eq_true c10
      clear c10
      obtain ⟨y675, hy675⟩ : ∃ y_ : List (List Int), y_ = (List.replicate (a2 : Int).toNat []) := ⟨_, rfl⟩
      replace H : (poly_Split.l0 kj3 a0 a2 y675 l1 (l1.length : Int) 0) = some r := by first | (rw [hy675]; with_reducible exact H) | (have H2_ := (Option.bind_some _ _).symm.trans H; rw [hy675]; with_reducible exact H2_) | (have H2_ := (Option.bind_some _ _).symm.trans H; with_reducible exact H2_) | with_reducible exact H | (rw [hy675]; exact H) | exact H
      have Ny675 := Aside0.mk hy675
      clear hy675
      have H' := Aside0.mk H
      clear H
      go_wp2_with (first | ((with_reducible refine gate_dst (N := 23) rfl ?_); refine Kd.S_make (Kd.slice 32 (Kd.int .u64)) _ 22 rfl (N := 23) rfl 45 _ _ rfl a2 ?hx ?hy Tryd.underlying45 (.slice none 0 0) 24 info22 rfl (by decide) (by omega) [] (ok := fun _ => True) (okp := fun _ => True) ⟨_, rfl, Kd.R_nil _ _ _ _ _⟩ (fun _ hk => hk) trivial (of_decide_eq_true (by first | (with_reducible assumption) | assumption)) (Nat.le_trans (Nat.mul_le_mul_right _ (of_decide_eq_true (by first | (with_reducible assumption) | assumption) : a2.toNat ≤ 11728124029610)) (by omega)) (Below.refl _ _) (Nat.le_refl _) ?_; (case hx => first | rfl); (case hy => first | rfl); intro v676 w11 ho12 hb hg_ hnew_; clear hg_ hnew_; (first | rw [← Ny675.out] at ho12 | (simp only [Int.reduceToNat] at ho12; rw [← Ny675.out] at ho12)); have n0_ := Aside0.mk (Kd.S_lower ho12 (below_size (bU_ HB.out))); have n1_ := Aside0.mk (below_step (bU_ HB.out) hb); clear HB; have HO677 := n0_; have HB := n1_; clear n0_ n1_; clear hb ho12))
      go_loopg [26] kj3 (fun kq v26 w' => ∃ (x7_2 : List (List Int)) (x26_2 : Int), v26 = .int .i64 x26_2 ∧ Aside0 (poly_Split.l0 kq a0 a2 x7_2 l1 (l1.length : Int) x26_2 = some r) ∧ Aside0 (kq ≤ kj3) ∧ Aside0 (Kd.S (Kd.slice 32 (Kd.int .u64)) 22 w' w.heap.size (fun _ => True) v676 x7_2) ∧ Aside0 (Below w.heap.size w w'))
      case atStart => exact ⟨(y675), (0), (by first | rfl | (simp; done) | (simp [*]; done)), H', ⟨Nat.le_refl _⟩, ⟨by (with_reducible repeat (first | apply Kd.S_alloc | apply Kd.S_drewN | apply Kd.S_drew)); exact HO677.out⟩, ⟨bU_ HB.out⟩⟩
      case round =>
       clear H'
       try clear c1
       try clear p2
       try clear c4
       try clear c6
       try clear c7
       try clear c7b0
       try clear c7b1
       try clear c8
       try clear c9
       try clear c9b0
       try clear c9b1
       try clear c10
       try clear c10b0
       try clear c10b1
       try clear p2
       obtain ⟨x7_2, x26_2, rfl, HA, HK2, HO_7, HB⟩ := hrel
       cases gk with
       | zero => exact absurd HA.out (by simp [poly_Split.l0])
       | succ k2 =>
        have H := HA.out
        clear HA
        simp only [poly_Split.l0] at H
        by_cases c13 : x26_2 < (l1.length : Int)
        ·rw [if_pos c13] at H
         have c13b0 : decide (x26_2 < (l1.length : Int)) = true := decide_eq_true c13
         clear c13
         by_cases c14 : 0 ≤ x26_2
         ·rw [if_pos c14] at H
          have c14b0 : decide (0 ≤ x26_2) = true := decide_eq_true c14
          clear c14
          by_cases c15 : x26_2 < (l1.length : Int)
          ·rw [if_pos c15] at H
           have c15b0 : decide (x26_2 < (l1.length : Int)) = true := decide_eq_true c15
           clear c15
           by_cases c16 : a2 = 0
           ·rw [if_pos c16] at H
            exact absurd H (by simp)
           ·rw [if_neg c16] at H
            have c16b0 : (a2 == 0) = false := beq_eq_false_iff_ne.mpr c16
            have c16b1 : (a2 != 0) = true := bne_iff_ne.mpr c16
            obtain ⟨ji17, hji17⟩ : ∃ j_ : Int, (Int.tmod x26_2 a2) = j_ := ⟨_, rfl⟩
            replace H : (if 0 ≤ (ji17) then (if (ji17) < (x7_2.length : Int) then ((field_Reduce.f a0 (rd l1 x26_2)).bind fun t680 => (if (rd_L1 x7_2 (ji17)).length < 17592186044416 then (poly_Split.l0 k2 a0 a2 (x7_2.set ((ji17) : Int).toNat ((rd_L1 x7_2 (ji17)) ++ [t680])) l1 (l1.length : Int) (wrap64 (x26_2 + 1))) else (none))) else (none)) else (none)) = some r := by first | (rw [hji17] at H; exact H) | (simp only [hji17] at H ⊢; exact H)
            by_cases c18 : 0 ≤ (ji17)
            ·rw [if_pos c18] at H
             have c18b0 : decide (0 ≤ (ji17)) = true := decide_eq_true c18
             clear c18
             by_cases c19 : (ji17) < (x7_2.length : Int)
             ·rw [if_pos c19] at H
              have c19b0 : decide ((ji17) < (x7_2.length : Int)) = true := decide_eq_true c19
              clear c19
              replace H := Option.bind_eq_some_iff.mp H
              obtain ⟨t680, A200, H⟩ := H
              replace H : (if (rd_L1 x7_2 (ji17)).length < 17592186044416 then (poly_Split.l0 k2 a0 a2 (x7_2.set ((ji17) : Int).toNat ((rd_L1 x7_2 (ji17)) ++ [t680])) l1 (l1.length : Int) (wrap64 (x26_2 + 1))) else (none)) = some r := H
              have A20 := Aside0.mk A200
              clear A200
              by_cases c21 : (rd_L1 x7_2 (ji17)).length < 17592186044416
              ·rw [if_pos c21] at H
               have LMc21 := Aside0.mk c21
               clear c21
               obtain ⟨y681, hy681⟩ : ∃ y_ : List Int, y_ = ((rd_L1 x7_2 (ji17)) ++ [t680]) := ⟨_, rfl⟩
               replace H : (poly_Split.l0 k2 a0 a2 (x7_2.set ((ji17) : Int).toNat y681) l1 (l1.length : Int) (wrap64 (x26_2 + 1))) = some r := by first | (rw [hy681]; with_reducible exact H) | (have H2_ := (Option.bind_some _ _).symm.trans H; rw [hy681]; with_reducible exact H2_) | (have H2_ := (Option.bind_some _ _).symm.trans H; with_reducible exact H2_) | with_reducible exact H | (rw [hy681]; exact H) | exact H
               have Ny681 := Aside0.mk hy681
               clear hy681
               obtain ⟨y684, hy684⟩ : ∃ y_ : List (List Int), y_ = (x7_2.set ((ji17) : Int).toNat y681) := ⟨_, rfl⟩
               replace H : (poly_Split.l0 k2 a0 a2 y684 l1 (l1.length : Int) (wrap64 (x26_2 + 1))) = some r := by first | (rw [hy684]; with_reducible exact H) | (have H2_ := (Option.bind_some _ _).symm.trans H; rw [hy684]; with_reducible exact H2_) | (have H2_ := (Option.bind_some _ _).symm.trans H; with_reducible exact H2_) | with_reducible exact H | (rw [hy684]; exact H) | exact H
               have Ny684 := Aside0.mk hy684
               clear hy684
               have H' := Aside0.mk H
               clear H
               have p678 : 0 ≤ (x26_2 : Int) := of_decide_eq_true (by first | (with_reducible assumption) | assumption)
               have q678 : x26_2 < (l1.length : Int) := of_decide_eq_true (by first | (with_reducible assumption) | assumption)
               obtain ⟨ad678, e678, hx678_0⟩ := Kd.at_int HR1.out x26_2 p678 q678
               cases e678
               replace hx678_0 := (HB.out.cell (World.block_lt_of_cell? w _ hx678_0)).trans hx678_0
               replace p678 := eq_true p678
               replace q678 := eq_true q678
               try go_wp2
               have n0_ := Aside0.mk (Kd.S_drew HO_7.out)
               have n1_ := Aside0.mk (below_drew1 HB.out)
               clear HO_7
               clear HB
               have HO_7 := n0_
               have HB := n1_
               clear n0_ n1_
               obtain ⟨Ao24, co24, eo24⟩ := Kd.S_slice HO_7.out
               (first | subst eo24 | (injection eo24 with f1_ f2_ f3_; have f4_ := f1_.symm; have f5_ := f3_.symm; clear f1_ f2_ f3_; subst f4_; subst f5_))
               have p679 : 0 ≤ ((ji17) : Int) := of_decide_eq_true (by first | (with_reducible assumption) | assumption)
               have q679 : (ji17) < (x7_2.length : Int) := of_decide_eq_true (by first | (with_reducible assumption) | assumption)
               obtain ⟨ad679, A679_0, c679_0, e679, hx679_0, hl679_0, hi679_0⟩ := at_L1 (Kd.S_reads' HO_7.out).2.2 (ji17) p679 q679
               cases e679
               obtain ⟨ce679, hce679, hMe679, hcc679⟩ := Kd.S_get HO_7.out [] (ji17) p679 (by first | exact q679 | exact of_decide_eq_true (by first | (with_reducible assumption) | assumption) | (have e_ := (Kd.S_reads' HO_7.out).1; omega))
               obtain ⟨ve679_0, rfl, ge679_0⟩ := hMe679
               have hv679_0 := hcc679 0 _ rfl
               rw [Nat.add_zero, show ((Kd.slice 32 (Kd.int .u64))).sz = 1 from rfl, Nat.mul_one] at hv679_0
               replace hv679_0 := Option.some.inj (hv679_0.symm.trans hx679_0)
               rw [hv679_0] at ge679_0
               have HL679_0 := Aside0.mk (show Kd.R (Kd.int .u64) 32 _ _ _ _ (rd_L1 x7_2 (ji17)) from ge679_0)
               clear hv679_0 ge679_0
               have HX679_0 := Aside0.mk hx679_0
               clear hcc679 hce679
               have HR679_0 := Aside0.mk hi679_0
               have HC679_0 := Aside0.mk hl679_0
               clear hi679_0 hl679_0
               replace p679 := eq_true p679
               replace q679 := eq_true q679
               refine start_ (n := 17) (S := fun w' => w'.cell? (ad679.add ((ji17)).toNat) = some (.slice A679_0 (rd_L1 x7_2 (ji17)).length c679_0)) (ds := [16]) #[false, false, false, false, false, false, false, false, false, false, false, false, false, false, false, false, false] (by kernel_rfl) rfl rfl (hx679_0) (fun hHeld => ?_); refine with_tabW poly_Split.tab7 poly_Split.bits7 (fun HT_ HW_ => ?_)
               generalize wr.drew = w23 at HO_7 HB HL679_0 HR679_0 HX679_0 hx679_0 hHeld ⊢
               refine pure_ (i := 0) (N := some 31) (v := ?_) (a' := ?_) #[true, false, false, false, false, false, false, false, false, false, false, false, false, false, false, false, false] rfl rfl (any_of HT_.out (by kernel_rfl)) (fun _ _ _ h => h) (Or.inl ⟨by rfl, ?_⟩) ?_ ?_
               rotate_left
               ·intro w'
                go_simp
                with_reducible rfl
               rotate_left
               ·simp only [Act.put, List.setIfInBounds_toArray, List.set_cons_zero, List.set_cons_succ, i64_w, i32_w]
                rfl
               refine pure_ (i := 1) (N := some 32) (v := ?_) (a' := ?_) #[true, true, false, false, false, false, false, false, false, false, false, false, false, false, false, false, false] rfl rfl (any_of HT_.out (by kernel_rfl)) (fun _ _ _ h => h) (Or.inl ⟨by rfl, ?_⟩) ?_ ?_
               rotate_left
               ·intro w'
                go_simp
                with_reducible rfl
               rotate_left
               ·simp only [Act.put, List.setIfInBounds_toArray, List.set_cons_zero, List.set_cons_succ, i64_w, i32_w]
                rfl
               refine pure_ (i := 2) (N := some 33) (v := ?_) (a' := ?_) #[true, true, true, false, false, false, false, false, false, false, false, false, false, false, false, false, false] rfl rfl (any_of HT_.out (by kernel_rfl)) (fun _ _ _ h => h) (Or.inl ⟨by rfl, ?_⟩) ?_ ?_
               rotate_left
               ·intro w'
                go_simp
                with_reducible rfl
               rotate_left
               ·simp only [Act.put, List.setIfInBounds_toArray, List.set_cons_zero, List.set_cons_succ, i64_w, i32_w]
                rfl
               refine pure_ (i := 3) (N := some 34) (v := ?_) (a' := ?_) #[true, true, true, true, false, false, false, false, false, false, false, false, false, false, false, false, false] rfl rfl (any_of HT_.out (by kernel_rfl)) (fun _ _ _ h => h) (Or.inl ⟨by rfl, ?_⟩) ?_ ?_
               rotate_left
               ·intro w'
                go_simp
                with_reducible rfl
               rotate_left
               ·simp only [Act.put, List.setIfInBounds_toArray, List.set_cons_zero, List.set_cons_succ, i64_w, i32_w]
                rfl
               refine pure_ (i := 4) (N := some 35) (v := ?_) (a' := ?_) #[true, true, true, true, true, false, false, false, false, false, false, false, false, false, false, false, false] rfl rfl (any_of HT_.out (by kernel_rfl)) (fun _ _ _ h => h) (Or.inl ⟨by rfl, ?_⟩) ?_ ?_
               rotate_left
               ·intro w'
                go_simp
                with_reducible rfl
               rotate_left
               ·simp only [Act.put, List.setIfInBounds_toArray, List.set_cons_zero, List.set_cons_succ, i64_w, i32_w]
                rfl
               refine pure_ (i := 5) (N := some 36) (v := ?_) (a' := ?_) #[true, true, true, true, true, true, false, false, false, false, false, false, false, false, false, false, false] rfl rfl (any_of HT_.out (by kernel_rfl)) (fun _ _ _ h => h) (Or.inl ⟨by rfl, ?_⟩) ?_ ?_
               rotate_left
               ·intro w'
                go_simp
                with_reducible rfl
               rotate_left
               ·simp only [Act.put, List.setIfInBounds_toArray, List.set_cons_zero, List.set_cons_succ, i64_w, i32_w]
                rfl
               refine pure_ (i := 6) (N := some 37) (v := ?_) (a' := ?_) #[true, true, true, true, true, true, true, false, false, false, false, false, false, false, false, false, false] rfl rfl (any_of HT_.out (by kernel_rfl)) (fun _ _ _ h => h) (Or.inl ⟨by rfl, ?_⟩) ?_ ?_
               rotate_left
               ·intro w'
                go_simp
                with_reducible rfl
               rotate_left
               ·simp only [Act.put, List.setIfInBounds_toArray, List.set_cons_zero, List.set_cons_succ, i64_w, i32_w]
                rfl
               refine pure_ (i := 7) (N := some 38) (v := ?_) (a' := ?_) #[true, true, true, true, true, true, true, true, false, false, false, false, false, false, false, false, false] rfl rfl (any_of HT_.out (by kernel_rfl)) (fun _ _ _ h => h) (Or.inl ⟨by rfl, ?_⟩) ?_ ?_
               rotate_left
               ·intro w'
                go_simp
                with_reducible rfl
               rotate_left
               ·simp only [Act.put, List.setIfInBounds_toArray, List.set_cons_zero, List.set_cons_succ, i64_w, i32_w]
                rfl
               refine pure_ (i := 8) (N := some 39) (v := ?_) (a' := ?_) #[true, true, true, true, true, true, true, true, true, false, false, false, false, false, false, false, false] rfl rfl (any_of HT_.out (by kernel_rfl)) (fun _ _ _ h => h) (Or.inl ⟨by rfl, ?_⟩) ?_ ?_
               rotate_left
               ·intro w'
                go_simp
                with_reducible rfl
               rotate_left
               ·simp only [Act.put, List.setIfInBounds_toArray, List.set_cons_zero, List.set_cons_succ, i64_w, i32_w]
                rfl
               refine pure_ (i := 10) (N := some 41) (v := ?_) (a' := ?_) #[true, true, true, true, true, true, true, true, true, false, true, false, false, false, false, false, false] rfl rfl (any_of HT_.out (by kernel_rfl)) (fun _ _ _ h => h) (Or.inl ⟨by rfl, ?_⟩) ?_ ?_
               rotate_left
               ·intro w'
                go_simp
                with_reducible rfl
               rotate_left
               ·simp only [Act.put, List.setIfInBounds_toArray, List.set_cons_zero, List.set_cons_succ, i64_w, i32_w]
                rfl
               refine pure_ (i := 11) (N := some 42) (v := ?_) (a' := ?_) #[true, true, true, true, true, true, true, true, true, false, true, true, false, false, false, false, false] rfl rfl (any_of HT_.out (by kernel_rfl)) (fun _ _ _ h => h) (Or.inl ⟨by rfl, ?_⟩) ?_ ?_
               rotate_left
               ·intro w'
                go_simp
                with_reducible rfl
               rotate_left
               ·simp only [Act.put, List.setIfInBounds_toArray, List.set_cons_zero, List.set_cons_succ, i64_w, i32_w]
                rfl
               refine take_ (i := 9) (N := some 40) (v := ?_) (a' := ?_) #[true, true, true, true, true, true, true, true, true, true, true, true, false, false, false, false, false] rfl rfl (take_ofW HT_.out HW_.out (by kernel_rfl)) (fun _ _ _ h => h) (Or.inl ⟨by rfl, ?_⟩) hHeld ?_ ?_
               rotate_left
               ·intro w' s0
                go_simp
                with_reducible rfl
               rotate_left
               ·simp only [Act.put, List.setIfInBounds_toArray, List.set_cons_zero, List.set_cons_succ, i64_w, i32_w]
                rfl
               refine one_ (i := 12) (N := some 43) #[true, true, true, true, true, true, true, true, true, true, true, true, true, false, false, false, false] rfl rfl (one_of HT_.out (by kernel_rfl)) (by decide) (fun K hK => ?_)
               refine goes_ Tryd.func26 (by kernel_rfl) rfl #[.int .i64 a0, .int .u64 (rd l1 x26_2)] (by rfl) rfl rfl (by (try simp only [List.map_toArray, List.map_cons, List.map_nil]); first | done | rfl | (simp only [List.length_drop, List.length_take]; rfl)) ?_
               with_reducible refine (field_Reduce.calls a0 (rd l1 x26_2) t680 _ ?side1 A20.out).mono ?_
               (case side1 => exact fU_ HG.out HB.out)
               rintro e w25 ⟨rfl, hb⟩
               have HS0_ := (hb.cell (World.block_lt_of_cell? _ _ (hHeld))).trans (hHeld)
               refine ⟨_, rfl, ?_⟩
               have n0_ := Aside0.mk (Kd.S_below (by (with_reducible repeat (first | apply Kd.S_alloc | apply Kd.S_drewN | apply Kd.S_drew)); exact HO_7.out) hb)
               have n1_ := Aside0.mk (Kd.R_below (rU_ HL679_0.out) hb)
               have n2_ := Aside0.mk (Kd.C_below (by repeat (first | (with_reducible exact HR679_0.out) | (with_reducible refine Kd.C_alloc ?_ _) | (with_reducible refine Kd.C_drewN ?_ _) | (with_reducible refine Kd.C_drew ?_) | exact HR679_0.out)) hb)
               have n3_ := Aside0.mk (pw_cell_below hb HX679_0.out)
               have n4_ := Aside0.mk (below_step (bU_ HB.out) hb)
               clear HO_7
               clear HL679_0
               clear HR679_0
               clear HX679_0
               clear HB
               have HO_7 := n0_
               have HL679_0 := n1_
               have HR679_0 := n2_
               have HX679_0 := n3_
               have HB := n4_
               clear n0_ n1_ n2_ n3_ n4_
               (try clear hb)
               (try clear hb2)
               (try clear hk)
               (try clear hi)
               obtain ⟨go26, co26, eo26, gb26, gl26, cl26, HG26⟩ := Kd.S_form HO_7.out (by have h_ : ((ji17) : Int) < ((x7_2.length : Int) : Int) := of_decide_eq_true (by first | (with_reducible assumption) | assumption); have h2_ : 0 ≤ ((ji17) : Int) := (of_decide_eq_true (by first | (with_reducible assumption) | assumption)); omega)
               (first | cases eo26 | (injection eo26 with ea_ en_ ec_; (first | subst ea_ | (injection ea_ with ea_; subst ea_)); subst ec_; clear en_))
               have GB26 := Aside0.mk gb26
               have GG26 := Aside0.mk HG26
               clear gb26 gl26 HG26
               (first | simp only [add_plain] at hx679_0 | skip)
               obtain ⟨oki26, ce26, hcl26, hM26, hcc26, _, _, hH26⟩ := Kd.S_elem HO_7.out [] ((ji17) : Int) (of_decide_eq_true (by first | (with_reducible assumption) | assumption)) (by have h_ : ((ji17) : Int) < ((x7_2.length : Int) : Int) := of_decide_eq_true (by first | (with_reducible assumption) | assumption); first | exact h_ | (have e_ := (Kd.S_reads' HO_7.out).1; omega) | simpa using h_)
               obtain ⟨ve26_0, rfl, ge26_0⟩ := hM26
               have hv26 := hcc26 0 _ rfl
               have hX26 := HX679_0.out
               (try simp only [add_plain] at hX26)
               (try simp only [Nat.add_zero] at hv26)
               (try rw [show ((Kd.slice 32 (Kd.int .u64))).sz = 1 from rfl, Nat.mul_one] at hv26)
               replace hv26 := Option.some.inj (hv26.symm.trans hX26)
               subst hv26
               clear hX26 hcc26 hcl26
               have UU26 := Aside0.mk (show Kd.R (Kd.int .u64) 32 _ w.heap.size oki26 (.slice A679_0 (rd_L1 x7_2 (ji17)).length c679_0) (rd_L1 x7_2 (ji17)) from ge26_0)
               have HH26 := Aside0.mk hH26
               have HN26 := Aside0.mk (Kd.S_reads' HO_7.out).1
               clear hH26 ge26_0
               refine hK.out _ _ (HS0_) (fun hHeld => ?_)
               clear hK K
               refine norm_ (a' := ?_) ?_ ?_
               rotate_left
               ·show Act.put _ (some 43) _ = _
                simp only [Act.put, List.setIfInBounds_toArray, List.set_cons_zero, List.set_cons_succ, i64_w, i32_w]
                rfl
               refine one_ (i := 13) (N := some 44) #[true, true, true, true, true, true, true, true, true, true, true, true, true, true, false, false, false] rfl rfl (one_of HT_.out (by kernel_rfl)) (by decide) (fun K hK => ?_)
               refine value_ (w1 := ?_) (v := ?_) (by rfl) rfl ?_ ?_
               rotate_left 2
               ·go_simp
                constructor
                ·rfl
                ·rfl
               refine hK.out _ _ ((World.cell?_alloc_lt _ _ _ (World.block_lt_of_cell? _ _ (hHeld))).trans (hHeld)) (fun hHeld => ?_)
               clear hK K
               refine norm_ (a' := ?_) ?_ ?_
               rotate_left
               ·show Act.put _ (some 44) _ = _
                simp only [Act.put, List.setIfInBounds_toArray, List.set_cons_zero, List.set_cons_succ, i64_w, i32_w]
                rfl
               refine one_ (i := 14) (N := some 45) #[true, true, true, true, true, true, true, true, true, true, true, true, true, true, true, false, false] rfl rfl (one_of HT_.out (by kernel_rfl)) (by decide) (fun K hK => ?_)
               refine Kd.R_append_step (Kd.int .u64) (w0 := w) w.heap.size (by rfl) (.tmp 40) (.tmp 44) 22 32 (.int .u64 0) 8 rfl Tryd.underlying22 info32 rfl (by decide) (by omega) (.slice A679_0 (rd_L1 x7_2 (ji17)).length c679_0) (rd_L1 x7_2 (ji17)) t680 [.int .u64 t680] (fun k_ => oki26 k_ ∨ ((fun _ => True)) k_ ∧ w25.heap.size ≤ k_) (fun _ => False) rfl rfl ?aP (fun _ hk => hk.elim) ?aF ?aO ?aB ?aS ?aL ?_
               (case aP => exact rfl)
               (case aB => exact (bU_ HB.out))
               (case aF => exact (fun k_ hk => .inr ⟨trivial, hk⟩))
               (case aO => exact (by (with_reducible repeat (first | apply Kd.R_alloc | apply Kd.R_drewN | apply Kd.R_drew)); exact Kd.R_mono UU26.out (fun _ hk => .inl hk)))
               (case aS => exact (below_size (bU_ HB.out)))
               (case aL => have := LMc21.out; omega)
               intro v682 w27 ho hb hg hat
               (first | have HS0_ := cell_grown hg (hHeld) (by first | (rw [add_block]; exact (fun e_ => ((HL679_0.out.1 _ e_.symm).2) rfl)) | (show some (Addr.add _ _).block ≠ _; rw [add_block]; exact (fun e_ => ((HL679_0.out.1 _ e_.symm).2) rfl)) | exact (fun e_ => ((HL679_0.out.1 _ e_.symm).2) rfl)) | have HS0_ := cell_grown hg (cell_unalloc (hHeld) (by first | (rw [add_block]; exact Kd.S_lt HO_7.out _ rfl) | (show (Addr.add _ _).block < _; rw [add_block]; exact Kd.S_lt HO_7.out _ rfl) | exact Kd.S_lt HO_7.out _ rfl)) (by first | (rw [add_block]; exact (fun e_ => ((HL679_0.out.1 _ e_.symm).2) rfl)) | (show some (Addr.add _ _).block ≠ _; rw [add_block]; exact (fun e_ => ((HL679_0.out.1 _ e_.symm).2) rfl)) | exact (fun e_ => ((HL679_0.out.1 _ e_.symm).2) rfl)))
               rw [← Ny681.out] at ho
               have n0_ := Aside0.mk (hb)
               have n1_ := Aside0.mk (Kd.H_grown (Kd.H_widen (by repeat (first | exact HH26.out | refine Kd.H_alloc ?_ _ | refine Kd.H_drewN ?_ _ | refine Kd.H_drew ?_))) hg (fun k_ e_ => .inl (UU26.out.1 k_ e_)))
               have n2_ := Aside0.mk (ho)
               clear HB
               clear HH26
               clear HO_7
               clear UU26
               clear HL679_0
               have HB := n0_
               have HH26 := n1_
               have HO683 := n2_
               clear n0_ n1_ n2_
               clear ho hb hg hat
               have p22 : 0 ≤ ((ji17) : Int) := of_decide_eq_true (by first | (with_reducible assumption) | assumption)
               have q22 : ((ji17) : Int) < ((x7_2.length : Int) : Int) := of_decide_eq_true (by first | (with_reducible assumption) | assumption)
               replace p22 := eq_true p22
               replace q22 := eq_true q22
               obtain ⟨Ao30, co30, eo30⟩ := Kd.R_slice HO683.out
               (first | subst eo30 | (injection eo30 with f1_ f2_ f3_; have f4_ := f1_.symm; have f5_ := f3_.symm; clear f1_ f2_ f3_; subst f4_; subst f5_))
               obtain ⟨_, _, hraw28, _, _, hcc28, _⟩ := Kd.H_raw HH26.out (of_decide_eq_true (by first | (with_reducible assumption) | assumption)) (by have h_ : ((ji17) : Int) < ((x7_2.length : Int) : Int) := of_decide_eq_true (by first | (with_reducible assumption) | assumption); first | exact h_ | (have e_ := (HN26.out); omega) | simpa using h_)
               obtain ⟨_, hfr28⟩ := Kd.H_at HH26.out (of_decide_eq_true (by first | (with_reducible assumption) | assumption)) (by have h_ : ((ji17) : Int) < ((x7_2.length : Int) : Int) := of_decide_eq_true (by first | (with_reducible assumption) | assumption); first | exact h_ | (have e_ := (HN26.out); omega) | simpa using h_)
               have hx28_0 := hcc28 0 _ rfl
               have hf28_0 := hfr28 0
               (try simp only [Nat.add_zero] at hx28_0 hf28_0)
               (try rw [show ((Kd.slice 32 (Kd.int .u64))).sz = 1 from rfl, Nat.mul_one] at hx28_0)
               (try rw [show ((Kd.slice 32 (Kd.int .u64))).sz = 1 from rfl, Nat.mul_one] at hf28_0)
               have HP28 := Kd.S_seg0 HH26.out (of_decide_eq_true (by first | (with_reducible assumption) | assumption)) (by have h_ : ((ji17) : Int) < ((x7_2.length : Int) : Int) := of_decide_eq_true (by first | (with_reducible assumption) | assumption); first | exact h_ | (have e_ := (HN26.out); omega) | simpa using h_) (seg := [.slice Ao30 y681.length co30]) (j := 0) (show 1 ≤ 1 from by decide) (x' := y681) (Kd.M_row HO683.out) (fun _ hk => hk)
               (try simp only [show ((Kd.slice 32 (Kd.int .u64))).sz = 1 from rfl, Nat.mul_one, Nat.add_zero] at HP28)
               clear hcc28 hfr28
               have HS28 := HP28.1
               rw [← Ny684.out] at HS28
               have HQ28 := Aside0.mk HS28
               obtain ⟨_, hgg28⟩ := Kd.R_typed hraw28 go26 rfl
               have GG28_ := Aside0.mk hgg28
               clear HP28 HS28 hgg28
               refine hK.out _ _ (HS0_) (fun hHeld => ?_)
               clear hK K
               refine norm_ (a' := ?_) ?_ ?_
               rotate_left
               ·show Act.put _ (some 45) _ = _
                simp only [Act.put, List.setIfInBounds_toArray, List.set_cons_zero, List.set_cons_succ, i64_w, i32_w]
                rfl
               refine pure_ (i := 15) (N := some 46) (v := ?_) (a' := ?_) #[true, true, true, true, true, true, true, true, true, true, true, true, true, true, true, true, false] rfl rfl (any_of HT_.out (by kernel_rfl)) (fun _ _ _ h => h) (Or.inl ⟨by rfl, ?_⟩) ?_ ?_
               rotate_left
               ·intro w'
                go_simp
                with_reducible rfl
               rotate_left
               ·simp only [Act.put, List.setIfInBounds_toArray, List.set_cons_zero, List.set_cons_succ, i64_w, i32_w]
                rfl
               refine last_ (i := 16) (N := none) #[true, true, true, true, true, true, true, true, true, true, true, true, true, true, true, true, true] rfl rfl (one_of HT_.out (by kernel_rfl)) (by decide) (fun K hK => ?_)
               refine skip_ (w1 := ?_) (by rfl) rfl ?_ ?_
               rotate_left
               ·go_simp
                rfl
               refine hK.out _ _ ?_
               clear hK K
               refine done_ (done_of HT_.out (by kernel_rfl)) ?_
               try go_wp2
               go_roundg k2
               case measure => have := HJ3.out; have := HK2.out; omega
               case rel => exact ⟨(y684), (wrap64 (x26_2 + 1)), (by first | rfl | (simp; done) | (simp [*]; done)), H', ⟨by have := HJ3.out; have := HK2.out; omega⟩, ⟨by (with_reducible repeat (first | apply Kd.S_alloc | apply Kd.S_drewN | apply Kd.S_drew)); exact HQ28.out⟩, ⟨by repeat (first | (with_reducible first | exact HB.out | apply below_alloc | apply pw_below_drewN | apply below_drew1 | refine below_set ?_ GB26.out) | exact HB.out)⟩⟩
              ·rw [if_neg c21] at H
               exact absurd H (by simp)
             ·rw [if_neg c19] at H
              exact absurd H (by simp)
            ·rw [if_neg c18] at H
             exact absurd H (by simp)
          ·rw [if_neg c15] at H
           exact absurd H (by simp)
         ·rw [if_neg c14] at H
          exact absurd H (by simp)
        ·rw [if_neg c13] at H
         have c13b0 : decide (x26_2 < (l1.length : Int)) = false := decide_eq_false c13
         clear c13
         have H' := Aside0.mk H
         clear H
         obtain ⟨Ao31, co31, eo31⟩ := Kd.S_slice HO_7.out
         subst eo31
         go_wp2
         go_loopg [50] k2 (fun kq v50 w' => ∃ (x7_3 : List (List Int)) (x50_3 : Int), v50 = .int .i64 x50_3 ∧ Aside0 (poly_Split.l1 kq x7_3 (x7_2.length : Int) x50_3 = some r) ∧ Aside0 (kq ≤ k2) ∧ Aside0 (Kd.S (Kd.slice 32 (Kd.int .u64)) 22 w' w.heap.size (fun _ => True) (.slice Ao31 x7_2.length co31) x7_3) ∧ Aside0 (Below w.heap.size w w'))
         case atStart => exact ⟨(x7_2), (0), (by first | rfl | (simp; done) | (simp [*]; done)), H', ⟨Nat.le_refl _⟩, ⟨by (with_reducible repeat (first | apply Kd.S_alloc | apply Kd.S_drewN | apply Kd.S_drew)); exact HO_7.out⟩, ⟨bU_ HB.out⟩⟩
         case round =>
          clear H'
          try clear c1
          try clear c2
          try clear p2
          try clear q2
          try clear hx2
          try clear c4
          try clear c6
          try clear p6
          try clear q6
          try clear hx6
          try clear c7
          try clear c7b0
          try clear c7b1
          try clear c8
          try clear c9
          try clear c9b0
          try clear c9b1
          try clear c10
          try clear c10b0
          try clear c10b1
          try clear c13
          try clear c13b0
          try clear c14
          try clear c14b0
          try clear c15
          try clear c15b0
          try clear c16
          try clear c16b0
          try clear c16b1
          try clear c18
          try clear c18b0
          try clear c19
          try clear c19b0
          try clear c21
          try clear p22
          try clear q22
          try clear c26
          try clear c28
          try clear hx28
          try clear hf28
          try clear hx28_0
          try clear hx678_0
          try clear hx679_0
          try clear p2
          try clear p22
          try clear p678
          try clear p679
          try clear q22
          try clear q678
          try clear q679
          obtain ⟨x7_3, x50_3, rfl, HA, HK3, HO_7, HB⟩ := hrel
          have hl7_3 := (Kd.S_reads' HO_7.out).1
          rw [hl7_3] at HO_7
          (try simp only [hl7_3])
          cases gk with
          | zero => exact absurd HA.out (by simp [poly_Split.l1])
          | succ k3 =>
           have H := HA.out
           clear HA
           simp only [poly_Split.l1] at H
           by_cases c32 : x50_3 < (x7_2.length : Int)
           ·rw [if_pos c32] at H
            have c32b0 : decide (x50_3 < (x7_2.length : Int)) = true := decide_eq_true c32
            (try (have c32b0r0 := c32b0; simp only [hl7_3] at c32b0r0))
            clear c32
            by_cases c33 : 0 ≤ x50_3
            ·rw [if_pos c33] at H
             have c33b0 : decide (0 ≤ x50_3) = true := decide_eq_true c33
             clear c33
             by_cases c34 : x50_3 < (x7_3.length : Int)
             ·rw [if_pos c34] at H
              have c34b0 : decide (x50_3 < (x7_3.length : Int)) = true := decide_eq_true c34
              clear c34
              replace H := Option.bind_eq_some_iff.mp H
              obtain ⟨t686, A350, H⟩ := H
              replace H : (poly_Split.l1 k3 (x7_3.set (x50_3 : Int).toNat t686) (x7_2.length : Int) (wrap64 (x50_3 + 1))) = some r := H
              have A35 := Aside0.mk A350
              clear A350
              obtain ⟨y689, hy689⟩ : ∃ y_ : List (List Int), y_ = (x7_3.set (x50_3 : Int).toNat t686) := ⟨_, rfl⟩
              replace H : (poly_Split.l1 k3 y689 (x7_2.length : Int) (wrap64 (x50_3 + 1))) = some r := by first | (rw [hy689]; with_reducible exact H) | (have H2_ := (Option.bind_some _ _).symm.trans H; rw [hy689]; with_reducible exact H2_) | (have H2_ := (Option.bind_some _ _).symm.trans H; with_reducible exact H2_) | with_reducible exact H | (rw [hy689]; exact H) | exact H
              have Ny689 := Aside0.mk hy689
              clear hy689
              have H' := Aside0.mk H
              clear H
              have p685 : 0 ≤ (x50_3 : Int) := of_decide_eq_true (by first | (with_reducible assumption) | assumption)
              have q685 : x50_3 < (x7_3.length : Int) := of_decide_eq_true (by first | (with_reducible assumption) | assumption)
              obtain ⟨ad685, A685_0, c685_0, e685, hx685_0, hl685_0, hi685_0⟩ := at_L1 (Kd.S_reads' HO_7.out).2.2 x50_3 p685 q685
              cases e685
              obtain ⟨ce685, hce685, hMe685, hcc685⟩ := Kd.S_get HO_7.out [] x50_3 p685 (by first | exact q685 | exact of_decide_eq_true (by first | (with_reducible assumption) | assumption) | (have e_ := (Kd.S_reads' HO_7.out).1; omega))
              obtain ⟨ve685_0, rfl, ge685_0⟩ := hMe685
              have hv685_0 := hcc685 0 _ rfl
              rw [Nat.add_zero, show ((Kd.slice 32 (Kd.int .u64))).sz = 1 from rfl, Nat.mul_one] at hv685_0
              replace hv685_0 := Option.some.inj (hv685_0.symm.trans hx685_0)
              rw [hv685_0] at ge685_0
              have HL685_0 := Aside0.mk (show Kd.R (Kd.int .u64) 32 _ _ _ _ (rd_L1 x7_3 x50_3) from ge685_0)
              clear hv685_0 ge685_0
              have HX685_0 := Aside0.mk hx685_0
              clear hcc685 hce685
              have HR685_0 := Aside0.mk hi685_0
              have HC685_0 := Aside0.mk hl685_0
              clear hi685_0 hl685_0
              replace p685 := eq_true p685
              replace q685 := eq_true q685
              obtain ⟨go37, co37, eo37, gb37, gl37, cl37, HG37⟩ := Kd.S_form HO_7.out (by have h_ : (x50_3 : Int) < ((x7_3.length : Int) : Int) := of_decide_eq_true (by first | (with_reducible assumption) | assumption); have h2_ : 0 ≤ (x50_3 : Int) := (of_decide_eq_true (by first | (with_reducible assumption) | assumption)); omega)
              (first | cases eo37 | (injection eo37 with ea_ en_ ec_; (first | subst ea_ | (injection ea_ with ea_; subst ea_)); subst ec_; clear en_))
              have GB37 := Aside0.mk gb37
              have GG37 := Aside0.mk HG37
              clear gb37 gl37 HG37
              (first | simp only [add_plain] at hx685_0 | skip)
              obtain ⟨oki37, ce37, hcl37, hM37, hcc37, _, _, hH37⟩ := Kd.S_elem HO_7.out [] (x50_3 : Int) (of_decide_eq_true (by first | (with_reducible assumption) | assumption)) (by have h_ : (x50_3 : Int) < ((x7_3.length : Int) : Int) := of_decide_eq_true (by first | (with_reducible assumption) | assumption); first | exact h_ | (have e_ := (Kd.S_reads' HO_7.out).1; omega) | simpa using h_)
              obtain ⟨ve37_0, rfl, ge37_0⟩ := hM37
              have hv37 := hcc37 0 _ rfl
              have hX37 := HX685_0.out
              (try simp only [add_plain] at hX37)
              (try simp only [Nat.add_zero] at hv37)
              (try rw [show ((Kd.slice 32 (Kd.int .u64))).sz = 1 from rfl, Nat.mul_one] at hv37)
              replace hv37 := Option.some.inj (hv37.symm.trans hX37)
              subst hv37
              clear hX37 hcc37 hcl37
              have UU37 := Aside0.mk (show Kd.R (Kd.int .u64) 32 _ w.heap.size oki37 (.slice A685_0 (rd_L1 x7_3 x50_3).length c685_0) (rd_L1 x7_3 x50_3) from ge37_0)
              have HH37 := Aside0.mk hH37
              have HN37 := Aside0.mk (Kd.S_reads' HO_7.out).1
              clear hH37 ge37_0
              go_wp2_with (first | (go_at_call 56; (with_reducible refine (poly_trim.callsB k3 (fun k_ => oki37 k_ ∨ ((fun _ => True)) k_ ∧ wr.heap.size ≤ k_) w.heap.size (.slice A685_0 (rd_L1 x7_3 x50_3).length c685_0) (rd_L1 x7_3 x50_3) t686 _ ?aO A35.out).mono ?_); (case aO => exact (by (with_reducible repeat (first | apply Kd.R_alloc | apply Kd.R_drewN | apply Kd.R_drew)); exact Kd.R_mono UU37.out (fun _ hk => .inl hk))); rintro e w38 ⟨v687, rfl, ho, hw_⟩; have hb : Below w.heap.size w w38 := (by rw [hw_]; exact (bU_ HB.out)); have hg : World.grownBy wr w38 (.slice A685_0 (rd_L1 x7_3 x50_3).length c685_0 : Value).ownBlock := (by rw [hw_]; exact World.grownBy.refl _ _); have hat := hw_; clear hw_; have n0_ := Aside0.mk (hb); have n1_ := Aside0.mk (Kd.H_grown (Kd.H_widen (by repeat (first | exact HH37.out | refine Kd.H_alloc ?_ _ | refine Kd.H_drewN ?_ _ | refine Kd.H_drew ?_))) hg (fun k_ e_ => .inl (UU37.out.1 k_ e_))); have n2_ := Aside0.mk (ho); clear HB; clear HH37; clear HO_7; clear UU37; clear HL685_0; have HB := n0_; have HH37 := n1_; have HO688 := n2_; clear n0_ n1_ n2_; clear ho hb hg hat; have p36 : 0 ≤ (x50_3 : Int) := of_decide_eq_true (by first | (with_reducible assumption) | assumption); have q36 : (x50_3 : Int) < ((x7_3.length : Int) : Int) := of_decide_eq_true (by first | (with_reducible assumption) | assumption); replace p36 := eq_true p36; replace q36 := eq_true q36; obtain ⟨Ao41, co41, eo41⟩ := Kd.R_slice HO688.out; subst eo41; obtain ⟨_, _, hraw39, _, _, hcc39, _⟩ := Kd.H_raw HH37.out (of_decide_eq_true (by first | (with_reducible assumption) | assumption)) (by have h_ : (x50_3 : Int) < ((x7_3.length : Int) : Int) := of_decide_eq_true (by first | (with_reducible assumption) | assumption); first | exact h_ | (have e_ := (HN37.out); omega) | simpa using h_); obtain ⟨_, hfr39⟩ := Kd.H_at HH37.out (of_decide_eq_true (by first | (with_reducible assumption) | assumption)) (by have h_ : (x50_3 : Int) < ((x7_3.length : Int) : Int) := of_decide_eq_true (by first | (with_reducible assumption) | assumption); first | exact h_ | (have e_ := (HN37.out); omega) | simpa using h_); have hx39_0 := hcc39 0 _ rfl; have hf39_0 := hfr39 0; (try simp only [Nat.add_zero] at hx39_0 hf39_0); (try rw [show ((Kd.slice 32 (Kd.int .u64))).sz = 1 from rfl, Nat.mul_one] at hx39_0); (try rw [show ((Kd.slice 32 (Kd.int .u64))).sz = 1 from rfl, Nat.mul_one] at hf39_0); have HP39 := Kd.S_seg0 HH37.out (of_decide_eq_true (by first | (with_reducible assumption) | assumption)) (by have h_ : (x50_3 : Int) < ((x7_3.length : Int) : Int) := of_decide_eq_true (by first | (with_reducible assumption) | assumption); first | exact h_ | (have e_ := (HN37.out); omega) | simpa using h_) (seg := [.slice Ao41 t686.length co41]) (j := 0) (show 1 ≤ 1 from by decide) (x' := t686) (Kd.M_row HO688.out) (fun _ hk => hk); (try simp only [show ((Kd.slice 32 (Kd.int .u64))).sz = 1 from rfl, Nat.mul_one, Nat.add_zero] at HP39); clear hcc39 hfr39) | ((with_reducible refine gate_store (t := 22) (p := 60) rfl ?_); refine store_event (t := 22) (p := 60) (v := ?vo_w40) (w1 := (w38.setCell ⟨go37, (x50_3 : Int).toNat, none⟩ (.slice Ao41 t686.length co41))) ?hg ?ho ?hn ?hr ?_; (case ho => rfl); (case hg => rfl); (case hn => rfl); (case hr => first | (go_simp; done) | (go_simp; rfl)); intro w40 hw; have hg : w38.grownBy w40 (some go37) := (by rw [hw]; exact HP39.2); have hp_ : Kd.S (Kd.slice 32 (Kd.int .u64)) 22 w40 w.heap.size (fun _ => True) (.slice (some ⟨go37, 0, none⟩) x7_3.length co31) y689 := (by rw [hw, Ny689.out]; exact HP39.1); clear HP39; have n0_ := Aside0.mk ((by rw [hw]; exact below_set HB.out GB37.out : Below w.heap.size w w40)); have n1_ := Aside0.mk (hp_); clear HB; clear HO688; clear HH37; have HB := n0_; have HO_7 := n1_; clear n0_ n1_; clear hg hw hp_ hraw39))
              (try simp only [← hl7_3])
              go_roundg k3
              case measure => have := HJ3.out; have := HK2.out; have := HK3.out; omega
              case rel => exact ⟨(y689), (wrap64 (x50_3 + 1)), (by first | rfl | (simp; done) | (simp [*]; done)), H', ⟨by have := HJ3.out; have := HK2.out; have := HK3.out; omega⟩, ⟨by (try simp only [hl7_3]); (with_reducible repeat (first | apply Kd.S_alloc | apply Kd.S_drewN | apply Kd.S_drew)); exact HO_7.out⟩, ⟨bU_ HB.out⟩⟩
             ·rw [if_neg c34] at H
              exact absurd H (by simp)
            ·rw [if_neg c33] at H
             exact absurd H (by simp)
           ·rw [if_neg c32] at H
            have c32b0 : decide (x50_3 < (x7_2.length : Int)) = false := decide_eq_false c32
            (try (have c32b0r0 := c32b0; simp only [hl7_3] at c32b0r0))
            clear c32
            obtain rfl := Option.some.inj H
            go_wp2
            go_ret
            exact ⟨_, by first | rfl | (simp [errW_none, errW_some] <;> rfl) | (simp [*, errW_none, errW_some] <;> rfl), by (with_reducible repeat (first | apply Kd.S_alloc | apply Kd.S_drewN | apply Kd.S_drew)); exact HO_7.out, bU_ HB.out⟩
     ·rw [if_neg c10] at H
      exact absurd H (by simp)
    ·rw [if_neg c9] at H
     exact absurd H (by simp)

/-! ### poly_Join: function 42 -/
mutual
def poly_Join.l0 : Nat → Int → List (List Int) → Int → Int → List (List Int) → Int → Int → Option (List Int)
 | 0, _, _, _, _, _, _, _ => none
 | k + 1, x0, x1, x5, x6, x18, x19, x20 => if x20 < x19 then (if 0 ≤ x20 then (if x20 < (x18.length : Int) then (poly_Join.l0 k x0 x1 x5 (mx x6 ((rd_L1 x18 x20).length : Int)) x18 x19 (wrap64 (x20 + 1))) else (none)) else (none)) else (if 0 ≤ (wrap64 (x6 * x5)) then (if (wrap64 (x6 * x5) : Int).toNat ≤ 35184372088832 then (poly_Join.l1 k x0 x5 (List.replicate (wrap64 (x6 * x5) : Int).toNat 0) x1 (x1.length : Int) 0) else (none)) else (none))
def poly_Join.l1 : Nat → Int → Int → List Int → List (List Int) → Int → Int → Option (List Int)
 | 0, _, _, _, _, _, _ => none
 | k + 1, x0, x5, x9, x33, x34, x35 => if x35 < x34 then (if 0 ≤ x35 then (if x35 < (x33.length : Int) then (poly_Join.l2 k x0 x5 x9 x35 x33 x34 x35 (rd_L1 x33 x35) ((rd_L1 x33 x35).length : Int) 0) else (none)) else (none)) else ((poly_Normal.f k x0 x9).bind fun t705 => (some t705))
def poly_Join.l2 : Nat → Int → Int → List Int → Int → List (List Int) → Int → Int → List Int → Int → Int → Option (List Int)
 | 0, _, _, _, _, _, _, _, _, _, _ => none
 | k + 1, x0, x5, x9, x10, x33, x34, x35, x40, x41, x42 => if x42 < x41 then (if 0 ≤ x42 then (if x42 < (x40.length : Int) then (if 0 ≤ (wrap64 ((wrap64 (x42 * x5)) + x10)) then (if (wrap64 ((wrap64 (x42 * x5)) + x10)) < (x9.length : Int) then (poly_Join.l2 k x0 x5 (x9.set ((wrap64 ((wrap64 (x42 * x5)) + x10)) : Int).toNat (rd x40 x42)) x10 x33 x34 x35 x40 x41 (wrap64 (x42 + 1))) else (none)) else (none)) else (none)) else (none)) else (poly_Join.l1 k x0 x5 x9 x33 x34 (wrap64 (x35 + 1)))
end
def poly_Join.f (k : Nat) (a0 : Int) (l1 : List (List Int)) : Option (List Int) := if (l1.length : Int) > 64 then (some ([] : List Int)) else (poly_Join.l0 k a0 l1 (l1.length : Int) 0 l1 (l1.length : Int) 0)
set_option maxHeartbeats 8000000 in
set_option maxRecDepth 100000 in
theorem poly_Join.calls (k : Nat) (a0 : Int) (A1 : Option Addr) (c1 : Nat) (l1 : List (List Int)) (r : List Int) (w : World) (hG : Fld w) (hr1 : Kd.C (Kd.slice 32 (Kd.int .u64)) w A1 l1.length l1) (hc1 : l1.length ≤ c1) (h : poly_Join.f k a0 l1 = some r) :
  Calls Tryd.prog 42 #[.int .i64 a0, .slice A1 l1.length c1] w fun e w' => ∃ v0_ : Value, e = .returned (v0_) ∧ Kd.R (Kd.int .u64) 32 w' w.heap.size (fun _ => True) v0_ r ∧ Below w.heap.size w w' := by
 have HG := Aside0.mk hG
 clear hG
 have HR1 := Aside0.mk hr1
 have HC1 := Aside0.mk hc1
 clear hr1 hc1
 have HB := Aside0.mk (Below.refl w.heap.size w)
 have H : (if (l1.length : Int) > 64 then (some ([] : List Int)) else (poly_Join.l0 k a0 l1 (l1.length : Int) 0 l1 (l1.length : Int) 0)) = some r := h
 clear h
 by_cases c3 : (l1.length : Int) > 64
 ·rw [if_pos c3] at H
  have c3b0 : decide (64 < (l1.length : Int)) = true := decide_eq_true c3
  have c3b1 : decide (64 < l1.length) = true := decide_eq_true (by omega)
  clear c3
  obtain rfl := Option.some.inj H
  go_enter Tryd.func42, Tryd.ntmps42
  go_wp2
  go_ret
  exact ⟨_, by first | rfl | (simp [errW_none, errW_some] <;> rfl) | (simp [*, errW_none, errW_some] <;> rfl), by first | exact Kd.R_nil _ _ _ _ _ | exact Kd.N_nil _ _ _ _ _ | exact Kd.V_nil _ _ _ _ _ | exact Kd.Q_nil _ _ _ _ _ | exact Kd.S_nil _ _ _ _ _, bU_ HB.out⟩
 ·rw [if_neg c3] at H
  have c3b0 : decide (64 < (l1.length : Int)) = false := decide_eq_false c3
  have c3b1 : decide (64 < l1.length) = false := decide_eq_false (by omega)
  clear c3
  have H' := Aside0.mk H
  clear H
  go_enter Tryd.func42, Tryd.ntmps42
  go_wp2
  go_loopg [6, 20] k (fun kq v6 v20 w' => ∃ (x6_1 : Int) (x20_1 : Int), v6 = .int .i64 x6_1 ∧ v20 = .int .i64 x20_1 ∧ Aside0 (poly_Join.l0 kq a0 l1 (l1.length : Int) x6_1 l1 (l1.length : Int) x20_1 = some r) ∧ Aside0 (kq ≤ k) ∧ Aside0 (Below w.heap.size w w'))
  case atStart => exact ⟨(0), (0), (by first | rfl | (simp; done) | (simp [*]; done)), (by first | rfl | (simp; done) | (simp [*]; done)), H', ⟨Nat.le_refl _⟩, ⟨bU_ HB.out⟩⟩
  case round =>
   clear H'
   try clear c1
   try clear p2
   try clear c3
   try clear c3b0
   try clear c3b1
   obtain ⟨x6_1, x20_1, rfl, rfl, HA, HK1, HB⟩ := hrel
   cases gk with
   | zero => exact absurd HA.out (by simp [poly_Join.l0])
   | succ k1 =>
    have H := HA.out
    clear HA
    simp only [poly_Join.l0] at H
    by_cases c4 : x20_1 < (l1.length : Int)
    ·rw [if_pos c4] at H
     have c4b0 : decide (x20_1 < (l1.length : Int)) = true := decide_eq_true c4
     clear c4
     by_cases c5 : 0 ≤ x20_1
     ·rw [if_pos c5] at H
      have c5b0 : decide (0 ≤ x20_1) = true := decide_eq_true c5
      clear c5
      by_cases c6 : x20_1 < (l1.length : Int)
      ·rw [if_pos c6] at H
       have c6b0 : decide (x20_1 < (l1.length : Int)) = true := decide_eq_true c6
       clear c6
       obtain ⟨ji7, hji7⟩ : ∃ j_ : Int, (mx x6_1 ((rd_L1 l1 x20_1).length : Int)) = j_ := ⟨_, rfl⟩
       replace H : (poly_Join.l0 k1 a0 l1 (l1.length : Int) ji7 l1 (l1.length : Int) (wrap64 (x20_1 + 1))) = some r := by first | (rw [hji7] at H; exact H) | (simp only [hji7] at H ⊢; exact H)
       have hji7_ : (if x6_1 < ((rd_L1 l1 x20_1).length : Int) then ((rd_L1 l1 x20_1).length : Int) else x6_1) = ji7 := hji7
       have H' := Aside0.mk H
       clear H
       have p701 : 0 ≤ (x20_1 : Int) := of_decide_eq_true (by first | (with_reducible assumption) | assumption)
       have q701 : x20_1 < (l1.length : Int) := of_decide_eq_true (by first | (with_reducible assumption) | assumption)
       obtain ⟨ad701, A701_0, c701_0, e701, hx701_0, hl701_0, hi701_0⟩ := at_L1 HR1.out x20_1 p701 q701
       cases e701
       replace hx701_0 := (HB.out.cell (World.block_lt_of_cell? w _ hx701_0)).trans hx701_0
       have HR701_0 := Aside0.mk hi701_0
       have HC701_0 := Aside0.mk hl701_0
       clear hi701_0 hl701_0
       replace p701 := eq_true p701
       replace q701 := eq_true q701
       go_wp2
       go_roundg k1
       case measure => have := HK1.out; omega
       case rel => exact ⟨(ji7), (wrap64 (x20_1 + 1)), (by first | rfl | (simp; done) | (simp only [← hji7] <;> (first | rfl | simp)) | (simp [*]; done)), (by first | rfl | (simp; done) | (simp [*]; done)), H', ⟨by have := HK1.out; omega⟩, ⟨bU_ HB.out⟩⟩
      ·rw [if_neg c6] at H
       exact absurd H (by simp)
     ·rw [if_neg c5] at H
      exact absurd H (by simp)
    ·rw [if_neg c4] at H
     have c4b0 : decide (x20_1 < (l1.length : Int)) = false := decide_eq_false c4
     clear c4
     obtain ⟨ji8, hji8⟩ : ∃ j_ : Int, (wrap64 (x6_1 * (l1.length : Int))) = j_ := ⟨_, rfl⟩
     replace H : (if 0 ≤ (ji8) then (if (ji8 : Int).toNat ≤ 35184372088832 then (poly_Join.l1 k1 a0 (l1.length : Int) (List.replicate (ji8 : Int).toNat 0) l1 (l1.length : Int) 0) else (none)) else (none)) = some r := by first | (rw [hji8] at H; exact H) | (simp only [hji8] at H ⊢; exact H)
     have hji8w : (IntKind.i64.wrap (x6_1 * (l1.length : Int))) = ji8 := (i64_w _).trans hji8
     by_cases c9 : 0 ≤ (ji8)
     ·rw [if_pos c9] at H
      have c9b0 := eq_true c9
      have c9b1 : decide (0 ≤ (ji8)) = true := decide_eq_true c9
      clear c9
      by_cases c10 : (ji8 : Int).toNat ≤ 35184372088832
      ·rw [if_pos c10] at H
       have c10b0 := eq_true c10
       have c10b1 : decide ((ji8 : Int).toNat ≤ 35184372088832) = true := decide_eq_true c10
       clear c10
       obtain ⟨y702, hy702⟩ : ∃ y_ : List Int, y_ = (List.replicate (ji8 : Int).toNat 0) := ⟨_, rfl⟩
       replace H : (poly_Join.l1 k1 a0 (l1.length : Int) y702 l1 (l1.length : Int) 0) = some r := by first | (rw [hy702]; with_reducible exact H) | (have H2_ := (Option.bind_some _ _).symm.trans H; rw [hy702]; with_reducible exact H2_) | (have H2_ := (Option.bind_some _ _).symm.trans H; with_reducible exact H2_) | with_reducible exact H | (rw [hy702]; exact H) | exact H
       have Ny702 := Aside0.mk hy702
       clear hy702
       have H' := Aside0.mk H
       clear H
       go_wp2_with (first | ((with_reducible refine gate_dst (N := 32) rfl ?_); refine Kd.R_make (Kd.int .u64) _ 32 rfl (N := 32) rfl 22 _ _ rfl ji8 ?hx ?hy Tryd.underlying22 (.int .u64 0) 8 info32 rfl (by decide) (by omega) 0 (ok := fun _ => True) (okp := fun _ => True) rfl (fun _ hk => hk) trivial (of_decide_eq_true (by first | (with_reducible assumption) | assumption)) (Nat.le_trans (Nat.mul_le_mul_right _ (of_decide_eq_true (by first | (with_reducible assumption) | assumption) : ji8.toNat ≤ 35184372088832)) (by omega)) (Below.refl _ _) (Nat.le_refl _) ?_; (case hx => first | rfl | (simp only [hji8]; rfl)); (case hy => first | rfl | (simp only [hji8]; rfl)); intro v703 w11 ho12 hb hg_ hnew_; clear hg_ hnew_; (first | rw [← Ny702.out] at ho12 | (simp only [Int.reduceToNat] at ho12; rw [← Ny702.out] at ho12)); have n0_ := Aside0.mk (Kd.R_lower ho12 (below_size (bU_ HB.out))); have n1_ := Aside0.mk (below_step (bU_ HB.out) hb); clear HB; have HO704 := n0_; have HB := n1_; clear n0_ n1_; clear hb ho12))
       go_loopg [35] k1 (fun kq v35 w' => ∃ (x9_2 : List Int) (x35_2 : Int), v35 = .int .i64 x35_2 ∧ Aside0 (poly_Join.l1 kq a0 (l1.length : Int) x9_2 l1 (l1.length : Int) x35_2 = some r) ∧ Aside0 (kq ≤ k1) ∧ Aside0 (Kd.R (Kd.int .u64) 32 w' w.heap.size (fun _ => True) v703 x9_2) ∧ Aside0 (Below w.heap.size w w'))
       case atStart => exact ⟨(y702), (0), (by first | rfl | (simp; done) | (simp [*]; done)), H', ⟨Nat.le_refl _⟩, ⟨rU_ HO704.out⟩, ⟨bU_ HB.out⟩⟩
       case round =>
        clear H'
        try clear c1
        try clear p2
        try clear c3
        try clear c3b0
        try clear c3b1
        try clear c4
        try clear c4b0
        try clear c5
        try clear c5b0
        try clear c6
        try clear c6b0
        try clear p6
        try clear c7
        try clear p7
        try clear q7
        try clear hx7
        try clear c9
        try clear c9b0
        try clear c9b1
        try clear c10
        try clear c10b0
        try clear c10b1
        try clear hx701_0
        try clear p2
        try clear p701
        try clear q701
        obtain ⟨x9_2, x35_2, rfl, HA, HK2, HO_9, HB⟩ := hrel
        cases gk with
        | zero => exact absurd HA.out (by simp [poly_Join.l1])
        | succ k2 =>
         have H := HA.out
         clear HA
         simp only [poly_Join.l1] at H
         by_cases c13 : x35_2 < (l1.length : Int)
         ·rw [if_pos c13] at H
          have c13b0 : decide (x35_2 < (l1.length : Int)) = true := decide_eq_true c13
          clear c13
          by_cases c14 : 0 ≤ x35_2
          ·rw [if_pos c14] at H
           have c14b0 : decide (0 ≤ x35_2) = true := decide_eq_true c14
           clear c14
           by_cases c15 : x35_2 < (l1.length : Int)
           ·rw [if_pos c15] at H
            have c15b0 : decide (x35_2 < (l1.length : Int)) = true := decide_eq_true c15
            clear c15
            have H' := Aside0.mk H
            clear H
            have p708 : 0 ≤ (x35_2 : Int) := of_decide_eq_true (by first | (with_reducible assumption) | assumption)
            have q708 : x35_2 < (l1.length : Int) := of_decide_eq_true (by first | (with_reducible assumption) | assumption)
            obtain ⟨ad708, A708_0, c708_0, e708, hx708_0, hl708_0, hi708_0⟩ := at_L1 HR1.out x35_2 p708 q708
            cases e708
            replace hx708_0 := (HB.out.cell (World.block_lt_of_cell? w _ hx708_0)).trans hx708_0
            have HR708_0 := Aside0.mk hi708_0
            have HC708_0 := Aside0.mk hl708_0
            clear hi708_0 hl708_0
            replace p708 := eq_true p708
            replace q708 := eq_true q708
            go_wp2
            go_loopg [42] k2 (fun kq v42 w' => ∃ (x9_3 : List Int) (x42_3 : Int), v42 = .int .i64 x42_3 ∧ Aside0 (poly_Join.l2 kq a0 (l1.length : Int) x9_3 x35_2 l1 (l1.length : Int) x35_2 (rd_L1 l1 x35_2) ((rd_L1 l1 x35_2).length : Int) x42_3 = some r) ∧ Aside0 (kq ≤ k2) ∧ Aside0 (Kd.R (Kd.int .u64) 32 w' w.heap.size (fun _ => True) v703 x9_3) ∧ Aside0 (Below w.heap.size w w'))
            case atStart => exact ⟨(x9_2), (0), (by first | rfl | (simp; done) | (simp [*]; done)), H', ⟨Nat.le_refl _⟩, ⟨rU_ HO_9.out⟩, ⟨bU_ HB.out⟩⟩
            case round =>
             clear H'
             try clear c1
             try clear p2
             try clear c3
             try clear c3b0
             try clear c3b1
             try clear c4
             try clear c4b0
             try clear c5
             try clear c5b0
             try clear c6
             try clear c6b0
             try clear p6
             try clear c7
             try clear p7
             try clear q7
             try clear hx7
             try clear c9
             try clear c9b0
             try clear c9b1
             try clear c10
             try clear c10b0
             try clear c10b1
             try clear c13
             try clear c13b0
             try clear c14
             try clear c14b0
             try clear c15
             try clear c15b0
             try clear hx701_0
             try clear hx708_0
             try clear p2
             try clear p6
             try clear p7
             try clear p701
             try clear p708
             try clear q7
             try clear q701
             try clear q708
             obtain ⟨x9_3, x42_3, rfl, HA, HK3, HO_9, HB⟩ := hrel
             cases gk with
             | zero => exact absurd HA.out (by simp [poly_Join.l2])
             | succ k3 =>
              have H := HA.out
              clear HA
              simp only [poly_Join.l2] at H
              by_cases c16 : x42_3 < ((rd_L1 l1 x35_2).length : Int)
              ·rw [if_pos c16] at H
               have c16b0 : decide (x42_3 < ((rd_L1 l1 x35_2).length : Int)) = true := decide_eq_true c16
               clear c16
               by_cases c17 : 0 ≤ x42_3
               ·rw [if_pos c17] at H
                have c17b0 : decide (0 ≤ x42_3) = true := decide_eq_true c17
                clear c17
                by_cases c18 : x42_3 < ((rd_L1 l1 x35_2).length : Int)
                ·rw [if_pos c18] at H
                 have c18b0 : decide (x42_3 < ((rd_L1 l1 x35_2).length : Int)) = true := decide_eq_true c18
                 clear c18
                 obtain ⟨ji19, hji19⟩ : ∃ j_ : Int, (wrap64 ((wrap64 (x42_3 * (l1.length : Int))) + x35_2)) = j_ := ⟨_, rfl⟩
                 replace H : (if 0 ≤ (ji19) then (if (ji19) < (x9_3.length : Int) then (poly_Join.l2 k3 a0 (l1.length : Int) (x9_3.set ((ji19) : Int).toNat (rd (rd_L1 l1 x35_2) x42_3)) x35_2 l1 (l1.length : Int) x35_2 (rd_L1 l1 x35_2) ((rd_L1 l1 x35_2).length : Int) (wrap64 (x42_3 + 1))) else (none)) else (none)) = some r := by first | (rw [hji19] at H; exact H) | (simp only [hji19] at H ⊢; exact H)
                 have hji19w : (IntKind.i64.wrap ((wrap64 (x42_3 * (l1.length : Int))) + x35_2)) = ji19 := (i64_w _).trans hji19
                 by_cases c20 : 0 ≤ (ji19)
                 ·rw [if_pos c20] at H
                  have c20b0 : decide (0 ≤ (ji19)) = true := decide_eq_true c20
                  clear c20
                  by_cases c21 : (ji19) < (x9_3.length : Int)
                  ·rw [if_pos c21] at H
                   have c21b0 : decide ((ji19) < (x9_3.length : Int)) = true := decide_eq_true c21
                   clear c21
                   obtain ⟨y710, hy710⟩ : ∃ y_ : List Int, y_ = (x9_3.set ((ji19) : Int).toNat (rd (rd_L1 l1 x35_2) x42_3)) := ⟨_, rfl⟩
                   replace H : (poly_Join.l2 k3 a0 (l1.length : Int) y710 x35_2 l1 (l1.length : Int) x35_2 (rd_L1 l1 x35_2) ((rd_L1 l1 x35_2).length : Int) (wrap64 (x42_3 + 1))) = some r := by first | (rw [hy710]; with_reducible exact H) | (have H2_ := (Option.bind_some _ _).symm.trans H; rw [hy710]; with_reducible exact H2_) | (have H2_ := (Option.bind_some _ _).symm.trans H; with_reducible exact H2_) | with_reducible exact H | (rw [hy710]; exact H) | exact H
                   have Ny710 := Aside0.mk hy710
                   clear hy710
                   have H' := Aside0.mk H
                   clear H
                   have p709 : 0 ≤ (x42_3 : Int) := of_decide_eq_true (by first | (with_reducible assumption) | assumption)
                   have q709 : x42_3 < ((rd_L1 l1 x35_2).length : Int) := of_decide_eq_true (by first | (with_reducible assumption) | assumption)
                   obtain ⟨ad709, e709, hx709_0⟩ := Kd.at_int HR708_0.out x42_3 p709 q709
                   cases e709
                   replace hx709_0 := (HB.out.cell (World.block_lt_of_cell? w _ hx709_0)).trans hx709_0
                   replace p709 := eq_true p709
                   replace q709 := eq_true q709
                   have p22 : 0 ≤ ((ji19) : Int) := of_decide_eq_true (by first | (with_reducible assumption) | assumption)
                   have q22 : ((ji19) : Int) < ((x9_3.length : Int) : Int) := of_decide_eq_true (by first | (with_reducible assumption) | assumption)
                   obtain ⟨go22, co22, eo22, gb22, gl22, cl22, HG22⟩ := Kd.R_form HO_9.out (by omega)
                   (first | cases eo22 | (injection eo22 with ea_ en_ ec_; (first | subst ea_ | (injection ea_ with ea_; subst ea_)); subst ec_; clear en_))
                   have GB22 := Aside0.mk gb22
                   have GG22 := Aside0.mk HG22
                   clear gb22 gl22 HG22
                   obtain ⟨hx22_0, hf22_0⟩ := Kd.R_celln 0 HO_9.out ((ji19) : Int) p22 q22
                   replace p22 := eq_true p22
                   replace q22 := eq_true q22
                   have HP23 := Kd.R_putg HO_9.out ((ji19) : Int) (rd (rd_L1 l1 x35_2) x42_3)
                   go_wp2_with (first | ((with_reducible refine gate_store (t := 32) (p := 54) rfl ?_); refine store_event (t := 32) (p := 54) (v := ?vo_w24) (w1 := (wr.setCell ⟨go22, ((ji19) : Int).toNat, none⟩ (.int .u64 (rd (rd_L1 l1 x35_2) x42_3)))) ?hg ?ho ?hn ?hr ?_; (case ho => rfl); (case hg => rfl); (case hn => rfl); (case hr => first | (go_simp; done) | (go_simp; rfl)); intro w24 hw; have hg : wr.grownBy w24 (some go22) := (by rw [hw]; exact HP23.2); have hp_ : Kd.R (Kd.int .u64) 32 w24 w.heap.size (fun _ => True) (.slice (some ⟨go22, 0, none⟩) x9_3.length co22) y710 := (by rw [hw, Ny710.out]; exact HP23.1); clear HP23; have n0_ := Aside0.mk (hp_); have n1_ := Aside0.mk ((by rw [hw]; exact below_set (HB.out) GB22.out : Below w.heap.size w w24)); clear HO_9; clear HB; have HO_9 := n0_; have HB := n1_; clear n0_ n1_; clear hg hw hp_))
                   go_roundg k3
                   case measure => have := HK1.out; have := HK2.out; have := HK3.out; omega
                   case rel => exact ⟨(y710), (wrap64 (x42_3 + 1)), (by first | rfl | (simp; done) | (simp [*]; done)), H', ⟨by have := HK1.out; have := HK2.out; have := HK3.out; omega⟩, ⟨rU_ HO_9.out⟩, ⟨bU_ HB.out⟩⟩
                  ·rw [if_neg c21] at H
                   exact absurd H (by simp)
                 ·rw [if_neg c20] at H
                  exact absurd H (by simp)
                ·rw [if_neg c18] at H
                 exact absurd H (by simp)
               ·rw [if_neg c17] at H
                exact absurd H (by simp)
              ·rw [if_neg c16] at H
               have c16b0 : decide (x42_3 < ((rd_L1 l1 x35_2).length : Int)) = false := decide_eq_false c16
               clear c16
               have H' := Aside0.mk H
               clear H
               go_wp2
               go_roundg k3
               case measure => have := HK1.out; have := HK2.out; have := HK3.out; omega
               case rel => exact ⟨(x9_3), (wrap64 (x35_2 + 1)), (by first | rfl | (simp; done) | (simp [*]; done)), H', ⟨by have := HK1.out; have := HK2.out; have := HK3.out; omega⟩, ⟨rU_ HO_9.out⟩, ⟨bU_ HB.out⟩⟩
           ·rw [if_neg c15] at H
            exact absurd H (by simp)
          ·rw [if_neg c14] at H
           exact absurd H (by simp)
         ·rw [if_neg c13] at H
          have c13b0 : decide (x35_2 < (l1.length : Int)) = false := decide_eq_false c13
          clear c13
          replace H := Option.bind_eq_some_iff.mp H
          obtain ⟨t705, A250, H⟩ := H
          replace H : (some t705) = some r := H
          have A25 := Aside0.mk A250
          clear A250
          obtain rfl := Option.some.inj H
          obtain ⟨Ao26, co26, eo26⟩ := Kd.R_slice HO_9.out
          subst eo26
          go_wp2_with (first | ((with_reducible refine gate_callee (f := 23) rfl ?_); refine goesL_ (some 59) rfl rfl Tryd.func23 (by kernel_rfl) rfl #[.int .i64 a0, .slice Ao26 x9_2.length co26] rfl (by (try simp only [List.map_toArray, List.map_cons, List.map_nil]); first | done | rfl | (simp only [List.length_drop, List.length_take]; rfl)) ?_; (with_reducible refine (poly_Normal.calls k2 a0 _ _ x9_2 t705 _ ?side1 ?side2 ?side3 A25.out).mono ?_); (case side1 => exact fU_ HG.out HB.out); (case side2 => repeat (first | exact (Kd.R_reads' HO_9.out).2.2 | (with_reducible refine Kd.C_alloc ?_ _) | (with_reducible refine Kd.C_drewN ?_ _) | (with_reducible refine Kd.C_drew ?_))); (case side3 => exact (Kd.R_reads' HO_9.out).2.1); rintro e w27 ⟨v706, rfl, ho0, hb⟩; refine ⟨_, rfl, ?_⟩; have n0_ := Aside0.mk (Kd.R_elder' (rU_ HO_9.out) (Kd.R_base ho0) hb); have n1_ := Aside0.mk (Kd.R_lower (Kd.R_new' ho0 (Kd.R_lt (rU_ HO_9.out))) (below_size (bU_ HB.out))); have n2_ := Aside0.mk (below_step (bU_ HB.out) hb); clear HO_9; clear HB; have HO_9 := n0_; have HO707 := n1_; have HB := n2_; clear n0_ n1_ n2_; (try clear hb); (try clear hb2); (try clear hk); (try clear hi); (try clear ho0)))
          go_ret
          exact ⟨_, by first | rfl | (simp [errW_none, errW_some] <;> rfl) | (simp only [← hji8]; first | rfl | (simp [errW_none, errW_some] <;> rfl)) | (simp [*, errW_none, errW_some] <;> rfl), by (with_reducible repeat (first | apply Kd.R_alloc | apply Kd.R_drewN | apply Kd.R_drew)); exact Kd.R_mono HO707.out (fun _ hk => trivial), bU_ HB.out⟩
      ·rw [if_neg c10] at H
       exact absurd H (by simp)
     ·rw [if_neg c9] at H
      exact absurd H (by simp)

end Go.Proofs.YtmnahhacobfafaaDoor.Q

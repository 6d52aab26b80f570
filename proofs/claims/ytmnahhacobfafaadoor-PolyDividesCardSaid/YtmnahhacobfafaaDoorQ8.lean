-- Written by prx.py (this session's driver of the kit's print) out of the translation. Not trusted: Lean checks it.
import Derived.Test.YtmnahhacobfafaaDoorQ0
import Derived.Test.YtmnahhacobfafaaDoorQ1
import Derived.Test.YtmnahhacobfafaaDoorQ2
import Derived.Test.YtmnahhacobfafaaDoorQ3
import Derived.Test.YtmnahhacobfafaaDoorQ4
namespace Go.Proofs.YtmnahhacobfafaaDoor.Q
open Go.RowKit Go.Proofs.YtmnahhacobfafaaDoorW.PrintWords Go.Proofs.YtmnahhacobfafaaDoorW.PrintLast Go.Proofs.YtmnahhacobfafaaDoorW.PrintMore
attribute [local go_sem] max2_int min2_int max_two min_two max_three min_three max_four min_four   -- for this text's walks alone
set_option linter.unusedVariables false
set_option linter.unusedSimpArgs false

/-! ### attestorlaw03_PolyDivides: function 4 -/
def attestorlaw03_PolyDivides.j0 : Nat → List Int → List Int → Int → Option (Bool)
 | 0, _, _, _ => none
 | k + 1, x1, x2, x7 => (poly_Divide.f k x7 x1 x2).bind fun bt465 => ((poly_Mul.f k x7 bt465.1 x2).bind fun bt472 => (if bt465.2.2 = 0 then (if bt472.2 = 0 then ((poly_Degree.f k x7 bt465.2.1).bind fun t476 => ((poly_Degree.f k x7 x2).bind fun t477 => (if t476 < t477 then ((poly_Add.f k x7 bt472.1 bt465.2.1).bind fun t478 => ((poly_Normal.f k x7 x1).bind fun t481 => ((attestorlaw03_same.f k t478 t481).bind fun t484 => (if t484 = true then ((attestorlaw03_works.f k).bind fun t485 => (some t485)) else (none))))) else (none)))) else (none)) else (none)))
def attestorlaw03_PolyDivides.f (k : Nat) (a0 : Int) (l1 : List Int) (l2 : List Int) : Option (Bool) := (attestorlaw03_own.f l1 80).bind fun t455 => ((attestorlaw03_own.f l2 80).bind fun t458 => ((poly_Degree.f k (wrap64 (Int.tmod a0 4)) t458).bind fun t461 => (if t461 < 0 then (attestorlaw03_PolyDivides.j0 k t455 (([1] : List Int)) (wrap64 (Int.tmod a0 4))) else (attestorlaw03_PolyDivides.j0 k t455 t458 (wrap64 (Int.tmod a0 4))))))
theorem attestorlaw03_PolyDivides.mono_l : ∀ k, (∀ y0 y1 y2, LeO (attestorlaw03_PolyDivides.j0 k y0 y1 y2) (attestorlaw03_PolyDivides.j0 (k + 1) y0 y1 y2))
 | 0 => fun _ _ _ r h => by simp [attestorlaw03_PolyDivides.j0] at h
 | k + 1 => by
  have ih0 := attestorlaw03_PolyDivides.mono_l k
  ·intro y0 y1 y2
   unfold attestorlaw03_PolyDivides.j0
   repeat' first
   | (with_reducible exact ih0 _ _ _)
   | (with_reducible exact attestorlaw03_same.mono _ _ _)
   | (with_reducible exact attestorlaw03_works.mono _)
   | (with_reducible exact poly_Add.mono _ _ _ _)
   | (with_reducible exact poly_Degree.mono _ _ _)
   | (with_reducible exact poly_Divide.mono _ _ _ _)
   | (with_reducible exact poly_Mul.mono _ _ _ _)
   | (with_reducible exact poly_Normal.mono _ _ _)
   | (with_reducible exact LeO.refl _)
   | (with_reducible exact LeO.none _)
   | (with_reducible refine LeO.ite ?_ ?_)
   | (with_reducible refine LeO.bind ?_ (fun _ => ?_))
   | exact ih0 _ _ _
   | exact attestorlaw03_same.mono _ _ _
   | exact attestorlaw03_works.mono _
   | exact poly_Add.mono _ _ _ _
   | exact poly_Degree.mono _ _ _
   | exact poly_Divide.mono _ _ _ _
   | exact poly_Mul.mono _ _ _ _
   | exact poly_Normal.mono _ _ _
   | exact LeO.none _
   | refine LeO.ite ?_ ?_
   | refine LeO.bind ?_ (fun _ => ?_)
theorem attestorlaw03_PolyDivides.mono : ∀ a0 a1 a2 k, LeO (attestorlaw03_PolyDivides.f k a0 a1 a2) (attestorlaw03_PolyDivides.f (k + 1) a0 a1 a2) := by
 intro a0 a1 a2 k
 have ih0 := attestorlaw03_PolyDivides.mono_l k
 unfold attestorlaw03_PolyDivides.f
 repeat' first
   | (with_reducible exact ih0 _ _ _)
   | (with_reducible exact attestorlaw03_same.mono _ _ _)
   | (with_reducible exact attestorlaw03_works.mono _)
   | (with_reducible exact poly_Add.mono _ _ _ _)
   | (with_reducible exact poly_Degree.mono _ _ _)
   | (with_reducible exact poly_Divide.mono _ _ _ _)
   | (with_reducible exact poly_Mul.mono _ _ _ _)
   | (with_reducible exact poly_Normal.mono _ _ _)
   | (with_reducible exact LeO.refl _)
   | (with_reducible exact LeO.none _)
   | (with_reducible refine LeO.ite ?_ ?_)
   | (with_reducible refine LeO.bind ?_ (fun _ => ?_))
   | exact ih0 _ _ _
   | exact attestorlaw03_same.mono _ _ _
   | exact attestorlaw03_works.mono _
   | exact poly_Add.mono _ _ _ _
   | exact poly_Degree.mono _ _ _
   | exact poly_Divide.mono _ _ _ _
   | exact poly_Mul.mono _ _ _ _
   | exact poly_Normal.mono _ _ _
   | exact LeO.none _
   | refine LeO.ite ?_ ?_
   | refine LeO.bind ?_ (fun _ => ?_)
set_option maxHeartbeats 8000000 in
set_option maxRecDepth 100000 in
theorem attestorlaw03_PolyDivides.calls (k : Nat) (a0 : Int) (A1 : Option Addr) (c1 : Nat) (l1 : List Int) (A2 : Option Addr) (c2 : Nat) (l2 : List Int) (r : Bool) (w : World) (hG : Fld w) (hr1 : Kd.C (Kd.int .u64) w A1 l1.length l1) (hc1 : l1.length ≤ c1) (hr2 : Kd.C (Kd.int .u64) w A2 l2.length l2) (hc2 : l2.length ≤ c2) (h : attestorlaw03_PolyDivides.f k a0 l1 l2 = some r) :
  Calls Tryd.prog 4 #[.int .u8 a0, .slice A1 l1.length c1, .slice A2 l2.length c2] w fun e w' => e = .returned (.bool r) ∧ Below w.heap.size w w' := by
 have HG := Aside0.mk hG
 clear hG
 have HR1 := Aside0.mk hr1
 have HC1 := Aside0.mk hc1
 clear hr1 hc1
 have HR2 := Aside0.mk hr2
 have HC2 := Aside0.mk hc2
 clear hr2 hc2
 have HB := Aside0.mk (Below.refl w.heap.size w)
 have H : ((attestorlaw03_own.f l1 80).bind fun t455 => ((attestorlaw03_own.f l2 80).bind fun t458 => ((poly_Degree.f k (wrap64 (Int.tmod a0 4)) t458).bind fun t461 => (if t461 < 0 then (attestorlaw03_PolyDivides.j0 k t455 (([1] : List Int)) (wrap64 (Int.tmod a0 4))) else (attestorlaw03_PolyDivides.j0 k t455 t458 (wrap64 (Int.tmod a0 4))))))) = some r := h
 clear h
 replace H := Option.bind_eq_some_iff.mp H
 obtain ⟨t455, A40, H⟩ := H
 replace H : ((attestorlaw03_own.f l2 80).bind fun t458 => ((poly_Degree.f k (wrap64 (Int.tmod a0 4)) t458).bind fun t461 => (if t461 < 0 then (attestorlaw03_PolyDivides.j0 k t455 (([1] : List Int)) (wrap64 (Int.tmod a0 4))) else (attestorlaw03_PolyDivides.j0 k t455 t458 (wrap64 (Int.tmod a0 4)))))) = some r := H
 have A4 := Aside0.mk A40
 clear A40
 replace H := Option.bind_eq_some_iff.mp H
 obtain ⟨t458, A50, H⟩ := H
 replace H : ((poly_Degree.f k (wrap64 (Int.tmod a0 4)) t458).bind fun t461 => (if t461 < 0 then (attestorlaw03_PolyDivides.j0 k t455 (([1] : List Int)) (wrap64 (Int.tmod a0 4))) else (attestorlaw03_PolyDivides.j0 k t455 t458 (wrap64 (Int.tmod a0 4))))) = some r := H
 have A5 := Aside0.mk A50
 clear A50
 replace H := Option.bind_eq_some_iff.mp H
 obtain ⟨t461, A60, H⟩ := H
 replace H : (if t461 < 0 then (attestorlaw03_PolyDivides.j0 k t455 (([1] : List Int)) (wrap64 (Int.tmod a0 4))) else (attestorlaw03_PolyDivides.j0 k t455 t458 (wrap64 (Int.tmod a0 4)))) = some r := H
 have A6 := Aside0.mk A60
 clear A60
 have HC7 := Aside0.mk H
 clear H
 go_enter Tryd.func4, Tryd.ntmps4
 go_upto_if 23 with (first | ((with_reducible refine gate_callee (f := 11) rfl ?_); refine goesL_ (some 17) rfl rfl Tryd.func11 (by kernel_rfl) rfl #[.slice A1 l1.length c1, .int .i64 80] rfl (by (try simp only [List.map_toArray, List.map_cons, List.map_nil]); first | done | rfl | (simp only [List.length_drop, List.length_take]; rfl)) ?_; (with_reducible refine (attestorlaw03_own.calls _ _ l1 80 t455 _ ?side1 ?side2 A4.out).mono ?_); (case side1 => repeat (first | exact HR1.out | (with_reducible refine Kd.C_alloc ?_ _) | (with_reducible refine Kd.C_drewN ?_ _) | (with_reducible refine Kd.C_drew ?_))); (case side2 => exact HC1.out); rintro e w8 ⟨v456, rfl, ho0, hb⟩; refine ⟨_, rfl, ?_⟩; have n0_ := Aside0.mk (Kd.R_lower ho0 (below_size (bU_ HB.out))); have n1_ := Aside0.mk (below_step (bU_ HB.out) hb); clear HB; have HO457 := n0_; have HB := n1_; clear n0_ n1_; (try clear hb); (try clear hb2); (try clear hk); (try clear hi); (try clear ho0)) | ((with_reducible refine gate_callee (f := 11) rfl ?_); refine goesL_ (some 19) rfl rfl Tryd.func11 (by kernel_rfl) rfl #[.slice A2 l2.length c2, .int .i64 80] rfl (by (try simp only [List.map_toArray, List.map_cons, List.map_nil]); first | done | rfl | (simp only [List.length_drop, List.length_take]; rfl)) ?_; (with_reducible refine (attestorlaw03_own.calls _ _ l2 80 t458 _ ?side1 ?side2 A5.out).mono ?_); (case side1 => repeat (first | exact (Kd.C_below HR2.out HB.out) | (with_reducible refine Kd.C_alloc ?_ _) | (with_reducible refine Kd.C_drewN ?_ _) | (with_reducible refine Kd.C_drew ?_))); (case side2 => exact HC2.out); rintro e w9 ⟨v459, rfl, ho0, hb⟩; refine ⟨_, rfl, ?_⟩; have n0_ := Aside0.mk (Kd.R_elder' (rU_ HO457.out) (Kd.R_base ho0) hb); have n1_ := Aside0.mk (Kd.R_lower (Kd.R_new' ho0 (Kd.R_lt (rU_ HO457.out))) (below_size (bU_ HB.out))); have n2_ := Aside0.mk (below_step (bU_ HB.out) hb); clear HO457; clear HB; have HO457 := n0_; have HO460 := n1_; have HB := n2_; clear n0_ n1_ n2_; (try clear hb); (try clear hb2); (try clear hk); (try clear hi); (try clear ho0); obtain ⟨Ao10, co10, eo10⟩ := Kd.R_slice HO460.out; subst eo10) | ((with_reducible refine gate_callee (f := 18) rfl ?_); refine goesL_ (some 22) rfl rfl Tryd.func18 (by kernel_rfl) rfl #[.int .i64 (wrap64 (Int.tmod a0 4)), .slice Ao10 t458.length co10] rfl (by (try simp only [List.map_toArray, List.map_cons, List.map_nil]); first | done | rfl | (simp only [List.length_drop, List.length_take]; rfl)) ?_; (with_reducible refine (poly_Degree.calls k (wrap64 (Int.tmod a0 4)) _ _ t458 t461 _ ?side1 ?side2 ?side3 A6.out).mono ?_); (case side1 => exact fU_ HG.out HB.out); (case side2 => repeat (first | exact (Kd.R_reads' HO460.out).2.2 | (with_reducible refine Kd.C_alloc ?_ _) | (with_reducible refine Kd.C_drewN ?_ _) | (with_reducible refine Kd.C_drew ?_))); (case side3 => exact (Kd.R_reads' HO460.out).2.1); rintro e w11 ⟨rfl, hb⟩; refine ⟨_, rfl, ?_⟩; have n0_ := Aside0.mk (Kd.R_below (rU_ HO457.out) hb); have n1_ := Aside0.mk (Kd.R_below (rU_ HO460.out) hb); have n2_ := Aside0.mk (below_step (bU_ HB.out) hb); clear HO457; clear HO460; clear HB; have HO457 := n0_; have HO460 := n1_; have HB := n2_; clear n0_ n1_ n2_; (try clear hb); (try clear hb2); (try clear hk); (try clear hi)))
 (try simp only [Act.put, List.setIfInBounds_toArray, List.set_cons_zero, List.set_cons_succ])
 go_cut [2] (fun v2 wc => ∃ (kq : Nat) (x2_6 : List Int), Aside0 (attestorlaw03_PolyDivides.j0 kq t455 x2_6 (wrap64 (Int.tmod a0 4)) = some r) ∧ Aside0 (kq ≤ k) ∧ Aside0 (Kd.R (Kd.int .u64) 32 wc w.heap.size (fun k_ => some k_ ≠ (v2 : Value).ownBlock) v456 t455) ∧ Aside0 (Kd.R (Kd.int .u64) 32 wc w.heap.size (fun k_ => some k_ ≠ (v456 : Value).ownBlock) v2 x2_6) ∧ Aside0 (Below w.heap.size w wc))
 case first =>
  have H := HC7.out
  clear HC7
  by_cases c12 : t461 < 0
  ·rw [if_pos c12] at H
   have c12b0 : decide (t461 < 0) = true := decide_eq_true c12
   clear c12
   (first | rw [c12b0] | (simp only [i64_w, i32_w]; rw [c12b0]) | rw [c12b1] | skip)
   obtain ⟨y462, hy462⟩ : ∃ y_ : List Int, y_ = (([1] : List Int)) := ⟨_, rfl⟩
   replace H : (attestorlaw03_PolyDivides.j0 k t455 y462 (wrap64 (Int.tmod a0 4))) = some r := by first | (rw [hy462]; with_reducible exact H) | (have H2_ := (Option.bind_some _ _).symm.trans H; rw [hy462]; with_reducible exact H2_) | (have H2_ := (Option.bind_some _ _).symm.trans H; with_reducible exact H2_) | with_reducible exact H | (rw [hy462]; exact H) | exact H
   have Ny462 := Aside0.mk hy462
   clear hy462
   have H' := Aside0.mk H
   clear H
   go_wp2_with (first | ((with_reducible refine gate_dst (N := 24) rfl ?_); refine Kd.R_lit (Kd.int .u64) _ 32 ?hg (N := 24) ?hd (xs := ([1] : List Int)) (inner := [.int .u64 1]) (ok := fun _ => True) (okp := fun _ => True) ?hr ?hp (fun _ hk => hk) trivial (Below.refl _ _) (Nat.le_refl _) (by simp) ?_; (case hd => rfl); (case hg => rfl); (case hr => first | (go_simp; done) | (go_simp; rfl)); (case hp => exact (Reps.one (show Kd.M (Kd.int .u64) _ _ _ 1 [.int .u64 1] from rfl) (Reps.none _ _))); intro v463 w13 ho14 hb hg_ hnew_; clear hg_ hnew_; (first | rw [← Ny462.out] at ho14 | (simp only [Int.reduceToNat] at ho14; rw [← Ny462.out] at ho14)); have n0_ := Aside0.mk (Kd.R_elder' (rU_ HO457.out) (Kd.R_base ho14) hb); have n1_ := Aside0.mk (Kd.R_elder' (rU_ HO460.out) (Kd.R_base ho14) hb); have n2_ := Aside0.mk (Kd.R_lower (Kd.R_new' (Kd.R_new' ho14 (Kd.R_lt (rU_ HO457.out))) (Kd.R_lt (rU_ HO460.out))) (below_size (bU_ HB.out))); have n3_ := Aside0.mk (below_step (bU_ HB.out) hb); clear HO457; clear HO460; clear HB; have HO457 := n0_; have HO460 := n1_; have HO464 := n2_; have HB := n3_; clear n0_ n1_ n2_ n3_; clear hb ho14))
   go_meet
   case rel => exact ⟨_, (y462), H', ⟨by first | omega | exact Nat.le_refl _⟩, ⟨by (with_reducible repeat (first | apply Kd.R_alloc | apply Kd.R_drewN | apply Kd.R_drew)); exact Kd.R_mono HO457.out (fun _ hk => hk.2)⟩, ⟨by (with_reducible repeat (first | apply Kd.R_alloc | apply Kd.R_drewN | apply Kd.R_drew)); exact Kd.R_mono HO464.out (fun _ hk => hk.1.2)⟩, ⟨bU_ HB.out⟩⟩
  ·rw [if_neg c12] at H
   have c12b0 : decide (t461 < 0) = false := decide_eq_false c12
   clear c12
   (first | rw [c12b0] | (simp only [i64_w, i32_w]; rw [c12b0]) | rw [c12b1] | skip)
   have H' := Aside0.mk H
   clear H
   go_wp2
   go_meet
   case rel => exact ⟨_, (t458), H', ⟨by first | omega | exact Nat.le_refl _⟩, ⟨by (with_reducible repeat (first | apply Kd.R_alloc | apply Kd.R_drewN | apply Kd.R_drew)); exact Kd.R_mono HO457.out (fun _ hk => hk.2)⟩, ⟨by (with_reducible repeat (first | apply Kd.R_alloc | apply Kd.R_drewN | apply Kd.R_drew)); exact Kd.R_mono HO460.out (fun _ hk => hk.2)⟩, ⟨bU_ HB.out⟩⟩
 case rest =>
  clear HC7
  try clear c1
  try clear c2
  try clear p2
  try clear c4
  try clear p6
  try clear c11
  try clear c12
  try clear c12b0
  try clear c12b1
  obtain ⟨kq, x2_6, HA, HJ6, HO_1, HO_2, HB⟩ := hcut
  cases kq with
  | zero => exact absurd HA.out (by simp [attestorlaw03_PolyDivides.j0])
  | succ kj6 =>
   have H := HA.out
   clear HA
   simp only [attestorlaw03_PolyDivides.j0] at H
   replace H := Option.bind_eq_some_iff.mp H
   obtain ⟨⟨t465, t466, t467⟩, A150, H⟩ := H
   replace H : ((poly_Mul.f kj6 (wrap64 (Int.tmod a0 4)) t465 x2_6).bind fun bt472 => (if t467 = 0 then (if bt472.2 = 0 then ((poly_Degree.f kj6 (wrap64 (Int.tmod a0 4)) t466).bind fun t476 => ((poly_Degree.f kj6 (wrap64 (Int.tmod a0 4)) x2_6).bind fun t477 => (if t476 < t477 then ((poly_Add.f kj6 (wrap64 (Int.tmod a0 4)) bt472.1 t466).bind fun t478 => ((poly_Normal.f kj6 (wrap64 (Int.tmod a0 4)) t455).bind fun t481 => ((attestorlaw03_same.f kj6 t478 t481).bind fun t484 => (if t484 = true then ((attestorlaw03_works.f kj6).bind fun t485 => (some t485)) else (none))))) else (none)))) else (none)) else (none))) = some r := H
   have A15 := Aside0.mk A150
   clear A150
   replace H := Option.bind_eq_some_iff.mp H
   obtain ⟨⟨t472, t473⟩, A160, H⟩ := H
   replace H : (if t467 = 0 then (if t473 = 0 then ((poly_Degree.f kj6 (wrap64 (Int.tmod a0 4)) t466).bind fun t476 => ((poly_Degree.f kj6 (wrap64 (Int.tmod a0 4)) x2_6).bind fun t477 => (if t476 < t477 then ((poly_Add.f kj6 (wrap64 (Int.tmod a0 4)) t472 t466).bind fun t478 => ((poly_Normal.f kj6 (wrap64 (Int.tmod a0 4)) t455).bind fun t481 => ((attestorlaw03_same.f kj6 t478 t481).bind fun t484 => (if t484 = true then ((attestorlaw03_works.f kj6).bind fun t485 => (some t485)) else (none))))) else (none)))) else (none)) else (none)) = some r := H
   have A16 := Aside0.mk A160
   clear A160
   by_cases c17 : t467 = 0
   ·rw [if_pos c17] at H
    have c17b0 : (t467 == 0) = true := beq_iff_eq.mpr c17
    have c17b1 : (t467 != 0) = false := bne_eq_false_iff_eq.mpr c17
    clear c17
    by_cases c18 : t473 = 0
    ·rw [if_pos c18] at H
     have c18b0 : (t473 == 0) = true := beq_iff_eq.mpr c18
     have c18b1 : (t473 != 0) = false := bne_eq_false_iff_eq.mpr c18
     clear c18
     replace H := Option.bind_eq_some_iff.mp H
     obtain ⟨t476, A190, H⟩ := H
     replace H : ((poly_Degree.f kj6 (wrap64 (Int.tmod a0 4)) x2_6).bind fun t477 => (if t476 < t477 then ((poly_Add.f kj6 (wrap64 (Int.tmod a0 4)) t472 t466).bind fun t478 => ((poly_Normal.f kj6 (wrap64 (Int.tmod a0 4)) t455).bind fun t481 => ((attestorlaw03_same.f kj6 t478 t481).bind fun t484 => (if t484 = true then ((attestorlaw03_works.f kj6).bind fun t485 => (some t485)) else (none))))) else (none))) = some r := H
     have A19 := Aside0.mk A190
     clear A190
     replace H := Option.bind_eq_some_iff.mp H
     obtain ⟨t477, A200, H⟩ := H
     replace H : (if t476 < t477 then ((poly_Add.f kj6 (wrap64 (Int.tmod a0 4)) t472 t466).bind fun t478 => ((poly_Normal.f kj6 (wrap64 (Int.tmod a0 4)) t455).bind fun t481 => ((attestorlaw03_same.f kj6 t478 t481).bind fun t484 => (if t484 = true then ((attestorlaw03_works.f kj6).bind fun t485 => (some t485)) else (none))))) else (none)) = some r := H
     have A20 := Aside0.mk A200
     clear A200
     by_cases c21 : t476 < t477
     ·rw [if_pos c21] at H
      have c21b0 : decide (t476 < t477) = true := decide_eq_true c21
      clear c21
      replace H := Option.bind_eq_some_iff.mp H
      obtain ⟨t478, A220, H⟩ := H
      replace H : ((poly_Normal.f kj6 (wrap64 (Int.tmod a0 4)) t455).bind fun t481 => ((attestorlaw03_same.f kj6 t478 t481).bind fun t484 => (if t484 = true then ((attestorlaw03_works.f kj6).bind fun t485 => (some t485)) else (none)))) = some r := H
      have A22 := Aside0.mk A220
      clear A220
      replace H := Option.bind_eq_some_iff.mp H
      obtain ⟨t481, A230, H⟩ := H
      replace H : ((attestorlaw03_same.f kj6 t478 t481).bind fun t484 => (if t484 = true then ((attestorlaw03_works.f kj6).bind fun t485 => (some t485)) else (none))) = some r := H
      have A23 := Aside0.mk A230
      clear A230
      replace H := Option.bind_eq_some_iff.mp H
      obtain ⟨t484, A240, H⟩ := H
      replace H : (if t484 = true then ((attestorlaw03_works.f kj6).bind fun t485 => (some t485)) else (none)) = some r := H
      have A24 := Aside0.mk A240
      clear A240
      by_cases c25 : t484 = true
      ·subst c25
       have H1 : ((attestorlaw03_works.f kj6).bind fun t485 => (some t485)) = some r := by rw [if_pos rfl] at H; exact H
       clear H
       have H := H1
       clear H1
       replace H := Option.bind_eq_some_iff.mp H
       obtain ⟨t485, A260, H⟩ := H
       replace H : (some t485) = some r := H
       have A26 := Aside0.mk A260
       clear A260
       obtain rfl := Option.some.inj H
       obtain ⟨Ao27, co27, eo27⟩ := Kd.R_slice HO_1.out
       subst eo27
       obtain ⟨Ao28, co28, eo28⟩ := Kd.R_slice HO_2.out
       subst eo28
       go_wp2_with (first | ((with_reducible refine gate_callee (f := 19) rfl ?_); refine goesL_ (some 29) rfl rfl Tryd.func19 (by kernel_rfl) rfl #[.int .i64 (wrap64 (Int.tmod a0 4)), .slice Ao27 t455.length co27, .slice Ao28 x2_6.length co28] rfl (by (try simp only [List.map_toArray, List.map_cons, List.map_nil]); first | done | rfl | (simp only [List.length_drop, List.length_take]; rfl)) ?_; (with_reducible refine (poly_Divide.calls kj6 (wrap64 (Int.tmod a0 4)) _ _ t455 _ _ x2_6 t465 t466 t467 _ ?side1 ?side2 ?side3 ?side4 ?side5 A15.out).mono ?_); (case side1 => exact fU_ HG.out HB.out); (case side2 => repeat (first | exact (Kd.R_reads' HO_1.out).2.2 | (with_reducible refine Kd.C_alloc ?_ _) | (with_reducible refine Kd.C_drewN ?_ _) | (with_reducible refine Kd.C_drew ?_))); (case side3 => exact (Kd.R_reads' HO_1.out).2.1); (case side4 => repeat (first | exact (Kd.R_reads' HO_2.out).2.2 | (with_reducible refine Kd.C_alloc ?_ _) | (with_reducible refine Kd.C_drewN ?_ _) | (with_reducible refine Kd.C_drew ?_))); (case side5 => exact (Kd.R_reads' HO_2.out).2.1); rintro e w29 ⟨v468, v470, rfl, ho0, ho1, hb⟩; refine ⟨_, rfl, ?_⟩; have n0_ := Aside0.mk (Kd.R_mono (Kd.R_told (Kd.R_told (Kd.R_old (rU_ HO_1.out) hb) (Kd.R_base ho0)) (Kd.R_base ho1)) (fun _ h_ => h_.1)); have n1_ := Aside0.mk (Kd.R_mono (Kd.R_told (Kd.R_told (Kd.R_old (rU_ HO_2.out) hb) (Kd.R_base ho0)) (Kd.R_base ho1)) (fun _ h_ => h_.1)); have n2_ := Aside0.mk (Kd.R_lower (Kd.R_new' (Kd.R_new' ho0 (Kd.R_lt (rU_ HO_1.out))) (Kd.R_lt (rU_ HO_2.out))) (below_size (bU_ HB.out))); have n3_ := Aside0.mk (Kd.R_lower (Kd.R_new' (Kd.R_new' ho1 (Kd.R_lt (rU_ HO_1.out))) (Kd.R_lt (rU_ HO_2.out))) (below_size (bU_ HB.out))); have n4_ := Aside0.mk (below_step (bU_ HB.out) hb); clear HO_1; clear HO_2; clear HB; have HO_1 := n0_; have HO_2 := n1_; have HO469 := n2_; have HO471 := n3_; have HB := n4_; clear n0_ n1_ n2_ n3_ n4_; (try clear hb); (try clear hb2); (try clear hk); (try clear hi); (try clear ho0); (try clear ho1); obtain ⟨Ao30, co30, eo30⟩ := Kd.R_slice HO469.out; subst eo30) | ((with_reducible refine gate_callee (f := 20) rfl ?_); refine goesL_ (some 37) rfl rfl Tryd.func20 (by kernel_rfl) rfl #[.int .i64 (wrap64 (Int.tmod a0 4)), .slice Ao30 t465.length co30, .slice Ao28 x2_6.length co28] rfl (by (try simp only [List.map_toArray, List.map_cons, List.map_nil]); first | done | rfl | (simp only [List.length_drop, List.length_take]; rfl)) ?_; (with_reducible refine (poly_Mul.calls kj6 (wrap64 (Int.tmod a0 4)) _ _ t465 _ _ x2_6 t472 t473 _ ?side1 ?side2 ?side3 ?side4 ?side5 A16.out).mono ?_); (case side1 => exact fU_ HG.out HB.out); (case side2 => repeat (first | exact (Kd.R_reads' HO469.out).2.2 | (with_reducible refine Kd.C_alloc ?_ _) | (with_reducible refine Kd.C_drewN ?_ _) | (with_reducible refine Kd.C_drew ?_))); (case side3 => exact (Kd.R_reads' HO469.out).2.1); (case side4 => repeat (first | exact (Kd.R_reads' HO_2.out).2.2 | (with_reducible refine Kd.C_alloc ?_ _) | (with_reducible refine Kd.C_drewN ?_ _) | (with_reducible refine Kd.C_drew ?_))); (case side5 => exact (Kd.R_reads' HO_2.out).2.1); rintro e w31 ⟨v474, rfl, ho0, hb⟩; refine ⟨_, rfl, ?_⟩; have n0_ := Aside0.mk (Kd.R_elder' (rU_ HO_1.out) (Kd.R_base ho0) hb); have n1_ := Aside0.mk (Kd.R_elder' (rU_ HO_2.out) (Kd.R_base ho0) hb); have n2_ := Aside0.mk (Kd.R_elder' (rU_ HO469.out) (Kd.R_base ho0) hb); have n3_ := Aside0.mk (Kd.R_elder' (rU_ HO471.out) (Kd.R_base ho0) hb); have n4_ := Aside0.mk (Kd.R_lower (Kd.R_new' (Kd.R_new' (Kd.R_new' (Kd.R_new' ho0 (Kd.R_lt (rU_ HO_1.out))) (Kd.R_lt (rU_ HO_2.out))) (Kd.R_lt (rU_ HO469.out))) (Kd.R_lt (rU_ HO471.out))) (below_size (bU_ HB.out))); have n5_ := Aside0.mk (below_step (bU_ HB.out) hb); clear HO_1; clear HO_2; clear HO469; clear HO471; clear HB; have HO_1 := n0_; have HO_2 := n1_; have HO469 := n2_; have HO471 := n3_; have HO475 := n4_; have HB := n5_; clear n0_ n1_ n2_ n3_ n4_ n5_; (try clear hb); (try clear hb2); (try clear hk); (try clear hi); (try clear ho0); obtain ⟨Ao32, co32, eo32⟩ := Kd.R_slice HO471.out; subst eo32) | (go_at_call 18; (with_reducible refine (poly_Degree.calls kj6 (wrap64 (Int.tmod a0 4)) _ _ t466 t476 _ ?side1 ?side2 ?side3 A19.out).mono ?_); (case side1 => exact fU_ HG.out HB.out); (case side2 => repeat (first | exact (Kd.R_reads' HO471.out).2.2 | (with_reducible refine Kd.C_alloc ?_ _) | (with_reducible refine Kd.C_drewN ?_ _) | (with_reducible refine Kd.C_drew ?_))); (case side3 => exact (Kd.R_reads' HO471.out).2.1); rintro e w33 ⟨rfl, hb⟩; have n0_ := Aside0.mk (Kd.R_below (rU_ HO_1.out) hb); have n1_ := Aside0.mk (Kd.R_below (rU_ HO_2.out) hb); have n2_ := Aside0.mk (Kd.R_below (rU_ HO469.out) hb); have n3_ := Aside0.mk (Kd.R_below (rU_ HO471.out) hb); have n4_ := Aside0.mk (Kd.R_below (rU_ HO475.out) hb); have n5_ := Aside0.mk (below_step (bU_ HB.out) hb); clear HO_1; clear HO_2; clear HO469; clear HO471; clear HO475; clear HB; have HO_1 := n0_; have HO_2 := n1_; have HO469 := n2_; have HO471 := n3_; have HO475 := n4_; have HB := n5_; clear n0_ n1_ n2_ n3_ n4_ n5_; (try clear hb); (try clear hb2); (try clear hk); (try clear hi)) | (go_at_call 18; (with_reducible refine (poly_Degree.calls kj6 (wrap64 (Int.tmod a0 4)) _ _ x2_6 t477 _ ?side1 ?side2 ?side3 A20.out).mono ?_); (case side1 => exact fU_ HG.out HB.out); (case side2 => repeat (first | exact (Kd.R_reads' HO_2.out).2.2 | (with_reducible refine Kd.C_alloc ?_ _) | (with_reducible refine Kd.C_drewN ?_ _) | (with_reducible refine Kd.C_drew ?_))); (case side3 => exact (Kd.R_reads' HO_2.out).2.1); rintro e w34 ⟨rfl, hb⟩; have n0_ := Aside0.mk (Kd.R_below (rU_ HO_1.out) hb); have n1_ := Aside0.mk (Kd.R_below (rU_ HO_2.out) hb); have n2_ := Aside0.mk (Kd.R_below (rU_ HO469.out) hb); have n3_ := Aside0.mk (Kd.R_below (rU_ HO471.out) hb); have n4_ := Aside0.mk (Kd.R_below (rU_ HO475.out) hb); have n5_ := Aside0.mk (below_step (bU_ HB.out) hb); clear HO_1; clear HO_2; clear HO469; clear HO471; clear HO475; clear HB; have HO_1 := n0_; have HO_2 := n1_; have HO469 := n2_; have HO471 := n3_; have HO475 := n4_; have HB := n5_; clear n0_ n1_ n2_ n3_ n4_ n5_; (try clear hb); (try clear hb2); (try clear hk); (try clear hi); obtain ⟨Ao35, co35, eo35⟩ := Kd.R_slice HO475.out; subst eo35) | (go_at_call 22; (with_reducible refine (poly_Add.calls kj6 (wrap64 (Int.tmod a0 4)) _ _ t472 _ _ t466 t478 _ ?side1 ?side2 ?side3 ?side4 ?side5 A22.out).mono ?_); (case side1 => exact fU_ HG.out HB.out); (case side2 => repeat (first | exact (Kd.R_reads' HO475.out).2.2 | (with_reducible refine Kd.C_alloc ?_ _) | (with_reducible refine Kd.C_drewN ?_ _) | (with_reducible refine Kd.C_drew ?_))); (case side3 => exact (Kd.R_reads' HO475.out).2.1); (case side4 => repeat (first | exact (Kd.R_reads' HO471.out).2.2 | (with_reducible refine Kd.C_alloc ?_ _) | (with_reducible refine Kd.C_drewN ?_ _) | (with_reducible refine Kd.C_drew ?_))); (case side5 => exact (Kd.R_reads' HO471.out).2.1); rintro e w36 ⟨v479, rfl, ho0, hb⟩; have n0_ := Aside0.mk (Kd.R_elder' (rU_ HO_1.out) (Kd.R_base ho0) hb); have n1_ := Aside0.mk (Kd.R_elder' (rU_ HO_2.out) (Kd.R_base ho0) hb); have n2_ := Aside0.mk (Kd.R_elder' (rU_ HO469.out) (Kd.R_base ho0) hb); have n3_ := Aside0.mk (Kd.R_elder' (rU_ HO471.out) (Kd.R_base ho0) hb); have n4_ := Aside0.mk (Kd.R_elder' (rU_ HO475.out) (Kd.R_base ho0) hb); have n5_ := Aside0.mk (Kd.R_lower (Kd.R_new' (Kd.R_new' (Kd.R_new' (Kd.R_new' (Kd.R_new' ho0 (Kd.R_lt (rU_ HO_1.out))) (Kd.R_lt (rU_ HO_2.out))) (Kd.R_lt (rU_ HO469.out))) (Kd.R_lt (rU_ HO471.out))) (Kd.R_lt (rU_ HO475.out))) (below_size (bU_ HB.out))); have n6_ := Aside0.mk (below_step (bU_ HB.out) hb); clear HO_1; clear HO_2; clear HO469; clear HO471; clear HO475; clear HB; have HO_1 := n0_; have HO_2 := n1_; have HO469 := n2_; have HO471 := n3_; have HO475 := n4_; have HO480 := n5_; have HB := n6_; clear n0_ n1_ n2_ n3_ n4_ n5_ n6_; (try clear hb); (try clear hb2); (try clear hk); (try clear hi); (try clear ho0)) | (go_at_call 23; (with_reducible refine (poly_Normal.calls kj6 (wrap64 (Int.tmod a0 4)) _ _ t455 t481 _ ?side1 ?side2 ?side3 A23.out).mono ?_); (case side1 => exact fU_ HG.out HB.out); (case side2 => repeat (first | exact (Kd.R_reads' HO_1.out).2.2 | (with_reducible refine Kd.C_alloc ?_ _) | (with_reducible refine Kd.C_drewN ?_ _) | (with_reducible refine Kd.C_drew ?_))); (case side3 => exact (Kd.R_reads' HO_1.out).2.1); rintro e w37 ⟨v482, rfl, ho0, hb⟩; have n0_ := Aside0.mk (Kd.R_elder' (rU_ HO_1.out) (Kd.R_base ho0) hb); have n1_ := Aside0.mk (Kd.R_elder' (rU_ HO_2.out) (Kd.R_base ho0) hb); have n2_ := Aside0.mk (Kd.R_elder' (rU_ HO469.out) (Kd.R_base ho0) hb); have n3_ := Aside0.mk (Kd.R_elder' (rU_ HO471.out) (Kd.R_base ho0) hb); have n4_ := Aside0.mk (Kd.R_elder' (rU_ HO475.out) (Kd.R_base ho0) hb); have n5_ := Aside0.mk (Kd.R_elder' (rU_ HO480.out) (Kd.R_base ho0) hb); have n6_ := Aside0.mk (Kd.R_lower (Kd.R_new' (Kd.R_new' (Kd.R_new' (Kd.R_new' (Kd.R_new' (Kd.R_new' ho0 (Kd.R_lt (rU_ HO_1.out))) (Kd.R_lt (rU_ HO_2.out))) (Kd.R_lt (rU_ HO469.out))) (Kd.R_lt (rU_ HO471.out))) (Kd.R_lt (rU_ HO475.out))) (Kd.R_lt (rU_ HO480.out))) (below_size (bU_ HB.out))); have n7_ := Aside0.mk (below_step (bU_ HB.out) hb); clear HO_1; clear HO_2; clear HO469; clear HO471; clear HO475; clear HO480; clear HB; have HO_1 := n0_; have HO_2 := n1_; have HO469 := n2_; have HO471 := n3_; have HO475 := n4_; have HO480 := n5_; have HO483 := n6_; have HB := n7_; clear n0_ n1_ n2_ n3_ n4_ n5_ n6_ n7_; (try clear hb); (try clear hb2); (try clear hk); (try clear hi); (try clear ho0); obtain ⟨Ao38, co38, eo38⟩ := Kd.R_slice HO480.out; subst eo38; obtain ⟨Ao39, co39, eo39⟩ := Kd.R_slice HO483.out; subst eo39) | (go_at_call 21; (with_reducible refine (attestorlaw03_same.calls kj6 _ _ t478 _ _ t481 true _ ?side1 ?side2 ?side3 ?side4 A24.out).mono ?_); (case side1 => repeat (first | exact (Kd.R_reads' HO480.out).2.2 | (with_reducible refine Kd.C_alloc ?_ _) | (with_reducible refine Kd.C_drewN ?_ _) | (with_reducible refine Kd.C_drew ?_))); (case side2 => exact (Kd.R_reads' HO480.out).2.1); (case side3 => repeat (first | exact (Kd.R_reads' HO483.out).2.2 | (with_reducible refine Kd.C_alloc ?_ _) | (with_reducible refine Kd.C_drewN ?_ _) | (with_reducible refine Kd.C_drew ?_))); (case side4 => exact (Kd.R_reads' HO483.out).2.1); rintro e w' ⟨rfl, ⟨nd, rfl⟩⟩) | (go_at_call 17; (with_reducible refine (attestorlaw03_works.calls kj6  t485 _ ?side1 A26.out).mono ?_); (case side1 => exact fU_ HG.out HB.out); rintro e w40 ⟨rfl, hb⟩; have n0_ := Aside0.mk (Kd.R_below (rU_ HO_1.out) hb); have n1_ := Aside0.mk (Kd.R_below (rU_ HO_2.out) hb); have n2_ := Aside0.mk (Kd.R_below (rU_ HO469.out) hb); have n3_ := Aside0.mk (Kd.R_below (rU_ HO471.out) hb); have n4_ := Aside0.mk (Kd.R_below (rU_ HO475.out) hb); have n5_ := Aside0.mk (Kd.R_below (rU_ HO480.out) hb); have n6_ := Aside0.mk (Kd.R_below (rU_ HO483.out) hb); have n7_ := Aside0.mk (below_step (bU_ HB.out) hb); clear HO_1; clear HO_2; clear HO469; clear HO471; clear HO475; clear HO480; clear HO483; clear HB; have HO_1 := n0_; have HO_2 := n1_; have HO469 := n2_; have HO471 := n3_; have HO475 := n4_; have HO480 := n5_; have HO483 := n6_; have HB := n7_; clear n0_ n1_ n2_ n3_ n4_ n5_ n6_ n7_; (try clear hb); (try clear hb2); (try clear hk); (try clear hi)))
       go_ret
       exact ⟨by first | rfl | (simp [errW_none, errW_some] <;> rfl) | (simp [*, errW_none, errW_some] <;> rfl), bU_ HB.out⟩
      ·replace c25 := Bool.eq_false_iff.mpr c25
       subst c25
       have H1 : (none) = some r := by rw [if_neg (show ¬ (false = true) by decide)] at H; exact H
       clear H
       have H := H1
       clear H1
       exact absurd H (by simp)
     ·rw [if_neg c21] at H
      exact absurd H (by simp)
    ·rw [if_neg c18] at H
     exact absurd H (by simp)
   ·rw [if_neg c17] at H
    exact absurd H (by simp)

/-- THE ONE PURE STATEMENT of attestorlaw03_PolyDivides: yours. -/
def attestorlaw03_PolyDivides.Pure : Prop := ∀ (a0 : Int) (l1 : List Int) (l2 : List Int), (Lit.int .u8 a0).wf = true → l1.length ≤ maxLen → l1.length * 8 ≤ 140737488351232 → (∀ x ∈ l1, (Lit.int .u64 x).wf = true) → l2.length ≤ maxLen → l2.length * 8 ≤ 140737488351232 → (∀ x ∈ l2, (Lit.int .u64 x).wf = true) → ∃ k, attestorlaw03_PolyDivides.f k a0 l1 l2 = some true
theorem attestorlaw03_PolyDivides.walk (P : attestorlaw03_PolyDivides.Pure) (a0 : Int) (a1 : Option Addr) (len1 cap1 : Nat) (z1 : List Int) (a2 : Option Addr) (len2 cap2 : Nat) (z2 : List Int) (w : World) (hG : Fld w) (w0 : (Lit.int .u8 a0).wf = true) (w1 : (a1 = none ∧ len1 = 0 ∧ cap1 = 0 ∧ z1 = []) ∨ ∃ x, a1 = some x ∧ len1 ≤ cap1 ∧ cap1 ≤ maxLen ∧ z1.length = cap1 ∧ (∀ i, i < z1.length → w.cell? (x.add i) = some (.int .u64 (z1.getD i 0))) ∧ ∀ n ∈ z1, (Lit.int .u64 n).wf = true) (y1 : len1 * 8 ≤ 140737488351232) (w2 : (a2 = none ∧ len2 = 0 ∧ cap2 = 0 ∧ z2 = []) ∨ ∃ x, a2 = some x ∧ len2 ≤ cap2 ∧ cap2 ≤ maxLen ∧ z2.length = cap2 ∧ (∀ i, i < z2.length → w.cell? (x.add i) = some (.int .u64 (z2.getD i 0))) ∧ ∀ n ∈ z2, (Lit.int .u64 n).wf = true) (y2 : len2 * 8 ≤ 140737488351232) :
  Calls Tryd.prog 4 #[.int .u8 a0, .slice a1 len1 cap1, .slice a2 len2 cap2] w fun e w' => e = .returned (.bool true) ∧ Below w.heap.size w w' := by
 obtain ⟨l1, rfl, hr1, hm1, hw1, hc1⟩ := ReadsInt.ofRowC w1
 obtain ⟨l2, rfl, hr2, hm2, hw2, hc2⟩ := ReadsInt.ofRowC w2
 obtain ⟨k, h⟩ := P a0 l1 l2 w0 hm1 y1 hw1 hm2 y2 hw2
 refine (attestorlaw03_PolyDivides.calls k a0 _ _ l1 _ _ l2 true w hG (Kd.C_of_reads (d := (0 : Int)) (h1 := fun _ => rfl) hr1) hc1 (Kd.C_of_reads (d := (0 : Int)) (h1 := fun _ => rfl) hr2) hc2 h).mono ?_
 rintro e w' ⟨rfl, hd⟩
 exact ⟨rfl, hd⟩

end Go.Proofs.YtmnahhacobfafaaDoor.Q

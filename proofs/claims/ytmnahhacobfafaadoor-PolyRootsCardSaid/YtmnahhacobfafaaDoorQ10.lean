-- Written by prx.py (this session's driver of the kit's print) out of the translation. Not trusted: Lean checks it.
import Derived.Test.YtmnahhacobfafaaDoorQ0
import Derived.Test.YtmnahhacobfafaaDoorQ1
import Derived.Test.YtmnahhacobfafaaDoorQ2
import Derived.Test.YtmnahhacobfafaaDoorQ3
import Derived.Test.YtmnahhacobfafaaDoorQ4
namespace Go.Proofs.YtmnahhacobfafaaDoor.Q
open Go.RowKit Go.Proofs.YtmnahhacobfafaaDoorW.PrintWords Go.Proofs.YtmnahhacobfafaaDoorW.PrintLast Go.Proofs.YtmnahhacobfafaaDoorW.PrintMore
attribute [local go_sem] max2_int min2_int max_two min_two max_three min_three max_four min_four   -- for this text's walks alone
set_option linter.unusedVariables false
set_option linter.unusedSimpArgs false

/-! ### attestorlaw03_PolyRoots: function 6 -/
mutual
def attestorlaw03_PolyRoots.j0 : Nat → List Int → List Int → Int → List Int → Int → Int → Option (Bool)
 | 0, _, _, _, _, _, _ => none
 | k + 1, x1, x2, x7, x8, x9, x10 => attestorlaw03_PolyRoots.l0 k x1 x2 x7 x8 x9 x10 0 0
def attestorlaw03_PolyRoots.l0 : Nat → List Int → List Int → Int → List Int → Int → Int → Int → Int → Option (Bool)
 | 0, _, _, _, _, _, _, _, _ => none
 | k + 1, x1, x2, x7, x8, x9, x10, x11, x12 => if x12 < x10 then (attestorlaw03_PolyRoots.j2 k x1 x2 x7 x8 x9 x10 x11 x12) else ((poly_Degree.f k x7 x1).bind fun t532 => (if x9 = 0 then (if (x8.length : Int) = (wrap64 ((x2.length : Int) + 1)) then (if 0 ≤ (wrap64 ((x8.length : Int) - 1)) then (if (wrap64 ((x8.length : Int) - 1)) < (x8.length : Int) then (if (rd x8 (wrap64 ((x8.length : Int) - 1))) = 1 then (if t532 < 0 then (if x11 = (wrap64 (x10)) then ((attestorlaw03_works.f k).bind fun t534 => (some t534)) else (if t532 ≥ 0 then (if x11 ≤ t532 then ((attestorlaw03_works.f k).bind fun t535 => (some t535)) else (none)) else (none))) else (if t532 ≥ 0 then (if x11 ≤ t532 then ((attestorlaw03_works.f k).bind fun t536 => (some t536)) else (none)) else (none))) else (none)) else (none)) else (none)) else (none)) else (none)))
def attestorlaw03_PolyRoots.j2 : Nat → List Int → List Int → Int → List Int → Int → Int → Int → Int → Option (Bool)
 | 0, _, _, _, _, _, _, _, _ => none
 | k + 1, x1, x2, x7, x8, x9, x10, x11, x12 => (poly_Eval.f k x7 x1 x12).bind fun t537 => (if t537 = 0 then (attestorlaw03_PolyRoots.j3 k x1 x2 x7 x8 x9 x10 (wrap64 (x11 + 1)) x12) else (attestorlaw03_PolyRoots.j3 k x1 x2 x7 x8 x9 x10 x11 x12))
def attestorlaw03_PolyRoots.j3 : Nat → List Int → List Int → Int → List Int → Int → Int → Int → Int → Option (Bool)
 | 0, _, _, _, _, _, _, _, _ => none
 | k + 1, x1, x2, x7, x8, x9, x10, x11, x12 => attestorlaw03_PolyRoots.l1 k x1 x2 x7 x8 x9 x10 x11 x12 false 0
def attestorlaw03_PolyRoots.l1 : Nat → List Int → List Int → Int → List Int → Int → Int → Int → Int → Bool → Int → Option (Bool)
 | 0, _, _, _, _, _, _, _, _, _, _ => none
 | k + 1, x1, x2, x7, x8, x9, x10, x11, x12, x13, x14 => if x14 < (x2.length : Int) then (if x13 = true then (attestorlaw03_PolyRoots.l1 k x1 x2 x7 x8 x9 x10 x11 x12 true (wrap64 (x14 + 1))) else (if 0 ≤ x14 then (if x10 = 0 then (none) else (attestorlaw03_PolyRoots.l1 k x1 x2 x7 x8 x9 x10 x11 x12 ((Int.tmod (rd x2 x14) x10) == x12) (wrap64 (x14 + 1)))) else (none))) else ((poly_Eval.f k x7 x8 x12).bind fun t539 => (if (x13 != (t539 == 0)) = true then (none) else (attestorlaw03_PolyRoots.l0 k x1 x2 x7 x8 x9 x10 x11 (IntKind.u64.wrap (x12 + 1)))))
end
def attestorlaw03_PolyRoots.f (k : Nat) (a0 : Int) (l1 : List Int) (l2 : List Int) : Option (Bool) := (attestorlaw03_own.f l1 12).bind fun t522 => ((attestorlaw03_own.f l2 12).bind fun t525 => ((poly_Vanish.f k (wrap64 (Int.tmod a0 2)) t525).bind fun bt528 => (if (wrap64 (Int.tmod a0 2)) = 1 then (attestorlaw03_PolyRoots.j0 k t522 t525 (wrap64 (Int.tmod a0 2)) bt528.1 bt528.2 257) else (attestorlaw03_PolyRoots.j0 k t522 t525 (wrap64 (Int.tmod a0 2)) bt528.1 bt528.2 97))))
theorem attestorlaw03_PolyRoots.mono_l : ∀ k, (∀ y0 y1 y2 y3 y4 y5, LeO (attestorlaw03_PolyRoots.j0 k y0 y1 y2 y3 y4 y5) (attestorlaw03_PolyRoots.j0 (k + 1) y0 y1 y2 y3 y4 y5)) ∧ (∀ y0 y1 y2 y3 y4 y5 y6 y7, LeO (attestorlaw03_PolyRoots.l0 k y0 y1 y2 y3 y4 y5 y6 y7) (attestorlaw03_PolyRoots.l0 (k + 1) y0 y1 y2 y3 y4 y5 y6 y7)) ∧ (∀ y0 y1 y2 y3 y4 y5 y6 y7, LeO (attestorlaw03_PolyRoots.j2 k y0 y1 y2 y3 y4 y5 y6 y7) (attestorlaw03_PolyRoots.j2 (k + 1) y0 y1 y2 y3 y4 y5 y6 y7)) ∧ (∀ y0 y1 y2 y3 y4 y5 y6 y7, LeO (attestorlaw03_PolyRoots.j3 k y0 y1 y2 y3 y4 y5 y6 y7) (attestorlaw03_PolyRoots.j3 (k + 1) y0 y1 y2 y3 y4 y5 y6 y7)) ∧ (∀ y0 y1 y2 y3 y4 y5 y6 y7 y8 y9, LeO (attestorlaw03_PolyRoots.l1 k y0 y1 y2 y3 y4 y5 y6 y7 y8 y9) (attestorlaw03_PolyRoots.l1 (k + 1) y0 y1 y2 y3 y4 y5 y6 y7 y8 y9))
 | 0 => ⟨fun _ _ _ _ _ _ r h => by simp [attestorlaw03_PolyRoots.j0] at h, fun _ _ _ _ _ _ _ _ r h => by simp [attestorlaw03_PolyRoots.l0] at h, fun _ _ _ _ _ _ _ _ r h => by simp [attestorlaw03_PolyRoots.j2] at h, fun _ _ _ _ _ _ _ _ r h => by simp [attestorlaw03_PolyRoots.j3] at h, fun _ _ _ _ _ _ _ _ _ _ r h => by simp [attestorlaw03_PolyRoots.l1] at h⟩
 | k + 1 => by
  obtain ⟨ih0, ih1, ih2, ih3, ih4⟩ := attestorlaw03_PolyRoots.mono_l k
  refine ⟨?_, ?_, ?_, ?_, ?_⟩
  ·intro y0 y1 y2 y3 y4 y5
   unfold attestorlaw03_PolyRoots.j0
   repeat' first
   | (with_reducible exact ih0 _ _ _ _ _ _)
   | (with_reducible exact ih1 _ _ _ _ _ _ _ _)
   | (with_reducible exact ih2 _ _ _ _ _ _ _ _)
   | (with_reducible exact ih3 _ _ _ _ _ _ _ _)
   | (with_reducible exact ih4 _ _ _ _ _ _ _ _ _ _)
   | (with_reducible exact attestorlaw03_works.mono _)
   | (with_reducible exact poly_Degree.mono _ _ _)
   | (with_reducible exact poly_Eval.mono _ _ _ _)
   | (with_reducible exact poly_Vanish.mono _ _ _)
   | (with_reducible exact LeO.refl _)
   | (with_reducible exact LeO.none _)
   | (with_reducible refine LeO.ite ?_ ?_)
   | (with_reducible refine LeO.bind ?_ (fun _ => ?_))
   | exact ih0 _ _ _ _ _ _
   | exact ih1 _ _ _ _ _ _ _ _
   | exact ih2 _ _ _ _ _ _ _ _
   | exact ih3 _ _ _ _ _ _ _ _
   | exact ih4 _ _ _ _ _ _ _ _ _ _
   | exact attestorlaw03_works.mono _
   | exact poly_Degree.mono _ _ _
   | exact poly_Eval.mono _ _ _ _
   | exact poly_Vanish.mono _ _ _
   | exact LeO.none _
   | refine LeO.ite ?_ ?_
   | refine LeO.bind ?_ (fun _ => ?_)
  ·intro y0 y1 y2 y3 y4 y5 y6 y7
   unfold attestorlaw03_PolyRoots.l0
   repeat' first
   | (with_reducible exact ih0 _ _ _ _ _ _)
   | (with_reducible exact ih1 _ _ _ _ _ _ _ _)
   | (with_reducible exact ih2 _ _ _ _ _ _ _ _)
   | (with_reducible exact ih3 _ _ _ _ _ _ _ _)
   | (with_reducible exact ih4 _ _ _ _ _ _ _ _ _ _)
   | (with_reducible exact attestorlaw03_works.mono _)
   | (with_reducible exact poly_Degree.mono _ _ _)
   | (with_reducible exact poly_Eval.mono _ _ _ _)
   | (with_reducible exact poly_Vanish.mono _ _ _)
   | (with_reducible exact LeO.refl _)
   | (with_reducible exact LeO.none _)
   | (with_reducible refine LeO.ite ?_ ?_)
   | (with_reducible refine LeO.bind ?_ (fun _ => ?_))
   | exact ih0 _ _ _ _ _ _
   | exact ih1 _ _ _ _ _ _ _ _
   | exact ih2 _ _ _ _ _ _ _ _
   | exact ih3 _ _ _ _ _ _ _ _
   | exact ih4 _ _ _ _ _ _ _ _ _ _
   | exact attestorlaw03_works.mono _
   | exact poly_Degree.mono _ _ _
   | exact poly_Eval.mono _ _ _ _
   | exact poly_Vanish.mono _ _ _
   | exact LeO.none _
   | refine LeO.ite ?_ ?_
   | refine LeO.bind ?_ (fun _ => ?_)
  ·intro y0 y1 y2 y3 y4 y5 y6 y7
   unfold attestorlaw03_PolyRoots.j2
   repeat' first
   | (with_reducible exact ih0 _ _ _ _ _ _)
   | (with_reducible exact ih1 _ _ _ _ _ _ _ _)
   | (with_reducible exact ih2 _ _ _ _ _ _ _ _)
   | (with_reducible exact ih3 _ _ _ _ _ _ _ _)
   | (with_reducible exact ih4 _ _ _ _ _ _ _ _ _ _)
   | (with_reducible exact attestorlaw03_works.mono _)
   | (with_reducible exact poly_Degree.mono _ _ _)
   | (with_reducible exact poly_Eval.mono _ _ _ _)
   | (with_reducible exact poly_Vanish.mono _ _ _)
   | (with_reducible exact LeO.refl _)
   | (with_reducible exact LeO.none _)
   | (with_reducible refine LeO.ite ?_ ?_)
   | (with_reducible refine LeO.bind ?_ (fun _ => ?_))
   | exact ih0 _ _ _ _ _ _
   | exact ih1 _ _ _ _ _ _ _ _
   | exact ih2 _ _ _ _ _ _ _ _
   | exact ih3 _ _ _ _ _ _ _ _
   | exact ih4 _ _ _ _ _ _ _ _ _ _
   | exact attestorlaw03_works.mono _
   | exact poly_Degree.mono _ _ _
   | exact poly_Eval.mono _ _ _ _
   | exact poly_Vanish.mono _ _ _
   | exact LeO.none _
   | refine LeO.ite ?_ ?_
   | refine LeO.bind ?_ (fun _ => ?_)
  ·intro y0 y1 y2 y3 y4 y5 y6 y7
   unfold attestorlaw03_PolyRoots.j3
   repeat' first
   | (with_reducible exact ih0 _ _ _ _ _ _)
   | (with_reducible exact ih1 _ _ _ _ _ _ _ _)
   | (with_reducible exact ih2 _ _ _ _ _ _ _ _)
   | (with_reducible exact ih3 _ _ _ _ _ _ _ _)
   | (with_reducible exact ih4 _ _ _ _ _ _ _ _ _ _)
   | (with_reducible exact attestorlaw03_works.mono _)
   | (with_reducible exact poly_Degree.mono _ _ _)
   | (with_reducible exact poly_Eval.mono _ _ _ _)
   | (with_reducible exact poly_Vanish.mono _ _ _)
   | (with_reducible exact LeO.refl _)
   | (with_reducible exact LeO.none _)
   | (with_reducible refine LeO.ite ?_ ?_)
   | (with_reducible refine LeO.bind ?_ (fun _ => ?_))
   | exact ih0 _ _ _ _ _ _
   | exact ih1 _ _ _ _ _ _ _ _
   | exact ih2 _ _ _ _ _ _ _ _
   | exact ih3 _ _ _ _ _ _ _ _
   | exact ih4 _ _ _ _ _ _ _ _ _ _
   | exact attestorlaw03_works.mono _
   | exact poly_Degree.mono _ _ _
   | exact poly_Eval.mono _ _ _ _
   | exact poly_Vanish.mono _ _ _
   | exact LeO.none _
   | refine LeO.ite ?_ ?_
   | refine LeO.bind ?_ (fun _ => ?_)
  ·intro y0 y1 y2 y3 y4 y5 y6 y7 y8 y9
   unfold attestorlaw03_PolyRoots.l1
   repeat' first
   | (with_reducible exact ih0 _ _ _ _ _ _)
   | (with_reducible exact ih1 _ _ _ _ _ _ _ _)
   | (with_reducible exact ih2 _ _ _ _ _ _ _ _)
   | (with_reducible exact ih3 _ _ _ _ _ _ _ _)
   | (with_reducible exact ih4 _ _ _ _ _ _ _ _ _ _)
   | (with_reducible exact attestorlaw03_works.mono _)
   | (with_reducible exact poly_Degree.mono _ _ _)
   | (with_reducible exact poly_Eval.mono _ _ _ _)
   | (with_reducible exact poly_Vanish.mono _ _ _)
   | (with_reducible exact LeO.refl _)
   | (with_reducible exact LeO.none _)
   | (with_reducible refine LeO.ite ?_ ?_)
   | (with_reducible refine LeO.bind ?_ (fun _ => ?_))
   | exact ih0 _ _ _ _ _ _
   | exact ih1 _ _ _ _ _ _ _ _
   | exact ih2 _ _ _ _ _ _ _ _
   | exact ih3 _ _ _ _ _ _ _ _
   | exact ih4 _ _ _ _ _ _ _ _ _ _
   | exact attestorlaw03_works.mono _
   | exact poly_Degree.mono _ _ _
   | exact poly_Eval.mono _ _ _ _
   | exact poly_Vanish.mono _ _ _
   | exact LeO.none _
   | refine LeO.ite ?_ ?_
   | refine LeO.bind ?_ (fun _ => ?_)
theorem attestorlaw03_PolyRoots.mono : ∀ a0 a1 a2 k, LeO (attestorlaw03_PolyRoots.f k a0 a1 a2) (attestorlaw03_PolyRoots.f (k + 1) a0 a1 a2) := by
 intro a0 a1 a2 k
 obtain ⟨ih0, ih1, ih2, ih3, ih4⟩ := attestorlaw03_PolyRoots.mono_l k
 unfold attestorlaw03_PolyRoots.f
 repeat' first
   | (with_reducible exact ih0 _ _ _ _ _ _)
   | (with_reducible exact ih1 _ _ _ _ _ _ _ _)
   | (with_reducible exact ih2 _ _ _ _ _ _ _ _)
   | (with_reducible exact ih3 _ _ _ _ _ _ _ _)
   | (with_reducible exact ih4 _ _ _ _ _ _ _ _ _ _)
   | (with_reducible exact attestorlaw03_works.mono _)
   | (with_reducible exact poly_Degree.mono _ _ _)
   | (with_reducible exact poly_Eval.mono _ _ _ _)
   | (with_reducible exact poly_Vanish.mono _ _ _)
   | (with_reducible exact LeO.refl _)
   | (with_reducible exact LeO.none _)
   | (with_reducible refine LeO.ite ?_ ?_)
   | (with_reducible refine LeO.bind ?_ (fun _ => ?_))
   | exact ih0 _ _ _ _ _ _
   | exact ih1 _ _ _ _ _ _ _ _
   | exact ih2 _ _ _ _ _ _ _ _
   | exact ih3 _ _ _ _ _ _ _ _
   | exact ih4 _ _ _ _ _ _ _ _ _ _
   | exact attestorlaw03_works.mono _
   | exact poly_Degree.mono _ _ _
   | exact poly_Eval.mono _ _ _ _
   | exact poly_Vanish.mono _ _ _
   | exact LeO.none _
   | refine LeO.ite ?_ ?_
   | refine LeO.bind ?_ (fun _ => ?_)
set_option maxHeartbeats 8000000 in
set_option maxRecDepth 100000 in
theorem attestorlaw03_PolyRoots.calls (k : Nat) (a0 : Int) (A1 : Option Addr) (c1 : Nat) (l1 : List Int) (A2 : Option Addr) (c2 : Nat) (l2 : List Int) (r : Bool) (w : World) (hG : Fld w) (hr1 : Kd.C (Kd.int .u64) w A1 l1.length l1) (hc1 : l1.length ≤ c1) (hr2 : Kd.C (Kd.int .u64) w A2 l2.length l2) (hc2 : l2.length ≤ c2) (h : attestorlaw03_PolyRoots.f k a0 l1 l2 = some r) :
  Calls Tryd.prog 6 #[.int .u8 a0, .slice A1 l1.length c1, .slice A2 l2.length c2] w fun e w' => e = .returned (.bool r) ∧ Below w.heap.size w w' := by
 have HG := Aside0.mk hG
 clear hG
 have HR1 := Aside0.mk hr1
 have HC1 := Aside0.mk hc1
 clear hr1 hc1
 have HR2 := Aside0.mk hr2
 have HC2 := Aside0.mk hc2
 clear hr2 hc2
 have HB := Aside0.mk (Below.refl w.heap.size w)
 have H : ((attestorlaw03_own.f l1 12).bind fun t522 => ((attestorlaw03_own.f l2 12).bind fun t525 => ((poly_Vanish.f k (wrap64 (Int.tmod a0 2)) t525).bind fun bt528 => (if (wrap64 (Int.tmod a0 2)) = 1 then (attestorlaw03_PolyRoots.j0 k t522 t525 (wrap64 (Int.tmod a0 2)) bt528.1 bt528.2 257) else (attestorlaw03_PolyRoots.j0 k t522 t525 (wrap64 (Int.tmod a0 2)) bt528.1 bt528.2 97))))) = some r := h
 clear h
 replace H := Option.bind_eq_some_iff.mp H
 obtain ⟨t522, A40, H⟩ := H
 replace H : ((attestorlaw03_own.f l2 12).bind fun t525 => ((poly_Vanish.f k (wrap64 (Int.tmod a0 2)) t525).bind fun bt528 => (if (wrap64 (Int.tmod a0 2)) = 1 then (attestorlaw03_PolyRoots.j0 k t522 t525 (wrap64 (Int.tmod a0 2)) bt528.1 bt528.2 257) else (attestorlaw03_PolyRoots.j0 k t522 t525 (wrap64 (Int.tmod a0 2)) bt528.1 bt528.2 97)))) = some r := H
 have A4 := Aside0.mk A40
 clear A40
 replace H := Option.bind_eq_some_iff.mp H
 obtain ⟨t525, A50, H⟩ := H
 replace H : ((poly_Vanish.f k (wrap64 (Int.tmod a0 2)) t525).bind fun bt528 => (if (wrap64 (Int.tmod a0 2)) = 1 then (attestorlaw03_PolyRoots.j0 k t522 t525 (wrap64 (Int.tmod a0 2)) bt528.1 bt528.2 257) else (attestorlaw03_PolyRoots.j0 k t522 t525 (wrap64 (Int.tmod a0 2)) bt528.1 bt528.2 97))) = some r := H
 have A5 := Aside0.mk A50
 clear A50
 replace H := Option.bind_eq_some_iff.mp H
 obtain ⟨⟨t528, t529⟩, A60, H⟩ := H
 replace H : (if (wrap64 (Int.tmod a0 2)) = 1 then (attestorlaw03_PolyRoots.j0 k t522 t525 (wrap64 (Int.tmod a0 2)) t528 t529 257) else (attestorlaw03_PolyRoots.j0 k t522 t525 (wrap64 (Int.tmod a0 2)) t528 t529 97)) = some r := H
 have A6 := Aside0.mk A60
 clear A60
 have HC7 := Aside0.mk H
 clear H
 go_enter Tryd.func6, Tryd.ntmps6
 go_upto_if 30 with (first | ((with_reducible refine gate_callee (f := 11) rfl ?_); refine goesL_ (some 20) rfl rfl Tryd.func11 (by kernel_rfl) rfl #[.slice A1 l1.length c1, .int .i64 12] rfl (by (try simp only [List.map_toArray, List.map_cons, List.map_nil]); first | done | rfl | (simp only [List.length_drop, List.length_take]; rfl)) ?_; (with_reducible refine (attestorlaw03_own.calls _ _ l1 12 t522 _ ?side1 ?side2 A4.out).mono ?_); (case side1 => repeat (first | exact HR1.out | (with_reducible refine Kd.C_alloc ?_ _) | (with_reducible refine Kd.C_drewN ?_ _) | (with_reducible refine Kd.C_drew ?_))); (case side2 => exact HC1.out); rintro e w8 ⟨v523, rfl, ho0, hb⟩; refine ⟨_, rfl, ?_⟩; have n0_ := Aside0.mk (Kd.R_lower ho0 (below_size (bU_ HB.out))); have n1_ := Aside0.mk (below_step (bU_ HB.out) hb); clear HB; have HO524 := n0_; have HB := n1_; clear n0_ n1_; (try clear hb); (try clear hb2); (try clear hk); (try clear hi); (try clear ho0)) | ((with_reducible refine gate_callee (f := 11) rfl ?_); refine goesL_ (some 22) rfl rfl Tryd.func11 (by kernel_rfl) rfl #[.slice A2 l2.length c2, .int .i64 12] rfl (by (try simp only [List.map_toArray, List.map_cons, List.map_nil]); first | done | rfl | (simp only [List.length_drop, List.length_take]; rfl)) ?_; (with_reducible refine (attestorlaw03_own.calls _ _ l2 12 t525 _ ?side1 ?side2 A5.out).mono ?_); (case side1 => repeat (first | exact (Kd.C_below HR2.out HB.out) | (with_reducible refine Kd.C_alloc ?_ _) | (with_reducible refine Kd.C_drewN ?_ _) | (with_reducible refine Kd.C_drew ?_))); (case side2 => exact HC2.out); rintro e w9 ⟨v526, rfl, ho0, hb⟩; refine ⟨_, rfl, ?_⟩; have n0_ := Aside0.mk (Kd.R_elder' (rU_ HO524.out) (Kd.R_base ho0) hb); have n1_ := Aside0.mk (Kd.R_lower (Kd.R_new' ho0 (Kd.R_lt (rU_ HO524.out))) (below_size (bU_ HB.out))); have n2_ := Aside0.mk (below_step (bU_ HB.out) hb); clear HO524; clear HB; have HO524 := n0_; have HO527 := n1_; have HB := n2_; clear n0_ n1_ n2_; (try clear hb); (try clear hb2); (try clear hk); (try clear hi); (try clear ho0); obtain ⟨Ao10, co10, eo10⟩ := Kd.R_slice HO527.out; subst eo10) | ((with_reducible refine gate_callee (f := 14) rfl ?_); refine goesL_ (some 26) rfl rfl Tryd.func14 (by kernel_rfl) rfl #[.int .i64 (wrap64 (Int.tmod a0 2)), .slice Ao10 t525.length co10] rfl (by (try simp only [List.map_toArray, List.map_cons, List.map_nil]); first | done | rfl | (simp only [List.length_drop, List.length_take]; rfl)) ?_; (with_reducible refine (poly_Vanish.calls k (wrap64 (Int.tmod a0 2)) _ _ t525 t528 t529 _ ?side1 ?side2 ?side3 A6.out).mono ?_); (case side1 => exact fU_ HG.out HB.out); (case side2 => repeat (first | exact (Kd.R_reads' HO527.out).2.2 | (with_reducible refine Kd.C_alloc ?_ _) | (with_reducible refine Kd.C_drewN ?_ _) | (with_reducible refine Kd.C_drew ?_))); (case side3 => exact (Kd.R_reads' HO527.out).2.1); rintro e w11 ⟨v530, rfl, ho0, hb⟩; refine ⟨_, rfl, ?_⟩; have n0_ := Aside0.mk (Kd.R_elder' (rU_ HO524.out) (Kd.R_base ho0) hb); have n1_ := Aside0.mk (Kd.R_elder' (rU_ HO527.out) (Kd.R_base ho0) hb); have n2_ := Aside0.mk (Kd.R_lower (Kd.R_new' (Kd.R_new' ho0 (Kd.R_lt (rU_ HO524.out))) (Kd.R_lt (rU_ HO527.out))) (below_size (bU_ HB.out))); have n3_ := Aside0.mk (below_step (bU_ HB.out) hb); clear HO524; clear HO527; clear HB; have HO524 := n0_; have HO527 := n1_; have HO531 := n2_; have HB := n3_; clear n0_ n1_ n2_ n3_; (try clear hb); (try clear hb2); (try clear hk); (try clear hi); (try clear ho0)))
 (try simp only [Act.put, List.setIfInBounds_toArray, List.set_cons_zero, List.set_cons_succ])
 go_cut [10] (fun v10 wc => ∃ (kq : Nat) (x10_6 : Int), v10 = .int .u64 x10_6 ∧ Aside0 (attestorlaw03_PolyRoots.j0 kq t522 t525 (wrap64 (Int.tmod a0 2)) t528 t529 x10_6 = some r) ∧ Aside0 (kq ≤ k) ∧ Aside0 (Kd.R (Kd.int .u64) 32 wc w.heap.size (fun k_ => some k_ ≠ ((.slice Ao10 t525.length co10) : Value).ownBlock ∧ some k_ ≠ (v530 : Value).ownBlock) v523 t522) ∧ Aside0 (Kd.R (Kd.int .u64) 32 wc w.heap.size (fun k_ => some k_ ≠ (v523 : Value).ownBlock ∧ some k_ ≠ (v530 : Value).ownBlock) (.slice Ao10 t525.length co10) t525) ∧ Aside0 (Kd.R (Kd.int .u64) 32 wc w.heap.size (fun k_ => some k_ ≠ (v523 : Value).ownBlock ∧ some k_ ≠ ((.slice Ao10 t525.length co10) : Value).ownBlock) v530 t528) ∧ Aside0 (Below w.heap.size w wc))
 case first =>
  have H := HC7.out
  clear HC7
  by_cases c12 : (wrap64 (Int.tmod a0 2)) = 1
  ·rw [if_pos c12] at H
   have c12b0 : ((wrap64 (Int.tmod a0 2)) == 1) = true := beq_iff_eq.mpr c12
   have c12b1 : ((wrap64 (Int.tmod a0 2)) != 1) = false := bne_eq_false_iff_eq.mpr c12
   clear c12
   (first | rw [c12b0] | (simp only [i64_w, i32_w]; rw [c12b0]) | rw [c12b1] | skip)
   have H' := Aside0.mk H
   clear H
   go_wp2
   go_meet
   case rel => exact ⟨_, (257), (by first | rfl | (simp; done) | (simp [*]; done)), H', ⟨by first | omega | exact Nat.le_refl _⟩, ⟨by (with_reducible repeat (first | apply Kd.R_alloc | apply Kd.R_drewN | apply Kd.R_drew)); exact Kd.R_mono HO524.out (fun _ hk => ⟨hk.1.2, hk.2⟩)⟩, ⟨by (with_reducible repeat (first | apply Kd.R_alloc | apply Kd.R_drewN | apply Kd.R_drew)); exact Kd.R_mono HO527.out (fun _ hk => ⟨hk.1.2, hk.2⟩)⟩, ⟨by (with_reducible repeat (first | apply Kd.R_alloc | apply Kd.R_drewN | apply Kd.R_drew)); exact Kd.R_mono HO531.out (fun _ hk => ⟨hk.1.2, hk.2⟩)⟩, ⟨bU_ HB.out⟩⟩
  ·rw [if_neg c12] at H
   have c12b0 : ((wrap64 (Int.tmod a0 2)) == 1) = false := beq_eq_false_iff_ne.mpr c12
   have c12b1 : ((wrap64 (Int.tmod a0 2)) != 1) = true := bne_iff_ne.mpr c12
   (first | rw [c12b0] | (simp only [i64_w, i32_w]; rw [c12b0]) | rw [c12b1] | skip)
   have H' := Aside0.mk H
   clear H
   go_wp2
   go_meet
   case rel => exact ⟨_, (97), (by first | rfl | (simp; done) | (simp [*]; done)), H', ⟨by first | omega | exact Nat.le_refl _⟩, ⟨by (with_reducible repeat (first | apply Kd.R_alloc | apply Kd.R_drewN | apply Kd.R_drew)); exact Kd.R_mono HO524.out (fun _ hk => ⟨hk.1.2, hk.2⟩)⟩, ⟨by (with_reducible repeat (first | apply Kd.R_alloc | apply Kd.R_drewN | apply Kd.R_drew)); exact Kd.R_mono HO527.out (fun _ hk => ⟨hk.1.2, hk.2⟩)⟩, ⟨by (with_reducible repeat (first | apply Kd.R_alloc | apply Kd.R_drewN | apply Kd.R_drew)); exact Kd.R_mono HO531.out (fun _ hk => ⟨hk.1.2, hk.2⟩)⟩, ⟨bU_ HB.out⟩⟩
 case rest =>
  clear HC7
  try clear c1
  try clear c2
  try clear p2
  try clear c6
  try clear p6
  try clear c11
  try clear c12
  try clear c12b0
  try clear c12b1
  obtain ⟨kq, x10_6, rfl, HA, HJ6, HO_1, HO_2, HO_8, HB⟩ := hcut
  cases kq with
  | zero => exact absurd HA.out (by simp [attestorlaw03_PolyRoots.j0])
  | succ kj6 =>
   have H := HA.out
   clear HA
   simp only [attestorlaw03_PolyRoots.j0] at H
   have H' := Aside0.mk H
   clear H
   go_wp2
   go_loopg [11, 12] kj6 (fun kq v11 v12 w' => ∃ (x11_2 : Int) (x12_2 : Int), v11 = .int .i64 x11_2 ∧ v12 = .int .u64 x12_2 ∧ Aside0 (attestorlaw03_PolyRoots.l0 kq t522 t525 (wrap64 (Int.tmod a0 2)) t528 t529 x10_6 x11_2 x12_2 = some r) ∧ Aside0 (kq ≤ kj6) ∧ Aside0 (Kd.R (Kd.int .u64) 32 w' w.heap.size (fun k_ => some k_ ≠ ((.slice Ao10 t525.length co10) : Value).ownBlock ∧ some k_ ≠ (v530 : Value).ownBlock) v523 t522) ∧ Aside0 (Kd.R (Kd.int .u64) 32 w' w.heap.size (fun k_ => some k_ ≠ (v523 : Value).ownBlock ∧ some k_ ≠ (v530 : Value).ownBlock) (.slice Ao10 t525.length co10) t525) ∧ Aside0 (Kd.R (Kd.int .u64) 32 w' w.heap.size (fun k_ => some k_ ≠ (v523 : Value).ownBlock ∧ some k_ ≠ ((.slice Ao10 t525.length co10) : Value).ownBlock) v530 t528) ∧ Aside0 (Below w.heap.size w w'))
   case atStart => exact ⟨(0), (0), (by first | rfl | (simp; done) | (simp [*]; done)), (by first | rfl | (simp; done) | (simp [*]; done)), H', ⟨Nat.le_refl _⟩, ⟨rU_ HO_1.out⟩, ⟨rU_ HO_2.out⟩, ⟨rU_ HO_8.out⟩, ⟨bU_ HB.out⟩⟩
   case round =>
    clear H'
    try clear c1
    try clear c2
    try clear p2
    try clear c6
    try clear p6
    try clear c11
    try clear c12
    try clear c12b0
    try clear c12b1
    try clear p2
    try clear p6
    obtain ⟨x11_2, x12_2, rfl, rfl, HA, HK2, HO_1, HO_2, HO_8, HB⟩ := hrel
    cases gk with
    | zero => exact absurd HA.out (by simp [attestorlaw03_PolyRoots.l0])
    | succ k2 =>
     have H := HA.out
     clear HA
     simp only [attestorlaw03_PolyRoots.l0] at H
     have HC13 := Aside0.mk H
     clear H
     go_upto_if 33 with (fail)
     go_cut [] (fun wc => ∃ (kq : Nat), Aside0 (attestorlaw03_PolyRoots.j2 kq t522 t525 (wrap64 (Int.tmod a0 2)) t528 t529 x10_6 x11_2 x12_2 = some r) ∧ Aside0 (kq ≤ k2) ∧ Aside0 (Kd.R (Kd.int .u64) 32 wc w.heap.size (fun k_ => some k_ ≠ ((.slice Ao10 t525.length co10) : Value).ownBlock ∧ some k_ ≠ (v530 : Value).ownBlock) v523 t522) ∧ Aside0 (Kd.R (Kd.int .u64) 32 wc w.heap.size (fun k_ => some k_ ≠ (v523 : Value).ownBlock ∧ some k_ ≠ (v530 : Value).ownBlock) (.slice Ao10 t525.length co10) t525) ∧ Aside0 (Kd.R (Kd.int .u64) 32 wc w.heap.size (fun k_ => some k_ ≠ (v523 : Value).ownBlock ∧ some k_ ≠ ((.slice Ao10 t525.length co10) : Value).ownBlock) v530 t528) ∧ Aside0 (Below w.heap.size w wc))
     case first =>
      have H := HC13.out
      clear HC13
      by_cases c14 : x12_2 < x10_6
      ·rw [if_pos c14] at H
       have c14b0 : decide (x12_2 < x10_6) = true := decide_eq_true c14
       clear c14
       (first | rw [c14b0] | (simp only [i64_w, i32_w]; rw [c14b0]) | rw [c14b1] | skip)
       have H' := Aside0.mk H
       clear H
       go_wp2
       go_meet
       case rel => exact ⟨_, H', ⟨by have := HJ6.out; have := HK2.out; first | omega | exact Nat.le_refl _⟩, ⟨rU_ HO_1.out⟩, ⟨rU_ HO_2.out⟩, ⟨rU_ HO_8.out⟩, ⟨bU_ HB.out⟩⟩
      ·rw [if_neg c14] at H
       have c14b0 : decide (x12_2 < x10_6) = false := decide_eq_false c14
       clear c14
       (first | rw [c14b0] | (simp only [i64_w, i32_w]; rw [c14b0]) | rw [c14b1] | skip)
       replace H := Option.bind_eq_some_iff.mp H
       obtain ⟨t532, A150, H⟩ := H
       replace H : (if t529 = 0 then (if (t528.length : Int) = (wrap64 ((t525.length : Int) + 1)) then (if 0 ≤ (wrap64 ((t528.length : Int) - 1)) then (if (wrap64 ((t528.length : Int) - 1)) < (t528.length : Int) then (if (rd t528 (wrap64 ((t528.length : Int) - 1))) = 1 then (if t532 < 0 then (if x11_2 = (wrap64 (x10_6)) then ((attestorlaw03_works.f k2).bind fun t534 => (some t534)) else (if t532 ≥ 0 then (if x11_2 ≤ t532 then ((attestorlaw03_works.f k2).bind fun t535 => (some t535)) else (none)) else (none))) else (if t532 ≥ 0 then (if x11_2 ≤ t532 then ((attestorlaw03_works.f k2).bind fun t536 => (some t536)) else (none)) else (none))) else (none)) else (none)) else (none)) else (none)) else (none)) = some r := H
       have A15 := Aside0.mk A150
       clear A150
       by_cases c16 : t529 = 0
       ·rw [if_pos c16] at H
        have c16b0 : (t529 == 0) = true := beq_iff_eq.mpr c16
        have c16b1 : (t529 != 0) = false := bne_eq_false_iff_eq.mpr c16
        clear c16
        by_cases c17 : (t528.length : Int) = (wrap64 ((t525.length : Int) + 1))
        ·rw [if_pos c17] at H
         have c17b0 : ((t528.length : Int) == (wrap64 ((t525.length : Int) + 1))) = true := beq_iff_eq.mpr c17
         have c17b1 : ((t528.length : Int) != (wrap64 ((t525.length : Int) + 1))) = false := bne_eq_false_iff_eq.mpr c17
         clear c17
         obtain ⟨ji18, hji18⟩ : ∃ j_ : Int, (wrap64 ((t528.length : Int) - 1)) = j_ := ⟨_, rfl⟩
         replace H : (if 0 ≤ (ji18) then (if (ji18) < (t528.length : Int) then (if (rd t528 (ji18)) = 1 then (if t532 < 0 then (if x11_2 = (wrap64 (x10_6)) then ((attestorlaw03_works.f k2).bind fun t534 => (some t534)) else (if t532 ≥ 0 then (if x11_2 ≤ t532 then ((attestorlaw03_works.f k2).bind fun t535 => (some t535)) else (none)) else (none))) else (if t532 ≥ 0 then (if x11_2 ≤ t532 then ((attestorlaw03_works.f k2).bind fun t536 => (some t536)) else (none)) else (none))) else (none)) else (none)) else (none)) = some r := by first | (rw [hji18] at H; exact H) | (simp only [hji18] at H ⊢; exact H)
         (try rw [hji18] at A15)
         have hji18w : (IntKind.i64.wrap ((t528.length : Int) - 1)) = ji18 := (i64_w _).trans hji18
         by_cases c19 : 0 ≤ (ji18)
         ·rw [if_pos c19] at H
          have c19b0 : decide (0 ≤ (ji18)) = true := decide_eq_true c19
          clear c19
          by_cases c20 : (ji18) < (t528.length : Int)
          ·rw [if_pos c20] at H
           have c20b0 : decide ((ji18) < (t528.length : Int)) = true := decide_eq_true c20
           clear c20
           by_cases c21 : (rd t528 (ji18)) = 1
           ·rw [if_pos c21] at H
            have c21b0 : ((rd t528 (ji18)) == 1) = true := beq_iff_eq.mpr c21
            have c21b1 : ((rd t528 (ji18)) != 1) = false := bne_eq_false_iff_eq.mpr c21
            clear c21
            by_cases c22 : t532 < 0
            ·rw [if_pos c22] at H
             have c22b0 : decide (t532 < 0) = true := decide_eq_true c22
             clear c22
             by_cases c23 : x11_2 = (wrap64 (x10_6))
             ·rw [if_pos c23] at H
              have c23b0 : (x11_2 == (wrap64 (x10_6))) = true := beq_iff_eq.mpr c23
              have c23b1 : (x11_2 != (wrap64 (x10_6))) = false := bne_eq_false_iff_eq.mpr c23
              clear c23
              replace H := Option.bind_eq_some_iff.mp H
              obtain ⟨t534, A240, H⟩ := H
              replace H : (some t534) = some r := H
              have A24 := Aside0.mk A240
              clear A240
              obtain rfl := Option.some.inj H
              obtain ⟨Ao25, co25, eo25⟩ := Kd.R_slice HO_1.out
              subst eo25
              go_wp2_with (first | ((with_reducible refine gate_callee (f := 18) rfl ?_); refine goesL_ (some 69) rfl rfl Tryd.func18 (by kernel_rfl) rfl #[.int .i64 (wrap64 (Int.tmod a0 2)), .slice Ao25 t522.length co25] rfl (by (try simp only [List.map_toArray, List.map_cons, List.map_nil]); first | done | rfl | (simp only [List.length_drop, List.length_take]; rfl)) ?_; (with_reducible refine (poly_Degree.calls k2 (wrap64 (Int.tmod a0 2)) _ _ t522 t532 _ ?side1 ?side2 ?side3 A15.out).mono ?_); (case side1 => exact fU_ HG.out HB.out); (case side2 => repeat (first | exact (Kd.R_reads' HO_1.out).2.2 | (with_reducible refine Kd.C_alloc ?_ _) | (with_reducible refine Kd.C_drewN ?_ _) | (with_reducible refine Kd.C_drew ?_))); (case side3 => exact (Kd.R_reads' HO_1.out).2.1); rintro e w26 ⟨rfl, hb⟩; refine ⟨_, rfl, ?_⟩; have n0_ := Aside0.mk (Kd.R_below (rU_ HO_1.out) hb); have n1_ := Aside0.mk (Kd.R_below (rU_ HO_2.out) hb); have n2_ := Aside0.mk (Kd.R_below (rU_ HO_8.out) hb); have n3_ := Aside0.mk (below_step (bU_ HB.out) hb); clear HO_1; clear HO_2; clear HO_8; clear HB; have HO_1 := n0_; have HO_2 := n1_; have HO_8 := n2_; have HB := n3_; clear n0_ n1_ n2_ n3_; (try clear hb); (try clear hb2); (try clear hk); (try clear hi); obtain ⟨Ao27, co27, eo27⟩ := Kd.R_slice HO_8.out; subst eo27; have p533 : 0 ≤ ((ji18) : Int) := of_decide_eq_true (by first | (with_reducible assumption) | assumption); have q533 : (ji18) < (t528.length : Int) := of_decide_eq_true (by first | (with_reducible assumption) | assumption); obtain ⟨ad533, e533, hx533_0⟩ := Kd.at_int (Kd.R_reads' HO_8.out).2.2 (ji18) p533 q533; cases e533; replace p533 := eq_true p533; replace q533 := eq_true q533) | (go_at_call 17; (with_reducible refine (attestorlaw03_works.calls k2  t534 _ ?side1 A24.out).mono ?_); (case side1 => exact fU_ HG.out HB.out); rintro e w28 ⟨rfl, hb⟩; have n0_ := Aside0.mk (Kd.R_below (rU_ HO_1.out) hb); have n1_ := Aside0.mk (Kd.R_below (rU_ HO_2.out) hb); have n2_ := Aside0.mk (Kd.R_below (rU_ HO_8.out) hb); have n3_ := Aside0.mk (below_step (bU_ HB.out) hb); clear HO_1; clear HO_2; clear HO_8; clear HB; have HO_1 := n0_; have HO_2 := n1_; have HO_8 := n2_; have HB := n3_; clear n0_ n1_ n2_ n3_; (try clear hb); (try clear hb2); (try clear hk); (try clear hi)))
              go_ret
              exact ⟨by first | rfl | (simp [errW_none, errW_some] <;> rfl) | (simp only [← hji18]; first | rfl | (simp [errW_none, errW_some] <;> rfl)) | (simp [*, errW_none, errW_some] <;> rfl), bU_ HB.out⟩
             ·rw [if_neg c23] at H
              have c23b0 : (x11_2 == (wrap64 (x10_6))) = false := beq_eq_false_iff_ne.mpr c23
              have c23b1 : (x11_2 != (wrap64 (x10_6))) = true := bne_iff_ne.mpr c23
              by_cases c29 : t532 ≥ 0
              ·rw [if_pos c29] at H
               have c29b0 : decide (0 ≤ t532) = true := decide_eq_true c29
               clear c29
               by_cases c30 : x11_2 ≤ t532
               ·rw [if_pos c30] at H
                have c30b0 : decide (x11_2 ≤ t532) = true := decide_eq_true c30
                clear c30
                replace H := Option.bind_eq_some_iff.mp H
                obtain ⟨t535, A310, H⟩ := H
                replace H : (some t535) = some r := H
                have A31 := Aside0.mk A310
                clear A310
                obtain rfl := Option.some.inj H
                obtain ⟨Ao32, co32, eo32⟩ := Kd.R_slice HO_1.out
                subst eo32
                go_wp2_with (first | ((with_reducible refine gate_callee (f := 18) rfl ?_); refine goesL_ (some 69) rfl rfl Tryd.func18 (by kernel_rfl) rfl #[.int .i64 (wrap64 (Int.tmod a0 2)), .slice Ao32 t522.length co32] rfl (by (try simp only [List.map_toArray, List.map_cons, List.map_nil]); first | done | rfl | (simp only [List.length_drop, List.length_take]; rfl)) ?_; (with_reducible refine (poly_Degree.calls k2 (wrap64 (Int.tmod a0 2)) _ _ t522 t532 _ ?side1 ?side2 ?side3 A15.out).mono ?_); (case side1 => exact fU_ HG.out HB.out); (case side2 => repeat (first | exact (Kd.R_reads' HO_1.out).2.2 | (with_reducible refine Kd.C_alloc ?_ _) | (with_reducible refine Kd.C_drewN ?_ _) | (with_reducible refine Kd.C_drew ?_))); (case side3 => exact (Kd.R_reads' HO_1.out).2.1); rintro e w33 ⟨rfl, hb⟩; refine ⟨_, rfl, ?_⟩; have n0_ := Aside0.mk (Kd.R_below (rU_ HO_1.out) hb); have n1_ := Aside0.mk (Kd.R_below (rU_ HO_2.out) hb); have n2_ := Aside0.mk (Kd.R_below (rU_ HO_8.out) hb); have n3_ := Aside0.mk (below_step (bU_ HB.out) hb); clear HO_1; clear HO_2; clear HO_8; clear HB; have HO_1 := n0_; have HO_2 := n1_; have HO_8 := n2_; have HB := n3_; clear n0_ n1_ n2_ n3_; (try clear hb); (try clear hb2); (try clear hk); (try clear hi); obtain ⟨Ao34, co34, eo34⟩ := Kd.R_slice HO_8.out; subst eo34; have p533 : 0 ≤ ((ji18) : Int) := of_decide_eq_true (by first | (with_reducible assumption) | assumption); have q533 : (ji18) < (t528.length : Int) := of_decide_eq_true (by first | (with_reducible assumption) | assumption); obtain ⟨ad533, e533, hx533_0⟩ := Kd.at_int (Kd.R_reads' HO_8.out).2.2 (ji18) p533 q533; cases e533; replace p533 := eq_true p533; replace q533 := eq_true q533) | (go_at_call 17; (with_reducible refine (attestorlaw03_works.calls k2  t535 _ ?side1 A31.out).mono ?_); (case side1 => exact fU_ HG.out HB.out); rintro e w35 ⟨rfl, hb⟩; have n0_ := Aside0.mk (Kd.R_below (rU_ HO_1.out) hb); have n1_ := Aside0.mk (Kd.R_below (rU_ HO_2.out) hb); have n2_ := Aside0.mk (Kd.R_below (rU_ HO_8.out) hb); have n3_ := Aside0.mk (below_step (bU_ HB.out) hb); clear HO_1; clear HO_2; clear HO_8; clear HB; have HO_1 := n0_; have HO_2 := n1_; have HO_8 := n2_; have HB := n3_; clear n0_ n1_ n2_ n3_; (try clear hb); (try clear hb2); (try clear hk); (try clear hi)))
                go_ret
                exact ⟨by first | rfl | (simp [errW_none, errW_some] <;> rfl) | (simp only [← hji18]; first | rfl | (simp [errW_none, errW_some] <;> rfl)) | (simp [*, errW_none, errW_some] <;> rfl), bU_ HB.out⟩
               ·rw [if_neg c30] at H
                exact absurd H (by simp)
              ·rw [if_neg c29] at H
               exact absurd H (by simp)
            ·rw [if_neg c22] at H
             have c22b0 : decide (t532 < 0) = false := decide_eq_false c22
             clear c22
             by_cases c36 : t532 ≥ 0
             ·rw [if_pos c36] at H
              have c36b0 : decide (0 ≤ t532) = true := decide_eq_true c36
              clear c36
              by_cases c37 : x11_2 ≤ t532
              ·rw [if_pos c37] at H
               have c37b0 : decide (x11_2 ≤ t532) = true := decide_eq_true c37
               clear c37
               replace H := Option.bind_eq_some_iff.mp H
               obtain ⟨t536, A380, H⟩ := H
               replace H : (some t536) = some r := H
               have A38 := Aside0.mk A380
               clear A380
               obtain rfl := Option.some.inj H
               obtain ⟨Ao39, co39, eo39⟩ := Kd.R_slice HO_1.out
               subst eo39
               go_wp2_with (first | ((with_reducible refine gate_callee (f := 18) rfl ?_); refine goesL_ (some 69) rfl rfl Tryd.func18 (by kernel_rfl) rfl #[.int .i64 (wrap64 (Int.tmod a0 2)), .slice Ao39 t522.length co39] rfl (by (try simp only [List.map_toArray, List.map_cons, List.map_nil]); first | done | rfl | (simp only [List.length_drop, List.length_take]; rfl)) ?_; (with_reducible refine (poly_Degree.calls k2 (wrap64 (Int.tmod a0 2)) _ _ t522 t532 _ ?side1 ?side2 ?side3 A15.out).mono ?_); (case side1 => exact fU_ HG.out HB.out); (case side2 => repeat (first | exact (Kd.R_reads' HO_1.out).2.2 | (with_reducible refine Kd.C_alloc ?_ _) | (with_reducible refine Kd.C_drewN ?_ _) | (with_reducible refine Kd.C_drew ?_))); (case side3 => exact (Kd.R_reads' HO_1.out).2.1); rintro e w40 ⟨rfl, hb⟩; refine ⟨_, rfl, ?_⟩; have n0_ := Aside0.mk (Kd.R_below (rU_ HO_1.out) hb); have n1_ := Aside0.mk (Kd.R_below (rU_ HO_2.out) hb); have n2_ := Aside0.mk (Kd.R_below (rU_ HO_8.out) hb); have n3_ := Aside0.mk (below_step (bU_ HB.out) hb); clear HO_1; clear HO_2; clear HO_8; clear HB; have HO_1 := n0_; have HO_2 := n1_; have HO_8 := n2_; have HB := n3_; clear n0_ n1_ n2_ n3_; (try clear hb); (try clear hb2); (try clear hk); (try clear hi); obtain ⟨Ao41, co41, eo41⟩ := Kd.R_slice HO_8.out; subst eo41; have p533 : 0 ≤ ((ji18) : Int) := of_decide_eq_true (by first | (with_reducible assumption) | assumption); have q533 : (ji18) < (t528.length : Int) := of_decide_eq_true (by first | (with_reducible assumption) | assumption); obtain ⟨ad533, e533, hx533_0⟩ := Kd.at_int (Kd.R_reads' HO_8.out).2.2 (ji18) p533 q533; cases e533; replace p533 := eq_true p533; replace q533 := eq_true q533) | (go_at_call 17; (with_reducible refine (attestorlaw03_works.calls k2  t536 _ ?side1 A38.out).mono ?_); (case side1 => exact fU_ HG.out HB.out); rintro e w42 ⟨rfl, hb⟩; have n0_ := Aside0.mk (Kd.R_below (rU_ HO_1.out) hb); have n1_ := Aside0.mk (Kd.R_below (rU_ HO_2.out) hb); have n2_ := Aside0.mk (Kd.R_below (rU_ HO_8.out) hb); have n3_ := Aside0.mk (below_step (bU_ HB.out) hb); clear HO_1; clear HO_2; clear HO_8; clear HB; have HO_1 := n0_; have HO_2 := n1_; have HO_8 := n2_; have HB := n3_; clear n0_ n1_ n2_ n3_; (try clear hb); (try clear hb2); (try clear hk); (try clear hi)))
               go_ret
               exact ⟨by first | rfl | (simp [errW_none, errW_some] <;> rfl) | (simp only [← hji18]; first | rfl | (simp [errW_none, errW_some] <;> rfl)) | (simp [*, errW_none, errW_some] <;> rfl), bU_ HB.out⟩
              ·rw [if_neg c37] at H
               exact absurd H (by simp)
             ·rw [if_neg c36] at H
              exact absurd H (by simp)
           ·rw [if_neg c21] at H
            exact absurd H (by simp)
          ·rw [if_neg c20] at H
           exact absurd H (by simp)
         ·rw [if_neg c19] at H
          exact absurd H (by simp)
        ·rw [if_neg c17] at H
         exact absurd H (by simp)
       ·rw [if_neg c16] at H
        exact absurd H (by simp)
     case rest =>
      clear HC13
      try clear c1
      try clear c2
      try clear p2
      try clear c3
      try clear p5
      try clear q5
      try clear hx5
      try clear c6
      try clear p6
      try clear c11
      try clear c12
      try clear c12b0
      try clear c12b1
      try clear c14
      try clear c14b0
      try clear c14b1
      try clear c16
      try clear c16b0
      try clear c16b1
      try clear c17
      try clear c17b0
      try clear c17b1
      try clear c18
      try clear c19
      try clear c19b0
      try clear c20
      try clear c20b0
      try clear c21
      try clear c21b0
      try clear c21b1
      try clear c22
      try clear c22b0
      try clear c23
      try clear c23b0
      try clear c23b1
      try clear c29
      try clear c29b0
      try clear c30
      try clear c30b0
      try clear c36
      try clear c36b0
      try clear c37
      try clear c37b0
      try clear hx533_0
      try clear p2
      try clear p533
      try clear p6
      try clear q533
      obtain ⟨kq, HA, HJ12, HO_1, HO_2, HO_8, HB⟩ := hcut
      cases kq with
      | zero => exact absurd HA.out (by simp [attestorlaw03_PolyRoots.j2])
      | succ kj12 =>
       have H := HA.out
       clear HA
       simp only [attestorlaw03_PolyRoots.j2] at H
       replace H := Option.bind_eq_some_iff.mp H
       obtain ⟨t537, A430, H⟩ := H
       replace H : (if t537 = 0 then (attestorlaw03_PolyRoots.j3 kj12 t522 t525 (wrap64 (Int.tmod a0 2)) t528 t529 x10_6 (wrap64 (x11_2 + 1)) x12_2) else (attestorlaw03_PolyRoots.j3 kj12 t522 t525 (wrap64 (Int.tmod a0 2)) t528 t529 x10_6 x11_2 x12_2)) = some r := H
       have A43 := Aside0.mk A430
       clear A430
       have HC44 := Aside0.mk H
       clear H
       obtain ⟨Ao45, co45, eo45⟩ := Kd.R_slice HO_1.out
       subst eo45
       go_upto_if 40 with (first | ((with_reducible refine gate_callee (f := 25) rfl ?_); refine goesL_ (some 39) rfl rfl Tryd.func25 (by kernel_rfl) rfl #[.int .i64 (wrap64 (Int.tmod a0 2)), .slice Ao45 t522.length co45, .int .u64 x12_2] rfl (by (try simp only [List.map_toArray, List.map_cons, List.map_nil]); first | done | rfl | (simp only [List.length_drop, List.length_take]; rfl)) ?_; (with_reducible refine (poly_Eval.calls kj12 (wrap64 (Int.tmod a0 2)) _ _ t522 x12_2 t537 _ ?side1 ?side2 ?side3 A43.out).mono ?_); (case side1 => exact fU_ HG.out HB.out); (case side2 => repeat (first | exact (Kd.R_reads' HO_1.out).2.2 | (with_reducible refine Kd.C_alloc ?_ _) | (with_reducible refine Kd.C_drewN ?_ _) | (with_reducible refine Kd.C_drew ?_))); (case side3 => exact (Kd.R_reads' HO_1.out).2.1); rintro e w46 ⟨rfl, hb⟩; refine ⟨_, rfl, ?_⟩; have n0_ := Aside0.mk (Kd.R_below (rU_ HO_1.out) hb); have n1_ := Aside0.mk (Kd.R_below (rU_ HO_2.out) hb); have n2_ := Aside0.mk (Kd.R_below (rU_ HO_8.out) hb); have n3_ := Aside0.mk (below_step (bU_ HB.out) hb); clear HO_1; clear HO_2; clear HO_8; clear HB; have HO_1 := n0_; have HO_2 := n1_; have HO_8 := n2_; have HB := n3_; clear n0_ n1_ n2_ n3_; (try clear hb); (try clear hb2); (try clear hk); (try clear hi)))
       (try simp only [Act.put, List.setIfInBounds_toArray, List.set_cons_zero, List.set_cons_succ])
       go_cut [11] (fun v11 wc => ∃ (kq : Nat) (x11_43 : Int), v11 = .int .i64 x11_43 ∧ Aside0 (attestorlaw03_PolyRoots.j3 kq t522 t525 (wrap64 (Int.tmod a0 2)) t528 t529 x10_6 x11_43 x12_2 = some r) ∧ Aside0 (kq ≤ kj12) ∧ Aside0 (Kd.R (Kd.int .u64) 32 wc w.heap.size (fun k_ => some k_ ≠ ((.slice Ao10 t525.length co10) : Value).ownBlock ∧ some k_ ≠ (v530 : Value).ownBlock) (.slice Ao45 t522.length co45) t522) ∧ Aside0 (Kd.R (Kd.int .u64) 32 wc w.heap.size (fun k_ => some k_ ≠ ((.slice Ao45 t522.length co45) : Value).ownBlock ∧ some k_ ≠ (v530 : Value).ownBlock) (.slice Ao10 t525.length co10) t525) ∧ Aside0 (Kd.R (Kd.int .u64) 32 wc w.heap.size (fun k_ => some k_ ≠ ((.slice Ao45 t522.length co45) : Value).ownBlock ∧ some k_ ≠ ((.slice Ao10 t525.length co10) : Value).ownBlock) v530 t528) ∧ Aside0 (Below w.heap.size w wc))
       case first =>
        have H := HC44.out
        clear HC44
        by_cases c47 : t537 = 0
        ·rw [if_pos c47] at H
         have c47b0 : (t537 == 0) = true := beq_iff_eq.mpr c47
         have c47b1 : (t537 != 0) = false := bne_eq_false_iff_eq.mpr c47
         clear c47
         (first | rw [c47b0] | (simp only [i64_w, i32_w]; rw [c47b0]) | rw [c47b1] | skip)
         have H' := Aside0.mk H
         clear H
         go_wp2
         go_meet
         case rel => exact ⟨_, (wrap64 (x11_2 + 1)), (by first | rfl | (simp; done) | (simp [*]; done)), H', ⟨by have := HJ6.out; have := HK2.out; have := HJ12.out; first | omega | exact Nat.le_refl _⟩, ⟨rU_ HO_1.out⟩, ⟨rU_ HO_2.out⟩, ⟨rU_ HO_8.out⟩, ⟨bU_ HB.out⟩⟩
        ·rw [if_neg c47] at H
         have c47b0 : (t537 == 0) = false := beq_eq_false_iff_ne.mpr c47
         have c47b1 : (t537 != 0) = true := bne_iff_ne.mpr c47
         (first | rw [c47b0] | (simp only [i64_w, i32_w]; rw [c47b0]) | rw [c47b1] | skip)
         have H' := Aside0.mk H
         clear H
         go_wp2
         go_meet
         case rel => exact ⟨_, (x11_2), (by first | rfl | (simp; done) | (simp [*]; done)), H', ⟨by have := HJ6.out; have := HK2.out; have := HJ12.out; first | omega | exact Nat.le_refl _⟩, ⟨rU_ HO_1.out⟩, ⟨rU_ HO_2.out⟩, ⟨rU_ HO_8.out⟩, ⟨bU_ HB.out⟩⟩
       case rest =>
        clear HC44
        try clear c1
        try clear c2
        try clear p2
        try clear c3
        try clear c4
        try clear p5
        try clear q5
        try clear hx5
        try clear c6
        try clear p6
        try clear c11
        try clear c12
        try clear c12b0
        try clear c12b1
        try clear c14
        try clear c14b0
        try clear c14b1
        try clear c16
        try clear c16b0
        try clear c16b1
        try clear c17
        try clear c17b0
        try clear c17b1
        try clear c18
        try clear c19
        try clear c19b0
        try clear c20
        try clear c20b0
        try clear c21
        try clear c21b0
        try clear c21b1
        try clear c22
        try clear c22b0
        try clear c23
        try clear c23b0
        try clear c23b1
        try clear c25
        try clear c29
        try clear c29b0
        try clear c30
        try clear c30b0
        try clear c36
        try clear c36b0
        try clear c37
        try clear c37b0
        try clear c47
        try clear c47b0
        try clear c47b1
        try clear hx533_0
        try clear p2
        try clear p5
        try clear p533
        try clear p6
        try clear q5
        try clear q533
        obtain ⟨kq, x11_43, rfl, HA, HJ43, HO_1, HO_2, HO_8, HB⟩ := hcut
        cases kq with
        | zero => exact absurd HA.out (by simp [attestorlaw03_PolyRoots.j3])
        | succ kj43 =>
         have H := HA.out
         clear HA
         simp only [attestorlaw03_PolyRoots.j3] at H
         have H' := Aside0.mk H
         clear H
         go_wp2
         go_loopg [13, 14] kj43 (fun kq v13 v14 w' => ∃ (x13_5 : Bool) (x14_5 : Int), v13 = .bool x13_5 ∧ v14 = .int .i64 x14_5 ∧ Aside0 (attestorlaw03_PolyRoots.l1 kq t522 t525 (wrap64 (Int.tmod a0 2)) t528 t529 x10_6 x11_43 x12_2 x13_5 x14_5 = some r) ∧ Aside0 (kq ≤ kj43) ∧ Aside0 (Kd.R (Kd.int .u64) 32 w' w.heap.size (fun k_ => some k_ ≠ ((.slice Ao10 t525.length co10) : Value).ownBlock ∧ some k_ ≠ (v530 : Value).ownBlock) (.slice Ao45 t522.length co45) t522) ∧ Aside0 (Kd.R (Kd.int .u64) 32 w' w.heap.size (fun k_ => some k_ ≠ ((.slice Ao45 t522.length co45) : Value).ownBlock ∧ some k_ ≠ (v530 : Value).ownBlock) (.slice Ao10 t525.length co10) t525) ∧ Aside0 (Kd.R (Kd.int .u64) 32 w' w.heap.size (fun k_ => some k_ ≠ ((.slice Ao45 t522.length co45) : Value).ownBlock ∧ some k_ ≠ ((.slice Ao10 t525.length co10) : Value).ownBlock) v530 t528) ∧ Aside0 (Below w.heap.size w w'))
         case atStart => exact ⟨(false), (0), (by first | rfl | (simp; done) | (simp [*]; done)), (by first | rfl | (simp; done) | (simp [*]; done)), H', ⟨Nat.le_refl _⟩, ⟨rU_ HO_1.out⟩, ⟨rU_ HO_2.out⟩, ⟨rU_ HO_8.out⟩, ⟨bU_ HB.out⟩⟩
         case round =>
          clear H'
          try clear c1
          try clear c2
          try clear p2
          try clear c3
          try clear c4
          try clear p5
          try clear q5
          try clear hx5
          try clear c6
          try clear p6
          try clear c11
          try clear c12
          try clear c12b0
          try clear c12b1
          try clear c14
          try clear c14b0
          try clear c14b1
          try clear c16
          try clear c16b0
          try clear c16b1
          try clear c17
          try clear c17b0
          try clear c17b1
          try clear c18
          try clear c19
          try clear c19b0
          try clear c20
          try clear c20b0
          try clear c21
          try clear c21b0
          try clear c21b1
          try clear c22
          try clear c22b0
          try clear c23
          try clear c23b0
          try clear c23b1
          try clear c25
          try clear c29
          try clear c29b0
          try clear c30
          try clear c30b0
          try clear c36
          try clear c36b0
          try clear c37
          try clear c37b0
          try clear c47
          try clear c47b0
          try clear c47b1
          try clear hx533_0
          try clear p2
          try clear p5
          try clear p533
          try clear p6
          try clear q5
          try clear q533
          obtain ⟨x13_5, x14_5, rfl, rfl, HA, HK5, HO_1, HO_2, HO_8, HB⟩ := hrel
          cases gk with
          | zero => exact absurd HA.out (by simp [attestorlaw03_PolyRoots.l1])
          | succ k5 =>
           have H := HA.out
           clear HA
           simp only [attestorlaw03_PolyRoots.l1] at H
           by_cases c48 : x14_5 < (t525.length : Int)
           ·rw [if_pos c48] at H
            have c48b0 : decide (x14_5 < (t525.length : Int)) = true := decide_eq_true c48
            clear c48
            by_cases c49 : x13_5 = true
            ·subst c49
             have H1 : (attestorlaw03_PolyRoots.l1 k5 t522 t525 (wrap64 (Int.tmod a0 2)) t528 t529 x10_6 x11_43 x12_2 true (wrap64 (x14_5 + 1))) = some r := by rw [if_pos rfl] at H; exact H
             clear H
             have H := H1
             clear H1
             have H' := Aside0.mk H
             clear H
             go_wp2
             go_roundg k5
             case measure => have := HJ6.out; have := HK2.out; have := HJ12.out; have := HJ43.out; have := HK5.out; omega
             case rel => exact ⟨(true), (wrap64 (x14_5 + 1)), (by first | rfl | (simp; done) | (simp [*]; done)), (by first | rfl | (simp; done) | (simp [*]; done)), H', ⟨by have := HJ6.out; have := HK2.out; have := HJ12.out; have := HJ43.out; have := HK5.out; omega⟩, ⟨rU_ HO_1.out⟩, ⟨rU_ HO_2.out⟩, ⟨rU_ HO_8.out⟩, ⟨bU_ HB.out⟩⟩
            ·replace c49 := Bool.eq_false_iff.mpr c49
             subst c49
             have H1 : (if 0 ≤ x14_5 then (if x10_6 = 0 then (none) else (attestorlaw03_PolyRoots.l1 k5 t522 t525 (wrap64 (Int.tmod a0 2)) t528 t529 x10_6 x11_43 x12_2 ((Int.tmod (rd t525 x14_5) x10_6) == x12_2) (wrap64 (x14_5 + 1)))) else (none)) = some r := by rw [if_neg (show ¬ (false = true) by decide)] at H; exact H
             clear H
             have H := H1
             clear H1
             by_cases c50 : 0 ≤ x14_5
             ·rw [if_pos c50] at H
              have c50b0 : decide (0 ≤ x14_5) = true := decide_eq_true c50
              clear c50
              by_cases c51 : x10_6 = 0
              ·rw [if_pos c51] at H
               exact absurd H (by simp)
              ·rw [if_neg c51] at H
               have c51b0 : (x10_6 == 0) = false := beq_eq_false_iff_ne.mpr c51
               have c51b1 : (x10_6 != 0) = true := bne_iff_ne.mpr c51
               have H' := Aside0.mk H
               clear H
               have p538 : 0 ≤ (x14_5 : Int) := of_decide_eq_true (by first | (with_reducible assumption) | assumption)
               have q538 : x14_5 < (t525.length : Int) := of_decide_eq_true (by first | (with_reducible assumption) | assumption)
               obtain ⟨ad538, e538, hx538_0⟩ := Kd.at_int (Kd.R_reads' HO_2.out).2.2 x14_5 p538 q538
               cases e538
               replace p538 := eq_true p538
               replace q538 := eq_true q538
               go_wp2
               go_roundg k5
               case measure => have := HJ6.out; have := HK2.out; have := HJ12.out; have := HJ43.out; have := HK5.out; omega
               case rel => exact ⟨(((Int.tmod (rd t525 x14_5) x10_6) == x12_2)), (wrap64 (x14_5 + 1)), (by first | rfl | (simp; done) | (simp [*]; done)), (by first | rfl | (simp; done) | (simp [*]; done)), H', ⟨by have := HJ6.out; have := HK2.out; have := HJ12.out; have := HJ43.out; have := HK5.out; omega⟩, ⟨rU_ HO_1.out⟩, ⟨rU_ HO_2.out⟩, ⟨rU_ HO_8.out⟩, ⟨bU_ HB.out⟩⟩
             ·rw [if_neg c50] at H
              exact absurd H (by simp)
           ·rw [if_neg c48] at H
            have c48b0 : decide (x14_5 < (t525.length : Int)) = false := decide_eq_false c48
            clear c48
            replace H := Option.bind_eq_some_iff.mp H
            obtain ⟨t539, A520, H⟩ := H
            replace H : (if (x13_5 != (t539 == 0)) = true then (none) else (attestorlaw03_PolyRoots.l0 k5 t522 t525 (wrap64 (Int.tmod a0 2)) t528 t529 x10_6 x11_43 (IntKind.u64.wrap (x12_2 + 1)))) = some r := H
            have A52 := Aside0.mk A520
            clear A520
            by_cases c53 : (x13_5 != (t539 == 0)) = true
            ·rw [if_pos c53] at H
             exact absurd H (by simp)
            ·rw [if_neg c53] at H
             have c53b0 : (x13_5 != (t539 == 0)) = false := by simpa using c53
             (try (have c53b1 : decide (x13_5 = (t539 == 0)) = true := by simpa using c53))
             (try (have c53b2 : (x13_5 == (t539 == 0)) = true := by simpa using c53))
             clear c53
             have H' := Aside0.mk H
             clear H
             obtain ⟨Ao54, co54, eo54⟩ := Kd.R_slice HO_8.out
             subst eo54
             go_wp2_with (first | ((with_reducible refine gate_callee (f := 25) rfl ?_); refine goesL_ (some 64) rfl rfl Tryd.func25 (by kernel_rfl) rfl #[.int .i64 (wrap64 (Int.tmod a0 2)), .slice Ao54 t528.length co54, .int .u64 x12_2] rfl (by (try simp only [List.map_toArray, List.map_cons, List.map_nil]); first | done | rfl | (simp only [List.length_drop, List.length_take]; rfl)) ?_; (with_reducible refine (poly_Eval.calls k5 (wrap64 (Int.tmod a0 2)) _ _ t528 x12_2 t539 _ ?side1 ?side2 ?side3 A52.out).mono ?_); (case side1 => exact fU_ HG.out HB.out); (case side2 => repeat (first | exact (Kd.R_reads' HO_8.out).2.2 | (with_reducible refine Kd.C_alloc ?_ _) | (with_reducible refine Kd.C_drewN ?_ _) | (with_reducible refine Kd.C_drew ?_))); (case side3 => exact (Kd.R_reads' HO_8.out).2.1); rintro e w55 ⟨rfl, hb⟩; refine ⟨_, rfl, ?_⟩; have n0_ := Aside0.mk (Kd.R_below (rU_ HO_1.out) hb); have n1_ := Aside0.mk (Kd.R_below (rU_ HO_2.out) hb); have n2_ := Aside0.mk (Kd.R_below (rU_ HO_8.out) hb); have n3_ := Aside0.mk (below_step (bU_ HB.out) hb); clear HO_1; clear HO_2; clear HO_8; clear HB; have HO_1 := n0_; have HO_2 := n1_; have HO_8 := n2_; have HB := n3_; clear n0_ n1_ n2_ n3_; (try clear hb); (try clear hb2); (try clear hk); (try clear hi)))
             go_roundg k5
             case measure => have := HJ6.out; have := HK2.out; have := HJ12.out; have := HJ43.out; have := HK5.out; omega
             case rel => exact ⟨(x11_43), (IntKind.u64.wrap (x12_2 + 1)), (by first | rfl | (simp; done) | (simp [*]; done)), (by first | rfl | (simp; done) | (simp [*]; done)), H', ⟨by have := HJ6.out; have := HK2.out; have := HJ12.out; have := HJ43.out; have := HK5.out; omega⟩, ⟨rU_ HO_1.out⟩, ⟨rU_ HO_2.out⟩, ⟨rU_ HO_8.out⟩, ⟨bU_ HB.out⟩⟩

/-- THE ONE PURE STATEMENT of attestorlaw03_PolyRoots: yours. -/
def attestorlaw03_PolyRoots.Pure : Prop := ∀ (a0 : Int) (l1 : List Int) (l2 : List Int), (Lit.int .u8 a0).wf = true → l1.length ≤ maxLen → l1.length * 8 ≤ 140737488351232 → (∀ x ∈ l1, (Lit.int .u64 x).wf = true) → l2.length ≤ maxLen → l2.length * 8 ≤ 140737488351232 → (∀ x ∈ l2, (Lit.int .u64 x).wf = true) → ∃ k, attestorlaw03_PolyRoots.f k a0 l1 l2 = some true
theorem attestorlaw03_PolyRoots.walk (P : attestorlaw03_PolyRoots.Pure) (a0 : Int) (a1 : Option Addr) (len1 cap1 : Nat) (z1 : List Int) (a2 : Option Addr) (len2 cap2 : Nat) (z2 : List Int) (w : World) (hG : Fld w) (w0 : (Lit.int .u8 a0).wf = true) (w1 : (a1 = none ∧ len1 = 0 ∧ cap1 = 0 ∧ z1 = []) ∨ ∃ x, a1 = some x ∧ len1 ≤ cap1 ∧ cap1 ≤ maxLen ∧ z1.length = cap1 ∧ (∀ i, i < z1.length → w.cell? (x.add i) = some (.int .u64 (z1.getD i 0))) ∧ ∀ n ∈ z1, (Lit.int .u64 n).wf = true) (y1 : len1 * 8 ≤ 140737488351232) (w2 : (a2 = none ∧ len2 = 0 ∧ cap2 = 0 ∧ z2 = []) ∨ ∃ x, a2 = some x ∧ len2 ≤ cap2 ∧ cap2 ≤ maxLen ∧ z2.length = cap2 ∧ (∀ i, i < z2.length → w.cell? (x.add i) = some (.int .u64 (z2.getD i 0))) ∧ ∀ n ∈ z2, (Lit.int .u64 n).wf = true) (y2 : len2 * 8 ≤ 140737488351232) :
  Calls Tryd.prog 6 #[.int .u8 a0, .slice a1 len1 cap1, .slice a2 len2 cap2] w fun e w' => e = .returned (.bool true) ∧ Below w.heap.size w w' := by
 obtain ⟨l1, rfl, hr1, hm1, hw1, hc1⟩ := ReadsInt.ofRowC w1
 obtain ⟨l2, rfl, hr2, hm2, hw2, hc2⟩ := ReadsInt.ofRowC w2
 obtain ⟨k, h⟩ := P a0 l1 l2 w0 hm1 y1 hw1 hm2 y2 hw2
 refine (attestorlaw03_PolyRoots.calls k a0 _ _ l1 _ _ l2 true w hG (Kd.C_of_reads (d := (0 : Int)) (h1 := fun _ => rfl) hr1) hc1 (Kd.C_of_reads (d := (0 : Int)) (h1 := fun _ => rfl) hr2) hc2 h).mono ?_
 rintro e w' ⟨rfl, hd⟩
 exact ⟨rfl, hd⟩

end Go.Proofs.YtmnahhacobfafaaDoor.Q

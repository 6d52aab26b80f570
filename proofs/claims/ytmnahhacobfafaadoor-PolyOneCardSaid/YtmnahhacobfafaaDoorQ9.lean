-- Written by prx.py (this session's driver of the kit's print) out of the translation. Not trusted: Lean checks it.
import Derived.Test.YtmnahhacobfafaaDoorQ0
import Derived.Test.YtmnahhacobfafaaDoorQ2
import Derived.Test.YtmnahhacobfafaaDoorQ3
import Derived.Test.YtmnahhacobfafaaDoorQ4
namespace Go.Proofs.YtmnahhacobfafaaDoor.Q
open Go.RowKit Go.Proofs.YtmnahhacobfafaaDoorW.PrintWords Go.Proofs.YtmnahhacobfafaaDoorW.PrintLast Go.Proofs.YtmnahhacobfafaaDoorW.PrintMore
attribute [local go_sem] max2_int min2_int max_two min_two max_three min_three max_four min_four   -- for this text's walks alone
set_option linter.unusedVariables false
set_option linter.unusedSimpArgs false

/-! ### attestorlaw03_PolyOne: function 5 -/
mutual
def attestorlaw03_PolyOne.j3 : Nat → Int → List Int → List Int → List Int → Option (Bool)
 | 0, _, _, _, _ => none
 | k + 1, x7, x8, x9, x10 => (poly_Through.f k x7 x8 x9).bind fun bt500 => (if bt500.2 = 0 then (if (bt500.1.length : Int) > (x8.length : Int) then (none) else (attestorlaw03_PolyOne.j4 k x7 x8 x9 x10 bt500.1)) else (none))
def attestorlaw03_PolyOne.j4 : Nat → Int → List Int → List Int → List Int → List Int → Option (Bool)
 | 0, _, _, _, _, _ => none
 | k + 1, x7, x8, x9, x10, x14 => attestorlaw03_PolyOne.l2 k x7 x8 x9 x10 x14 0
def attestorlaw03_PolyOne.l2 : Nat → Int → List Int → List Int → List Int → List Int → Int → Option (Bool)
 | 0, _, _, _, _, _, _ => none
 | k + 1, x7, x8, x9, x10, x14, x16 => if x16 < (x8.length : Int) then (attestorlaw03_PolyOne.j6 k x7 x8 x9 x10 x14 x16) else ((poly_Through.f k x7 x8 x10).bind fun bt513 => (if bt513.2 = 0 then ((poly_Normal.f k x7 x9).bind fun t517 => ((attestorlaw03_same.f k bt513.1 t517).bind fun t520 => (if t520 = true then ((attestorlaw03_works.f k).bind fun t521 => (some t521)) else (none)))) else (none)))
def attestorlaw03_PolyOne.j6 : Nat → Int → List Int → List Int → List Int → List Int → Int → Option (Bool)
 | 0, _, _, _, _, _, _ => none
 | k + 1, x7, x8, x9, x10, x14, x16 => if 0 ≤ x16 then (if x16 < (x8.length : Int) then ((poly_Eval.f k x7 x14 (rd x8 x16)).bind fun t505 => (if x16 < (x9.length : Int) then ((field_Reduce.f x7 (rd x9 x16)).bind fun t507 => (if t505 = t507 then ((poly_Eval.f k x7 x9 (rd x8 x16)).bind fun t509 => (if x10.length < 17592186044416 then (attestorlaw03_PolyOne.l2 k x7 x8 x9 (x10 ++ [t509]) x14 (wrap64 (x16 + 1))) else (none))) else (none))) else (none))) else (none)) else (none)
def attestorlaw03_PolyOne.l0 : Nat → List Int → List Int → Int → List Int → List Int → Int → Option (Bool)
 | 0, _, _, _, _, _, _ => none
 | k + 1, x1, x2, x7, x8, x9, x11 => if x11 < (x1.length : Int) then (if (x8.length : Int) < 24 then (if x11 < 60 then (attestorlaw03_PolyOne.j1 k x1 x2 x7 x8 x9 x11) else (attestorlaw03_PolyOne.j3 k x7 x8 x9 ([] : List Int))) else (attestorlaw03_PolyOne.j3 k x7 x8 x9 ([] : List Int))) else (attestorlaw03_PolyOne.j3 k x7 x8 x9 ([] : List Int))
def attestorlaw03_PolyOne.j1 : Nat → List Int → List Int → Int → List Int → List Int → Int → Option (Bool)
 | 0, _, _, _, _, _, _ => none
 | k + 1, x1, x2, x7, x8, x9, x11 => attestorlaw03_PolyOne.l1 k x1 x2 x7 x8 x9 x11 false 0
def attestorlaw03_PolyOne.l1 : Nat → List Int → List Int → Int → List Int → List Int → Int → Bool → Int → Option (Bool)
 | 0, _, _, _, _, _, _, _, _ => none
 | k + 1, x1, x2, x7, x8, x9, x11, x12, x13 => if x13 < (x8.length : Int) then (if x12 = true then (attestorlaw03_PolyOne.l1 k x1 x2 x7 x8 x9 x11 true (wrap64 (x13 + 1))) else (if 0 ≤ x13 then (if 0 ≤ x11 then (if x11 < (x1.length : Int) then ((field_Sub.f x7 (rd x8 x13) (rd x1 x11)).bind fun t488 => (attestorlaw03_PolyOne.l1 k x1 x2 x7 x8 x9 x11 (t488 == 0) (wrap64 (x13 + 1)))) else (none)) else (none)) else (none))) else (if x12 = true then (attestorlaw03_PolyOne.l0 k x1 x2 x7 x8 x9 (wrap64 (x11 + 1))) else (if 0 ≤ x11 then (if x11 < (x1.length : Int) then (if x8.length < 17592186044416 then ((some (x8 ++ [rd x1 x11] : List Int)).bind fun y490 => (if x11 < (x2.length : Int) then (if x9.length < 17592186044416 then (attestorlaw03_PolyOne.l0 k x1 x2 x7 y490 (x9 ++ [rd x2 x11]) (wrap64 (x11 + 1))) else (none)) else (if x9.length < 17592186044416 then (attestorlaw03_PolyOne.l0 k x1 x2 x7 y490 (x9 ++ [IntKind.u64.wrap (x11)]) (wrap64 (x11 + 1))) else (none)))) else (none)) else (none)) else (none)))
end
def attestorlaw03_PolyOne.f (k : Nat) (a0 : Int) (l1 : List Int) (l2 : List Int) : Option (Bool) := attestorlaw03_PolyOne.l0 k l1 l2 (wrap64 (Int.tmod a0 4)) ([] : List Int) ([] : List Int) 0
theorem attestorlaw03_PolyOne.mono_l : ∀ k, (∀ y0 y1 y2 y3, LeO (attestorlaw03_PolyOne.j3 k y0 y1 y2 y3) (attestorlaw03_PolyOne.j3 (k + 1) y0 y1 y2 y3)) ∧ (∀ y0 y1 y2 y3 y4, LeO (attestorlaw03_PolyOne.j4 k y0 y1 y2 y3 y4) (attestorlaw03_PolyOne.j4 (k + 1) y0 y1 y2 y3 y4)) ∧ (∀ y0 y1 y2 y3 y4 y5, LeO (attestorlaw03_PolyOne.l2 k y0 y1 y2 y3 y4 y5) (attestorlaw03_PolyOne.l2 (k + 1) y0 y1 y2 y3 y4 y5)) ∧ (∀ y0 y1 y2 y3 y4 y5, LeO (attestorlaw03_PolyOne.j6 k y0 y1 y2 y3 y4 y5) (attestorlaw03_PolyOne.j6 (k + 1) y0 y1 y2 y3 y4 y5)) ∧ (∀ y0 y1 y2 y3 y4 y5, LeO (attestorlaw03_PolyOne.l0 k y0 y1 y2 y3 y4 y5) (attestorlaw03_PolyOne.l0 (k + 1) y0 y1 y2 y3 y4 y5)) ∧ (∀ y0 y1 y2 y3 y4 y5, LeO (attestorlaw03_PolyOne.j1 k y0 y1 y2 y3 y4 y5) (attestorlaw03_PolyOne.j1 (k + 1) y0 y1 y2 y3 y4 y5)) ∧ (∀ y0 y1 y2 y3 y4 y5 y6 y7, LeO (attestorlaw03_PolyOne.l1 k y0 y1 y2 y3 y4 y5 y6 y7) (attestorlaw03_PolyOne.l1 (k + 1) y0 y1 y2 y3 y4 y5 y6 y7))
 | 0 => ⟨fun _ _ _ _ r h => by simp [attestorlaw03_PolyOne.j3] at h, fun _ _ _ _ _ r h => by simp [attestorlaw03_PolyOne.j4] at h, fun _ _ _ _ _ _ r h => by simp [attestorlaw03_PolyOne.l2] at h, fun _ _ _ _ _ _ r h => by simp [attestorlaw03_PolyOne.j6] at h, fun _ _ _ _ _ _ r h => by simp [attestorlaw03_PolyOne.l0] at h, fun _ _ _ _ _ _ r h => by simp [attestorlaw03_PolyOne.j1] at h, fun _ _ _ _ _ _ _ _ r h => by simp [attestorlaw03_PolyOne.l1] at h⟩
 | k + 1 => by
  obtain ⟨ih0, ih1, ih2, ih3, ih4, ih5, ih6⟩ := attestorlaw03_PolyOne.mono_l k
  refine ⟨?_, ?_, ?_, ?_, ?_, ?_, ?_⟩
  ·intro y0 y1 y2 y3
   unfold attestorlaw03_PolyOne.j3
   repeat' first
   | (with_reducible exact ih0 _ _ _ _)
   | (with_reducible exact ih1 _ _ _ _ _)
   | (with_reducible exact ih2 _ _ _ _ _ _)
   | (with_reducible exact ih3 _ _ _ _ _ _)
   | (with_reducible exact ih4 _ _ _ _ _ _)
   | (with_reducible exact ih5 _ _ _ _ _ _)
   | (with_reducible exact ih6 _ _ _ _ _ _ _ _)
   | (with_reducible exact attestorlaw03_same.mono _ _ _)
   | (with_reducible exact attestorlaw03_works.mono _)
   | (with_reducible exact poly_Eval.mono _ _ _ _)
   | (with_reducible exact poly_Normal.mono _ _ _)
   | (with_reducible exact poly_Through.mono _ _ _ _)
   | (with_reducible exact LeO.refl _)
   | (with_reducible exact LeO.none _)
   | (with_reducible refine LeO.ite ?_ ?_)
   | (with_reducible refine LeO.bind ?_ (fun _ => ?_))
   | exact ih0 _ _ _ _
   | exact ih1 _ _ _ _ _
   | exact ih2 _ _ _ _ _ _
   | exact ih3 _ _ _ _ _ _
   | exact ih4 _ _ _ _ _ _
   | exact ih5 _ _ _ _ _ _
   | exact ih6 _ _ _ _ _ _ _ _
   | exact attestorlaw03_same.mono _ _ _
   | exact attestorlaw03_works.mono _
   | exact poly_Eval.mono _ _ _ _
   | exact poly_Normal.mono _ _ _
   | exact poly_Through.mono _ _ _ _
   | exact LeO.none _
   | refine LeO.ite ?_ ?_
   | refine LeO.bind ?_ (fun _ => ?_)
  ·intro y0 y1 y2 y3 y4
   unfold attestorlaw03_PolyOne.j4
   repeat' first
   | (with_reducible exact ih0 _ _ _ _)
   | (with_reducible exact ih1 _ _ _ _ _)
   | (with_reducible exact ih2 _ _ _ _ _ _)
   | (with_reducible exact ih3 _ _ _ _ _ _)
   | (with_reducible exact ih4 _ _ _ _ _ _)
   | (with_reducible exact ih5 _ _ _ _ _ _)
   | (with_reducible exact ih6 _ _ _ _ _ _ _ _)
   | (with_reducible exact attestorlaw03_same.mono _ _ _)
   | (with_reducible exact attestorlaw03_works.mono _)
   | (with_reducible exact poly_Eval.mono _ _ _ _)
   | (with_reducible exact poly_Normal.mono _ _ _)
   | (with_reducible exact poly_Through.mono _ _ _ _)
   | (with_reducible exact LeO.refl _)
   | (with_reducible exact LeO.none _)
   | (with_reducible refine LeO.ite ?_ ?_)
   | (with_reducible refine LeO.bind ?_ (fun _ => ?_))
   | exact ih0 _ _ _ _
   | exact ih1 _ _ _ _ _
   | exact ih2 _ _ _ _ _ _
   | exact ih3 _ _ _ _ _ _
   | exact ih4 _ _ _ _ _ _
   | exact ih5 _ _ _ _ _ _
   | exact ih6 _ _ _ _ _ _ _ _
   | exact attestorlaw03_same.mono _ _ _
   | exact attestorlaw03_works.mono _
   | exact poly_Eval.mono _ _ _ _
   | exact poly_Normal.mono _ _ _
   | exact poly_Through.mono _ _ _ _
   | exact LeO.none _
   | refine LeO.ite ?_ ?_
   | refine LeO.bind ?_ (fun _ => ?_)
  ·intro y0 y1 y2 y3 y4 y5
   unfold attestorlaw03_PolyOne.l2
   repeat' first
   | (with_reducible exact ih0 _ _ _ _)
   | (with_reducible exact ih1 _ _ _ _ _)
   | (with_reducible exact ih2 _ _ _ _ _ _)
   | (with_reducible exact ih3 _ _ _ _ _ _)
   | (with_reducible exact ih4 _ _ _ _ _ _)
   | (with_reducible exact ih5 _ _ _ _ _ _)
   | (with_reducible exact ih6 _ _ _ _ _ _ _ _)
   | (with_reducible exact attestorlaw03_same.mono _ _ _)
   | (with_reducible exact attestorlaw03_works.mono _)
   | (with_reducible exact poly_Eval.mono _ _ _ _)
   | (with_reducible exact poly_Normal.mono _ _ _)
   | (with_reducible exact poly_Through.mono _ _ _ _)
   | (with_reducible exact LeO.refl _)
   | (with_reducible exact LeO.none _)
   | (with_reducible refine LeO.ite ?_ ?_)
   | (with_reducible refine LeO.bind ?_ (fun _ => ?_))
   | exact ih0 _ _ _ _
   | exact ih1 _ _ _ _ _
   | exact ih2 _ _ _ _ _ _
   | exact ih3 _ _ _ _ _ _
   | exact ih4 _ _ _ _ _ _
   | exact ih5 _ _ _ _ _ _
   | exact ih6 _ _ _ _ _ _ _ _
   | exact attestorlaw03_same.mono _ _ _
   | exact attestorlaw03_works.mono _
   | exact poly_Eval.mono _ _ _ _
   | exact poly_Normal.mono _ _ _
   | exact poly_Through.mono _ _ _ _
   | exact LeO.none _
   | refine LeO.ite ?_ ?_
   | refine LeO.bind ?_ (fun _ => ?_)
  ·intro y0 y1 y2 y3 y4 y5
   unfold attestorlaw03_PolyOne.j6
   repeat' first
   | (with_reducible exact ih0 _ _ _ _)
   | (with_reducible exact ih1 _ _ _ _ _)
   | (with_reducible exact ih2 _ _ _ _ _ _)
   | (with_reducible exact ih3 _ _ _ _ _ _)
   | (with_reducible exact ih4 _ _ _ _ _ _)
   | (with_reducible exact ih5 _ _ _ _ _ _)
   | (with_reducible exact ih6 _ _ _ _ _ _ _ _)
   | (with_reducible exact attestorlaw03_same.mono _ _ _)
   | (with_reducible exact attestorlaw03_works.mono _)
   | (with_reducible exact poly_Eval.mono _ _ _ _)
   | (with_reducible exact poly_Normal.mono _ _ _)
   | (with_reducible exact poly_Through.mono _ _ _ _)
   | (with_reducible exact LeO.refl _)
   | (with_reducible exact LeO.none _)
   | (with_reducible refine LeO.ite ?_ ?_)
   | (with_reducible refine LeO.bind ?_ (fun _ => ?_))
   | exact ih0 _ _ _ _
   | exact ih1 _ _ _ _ _
   | exact ih2 _ _ _ _ _ _
   | exact ih3 _ _ _ _ _ _
   | exact ih4 _ _ _ _ _ _
   | exact ih5 _ _ _ _ _ _
   | exact ih6 _ _ _ _ _ _ _ _
   | exact attestorlaw03_same.mono _ _ _
   | exact attestorlaw03_works.mono _
   | exact poly_Eval.mono _ _ _ _
   | exact poly_Normal.mono _ _ _
   | exact poly_Through.mono _ _ _ _
   | exact LeO.none _
   | refine LeO.ite ?_ ?_
   | refine LeO.bind ?_ (fun _ => ?_)
  ·intro y0 y1 y2 y3 y4 y5
   unfold attestorlaw03_PolyOne.l0
   repeat' first
   | (with_reducible exact ih0 _ _ _ _)
   | (with_reducible exact ih1 _ _ _ _ _)
   | (with_reducible exact ih2 _ _ _ _ _ _)
   | (with_reducible exact ih3 _ _ _ _ _ _)
   | (with_reducible exact ih4 _ _ _ _ _ _)
   | (with_reducible exact ih5 _ _ _ _ _ _)
   | (with_reducible exact ih6 _ _ _ _ _ _ _ _)
   | (with_reducible exact attestorlaw03_same.mono _ _ _)
   | (with_reducible exact attestorlaw03_works.mono _)
   | (with_reducible exact poly_Eval.mono _ _ _ _)
   | (with_reducible exact poly_Normal.mono _ _ _)
   | (with_reducible exact poly_Through.mono _ _ _ _)
   | (with_reducible exact LeO.refl _)
   | (with_reducible exact LeO.none _)
   | (with_reducible refine LeO.ite ?_ ?_)
   | (with_reducible refine LeO.bind ?_ (fun _ => ?_))
   | exact ih0 _ _ _ _
   | exact ih1 _ _ _ _ _
   | exact ih2 _ _ _ _ _ _
   | exact ih3 _ _ _ _ _ _
   | exact ih4 _ _ _ _ _ _
   | exact ih5 _ _ _ _ _ _
   | exact ih6 _ _ _ _ _ _ _ _
   | exact attestorlaw03_same.mono _ _ _
   | exact attestorlaw03_works.mono _
   | exact poly_Eval.mono _ _ _ _
   | exact poly_Normal.mono _ _ _
   | exact poly_Through.mono _ _ _ _
   | exact LeO.none _
   | refine LeO.ite ?_ ?_
   | refine LeO.bind ?_ (fun _ => ?_)
  ·intro y0 y1 y2 y3 y4 y5
   unfold attestorlaw03_PolyOne.j1
   repeat' first
   | (with_reducible exact ih0 _ _ _ _)
   | (with_reducible exact ih1 _ _ _ _ _)
   | (with_reducible exact ih2 _ _ _ _ _ _)
   | (with_reducible exact ih3 _ _ _ _ _ _)
   | (with_reducible exact ih4 _ _ _ _ _ _)
   | (with_reducible exact ih5 _ _ _ _ _ _)
   | (with_reducible exact ih6 _ _ _ _ _ _ _ _)
   | (with_reducible exact attestorlaw03_same.mono _ _ _)
   | (with_reducible exact attestorlaw03_works.mono _)
   | (with_reducible exact poly_Eval.mono _ _ _ _)
   | (with_reducible exact poly_Normal.mono _ _ _)
   | (with_reducible exact poly_Through.mono _ _ _ _)
   | (with_reducible exact LeO.refl _)
   | (with_reducible exact LeO.none _)
   | (with_reducible refine LeO.ite ?_ ?_)
   | (with_reducible refine LeO.bind ?_ (fun _ => ?_))
   | exact ih0 _ _ _ _
   | exact ih1 _ _ _ _ _
   | exact ih2 _ _ _ _ _ _
   | exact ih3 _ _ _ _ _ _
   | exact ih4 _ _ _ _ _ _
   | exact ih5 _ _ _ _ _ _
   | exact ih6 _ _ _ _ _ _ _ _
   | exact attestorlaw03_same.mono _ _ _
   | exact attestorlaw03_works.mono _
   | exact poly_Eval.mono _ _ _ _
   | exact poly_Normal.mono _ _ _
   | exact poly_Through.mono _ _ _ _
   | exact LeO.none _
   | refine LeO.ite ?_ ?_
   | refine LeO.bind ?_ (fun _ => ?_)
  ·intro y0 y1 y2 y3 y4 y5 y6 y7
   unfold attestorlaw03_PolyOne.l1
   repeat' first
   | (with_reducible exact ih0 _ _ _ _)
   | (with_reducible exact ih1 _ _ _ _ _)
   | (with_reducible exact ih2 _ _ _ _ _ _)
   | (with_reducible exact ih3 _ _ _ _ _ _)
   | (with_reducible exact ih4 _ _ _ _ _ _)
   | (with_reducible exact ih5 _ _ _ _ _ _)
   | (with_reducible exact ih6 _ _ _ _ _ _ _ _)
   | (with_reducible exact attestorlaw03_same.mono _ _ _)
   | (with_reducible exact attestorlaw03_works.mono _)
   | (with_reducible exact poly_Eval.mono _ _ _ _)
   | (with_reducible exact poly_Normal.mono _ _ _)
   | (with_reducible exact poly_Through.mono _ _ _ _)
   | (with_reducible exact LeO.refl _)
   | (with_reducible exact LeO.none _)
   | (with_reducible refine LeO.ite ?_ ?_)
   | (with_reducible refine LeO.bind ?_ (fun _ => ?_))
   | exact ih0 _ _ _ _
   | exact ih1 _ _ _ _ _
   | exact ih2 _ _ _ _ _ _
   | exact ih3 _ _ _ _ _ _
   | exact ih4 _ _ _ _ _ _
   | exact ih5 _ _ _ _ _ _
   | exact ih6 _ _ _ _ _ _ _ _
   | exact attestorlaw03_same.mono _ _ _
   | exact attestorlaw03_works.mono _
   | exact poly_Eval.mono _ _ _ _
   | exact poly_Normal.mono _ _ _
   | exact poly_Through.mono _ _ _ _
   | exact LeO.none _
   | refine LeO.ite ?_ ?_
   | refine LeO.bind ?_ (fun _ => ?_)
theorem attestorlaw03_PolyOne.mono : ∀ a0 a1 a2 k, LeO (attestorlaw03_PolyOne.f k a0 a1 a2) (attestorlaw03_PolyOne.f (k + 1) a0 a1 a2) := by
 intro a0 a1 a2 k
 obtain ⟨ih0, ih1, ih2, ih3, ih4, ih5, ih6⟩ := attestorlaw03_PolyOne.mono_l k
 unfold attestorlaw03_PolyOne.f
 repeat' first
   | (with_reducible exact ih0 _ _ _ _)
   | (with_reducible exact ih1 _ _ _ _ _)
   | (with_reducible exact ih2 _ _ _ _ _ _)
   | (with_reducible exact ih3 _ _ _ _ _ _)
   | (with_reducible exact ih4 _ _ _ _ _ _)
   | (with_reducible exact ih5 _ _ _ _ _ _)
   | (with_reducible exact ih6 _ _ _ _ _ _ _ _)
   | (with_reducible exact attestorlaw03_same.mono _ _ _)
   | (with_reducible exact attestorlaw03_works.mono _)
   | (with_reducible exact poly_Eval.mono _ _ _ _)
   | (with_reducible exact poly_Normal.mono _ _ _)
   | (with_reducible exact poly_Through.mono _ _ _ _)
   | (with_reducible exact LeO.refl _)
   | (with_reducible exact LeO.none _)
   | (with_reducible refine LeO.ite ?_ ?_)
   | (with_reducible refine LeO.bind ?_ (fun _ => ?_))
   | exact ih0 _ _ _ _
   | exact ih1 _ _ _ _ _
   | exact ih2 _ _ _ _ _ _
   | exact ih3 _ _ _ _ _ _
   | exact ih4 _ _ _ _ _ _
   | exact ih5 _ _ _ _ _ _
   | exact ih6 _ _ _ _ _ _ _ _
   | exact attestorlaw03_same.mono _ _ _
   | exact attestorlaw03_works.mono _
   | exact poly_Eval.mono _ _ _ _
   | exact poly_Normal.mono _ _ _
   | exact poly_Through.mono _ _ _ _
   | exact LeO.none _
   | refine LeO.ite ?_ ?_
   | refine LeO.bind ?_ (fun _ => ?_)
def attestorlaw03_PolyOne.T10 : Bool × List (List Nat × List Nat) := (true, [([], []), ([0], [0]), ([1], [1]), ([1], [1]), ([1], [1]), ([3, 4, 1], [1, 3, 4]), ([5, 1], [1, 5]), ([1], [1]), ([1], [1]), ([7, 8, 1], [1, 7, 8]), ([9, 1], [1, 9]), ([2, 6, 10, 1, 1], [1, 2, 6, 10]), ([11, 1], [1, 11]), ([1, 12], [1, 12]), ([13, 11, 0, 1, 2, 3, 4, 5, 6, 7, 8, 9, 10, 11, 12, 13], [0, 13])])
def attestorlaw03_PolyOne.B10 : List Nat := [0, 1, 3, 3, 3, 27, 59, 3, 3, 387, 899, 2047, 4095, 8191, 16383]
theorem attestorlaw03_PolyOne.tab10 : rtab .any (opsOf Tryd.f5 10) = attestorlaw03_PolyOne.T10 := by kernel_rfl
theorem attestorlaw03_PolyOne.bits10 : waitsOk attestorlaw03_PolyOne.T10.2 attestorlaw03_PolyOne.B10 = true := by kernel_rfl
def attestorlaw03_PolyOne.T22 : Bool × List (List Nat × List Nat) := (true, [([], []), ([], []), ([], []), ([], []), ([2, 3], [2, 3]), ([4], [4]), ([0, 1, 5], [0, 1, 5]), ([], []), ([], []), ([], []), ([8, 9], [8, 9]), ([10], [10]), ([7, 11, 6], [7, 11]), ([6, 12], [6, 12])])
def attestorlaw03_PolyOne.B22 : List Nat := [0, 0, 0, 0, 12, 28, 63, 0, 0, 0, 768, 1792, 4095, 8191]
theorem attestorlaw03_PolyOne.tab22 : rtab .any (opsOf Tryd.f5 22) = attestorlaw03_PolyOne.T22 := by kernel_rfl
theorem attestorlaw03_PolyOne.bits22 : waitsOk attestorlaw03_PolyOne.T22.2 attestorlaw03_PolyOne.B22 = true := by kernel_rfl
set_option maxHeartbeats 8000000 in
set_option maxRecDepth 100000 in
theorem attestorlaw03_PolyOne.calls (k : Nat) (a0 : Int) (A1 : Option Addr) (c1 : Nat) (l1 : List Int) (A2 : Option Addr) (c2 : Nat) (l2 : List Int) (r : Bool) (w : World) (hG : Fld w) (hr1 : Kd.C (Kd.int .u64) w A1 l1.length l1) (hc1 : l1.length ≤ c1) (hr2 : Kd.C (Kd.int .u64) w A2 l2.length l2) (hc2 : l2.length ≤ c2) (h : attestorlaw03_PolyOne.f k a0 l1 l2 = some r) :
  Calls Tryd.prog 5 #[.int .u8 a0, .slice A1 l1.length c1, .slice A2 l2.length c2] w fun e w' => e = .returned (.bool r) ∧ Below w.heap.size w w' := by
 have HG := Aside0.mk hG
 clear hG
 have HR1 := Aside0.mk hr1
 have HC1 := Aside0.mk hc1
 clear hr1 hc1
 have HR2 := Aside0.mk hr2
 have HC2 := Aside0.mk hc2
 clear hr2 hc2
 have HB := Aside0.mk (Below.refl w.heap.size w)
 have H : (attestorlaw03_PolyOne.l0 k l1 l2 (wrap64 (Int.tmod a0 4)) ([] : List Int) ([] : List Int) 0) = some r := h
 clear h
 have HC4 := Aside0.mk H
 clear H
 go_enter Tryd.func5, Tryd.ntmps5
 go_upto_block 0 with (fail)
 go_cut [8, 9] (fun v8 v9 wc => ∃ (kq : Nat) (x8_3 : List Int) (x9_3 : List Int), Aside0 (attestorlaw03_PolyOne.j3 kq (wrap64 (Int.tmod a0 4)) x8_3 x9_3 ([] : List Int) = some r) ∧ Aside0 (kq ≤ k) ∧ Aside0 (Kd.R (Kd.int .u64) 32 wc w.heap.size (fun k_ => some k_ ≠ (v9 : Value).ownBlock ∧ some k_ ≠ ((.slice none 0 0) : Value).ownBlock) v8 x8_3) ∧ Aside0 (Kd.R (Kd.int .u64) 32 wc w.heap.size (fun k_ => some k_ ≠ (v8 : Value).ownBlock ∧ some k_ ≠ ((.slice none 0 0) : Value).ownBlock) v9 x9_3) ∧ Aside0 (Kd.R (Kd.int .u64) 32 wc w.heap.size (fun k_ => some k_ ≠ (v8 : Value).ownBlock ∧ some k_ ≠ (v9 : Value).ownBlock) (.slice none 0 0) ([] : List Int)) ∧ Aside0 (Below w.heap.size w wc))
 case first =>
  have H := HC4.out
  clear HC4
  have H' := Aside0.mk H
  clear H
  go_wp2
  go_loopg [8, 9, 11] k (fun kq v8 v9 v11 w' => ∃ (x8_1 : List Int) (x9_1 : List Int) (x11_1 : Int), v11 = .int .i64 x11_1 ∧ Aside0 (attestorlaw03_PolyOne.l0 kq l1 l2 (wrap64 (Int.tmod a0 4)) x8_1 x9_1 x11_1 = some r) ∧ Aside0 (kq ≤ k) ∧ Aside0 (Kd.R (Kd.int .u64) 32 w' w.heap.size (fun k_ => some k_ ≠ (v9 : Value).ownBlock) v8 x8_1) ∧ Aside0 (Kd.R (Kd.int .u64) 32 w' w.heap.size (fun k_ => some k_ ≠ (v8 : Value).ownBlock) v9 x9_1) ∧ Aside0 (Below w.heap.size w w'))
  case atStart => exact ⟨(([] : List Int)), (([] : List Int)), (0), (by first | rfl | (simp; done) | (simp [*]; done)), H', ⟨Nat.le_refl _⟩, ⟨by first | exact Kd.R_nil _ _ _ _ _ | exact Kd.N_nil _ _ _ _ _ | exact Kd.V_nil _ _ _ _ _ | exact Kd.Q_nil _ _ _ _ _ | exact Kd.S_nil _ _ _ _ _⟩, ⟨by first | exact Kd.R_nil _ _ _ _ _ | exact Kd.N_nil _ _ _ _ _ | exact Kd.V_nil _ _ _ _ _ | exact Kd.Q_nil _ _ _ _ _ | exact Kd.S_nil _ _ _ _ _⟩, ⟨bU_ HB.out⟩⟩
  case round =>
   clear H'
   try clear c1
   try clear c2
   try clear p2
   obtain ⟨x8_1, x9_1, x11_1, rfl, HA, HK1, HO_8, HO_9, HB⟩ := hrel
   cases gk with
   | zero => exact absurd HA.out (by simp [attestorlaw03_PolyOne.l0])
   | succ k1 =>
    have H := HA.out
    clear HA
    simp only [attestorlaw03_PolyOne.l0] at H
    by_cases c5 : x11_1 < (l1.length : Int)
    ·rw [if_pos c5] at H
     have c5b0 : decide (x11_1 < (l1.length : Int)) = true := decide_eq_true c5
     clear c5
     (first | rw [c5b0] | (simp only [i64_w, i32_w]; rw [c5b0]) | rw [c5b1] | skip)
     by_cases c6 : (x8_1.length : Int) < 24
     ·rw [if_pos c6] at H
      have c6b0 : decide ((x8_1.length : Int) < 24) = true := decide_eq_true c6
      have c6b1 : decide (x8_1.length < 24) = true := decide_eq_true (by omega)
      clear c6
      have HC7 := Aside0.mk H
      clear H
      obtain ⟨Ao8, co8, eo8⟩ := Kd.R_slice HO_8.out
      subst eo8
      go_upto_if 33 with (fail)
      go_cut [] (fun wc => ∃ (kq : Nat), Aside0 (attestorlaw03_PolyOne.j1 kq l1 l2 (wrap64 (Int.tmod a0 4)) x8_1 x9_1 x11_1 = some r) ∧ Aside0 (kq ≤ k1) ∧ Aside0 (Kd.R (Kd.int .u64) 32 wc w.heap.size (fun k_ => some k_ ≠ (u9 : Value).ownBlock) (.slice Ao8 x8_1.length co8) x8_1) ∧ Aside0 (Kd.R (Kd.int .u64) 32 wc w.heap.size (fun k_ => some k_ ≠ ((.slice Ao8 x8_1.length co8) : Value).ownBlock) u9 x9_1) ∧ Aside0 (Below w.heap.size w wc))
      case first =>
       have H := HC7.out
       clear HC7
       by_cases c9 : x11_1 < 60
       ·rw [if_pos c9] at H
        have c9b0 : decide (x11_1 < 60) = true := decide_eq_true c9
        clear c9
        (first | rw [c9b0] | (simp only [i64_w, i32_w]; rw [c9b0]) | rw [c9b1] | skip)
        have H' := Aside0.mk H
        clear H
        go_wp2
        go_meet
        case rel => exact ⟨_, H', ⟨by have := HK1.out; first | omega | exact Nat.le_refl _⟩, ⟨rU_ HO_8.out⟩, ⟨rU_ HO_9.out⟩, ⟨bU_ HB.out⟩⟩
       ·rw [if_neg c9] at H
        have c9b0 : decide (x11_1 < 60) = false := decide_eq_false c9
        clear c9
        (first | rw [c9b0] | (simp only [i64_w, i32_w]; rw [c9b0]) | rw [c9b1] | skip)
        have H' := Aside0.mk H
        clear H
        go_wp2
        go_meet
        case rel => exact ⟨_, (x8_1), (x9_1), H', ⟨by have := HK1.out; first | omega | exact Nat.le_refl _⟩, ⟨by (with_reducible repeat (first | apply Kd.R_alloc | apply Kd.R_drewN | apply Kd.R_drew)); exact Kd.R_mono HO_8.out (fun _ hk => ⟨hk, (by simp [Value.ownBlock])⟩)⟩, ⟨by (with_reducible repeat (first | apply Kd.R_alloc | apply Kd.R_drewN | apply Kd.R_drew)); exact Kd.R_mono HO_9.out (fun _ hk => ⟨hk, (by simp [Value.ownBlock])⟩)⟩, ⟨by first | exact Kd.R_nil _ _ _ _ _ | exact Kd.N_nil _ _ _ _ _ | exact Kd.V_nil _ _ _ _ _ | exact Kd.Q_nil _ _ _ _ _ | exact Kd.S_nil _ _ _ _ _⟩, ⟨bU_ HB.out⟩⟩
      case rest =>
       clear HC7
       try clear c1
       try clear c2
       try clear p2
       try clear c5
       try clear c5b0
       try clear c5b1
       try clear c6
       try clear c6b0
       try clear c6b1
       try clear p6
       try clear c9
       try clear c9b0
       try clear c9b1
       try clear p2
       obtain ⟨kq, HA, HJ6, HO_8, HO_9, HB⟩ := hcut
       cases kq with
       | zero => exact absurd HA.out (by simp [attestorlaw03_PolyOne.j1])
       | succ kj6 =>
        have H := HA.out
        clear HA
        simp only [attestorlaw03_PolyOne.j1] at H
        have H' := Aside0.mk H
        clear H
        go_wp2
        go_loopg [12, 13] kj6 (fun kq v12 v13 w' => ∃ (x12_3 : Bool) (x13_3 : Int), v12 = .bool x12_3 ∧ v13 = .int .i64 x13_3 ∧ Aside0 (attestorlaw03_PolyOne.l1 kq l1 l2 (wrap64 (Int.tmod a0 4)) x8_1 x9_1 x11_1 x12_3 x13_3 = some r) ∧ Aside0 (kq ≤ kj6) ∧ Aside0 (Kd.R (Kd.int .u64) 32 w' w.heap.size (fun k_ => some k_ ≠ (u9 : Value).ownBlock) (.slice Ao8 x8_1.length co8) x8_1) ∧ Aside0 (Kd.R (Kd.int .u64) 32 w' w.heap.size (fun k_ => some k_ ≠ ((.slice Ao8 x8_1.length co8) : Value).ownBlock) u9 x9_1) ∧ Aside0 (Below w.heap.size w w'))
        case atStart => exact ⟨(false), (0), (by first | rfl | (simp; done) | (simp [*]; done)), (by first | rfl | (simp; done) | (simp [*]; done)), H', ⟨Nat.le_refl _⟩, ⟨rU_ HO_8.out⟩, ⟨rU_ HO_9.out⟩, ⟨bU_ HB.out⟩⟩
        case round =>
         clear H'
         try clear c1
         try clear c2
         try clear p2
         try clear c5
         try clear c5b0
         try clear c5b1
         try clear c6
         try clear c6b0
         try clear c6b1
         try clear p6
         try clear c9
         try clear c9b0
         try clear c9b1
         try clear p2
         try clear p6
         obtain ⟨x12_3, x13_3, rfl, rfl, HA, HK3, HO_8, HO_9, HB⟩ := hrel
         cases gk with
         | zero => exact absurd HA.out (by simp [attestorlaw03_PolyOne.l1])
         | succ k3 =>
          have H := HA.out
          clear HA
          simp only [attestorlaw03_PolyOne.l1] at H
          by_cases c10 : x13_3 < (x8_1.length : Int)
          ·rw [if_pos c10] at H
           have c10b0 : decide (x13_3 < (x8_1.length : Int)) = true := decide_eq_true c10
           clear c10
           by_cases c11 : x12_3 = true
           ·subst c11
            have H1 : (attestorlaw03_PolyOne.l1 k3 l1 l2 (wrap64 (Int.tmod a0 4)) x8_1 x9_1 x11_1 true (wrap64 (x13_3 + 1))) = some r := by rw [if_pos rfl] at H; exact H
            clear H
            have H := H1
            clear H1
            have H' := Aside0.mk H
            clear H
            try go_wp2
            have n0_ := Aside0.mk (Kd.R_drew HO_8.out)
            have n1_ := Aside0.mk (Kd.R_drew HO_9.out)
            have n2_ := Aside0.mk (below_drew1 HB.out)
            clear HO_8
            clear HO_9
            clear HB
            have HO_8 := n0_
            have HO_9 := n1_
            have HB := n2_
            clear n0_ n1_ n2_
            refine start_ (n := 15) (S := fun w' => True) (ds := []) #[false, false, false, false, false, false, false, false, false, false, false, false, false, false, false] (by kernel_rfl) rfl rfl trivial (fun hHeld => ?_); refine with_tabW attestorlaw03_PolyOne.tab10 attestorlaw03_PolyOne.bits10 (fun HT_ HW_ => ?_)
            generalize wr.drew = w12 at HO_8 HO_9 HB hHeld ⊢
            refine pure_ (i := 0) (N := some 42) (v := ?_) (a' := ?_) #[true, false, false, false, false, false, false, false, false, false, false, false, false, false, false] rfl rfl (any_of HT_.out (by kernel_rfl)) (fun _ _ _ h => h) (Or.inl ⟨by rfl, ?_⟩) ?_ ?_
            rotate_left
            ·intro w'
             go_simp
             with_reducible rfl
            rotate_left
            ·simp only [Act.put, List.setIfInBounds_toArray, List.set_cons_zero, List.set_cons_succ, i64_w, i32_w]
             rfl
            refine pure_ (i := 1) (N := some 43) (v := ?_) (a' := ?_) #[true, true, false, false, false, false, false, false, false, false, false, false, false, false, false] rfl rfl (any_of HT_.out (by kernel_rfl)) (fun _ _ _ h => h) (Or.inl ⟨by rfl, ?_⟩) ?_ ?_
            rotate_left
            ·intro w'
             go_simp
             with_reducible rfl
            rotate_left
            ·simp only [Act.put, List.setIfInBounds_toArray, List.set_cons_zero, List.set_cons_succ, i64_w, i32_w]
             rfl
            refine pure_ (i := 2) (N := some 44) (v := undef) (a' := ?_) #[true, true, true, false, false, false, false, false, false, false, false, false, false, false, false] rfl rfl (any_of HT_.out (by kernel_rfl)) (fun _ _ _ h => h) (Or.inr ⟨by rfl, rfl⟩) ?_ ?_
            rotate_left
            ·simp only [Act.put, List.setIfInBounds_toArray, List.set_cons_zero, List.set_cons_succ, i64_w, i32_w]
             rfl
            refine pure_ (i := 3) (N := some 45) (v := undef) (a' := ?_) #[true, true, true, true, false, false, false, false, false, false, false, false, false, false, false] rfl rfl (any_of HT_.out (by kernel_rfl)) (fun _ _ _ h => h) (Or.inr ⟨by rfl, rfl⟩) ?_ ?_
            rotate_left
            ·simp only [Act.put, List.setIfInBounds_toArray, List.set_cons_zero, List.set_cons_succ, i64_w, i32_w]
             rfl
            refine pure_ (i := 4) (N := some 46) (v := undef) (a' := ?_) #[true, true, true, true, true, false, false, false, false, false, false, false, false, false, false] rfl rfl (any_of HT_.out (by kernel_rfl)) (fun _ _ _ h => h) (Or.inr ⟨by rfl, rfl⟩) ?_ ?_
            rotate_left
            ·simp only [Act.put, List.setIfInBounds_toArray, List.set_cons_zero, List.set_cons_succ, i64_w, i32_w]
             rfl
            refine pure_ (i := 5) (N := some 47) (v := undef) (a' := ?_) #[true, true, true, true, true, true, false, false, false, false, false, false, false, false, false] rfl rfl (any_of HT_.out (by kernel_rfl)) (fun _ _ _ h => h) (Or.inr ⟨by rfl, rfl⟩) ?_ ?_
            rotate_left
            ·simp only [Act.put, List.setIfInBounds_toArray, List.set_cons_zero, List.set_cons_succ, i64_w, i32_w]
             rfl
            refine pure_ (i := 6) (N := some 48) (v := undef) (a' := ?_) #[true, true, true, true, true, true, true, false, false, false, false, false, false, false, false] rfl rfl (any_of HT_.out (by kernel_rfl)) (fun _ _ _ h => h) (Or.inr ⟨by rfl, rfl⟩) ?_ ?_
            rotate_left
            ·simp only [Act.put, List.setIfInBounds_toArray, List.set_cons_zero, List.set_cons_succ, i64_w, i32_w]
             rfl
            refine pure_ (i := 7) (N := some 49) (v := undef) (a' := ?_) #[true, true, true, true, true, true, true, true, false, false, false, false, false, false, false] rfl rfl (any_of HT_.out (by kernel_rfl)) (fun _ _ _ h => h) (Or.inr ⟨by rfl, rfl⟩) ?_ ?_
            rotate_left
            ·simp only [Act.put, List.setIfInBounds_toArray, List.set_cons_zero, List.set_cons_succ, i64_w, i32_w]
             rfl
            refine pure_ (i := 8) (N := some 50) (v := undef) (a' := ?_) #[true, true, true, true, true, true, true, true, true, false, false, false, false, false, false] rfl rfl (any_of HT_.out (by kernel_rfl)) (fun _ _ _ h => h) (Or.inr ⟨by rfl, rfl⟩) ?_ ?_
            rotate_left
            ·simp only [Act.put, List.setIfInBounds_toArray, List.set_cons_zero, List.set_cons_succ, i64_w, i32_w]
             rfl
            refine pure_ (i := 9) (N := some 51) (v := undef) (a' := ?_) #[true, true, true, true, true, true, true, true, true, true, false, false, false, false, false] rfl rfl (any_of HT_.out (by kernel_rfl)) (fun _ _ _ h => h) (Or.inr ⟨by rfl, rfl⟩) ?_ ?_
            rotate_left
            ·simp only [Act.put, List.setIfInBounds_toArray, List.set_cons_zero, List.set_cons_succ, i64_w, i32_w]
             rfl
            refine pure_ (i := 10) (N := some 52) (v := undef) (a' := ?_) #[true, true, true, true, true, true, true, true, true, true, true, false, false, false, false] rfl rfl (any_of HT_.out (by kernel_rfl)) (fun _ _ _ h => h) (Or.inr ⟨by rfl, rfl⟩) ?_ ?_
            rotate_left
            ·simp only [Act.put, List.setIfInBounds_toArray, List.set_cons_zero, List.set_cons_succ, i64_w, i32_w]
             rfl
            refine pure_ (i := 11) (N := some 53) (v := undef) (a' := ?_) #[true, true, true, true, true, true, true, true, true, true, true, true, false, false, false] rfl rfl (any_of HT_.out (by kernel_rfl)) (fun _ _ _ h => h) (Or.inr ⟨by rfl, rfl⟩) ?_ ?_
            rotate_left
            ·simp only [Act.put, List.setIfInBounds_toArray, List.set_cons_zero, List.set_cons_succ, i64_w, i32_w]
             rfl
            refine pure_ (i := 12) (N := some 54) (v := undef) (a' := ?_) #[true, true, true, true, true, true, true, true, true, true, true, true, true, false, false] rfl rfl (any_of HT_.out (by kernel_rfl)) (fun _ _ _ h => h) (Or.inr ⟨by rfl, rfl⟩) ?_ ?_
            rotate_left
            ·simp only [Act.put, List.setIfInBounds_toArray, List.set_cons_zero, List.set_cons_succ, i64_w, i32_w]
             rfl
            refine pure_ (i := 13) (N := some 55) (v := ?_) (a' := ?_) #[true, true, true, true, true, true, true, true, true, true, true, true, true, true, false] rfl rfl (any_of HT_.out (by kernel_rfl)) (fun _ _ _ h => h) (Or.inl ⟨by rfl, ?_⟩) ?_ ?_
            rotate_left
            ·intro w'
             go_simp
             with_reducible rfl
            rotate_left
            ·simp only [Act.put, List.setIfInBounds_toArray, List.set_cons_zero, List.set_cons_succ, i64_w, i32_w]
             rfl
            refine pure_ (i := 14) (N := some 12) (v := ?_) (a' := ?_) #[true, true, true, true, true, true, true, true, true, true, true, true, true, true, true] rfl rfl (any_of HT_.out (by kernel_rfl)) (fun _ _ _ h => h) (Or.inl ⟨by rfl, ?_⟩) ?_ ?_
            rotate_left
            ·intro w'
             go_simp
             with_reducible rfl
            rotate_left
            ·simp only [Act.put, List.setIfInBounds_toArray, List.set_cons_zero, List.set_cons_succ, i64_w, i32_w]
             rfl
            refine done_ (done_of HT_.out (by kernel_rfl)) ?_
            try go_wp2
            go_roundg k3
            case measure => have := HK1.out; have := HJ6.out; have := HK3.out; omega
            case rel => exact ⟨(true), (wrap64 (x13_3 + 1)), (by first | rfl | (simp; done) | (simp [*]; done)), (by first | rfl | (simp; done) | (simp [*]; done)), H', ⟨by have := HK1.out; have := HJ6.out; have := HK3.out; omega⟩, ⟨rU_ HO_8.out⟩, ⟨rU_ HO_9.out⟩, ⟨bU_ HB.out⟩⟩
           ·replace c11 := Bool.eq_false_iff.mpr c11
            subst c11
            have H1 : (if 0 ≤ x13_3 then (if 0 ≤ x11_1 then (if x11_1 < (l1.length : Int) then ((field_Sub.f (wrap64 (Int.tmod a0 4)) (rd x8_1 x13_3) (rd l1 x11_1)).bind fun t488 => (attestorlaw03_PolyOne.l1 k3 l1 l2 (wrap64 (Int.tmod a0 4)) x8_1 x9_1 x11_1 (t488 == 0) (wrap64 (x13_3 + 1)))) else (none)) else (none)) else (none)) = some r := by rw [if_neg (show ¬ (false = true) by decide)] at H; exact H
            clear H
            have H := H1
            clear H1
            by_cases c13 : 0 ≤ x13_3
            ·rw [if_pos c13] at H
             have c13b0 : decide (0 ≤ x13_3) = true := decide_eq_true c13
             clear c13
             by_cases c14 : 0 ≤ x11_1
             ·rw [if_pos c14] at H
              have c14b0 : decide (0 ≤ x11_1) = true := decide_eq_true c14
              clear c14
              by_cases c15 : x11_1 < (l1.length : Int)
              ·rw [if_pos c15] at H
               have c15b0 : decide (x11_1 < (l1.length : Int)) = true := decide_eq_true c15
               clear c15
               replace H := Option.bind_eq_some_iff.mp H
               obtain ⟨t488, A160, H⟩ := H
               replace H : (attestorlaw03_PolyOne.l1 k3 l1 l2 (wrap64 (Int.tmod a0 4)) x8_1 x9_1 x11_1 (t488 == 0) (wrap64 (x13_3 + 1))) = some r := H
               have A16 := Aside0.mk A160
               clear A160
               have H' := Aside0.mk H
               clear H
               try go_wp2
               have n0_ := Aside0.mk (Kd.R_drew HO_8.out)
               have n1_ := Aside0.mk (Kd.R_drew HO_9.out)
               have n2_ := Aside0.mk (below_drew1 HB.out)
               clear HO_8
               clear HO_9
               clear HB
               have HO_8 := n0_
               have HO_9 := n1_
               have HB := n2_
               clear n0_ n1_ n2_
               have p486 : 0 ≤ (x13_3 : Int) := of_decide_eq_true (by first | (with_reducible assumption) | assumption)
               have q486 : x13_3 < (x8_1.length : Int) := of_decide_eq_true (by first | (with_reducible assumption) | assumption)
               obtain ⟨ad486, e486, hx486_0⟩ := Kd.at_int (Kd.R_reads' HO_8.out).2.2 x13_3 p486 q486
               cases e486
               replace p486 := eq_true p486
               replace q486 := eq_true q486
               have p487 : 0 ≤ (x11_1 : Int) := of_decide_eq_true (by first | (with_reducible assumption) | assumption)
               have q487 : x11_1 < (l1.length : Int) := of_decide_eq_true (by first | (with_reducible assumption) | assumption)
               obtain ⟨ad487, e487, hx487_0⟩ := Kd.at_int HR1.out x11_1 p487 q487
               have hw487_0 := hx487_0
               cases e487
               replace hx487_0 := (HB.out.cell (World.block_lt_of_cell? w _ hx487_0)).trans hx487_0
               replace p487 := eq_true p487
               replace q487 := eq_true q487
               refine start_ (n := 15) (S := fun w' => w'.cell? (ad486.add (x13_3).toNat) = some (.int .u64 (rd x8_1 x13_3)) ∧ w'.cell? (ad487.add (x11_1).toNat) = some (.int .u64 (rd l1 x11_1))) (ds := []) #[false, false, false, false, false, false, false, false, false, false, false, false, false, false, false] (by kernel_rfl) rfl rfl ⟨hx486_0, ((HB.out.cell (World.block_lt_of_cell? w _ hw487_0)).trans hw487_0)⟩ (fun hHeld => ?_); refine with_tabW attestorlaw03_PolyOne.tab10 attestorlaw03_PolyOne.bits10 (fun HT_ HW_ => ?_)
               generalize wr.drew = w17 at HO_8 HO_9 HB hx486_0 hx487_0 hHeld ⊢
               refine pure_ (i := 0) (N := some 42) (v := ?_) (a' := ?_) #[true, false, false, false, false, false, false, false, false, false, false, false, false, false, false] rfl rfl (any_of HT_.out (by kernel_rfl)) (fun _ _ _ h => h) (Or.inl ⟨by rfl, ?_⟩) ?_ ?_
               rotate_left
               ·intro w'
                go_simp
                with_reducible rfl
               rotate_left
               ·simp only [Act.put, List.setIfInBounds_toArray, List.set_cons_zero, List.set_cons_succ, i64_w, i32_w]
                rfl
               refine pure_ (i := 1) (N := some 43) (v := ?_) (a' := ?_) #[true, true, false, false, false, false, false, false, false, false, false, false, false, false, false] rfl rfl (any_of HT_.out (by kernel_rfl)) (fun _ _ _ h => h) (Or.inl ⟨by rfl, ?_⟩) ?_ ?_
               rotate_left
               ·intro w'
                go_simp
                with_reducible rfl
               rotate_left
               ·simp only [Act.put, List.setIfInBounds_toArray, List.set_cons_zero, List.set_cons_succ, i64_w, i32_w]
                rfl
               refine pure_ (i := 2) (N := some 44) (v := ?_) (a' := ?_) #[true, true, true, false, false, false, false, false, false, false, false, false, false, false, false] rfl rfl (any_of HT_.out (by kernel_rfl)) (fun _ _ _ h => h) (Or.inl ⟨by rfl, ?_⟩) ?_ ?_
               rotate_left
               ·intro w'
                go_simp
                with_reducible rfl
               rotate_left
               ·simp only [Act.put, List.setIfInBounds_toArray, List.set_cons_zero, List.set_cons_succ, i64_w, i32_w]
                rfl
               refine pure_ (i := 3) (N := some 45) (v := ?_) (a' := ?_) #[true, true, true, true, false, false, false, false, false, false, false, false, false, false, false] rfl rfl (any_of HT_.out (by kernel_rfl)) (fun _ _ _ h => h) (Or.inl ⟨by rfl, ?_⟩) ?_ ?_
               rotate_left
               ·intro w'
                go_simp
                with_reducible rfl
               rotate_left
               ·simp only [Act.put, List.setIfInBounds_toArray, List.set_cons_zero, List.set_cons_succ, i64_w, i32_w]
                rfl
               refine pure_ (i := 4) (N := some 46) (v := ?_) (a' := ?_) #[true, true, true, true, true, false, false, false, false, false, false, false, false, false, false] rfl rfl (any_of HT_.out (by kernel_rfl)) (fun _ _ _ h => h) (Or.inl ⟨by rfl, ?_⟩) ?_ ?_
               rotate_left
               ·intro w'
                go_simp
                with_reducible rfl
               rotate_left
               ·simp only [Act.put, List.setIfInBounds_toArray, List.set_cons_zero, List.set_cons_succ, i64_w, i32_w]
                rfl
               refine pure_ (i := 5) (N := some 47) (v := ?_) (a' := ?_) #[true, true, true, true, true, true, false, false, false, false, false, false, false, false, false] rfl rfl (any_of HT_.out (by kernel_rfl)) (fun _ _ _ h => h) (Or.inl ⟨by rfl, ?_⟩) ?_ ?_
               rotate_left
               ·intro w'
                go_simp
                with_reducible rfl
               rotate_left
               ·simp only [Act.put, List.setIfInBounds_toArray, List.set_cons_zero, List.set_cons_succ, i64_w, i32_w]
                rfl
               refine pure_ (i := 7) (N := some 49) (v := ?_) (a' := ?_) #[true, true, true, true, true, true, false, true, false, false, false, false, false, false, false] rfl rfl (any_of HT_.out (by kernel_rfl)) (fun _ _ _ h => h) (Or.inl ⟨by rfl, ?_⟩) ?_ ?_
               rotate_left
               ·intro w'
                go_simp
                with_reducible rfl
               rotate_left
               ·simp only [Act.put, List.setIfInBounds_toArray, List.set_cons_zero, List.set_cons_succ, i64_w, i32_w]
                rfl
               refine pure_ (i := 8) (N := some 50) (v := ?_) (a' := ?_) #[true, true, true, true, true, true, false, true, true, false, false, false, false, false, false] rfl rfl (any_of HT_.out (by kernel_rfl)) (fun _ _ _ h => h) (Or.inl ⟨by rfl, ?_⟩) ?_ ?_
               rotate_left
               ·intro w'
                go_simp
                with_reducible rfl
               rotate_left
               ·simp only [Act.put, List.setIfInBounds_toArray, List.set_cons_zero, List.set_cons_succ, i64_w, i32_w]
                rfl
               refine pure_ (i := 9) (N := some 51) (v := ?_) (a' := ?_) #[true, true, true, true, true, true, false, true, true, true, false, false, false, false, false] rfl rfl (any_of HT_.out (by kernel_rfl)) (fun _ _ _ h => h) (Or.inl ⟨by rfl, ?_⟩) ?_ ?_
               rotate_left
               ·intro w'
                go_simp
                with_reducible rfl
               rotate_left
               ·simp only [Act.put, List.setIfInBounds_toArray, List.set_cons_zero, List.set_cons_succ, i64_w, i32_w]
                rfl
               refine take_ (i := 6) (N := some 48) (v := ?_) (a' := ?_) #[true, true, true, true, true, true, true, true, true, true, false, false, false, false, false] rfl rfl (take_ofW HT_.out HW_.out (by kernel_rfl)) (fun _ _ _ h => h) (Or.inl ⟨by rfl, ?_⟩) hHeld ?_ ?_
               rotate_left
               ·rintro w' ⟨s0, s1⟩
                go_simp
                with_reducible rfl
               rotate_left
               ·simp only [Act.put, List.setIfInBounds_toArray, List.set_cons_zero, List.set_cons_succ, i64_w, i32_w]
                rfl
               refine take_ (i := 10) (N := some 52) (v := ?_) (a' := ?_) #[true, true, true, true, true, true, true, true, true, true, true, false, false, false, false] rfl rfl (take_ofW HT_.out HW_.out (by kernel_rfl)) (fun _ _ _ h => h) (Or.inl ⟨by rfl, ?_⟩) hHeld ?_ ?_
               rotate_left
               ·rintro w' ⟨s0, s1⟩
                go_simp
                with_reducible rfl
               rotate_left
               ·simp only [Act.put, List.setIfInBounds_toArray, List.set_cons_zero, List.set_cons_succ, i64_w, i32_w]
                rfl
               refine one_ (i := 11) (N := some 53) #[true, true, true, true, true, true, true, true, true, true, true, true, false, false, false] rfl rfl (one_of HT_.out (by kernel_rfl)) (by decide) (fun K hK => ?_)
               refine goes_ Tryd.func24 (by kernel_rfl) rfl #[.int .i64 (wrap64 (Int.tmod a0 4)), .int .u64 (rd x8_1 x13_3), .int .u64 (rd l1 x11_1)] (by rfl) rfl rfl (by (try simp only [List.map_toArray, List.map_cons, List.map_nil]); first | done | rfl | (simp only [List.length_drop, List.length_take]; rfl)) ?_
               with_reducible refine (field_Sub.calls (wrap64 (Int.tmod a0 4)) (rd x8_1 x13_3) (rd l1 x11_1) t488 _ ?side1 A16.out).mono ?_
               (case side1 => exact fU_ HG.out HB.out)
               rintro e w18 ⟨rfl, hb⟩
               have HS0_ := (hb.cell (World.block_lt_of_cell? _ _ (hHeld.1))).trans (hHeld.1)
               refine ⟨_, rfl, ?_⟩
               have n0_ := Aside0.mk (Kd.R_below (rU_ HO_8.out) hb)
               have n1_ := Aside0.mk (Kd.R_below (rU_ HO_9.out) hb)
               have n2_ := Aside0.mk (below_step (bU_ HB.out) hb)
               clear HO_8
               clear HO_9
               clear HB
               have HO_8 := n0_
               have HO_9 := n1_
               have HB := n2_
               clear n0_ n1_ n2_
               (try clear hb)
               (try clear hb2)
               (try clear hk)
               (try clear hi)
               refine hK.out _ _ ⟨HS0_, ((HB.out.cell (World.block_lt_of_cell? w _ hw487_0)).trans hw487_0)⟩ (fun hHeld => ?_)
               clear hK K
               refine norm_ (a' := ?_) ?_ ?_
               rotate_left
               ·show Act.put _ (some 53) _ = _
                simp only [Act.put, List.setIfInBounds_toArray, List.set_cons_zero, List.set_cons_succ, i64_w, i32_w]
                rfl
               refine pure_ (i := 12) (N := some 54) (v := ?_) (a' := ?_) #[true, true, true, true, true, true, true, true, true, true, true, true, true, false, false] rfl rfl (any_of HT_.out (by kernel_rfl)) (fun _ _ _ h => h) (Or.inl ⟨by rfl, ?_⟩) ?_ ?_
               rotate_left
               ·intro w'
                go_simp
                with_reducible rfl
               rotate_left
               ·simp only [Act.put, List.setIfInBounds_toArray, List.set_cons_zero, List.set_cons_succ, i64_w, i32_w]
                rfl
               refine pure_ (i := 13) (N := some 55) (v := ?_) (a' := ?_) #[true, true, true, true, true, true, true, true, true, true, true, true, true, true, false] rfl rfl (any_of HT_.out (by kernel_rfl)) (fun _ _ _ h => h) (Or.inl ⟨by rfl, ?_⟩) ?_ ?_
               rotate_left
               ·intro w'
                go_simp
                with_reducible rfl
               rotate_left
               ·simp only [Act.put, List.setIfInBounds_toArray, List.set_cons_zero, List.set_cons_succ, i64_w, i32_w]
                rfl
               refine pure_ (i := 14) (N := some 12) (v := ?_) (a' := ?_) #[true, true, true, true, true, true, true, true, true, true, true, true, true, true, true] rfl rfl (any_of HT_.out (by kernel_rfl)) (fun _ _ _ h => h) (Or.inl ⟨by rfl, ?_⟩) ?_ ?_
               rotate_left
               ·intro w'
                go_simp
                with_reducible rfl
               rotate_left
               ·simp only [Act.put, List.setIfInBounds_toArray, List.set_cons_zero, List.set_cons_succ, i64_w, i32_w]
                rfl
               refine done_ (done_of HT_.out (by kernel_rfl)) ?_
               try go_wp2
               go_roundg k3
               case measure => have := HK1.out; have := HJ6.out; have := HK3.out; omega
               case rel => exact ⟨((t488 == 0)), (wrap64 (x13_3 + 1)), (by first | rfl | (simp; done) | (simp [*]; done)), (by first | rfl | (simp; done) | (simp [*]; done)), H', ⟨by have := HK1.out; have := HJ6.out; have := HK3.out; omega⟩, ⟨rU_ HO_8.out⟩, ⟨rU_ HO_9.out⟩, ⟨bU_ HB.out⟩⟩
              ·rw [if_neg c15] at H
               exact absurd H (by simp)
             ·rw [if_neg c14] at H
              exact absurd H (by simp)
            ·rw [if_neg c13] at H
             exact absurd H (by simp)
          ·rw [if_neg c10] at H
           have c10b0 : decide (x13_3 < (x8_1.length : Int)) = false := decide_eq_false c10
           clear c10
           by_cases c19 : x12_3 = true
           ·subst c19
            have H1 : (attestorlaw03_PolyOne.l0 k3 l1 l2 (wrap64 (Int.tmod a0 4)) x8_1 x9_1 (wrap64 (x11_1 + 1))) = some r := by rw [if_pos rfl] at H; exact H
            clear H
            have H := H1
            clear H1
            have H' := Aside0.mk H
            clear H
            go_wp2
            go_roundg k3
            case measure => have := HK1.out; have := HJ6.out; have := HK3.out; omega
            case rel => exact ⟨(x8_1), (x9_1), (wrap64 (x11_1 + 1)), (by first | rfl | (simp; done) | (simp [*]; done)), H', ⟨by have := HK1.out; have := HJ6.out; have := HK3.out; omega⟩, ⟨rU_ HO_8.out⟩, ⟨rU_ HO_9.out⟩, ⟨bU_ HB.out⟩⟩
           ·replace c19 := Bool.eq_false_iff.mpr c19
            subst c19
            have H1 : (if 0 ≤ x11_1 then (if x11_1 < (l1.length : Int) then (if x8_1.length < 17592186044416 then ((some (x8_1 ++ [rd l1 x11_1] : List Int)).bind fun y490 => (if x11_1 < (l2.length : Int) then (if x9_1.length < 17592186044416 then (attestorlaw03_PolyOne.l0 k3 l1 l2 (wrap64 (Int.tmod a0 4)) y490 (x9_1 ++ [rd l2 x11_1]) (wrap64 (x11_1 + 1))) else (none)) else (if x9_1.length < 17592186044416 then (attestorlaw03_PolyOne.l0 k3 l1 l2 (wrap64 (Int.tmod a0 4)) y490 (x9_1 ++ [IntKind.u64.wrap (x11_1)]) (wrap64 (x11_1 + 1))) else (none)))) else (none)) else (none)) else (none)) = some r := by rw [if_neg (show ¬ (false = true) by decide)] at H; exact H
            clear H
            have H := H1
            clear H1
            by_cases c20 : 0 ≤ x11_1
            ·rw [if_pos c20] at H
             have c20b0 : decide (0 ≤ x11_1) = true := decide_eq_true c20
             clear c20
             by_cases c21 : x11_1 < (l1.length : Int)
             ·rw [if_pos c21] at H
              have c21b0 : decide (x11_1 < (l1.length : Int)) = true := decide_eq_true c21
              clear c21
              by_cases c22 : x8_1.length < 17592186044416
              ·rw [if_pos c22] at H
               have LMc22 := Aside0.mk c22
               clear c22
               obtain ⟨y490, hy490⟩ : ∃ y_ : List Int, y_ = (x8_1 ++ [rd l1 x11_1]) := ⟨_, rfl⟩
               replace H : (if x11_1 < (l2.length : Int) then (if x9_1.length < 17592186044416 then (attestorlaw03_PolyOne.l0 k3 l1 l2 (wrap64 (Int.tmod a0 4)) y490 (x9_1 ++ [rd l2 x11_1]) (wrap64 (x11_1 + 1))) else (none)) else (if x9_1.length < 17592186044416 then (attestorlaw03_PolyOne.l0 k3 l1 l2 (wrap64 (Int.tmod a0 4)) y490 (x9_1 ++ [IntKind.u64.wrap (x11_1)]) (wrap64 (x11_1 + 1))) else (none))) = some r := by first | (rw [hy490]; with_reducible exact H) | (have H2_ := (Option.bind_some _ _).symm.trans H; rw [hy490]; with_reducible exact H2_) | (have H2_ := (Option.bind_some _ _).symm.trans H; with_reducible exact H2_) | with_reducible exact H | (rw [hy490]; exact H) | exact H
               have Ny490 := Aside0.mk hy490
               clear hy490
               by_cases c23 : x11_1 < (l2.length : Int)
               ·rw [if_pos c23] at H
                have c23b0 : decide (x11_1 < (l2.length : Int)) = true := decide_eq_true c23
                clear c23
                by_cases c24 : x9_1.length < 17592186044416
                ·rw [if_pos c24] at H
                 have LMc24 := Aside0.mk c24
                 clear c24
                 obtain ⟨y494, hy494⟩ : ∃ y_ : List Int, y_ = (x9_1 ++ [rd l2 x11_1]) := ⟨_, rfl⟩
                 replace H : (attestorlaw03_PolyOne.l0 k3 l1 l2 (wrap64 (Int.tmod a0 4)) y490 y494 (wrap64 (x11_1 + 1))) = some r := by first | (rw [hy494]; with_reducible exact H) | (have H2_ := (Option.bind_some _ _).symm.trans H; rw [hy494]; with_reducible exact H2_) | (have H2_ := (Option.bind_some _ _).symm.trans H; with_reducible exact H2_) | with_reducible exact H | (rw [hy494]; exact H) | exact H
                 have Ny494 := Aside0.mk hy494
                 clear hy494
                 have H' := Aside0.mk H
                 clear H
                 have p489 : 0 ≤ (x11_1 : Int) := of_decide_eq_true (by first | (with_reducible assumption) | assumption)
                 have q489 : x11_1 < (l1.length : Int) := of_decide_eq_true (by first | (with_reducible assumption) | assumption)
                 obtain ⟨ad489, e489, hx489_0⟩ := Kd.at_int HR1.out x11_1 p489 q489
                 cases e489
                 replace hx489_0 := (HB.out.cell (World.block_lt_of_cell? w _ hx489_0)).trans hx489_0
                 replace p489 := eq_true p489
                 replace q489 := eq_true q489
                 go_wp2_with (first | ((with_reducible refine gate_builtin (b := .append) (xs := #[.tmp 58, .tmp 63]) rfl ?_); (try (refine gate_guard (by rfl) ?_; dsimp only)); at_builtin; refine Kd.R_append (Kd.int .u64) (w0 := w) w.heap.size rfl (.tmp 58) (.tmp 63) 22 32 (.int .u64 0) 8 rfl Tryd.underlying22 info32 rfl (by decide) (by omega) (.slice Ao8 x8_1.length co8) x8_1 (rd l1 x11_1) [.int .u64 (rd l1 x11_1)] (fun k_ => some k_ ≠ (u9 : Value).ownBlock) (fun _ => False) rfl rfl ?aP (fun _ hk => hk.elim) ?aF ?aO ?aB ?aS ?aL ?_; (case aP => exact rfl); (case aB => exact (bU_ HB.out)); (case aF => exact (fun k_ hk => Kd.fresh' (Kd.R_lt (rU_ HO_9.out)) k_ hk)); (case aO => exact (rU_ HO_8.out)); (case aS => exact (below_size (bU_ HB.out))); (case aL => have := LMc22.out; omega); intro v491 w25 ho hb hg hat; rw [← Ny490.out] at ho; have n0_ := Aside0.mk (Kd.R_after (ok := (fun _ => True)) (by (with_reducible repeat (first | apply Kd.R_alloc | apply Kd.R_drewN | apply Kd.R_drew)); exact Kd.R_mono HO_9.out (fun _ hk => ⟨trivial, hk⟩)) hg hat); have n1_ := Aside0.mk (hb); have n2_ := Aside0.mk (ho); clear HO_9; clear HB; clear HO_8; have HO_9 := n0_; have HB := n1_; have HO492 := n2_; clear n0_ n1_ n2_; clear ho hb hg hat; have p493 : 0 ≤ (x11_1 : Int) := of_decide_eq_true (by first | (with_reducible assumption) | assumption); have q493 : x11_1 < (l2.length : Int) := of_decide_eq_true (by first | (with_reducible assumption) | assumption); obtain ⟨ad493, e493, hx493_0⟩ := Kd.at_int HR2.out x11_1 p493 q493; cases e493; replace hx493_0 := (HB.out.cell (World.block_lt_of_cell? w _ hx493_0)).trans hx493_0; replace p493 := eq_true p493; replace q493 := eq_true q493) | ((with_reducible refine gate_builtin (b := .append) (xs := #[.tmp 69, .tmp 74]) rfl ?_); (try (refine gate_guard (by rfl) ?_; dsimp only)); at_builtin; refine Kd.R_append (Kd.int .u64) (w0 := w) w.heap.size rfl (.tmp 69) (.tmp 74) 22 32 (.int .u64 0) 8 rfl Tryd.underlying22 info32 rfl (by decide) (by omega) u9 x9_1 (rd l2 x11_1) [.int .u64 (rd l2 x11_1)] (fun k_ => some k_ ≠ (v491 : Value).ownBlock) (fun _ => False) rfl rfl ?aP (fun _ hk => hk.elim) ?aF ?aO ?aB ?aS ?aL ?_; (case aP => exact rfl); (case aB => exact (bU_ HB.out)); (case aF => exact (fun k_ hk => Kd.fresh' (Kd.R_lt (rU_ HO492.out)) k_ hk)); (case aO => exact (by (with_reducible repeat (first | apply Kd.R_alloc | apply Kd.R_drewN | apply Kd.R_drew)); exact Kd.R_mono HO_9.out (fun _ hk => hk.2))); (case aS => exact (below_size (bU_ HB.out))); (case aL => have := LMc24.out; omega); intro v495 w26 ho hb hg hat; rw [← Ny494.out] at ho; have n0_ := Aside0.mk (Kd.R_after (ok := (fun _ => True)) (by (with_reducible repeat (first | apply Kd.R_alloc | apply Kd.R_drewN | apply Kd.R_drew)); exact Kd.R_mono HO492.out (fun _ hk => ⟨trivial, hk⟩)) hg hat); have n1_ := Aside0.mk (hb); have n2_ := Aside0.mk (ho); clear HO492; clear HB; clear HO_9; have HO492 := n0_; have HB := n1_; have HO496 := n2_; clear n0_ n1_ n2_; clear ho hb hg hat))
                 go_roundg k3
                 case measure => have := HK1.out; have := HJ6.out; have := HK3.out; omega
                 case rel => exact ⟨(y490), (y494), (wrap64 (x11_1 + 1)), (by first | rfl | (simp; done) | (simp [*]; done)), H', ⟨by have := HK1.out; have := HJ6.out; have := HK3.out; omega⟩, ⟨by (with_reducible repeat (first | apply Kd.R_alloc | apply Kd.R_drewN | apply Kd.R_drew)); exact Kd.R_mono HO492.out (fun _ hk => hk.2)⟩, ⟨rU_ HO496.out⟩, ⟨bU_ HB.out⟩⟩
                ·rw [if_neg c24] at H
                 exact absurd H (by simp)
               ·rw [if_neg c23] at H
                have c23b0 : decide (x11_1 < (l2.length : Int)) = false := decide_eq_false c23
                clear c23
                by_cases c27 : x9_1.length < 17592186044416
                ·rw [if_pos c27] at H
                 have LMc27 := Aside0.mk c27
                 clear c27
                 obtain ⟨y497, hy497⟩ : ∃ y_ : List Int, y_ = (x9_1 ++ [IntKind.u64.wrap (x11_1)]) := ⟨_, rfl⟩
                 replace H : (attestorlaw03_PolyOne.l0 k3 l1 l2 (wrap64 (Int.tmod a0 4)) y490 y497 (wrap64 (x11_1 + 1))) = some r := by first | (rw [hy497]; with_reducible exact H) | (have H2_ := (Option.bind_some _ _).symm.trans H; rw [hy497]; with_reducible exact H2_) | (have H2_ := (Option.bind_some _ _).symm.trans H; with_reducible exact H2_) | with_reducible exact H | (rw [hy497]; exact H) | exact H
                 have Ny497 := Aside0.mk hy497
                 clear hy497
                 have H' := Aside0.mk H
                 clear H
                 have p489 : 0 ≤ (x11_1 : Int) := of_decide_eq_true (by first | (with_reducible assumption) | assumption)
                 have q489 : x11_1 < (l1.length : Int) := of_decide_eq_true (by first | (with_reducible assumption) | assumption)
                 obtain ⟨ad489, e489, hx489_0⟩ := Kd.at_int HR1.out x11_1 p489 q489
                 cases e489
                 replace hx489_0 := (HB.out.cell (World.block_lt_of_cell? w _ hx489_0)).trans hx489_0
                 replace p489 := eq_true p489
                 replace q489 := eq_true q489
                 go_wp2_with (first | ((with_reducible refine gate_builtin (b := .append) (xs := #[.tmp 58, .tmp 63]) rfl ?_); (try (refine gate_guard (by rfl) ?_; dsimp only)); at_builtin; refine Kd.R_append (Kd.int .u64) (w0 := w) w.heap.size rfl (.tmp 58) (.tmp 63) 22 32 (.int .u64 0) 8 rfl Tryd.underlying22 info32 rfl (by decide) (by omega) (.slice Ao8 x8_1.length co8) x8_1 (rd l1 x11_1) [.int .u64 (rd l1 x11_1)] (fun k_ => some k_ ≠ (u9 : Value).ownBlock) (fun _ => False) rfl rfl ?aP (fun _ hk => hk.elim) ?aF ?aO ?aB ?aS ?aL ?_; (case aP => exact rfl); (case aB => exact (bU_ HB.out)); (case aF => exact (fun k_ hk => Kd.fresh' (Kd.R_lt (rU_ HO_9.out)) k_ hk)); (case aO => exact (rU_ HO_8.out)); (case aS => exact (below_size (bU_ HB.out))); (case aL => have := LMc22.out; omega); intro v491 w28 ho hb hg hat; rw [← Ny490.out] at ho; have n0_ := Aside0.mk (Kd.R_after (ok := (fun _ => True)) (by (with_reducible repeat (first | apply Kd.R_alloc | apply Kd.R_drewN | apply Kd.R_drew)); exact Kd.R_mono HO_9.out (fun _ hk => ⟨trivial, hk⟩)) hg hat); have n1_ := Aside0.mk (hb); have n2_ := Aside0.mk (ho); clear HO_9; clear HB; clear HO_8; have HO_9 := n0_; have HB := n1_; have HO492 := n2_; clear n0_ n1_ n2_; clear ho hb hg hat) | ((with_reducible refine gate_builtin (b := .append) (xs := #[.tmp 76, .tmp 79]) rfl ?_); (try (refine gate_guard (by rfl) ?_; dsimp only)); at_builtin; refine Kd.R_append (Kd.int .u64) (w0 := w) w.heap.size rfl (.tmp 76) (.tmp 79) 22 32 (.int .u64 0) 8 rfl Tryd.underlying22 info32 rfl (by decide) (by omega) u9 x9_1 (IntKind.u64.wrap (x11_1)) [.int .u64 (IntKind.u64.wrap (x11_1))] (fun k_ => some k_ ≠ (v491 : Value).ownBlock) (fun _ => False) rfl rfl ?aP (fun _ hk => hk.elim) ?aF ?aO ?aB ?aS ?aL ?_; (case aP => exact rfl); (case aB => exact (bU_ HB.out)); (case aF => exact (fun k_ hk => Kd.fresh' (Kd.R_lt (rU_ HO492.out)) k_ hk)); (case aO => exact (by (with_reducible repeat (first | apply Kd.R_alloc | apply Kd.R_drewN | apply Kd.R_drew)); exact Kd.R_mono HO_9.out (fun _ hk => hk.2))); (case aS => exact (below_size (bU_ HB.out))); (case aL => have := LMc27.out; omega); intro v498 w29 ho hb hg hat; rw [← Ny497.out] at ho; have n0_ := Aside0.mk (Kd.R_after (ok := (fun _ => True)) (by (with_reducible repeat (first | apply Kd.R_alloc | apply Kd.R_drewN | apply Kd.R_drew)); exact Kd.R_mono HO492.out (fun _ hk => ⟨trivial, hk⟩)) hg hat); have n1_ := Aside0.mk (hb); have n2_ := Aside0.mk (ho); clear HO492; clear HB; clear HO_9; have HO492 := n0_; have HB := n1_; have HO499 := n2_; clear n0_ n1_ n2_; clear ho hb hg hat))
                 go_roundg k3
                 case measure => have := HK1.out; have := HJ6.out; have := HK3.out; omega
                 case rel => exact ⟨(y490), (y497), (wrap64 (x11_1 + 1)), (by first | rfl | (simp; done) | (simp [*]; done)), H', ⟨by have := HK1.out; have := HJ6.out; have := HK3.out; omega⟩, ⟨by (with_reducible repeat (first | apply Kd.R_alloc | apply Kd.R_drewN | apply Kd.R_drew)); exact Kd.R_mono HO492.out (fun _ hk => hk.2)⟩, ⟨rU_ HO499.out⟩, ⟨bU_ HB.out⟩⟩
                ·rw [if_neg c27] at H
                 exact absurd H (by simp)
              ·rw [if_neg c22] at H
               exact absurd H (by simp)
             ·rw [if_neg c21] at H
              exact absurd H (by simp)
            ·rw [if_neg c20] at H
             exact absurd H (by simp)
     ·rw [if_neg c6] at H
      have c6b0 : decide ((x8_1.length : Int) < 24) = false := decide_eq_false c6
      have c6b1 : decide (x8_1.length < 24) = false := decide_eq_false (by omega)
      clear c6
      have H' := Aside0.mk H
      clear H
      obtain ⟨Ao30, co30, eo30⟩ := Kd.R_slice HO_8.out
      subst eo30
      go_wp2
      go_meet
      case rel => exact ⟨_, (x8_1), (x9_1), H', ⟨by have := HK1.out; first | omega | exact Nat.le_refl _⟩, ⟨by (with_reducible repeat (first | apply Kd.R_alloc | apply Kd.R_drewN | apply Kd.R_drew)); exact Kd.R_mono HO_8.out (fun _ hk => ⟨hk, (by simp [Value.ownBlock])⟩)⟩, ⟨by (with_reducible repeat (first | apply Kd.R_alloc | apply Kd.R_drewN | apply Kd.R_drew)); exact Kd.R_mono HO_9.out (fun _ hk => ⟨hk, (by simp [Value.ownBlock])⟩)⟩, ⟨by first | exact Kd.R_nil _ _ _ _ _ | exact Kd.N_nil _ _ _ _ _ | exact Kd.V_nil _ _ _ _ _ | exact Kd.Q_nil _ _ _ _ _ | exact Kd.S_nil _ _ _ _ _⟩, ⟨bU_ HB.out⟩⟩
    ·rw [if_neg c5] at H
     have c5b0 : decide (x11_1 < (l1.length : Int)) = false := decide_eq_false c5
     clear c5
     (first | rw [c5b0] | (simp only [i64_w, i32_w]; rw [c5b0]) | rw [c5b1] | skip)
     have H' := Aside0.mk H
     clear H
     go_wp2
     go_meet
     case rel => exact ⟨_, (x8_1), (x9_1), H', ⟨by have := HK1.out; first | omega | exact Nat.le_refl _⟩, ⟨by (with_reducible repeat (first | apply Kd.R_alloc | apply Kd.R_drewN | apply Kd.R_drew)); exact Kd.R_mono HO_8.out (fun _ hk => ⟨hk, (by simp [Value.ownBlock])⟩)⟩, ⟨by (with_reducible repeat (first | apply Kd.R_alloc | apply Kd.R_drewN | apply Kd.R_drew)); exact Kd.R_mono HO_9.out (fun _ hk => ⟨hk, (by simp [Value.ownBlock])⟩)⟩, ⟨by first | exact Kd.R_nil _ _ _ _ _ | exact Kd.N_nil _ _ _ _ _ | exact Kd.V_nil _ _ _ _ _ | exact Kd.Q_nil _ _ _ _ _ | exact Kd.S_nil _ _ _ _ _⟩, ⟨bU_ HB.out⟩⟩
 case rest =>
  clear HC4
  try clear c1
  try clear c2
  try clear p2
  try clear p4
  try clear q4
  try clear hx4
  try clear c5
  try clear c5b0
  try clear c5b1
  try clear c6
  try clear c6b0
  try clear c6b1
  try clear p6
  try clear c9
  try clear c9b0
  try clear c9b1
  try clear c10
  try clear c10b0
  try clear c11
  try clear c13
  try clear c13b0
  try clear c14
  try clear c14b0
  try clear c15
  try clear c15b0
  try clear c19
  try clear c20
  try clear c20b0
  try clear c21
  try clear c21b0
  try clear c22
  try clear c23
  try clear c23b0
  try clear c24
  try clear c27
  try clear hx486_0
  try clear hx487_0
  try clear hx489_0
  try clear hx493_0
  try clear p2
  try clear p486
  try clear p487
  try clear p489
  try clear p493
  try clear p6
  try clear q486
  try clear q487
  try clear q489
  try clear q493
  obtain ⟨kq, x8_3, x9_3, HA, HJ3, HO_8, HO_9, HO_10, HB⟩ := hcut
  cases kq with
  | zero => exact absurd HA.out (by simp [attestorlaw03_PolyOne.j3])
  | succ kj3 =>
   have H := HA.out
   clear HA
   simp only [attestorlaw03_PolyOne.j3] at H
   replace H := Option.bind_eq_some_iff.mp H
   obtain ⟨⟨t500, t501⟩, A310, H⟩ := H
   replace H : (if t501 = 0 then (if (t500.length : Int) > (x8_3.length : Int) then (none) else (attestorlaw03_PolyOne.j4 kj3 (wrap64 (Int.tmod a0 4)) x8_3 x9_3 ([] : List Int) t500)) else (none)) = some r := H
   have A31 := Aside0.mk A310
   clear A310
   by_cases c32 : t501 = 0
   ·rw [if_pos c32] at H
    have c32b0 : (t501 == 0) = true := beq_iff_eq.mpr c32
    have c32b1 : (t501 != 0) = false := bne_eq_false_iff_eq.mpr c32
    clear c32
    have HC33 := Aside0.mk H
    clear H
    obtain ⟨Ao34, co34, eo34⟩ := Kd.R_slice HO_8.out
    subst eo34
    obtain ⟨Ao35, co35, eo35⟩ := Kd.R_slice HO_9.out
    subst eo35
    go_upto_if 96 with (first | ((with_reducible refine gate_callee (f := 12) rfl ?_); refine goesL_ (some 85) rfl rfl Tryd.func12 (by kernel_rfl) rfl #[.int .i64 (wrap64 (Int.tmod a0 4)), .slice Ao34 x8_3.length co34, .slice Ao35 x9_3.length co35] rfl (by (try simp only [List.map_toArray, List.map_cons, List.map_nil]); first | done | rfl | (simp only [List.length_drop, List.length_take]; rfl)) ?_; (with_reducible refine (poly_Through.calls kj3 (wrap64 (Int.tmod a0 4)) _ _ x8_3 _ _ x9_3 t500 t501 _ ?side1 ?side2 ?side3 ?side4 ?side5 A31.out).mono ?_); (case side1 => exact fU_ HG.out HB.out); (case side2 => repeat (first | exact (Kd.R_reads' HO_8.out).2.2 | (with_reducible refine Kd.C_alloc ?_ _) | (with_reducible refine Kd.C_drewN ?_ _) | (with_reducible refine Kd.C_drew ?_))); (case side3 => exact (Kd.R_reads' HO_8.out).2.1); (case side4 => repeat (first | exact (Kd.R_reads' HO_9.out).2.2 | (with_reducible refine Kd.C_alloc ?_ _) | (with_reducible refine Kd.C_drewN ?_ _) | (with_reducible refine Kd.C_drew ?_))); (case side5 => exact (Kd.R_reads' HO_9.out).2.1); rintro e w36 ⟨v502, rfl, ho0, hb⟩; refine ⟨_, rfl, ?_⟩; have n0_ := Aside0.mk (Kd.R_elder' (rU_ HO_8.out) (Kd.R_base ho0) hb); have n1_ := Aside0.mk (Kd.R_elder' (rU_ HO_9.out) (Kd.R_base ho0) hb); have n2_ := Aside0.mk (Kd.R_elder' (rU_ HO_10.out) (Kd.R_base ho0) hb); have n3_ := Aside0.mk (Kd.R_lower (Kd.R_new' (Kd.R_new' (Kd.R_new' ho0 (Kd.R_lt (rU_ HO_8.out))) (Kd.R_lt (rU_ HO_9.out))) (Kd.R_lt (rU_ HO_10.out))) (below_size (bU_ HB.out))); have n4_ := Aside0.mk (below_step (bU_ HB.out) hb); clear HO_8; clear HO_9; clear HO_10; clear HB; have HO_8 := n0_; have HO_9 := n1_; have HO_10 := n2_; have HO503 := n3_; have HB := n4_; clear n0_ n1_ n2_ n3_ n4_; (try clear hb); (try clear hb2); (try clear hk); (try clear hi); (try clear ho0); obtain ⟨Ao37, co37, eo37⟩ := Kd.R_slice HO503.out; subst eo37))
    (try simp only [Act.put, List.setIfInBounds_toArray, List.set_cons_zero, List.set_cons_succ])
    go_cut [] (fun wc => ∃ (kq : Nat), Aside0 (attestorlaw03_PolyOne.j4 kq (wrap64 (Int.tmod a0 4)) x8_3 x9_3 ([] : List Int) t500 = some r) ∧ Aside0 (kq ≤ kj3) ∧ Aside0 (Kd.R (Kd.int .u64) 32 wc w.heap.size (fun k_ => some k_ ≠ ((.slice Ao35 x9_3.length co35) : Value).ownBlock ∧ some k_ ≠ ((.slice none 0 0) : Value).ownBlock ∧ some k_ ≠ ((.slice Ao37 t500.length co37) : Value).ownBlock) (.slice Ao34 x8_3.length co34) x8_3) ∧ Aside0 (Kd.R (Kd.int .u64) 32 wc w.heap.size (fun k_ => some k_ ≠ ((.slice Ao34 x8_3.length co34) : Value).ownBlock ∧ some k_ ≠ ((.slice none 0 0) : Value).ownBlock ∧ some k_ ≠ ((.slice Ao37 t500.length co37) : Value).ownBlock) (.slice Ao35 x9_3.length co35) x9_3) ∧ Aside0 (Kd.R (Kd.int .u64) 32 wc w.heap.size (fun k_ => some k_ ≠ ((.slice Ao34 x8_3.length co34) : Value).ownBlock ∧ some k_ ≠ ((.slice Ao35 x9_3.length co35) : Value).ownBlock ∧ some k_ ≠ ((.slice Ao37 t500.length co37) : Value).ownBlock) (.slice none 0 0) ([] : List Int)) ∧ Aside0 (Kd.R (Kd.int .u64) 32 wc w.heap.size (fun k_ => some k_ ≠ ((.slice Ao34 x8_3.length co34) : Value).ownBlock ∧ some k_ ≠ ((.slice Ao35 x9_3.length co35) : Value).ownBlock ∧ some k_ ≠ ((.slice none 0 0) : Value).ownBlock) (.slice Ao37 t500.length co37) t500) ∧ Aside0 (Below w.heap.size w wc))
    case first =>
     have H := HC33.out
     clear HC33
     by_cases c38 : (t500.length : Int) > (x8_3.length : Int)
     ·rw [if_pos c38] at H
      exact absurd H (by simp)
     ·rw [if_neg c38] at H
      have c38b0 : decide ((x8_3.length : Int) < (t500.length : Int)) = false := decide_eq_false c38
      have c38b1 : decide (x8_3.length < t500.length) = false := decide_eq_false (fun h => c38 (Int.ofNat_lt.mpr h))
      clear c38
      (first | rw [c38b0] | (simp only [i64_w, i32_w]; rw [c38b0]) | rw [c38b1] | skip)
      have H' := Aside0.mk H
      clear H
      go_wp2
      go_meet
      case rel => exact ⟨_, H', ⟨by have := HJ3.out; first | omega | exact Nat.le_refl _⟩, ⟨by (with_reducible repeat (first | apply Kd.R_alloc | apply Kd.R_drewN | apply Kd.R_drew)); exact Kd.R_mono HO_8.out (fun _ hk => ⟨hk.1.1, ⟨hk.1.2, hk.2⟩⟩)⟩, ⟨by (with_reducible repeat (first | apply Kd.R_alloc | apply Kd.R_drewN | apply Kd.R_drew)); exact Kd.R_mono HO_9.out (fun _ hk => ⟨hk.1.1, ⟨hk.1.2, hk.2⟩⟩)⟩, ⟨by (with_reducible repeat (first | apply Kd.R_alloc | apply Kd.R_drewN | apply Kd.R_drew)); exact Kd.R_mono HO_10.out (fun _ hk => ⟨hk.1.1, ⟨hk.1.2, hk.2⟩⟩)⟩, ⟨by (with_reducible repeat (first | apply Kd.R_alloc | apply Kd.R_drewN | apply Kd.R_drew)); exact Kd.R_mono HO503.out (fun _ hk => ⟨hk.1.1.2, ⟨hk.1.2, hk.2⟩⟩)⟩, ⟨bU_ HB.out⟩⟩
    case rest =>
     clear HC33
     try clear c1
     try clear c2
     try clear p2
     try clear c3
     try clear p4
     try clear q4
     try clear hx4
     try clear c5
     try clear c5b0
     try clear c5b1
     try clear c6
     try clear c6b0
     try clear c6b1
     try clear p6
     try clear c9
     try clear c9b0
     try clear c9b1
     try clear c10
     try clear c10b0
     try clear c11
     try clear c12
     try clear c13
     try clear c13b0
     try clear c14
     try clear c14b0
     try clear c15
     try clear c15b0
     try clear c19
     try clear c20
     try clear c20b0
     try clear c21
     try clear c21b0
     try clear c22
     try clear c23
     try clear c23b0
     try clear c24
     try clear c27
     try clear c32
     try clear c32b0
     try clear c32b1
     try clear c38
     try clear c38b0
     try clear c38b1
     try clear hx486_0
     try clear hx487_0
     try clear hx489_0
     try clear hx493_0
     try clear p2
     try clear p4
     try clear p486
     try clear p487
     try clear p489
     try clear p493
     try clear p6
     try clear q4
     try clear q486
     try clear q487
     try clear q489
     try clear q493
     obtain ⟨kq, HA, HJ32, HO_8, HO_9, HO_10, HO_14, HB⟩ := hcut
     cases kq with
     | zero => exact absurd HA.out (by simp [attestorlaw03_PolyOne.j4])
     | succ kj32 =>
      have H := HA.out
      clear HA
      simp only [attestorlaw03_PolyOne.j4] at H
      have H' := Aside0.mk H
      clear H
      go_wp2
      go_loopg [10, 16] kj32 (fun kq v10 v16 w' => ∃ (x10_3 : List Int) (x16_3 : Int), v16 = .int .i64 x16_3 ∧ Aside0 (attestorlaw03_PolyOne.l2 kq (wrap64 (Int.tmod a0 4)) x8_3 x9_3 x10_3 t500 x16_3 = some r) ∧ Aside0 (kq ≤ kj32) ∧ Aside0 (Kd.R (Kd.int .u64) 32 w' w.heap.size (fun k_ => some k_ ≠ ((.slice Ao35 x9_3.length co35) : Value).ownBlock ∧ some k_ ≠ (v10 : Value).ownBlock ∧ some k_ ≠ ((.slice Ao37 t500.length co37) : Value).ownBlock) (.slice Ao34 x8_3.length co34) x8_3) ∧ Aside0 (Kd.R (Kd.int .u64) 32 w' w.heap.size (fun k_ => some k_ ≠ ((.slice Ao34 x8_3.length co34) : Value).ownBlock ∧ some k_ ≠ (v10 : Value).ownBlock ∧ some k_ ≠ ((.slice Ao37 t500.length co37) : Value).ownBlock) (.slice Ao35 x9_3.length co35) x9_3) ∧ Aside0 (Kd.R (Kd.int .u64) 32 w' w.heap.size (fun k_ => some k_ ≠ ((.slice Ao34 x8_3.length co34) : Value).ownBlock ∧ some k_ ≠ ((.slice Ao35 x9_3.length co35) : Value).ownBlock ∧ some k_ ≠ ((.slice Ao37 t500.length co37) : Value).ownBlock) v10 x10_3) ∧ Aside0 (Kd.R (Kd.int .u64) 32 w' w.heap.size (fun k_ => some k_ ≠ ((.slice Ao34 x8_3.length co34) : Value).ownBlock ∧ some k_ ≠ ((.slice Ao35 x9_3.length co35) : Value).ownBlock ∧ some k_ ≠ (v10 : Value).ownBlock) (.slice Ao37 t500.length co37) t500) ∧ Aside0 (Below w.heap.size w w'))
      case atStart => exact ⟨(([] : List Int)), (0), (by first | rfl | (simp; done) | (simp [*]; done)), H', ⟨Nat.le_refl _⟩, ⟨rU_ HO_8.out⟩, ⟨rU_ HO_9.out⟩, ⟨rU_ HO_10.out⟩, ⟨rU_ HO_14.out⟩, ⟨bU_ HB.out⟩⟩
      case round =>
       clear H'
       try clear c1
       try clear c2
       try clear p2
       try clear c3
       try clear p4
       try clear q4
       try clear hx4
       try clear c5
       try clear c5b0
       try clear c5b1
       try clear c6
       try clear c6b0
       try clear c6b1
       try clear p6
       try clear c9
       try clear c9b0
       try clear c9b1
       try clear c10
       try clear c10b0
       try clear c11
       try clear c12
       try clear c13
       try clear c13b0
       try clear c14
       try clear c14b0
       try clear c15
       try clear c15b0
       try clear c19
       try clear c20
       try clear c20b0
       try clear c21
       try clear c21b0
       try clear c22
       try clear c23
       try clear c23b0
       try clear c24
       try clear c27
       try clear c32
       try clear c32b0
       try clear c32b1
       try clear c38
       try clear c38b0
       try clear c38b1
       try clear hx486_0
       try clear hx487_0
       try clear hx489_0
       try clear hx493_0
       try clear p2
       try clear p4
       try clear p486
       try clear p487
       try clear p489
       try clear p493
       try clear p6
       try clear q4
       try clear q486
       try clear q487
       try clear q489
       try clear q493
       obtain ⟨x10_3, x16_3, rfl, HA, HK3, HO_8, HO_9, HO_10, HO_14, HB⟩ := hrel
       cases gk with
       | zero => exact absurd HA.out (by simp [attestorlaw03_PolyOne.l2])
       | succ k3 =>
        have H := HA.out
        clear HA
        simp only [attestorlaw03_PolyOne.l2] at H
        have HC39 := Aside0.mk H
        clear H
        go_upto_if 100 with (fail)
        go_cut [] (fun wc => ∃ (kq : Nat), Aside0 (attestorlaw03_PolyOne.j6 kq (wrap64 (Int.tmod a0 4)) x8_3 x9_3 x10_3 t500 x16_3 = some r) ∧ Aside0 (kq ≤ k3) ∧ Aside0 (Kd.R (Kd.int .u64) 32 wc w.heap.size (fun k_ => some k_ ≠ ((.slice Ao35 x9_3.length co35) : Value).ownBlock ∧ some k_ ≠ (u10 : Value).ownBlock ∧ some k_ ≠ ((.slice Ao37 t500.length co37) : Value).ownBlock) (.slice Ao34 x8_3.length co34) x8_3) ∧ Aside0 (Kd.R (Kd.int .u64) 32 wc w.heap.size (fun k_ => some k_ ≠ ((.slice Ao34 x8_3.length co34) : Value).ownBlock ∧ some k_ ≠ (u10 : Value).ownBlock ∧ some k_ ≠ ((.slice Ao37 t500.length co37) : Value).ownBlock) (.slice Ao35 x9_3.length co35) x9_3) ∧ Aside0 (Kd.R (Kd.int .u64) 32 wc w.heap.size (fun k_ => some k_ ≠ ((.slice Ao34 x8_3.length co34) : Value).ownBlock ∧ some k_ ≠ ((.slice Ao35 x9_3.length co35) : Value).ownBlock ∧ some k_ ≠ ((.slice Ao37 t500.length co37) : Value).ownBlock) u10 x10_3) ∧ Aside0 (Kd.R (Kd.int .u64) 32 wc w.heap.size (fun k_ => some k_ ≠ ((.slice Ao34 x8_3.length co34) : Value).ownBlock ∧ some k_ ≠ ((.slice Ao35 x9_3.length co35) : Value).ownBlock ∧ some k_ ≠ (u10 : Value).ownBlock) (.slice Ao37 t500.length co37) t500) ∧ Aside0 (Below w.heap.size w wc))
        case first =>
         have H := HC39.out
         clear HC39
         by_cases c40 : x16_3 < (x8_3.length : Int)
         ·rw [if_pos c40] at H
          have c40b0 : decide (x16_3 < (x8_3.length : Int)) = true := decide_eq_true c40
          clear c40
          (first | rw [c40b0] | (simp only [i64_w, i32_w]; rw [c40b0]) | rw [c40b1] | skip)
          have H' := Aside0.mk H
          clear H
          go_wp2
          go_meet
          case rel => exact ⟨_, H', ⟨by have := HJ3.out; have := HJ32.out; have := HK3.out; first | omega | exact Nat.le_refl _⟩, ⟨rU_ HO_8.out⟩, ⟨rU_ HO_9.out⟩, ⟨rU_ HO_10.out⟩, ⟨rU_ HO_14.out⟩, ⟨bU_ HB.out⟩⟩
         ·rw [if_neg c40] at H
          have c40b0 : decide (x16_3 < (x8_3.length : Int)) = false := decide_eq_false c40
          clear c40
          (first | rw [c40b0] | (simp only [i64_w, i32_w]; rw [c40b0]) | rw [c40b1] | skip)
          replace H := Option.bind_eq_some_iff.mp H
          obtain ⟨⟨t513, t514⟩, A410, H⟩ := H
          replace H : (if t514 = 0 then ((poly_Normal.f k3 (wrap64 (Int.tmod a0 4)) x9_3).bind fun t517 => ((attestorlaw03_same.f k3 t513 t517).bind fun t520 => (if t520 = true then ((attestorlaw03_works.f k3).bind fun t521 => (some t521)) else (none)))) else (none)) = some r := H
          have A41 := Aside0.mk A410
          clear A410
          by_cases c42 : t514 = 0
          ·rw [if_pos c42] at H
           have c42b0 : (t514 == 0) = true := beq_iff_eq.mpr c42
           have c42b1 : (t514 != 0) = false := bne_eq_false_iff_eq.mpr c42
           clear c42
           replace H := Option.bind_eq_some_iff.mp H
           obtain ⟨t517, A430, H⟩ := H
           replace H : ((attestorlaw03_same.f k3 t513 t517).bind fun t520 => (if t520 = true then ((attestorlaw03_works.f k3).bind fun t521 => (some t521)) else (none))) = some r := H
           have A43 := Aside0.mk A430
           clear A430
           replace H := Option.bind_eq_some_iff.mp H
           obtain ⟨t520, A440, H⟩ := H
           replace H : (if t520 = true then ((attestorlaw03_works.f k3).bind fun t521 => (some t521)) else (none)) = some r := H
           have A44 := Aside0.mk A440
           clear A440
           by_cases c45 : t520 = true
           ·subst c45
            have H1 : ((attestorlaw03_works.f k3).bind fun t521 => (some t521)) = some r := by rw [if_pos rfl] at H; exact H
            clear H
            have H := H1
            clear H1
            replace H := Option.bind_eq_some_iff.mp H
            obtain ⟨t521, A460, H⟩ := H
            replace H : (some t521) = some r := H
            have A46 := Aside0.mk A460
            clear A460
            obtain rfl := Option.some.inj H
            obtain ⟨Ao47, co47, eo47⟩ := Kd.R_slice HO_10.out
            subst eo47
            go_wp2_with (first | ((with_reducible refine gate_callee (f := 12) rfl ?_); refine goesL_ (some 131) rfl rfl Tryd.func12 (by kernel_rfl) rfl #[.int .i64 (wrap64 (Int.tmod a0 4)), .slice Ao34 x8_3.length co34, .slice Ao47 x10_3.length co47] rfl (by (try simp only [List.map_toArray, List.map_cons, List.map_nil]); first | done | rfl | (simp only [List.length_drop, List.length_take]; rfl)) ?_; (with_reducible refine (poly_Through.calls k3 (wrap64 (Int.tmod a0 4)) _ _ x8_3 _ _ x10_3 t513 t514 _ ?side1 ?side2 ?side3 ?side4 ?side5 A41.out).mono ?_); (case side1 => exact fU_ HG.out HB.out); (case side2 => repeat (first | exact (Kd.R_reads' HO_8.out).2.2 | (with_reducible refine Kd.C_alloc ?_ _) | (with_reducible refine Kd.C_drewN ?_ _) | (with_reducible refine Kd.C_drew ?_))); (case side3 => exact (Kd.R_reads' HO_8.out).2.1); (case side4 => repeat (first | exact (Kd.R_reads' HO_10.out).2.2 | (with_reducible refine Kd.C_alloc ?_ _) | (with_reducible refine Kd.C_drewN ?_ _) | (with_reducible refine Kd.C_drew ?_))); (case side5 => exact (Kd.R_reads' HO_10.out).2.1); rintro e w48 ⟨v515, rfl, ho0, hb⟩; refine ⟨_, rfl, ?_⟩; have n0_ := Aside0.mk (Kd.R_elder' (rU_ HO_8.out) (Kd.R_base ho0) hb); have n1_ := Aside0.mk (Kd.R_elder' (rU_ HO_9.out) (Kd.R_base ho0) hb); have n2_ := Aside0.mk (Kd.R_elder' (rU_ HO_10.out) (Kd.R_base ho0) hb); have n3_ := Aside0.mk (Kd.R_elder' (rU_ HO_14.out) (Kd.R_base ho0) hb); have n4_ := Aside0.mk (Kd.R_lower (Kd.R_new' (Kd.R_new' (Kd.R_new' (Kd.R_new' ho0 (Kd.R_lt (rU_ HO_8.out))) (Kd.R_lt (rU_ HO_9.out))) (Kd.R_lt (rU_ HO_10.out))) (Kd.R_lt (rU_ HO_14.out))) (below_size (bU_ HB.out))); have n5_ := Aside0.mk (below_step (bU_ HB.out) hb); clear HO_8; clear HO_9; clear HO_10; clear HO_14; clear HB; have HO_8 := n0_; have HO_9 := n1_; have HO_10 := n2_; have HO_14 := n3_; have HO516 := n4_; have HB := n5_; clear n0_ n1_ n2_ n3_ n4_ n5_; (try clear hb); (try clear hb2); (try clear hk); (try clear hi); (try clear ho0)) | (go_at_call 23; (with_reducible refine (poly_Normal.calls k3 (wrap64 (Int.tmod a0 4)) _ _ x9_3 t517 _ ?side1 ?side2 ?side3 A43.out).mono ?_); (case side1 => exact fU_ HG.out HB.out); (case side2 => repeat (first | exact (Kd.R_reads' HO_9.out).2.2 | (with_reducible refine Kd.C_alloc ?_ _) | (with_reducible refine Kd.C_drewN ?_ _) | (with_reducible refine Kd.C_drew ?_))); (case side3 => exact (Kd.R_reads' HO_9.out).2.1); rintro e w49 ⟨v518, rfl, ho0, hb⟩; have n0_ := Aside0.mk (Kd.R_elder' (rU_ HO_8.out) (Kd.R_base ho0) hb); have n1_ := Aside0.mk (Kd.R_elder' (rU_ HO_9.out) (Kd.R_base ho0) hb); have n2_ := Aside0.mk (Kd.R_elder' (rU_ HO_10.out) (Kd.R_base ho0) hb); have n3_ := Aside0.mk (Kd.R_elder' (rU_ HO_14.out) (Kd.R_base ho0) hb); have n4_ := Aside0.mk (Kd.R_elder' (rU_ HO516.out) (Kd.R_base ho0) hb); have n5_ := Aside0.mk (Kd.R_lower (Kd.R_new' (Kd.R_new' (Kd.R_new' (Kd.R_new' (Kd.R_new' ho0 (Kd.R_lt (rU_ HO_8.out))) (Kd.R_lt (rU_ HO_9.out))) (Kd.R_lt (rU_ HO_10.out))) (Kd.R_lt (rU_ HO_14.out))) (Kd.R_lt (rU_ HO516.out))) (below_size (bU_ HB.out))); have n6_ := Aside0.mk (below_step (bU_ HB.out) hb); clear HO_8; clear HO_9; clear HO_10; clear HO_14; clear HO516; clear HB; have HO_8 := n0_; have HO_9 := n1_; have HO_10 := n2_; have HO_14 := n3_; have HO516 := n4_; have HO519 := n5_; have HB := n6_; clear n0_ n1_ n2_ n3_ n4_ n5_ n6_; (try clear hb); (try clear hb2); (try clear hk); (try clear hi); (try clear ho0); obtain ⟨Ao50, co50, eo50⟩ := Kd.R_slice HO516.out; subst eo50; obtain ⟨Ao51, co51, eo51⟩ := Kd.R_slice HO519.out; subst eo51) | (go_at_call 21; (with_reducible refine (attestorlaw03_same.calls k3 _ _ t513 _ _ t517 true _ ?side1 ?side2 ?side3 ?side4 A44.out).mono ?_); (case side1 => repeat (first | exact (Kd.R_reads' HO516.out).2.2 | (with_reducible refine Kd.C_alloc ?_ _) | (with_reducible refine Kd.C_drewN ?_ _) | (with_reducible refine Kd.C_drew ?_))); (case side2 => exact (Kd.R_reads' HO516.out).2.1); (case side3 => repeat (first | exact (Kd.R_reads' HO519.out).2.2 | (with_reducible refine Kd.C_alloc ?_ _) | (with_reducible refine Kd.C_drewN ?_ _) | (with_reducible refine Kd.C_drew ?_))); (case side4 => exact (Kd.R_reads' HO519.out).2.1); rintro e w' ⟨rfl, ⟨nd, rfl⟩⟩) | (go_at_call 17; (with_reducible refine (attestorlaw03_works.calls k3  t521 _ ?side1 A46.out).mono ?_); (case side1 => exact fU_ HG.out HB.out); rintro e w52 ⟨rfl, hb⟩; have n0_ := Aside0.mk (Kd.R_below (rU_ HO_8.out) hb); have n1_ := Aside0.mk (Kd.R_below (rU_ HO_9.out) hb); have n2_ := Aside0.mk (Kd.R_below (rU_ HO_10.out) hb); have n3_ := Aside0.mk (Kd.R_below (rU_ HO_14.out) hb); have n4_ := Aside0.mk (Kd.R_below (rU_ HO516.out) hb); have n5_ := Aside0.mk (Kd.R_below (rU_ HO519.out) hb); have n6_ := Aside0.mk (below_step (bU_ HB.out) hb); clear HO_8; clear HO_9; clear HO_10; clear HO_14; clear HO516; clear HO519; clear HB; have HO_8 := n0_; have HO_9 := n1_; have HO_10 := n2_; have HO_14 := n3_; have HO516 := n4_; have HO519 := n5_; have HB := n6_; clear n0_ n1_ n2_ n3_ n4_ n5_ n6_; (try clear hb); (try clear hb2); (try clear hk); (try clear hi)))
            go_ret
            exact ⟨by first | rfl | (simp [errW_none, errW_some] <;> rfl) | (simp [*, errW_none, errW_some] <;> rfl), bU_ HB.out⟩
           ·replace c45 := Bool.eq_false_iff.mpr c45
            subst c45
            have H1 : (none) = some r := by rw [if_neg (show ¬ (false = true) by decide)] at H; exact H
            clear H
            have H := H1
            clear H1
            exact absurd H (by simp)
          ·rw [if_neg c42] at H
           exact absurd H (by simp)
        case rest =>
         clear HC39
         try clear c1
         try clear c2
         try clear p2
         try clear c3
         try clear c4
         try clear p4
         try clear q4
         try clear hx4
         try clear c5
         try clear c5b0
         try clear c5b1
         try clear c6
         try clear c6b0
         try clear c6b1
         try clear p6
         try clear c9
         try clear c9b0
         try clear c9b1
         try clear c10
         try clear c10b0
         try clear c11
         try clear c12
         try clear c13
         try clear c13b0
         try clear c14
         try clear c14b0
         try clear c15
         try clear c15b0
         try clear c19
         try clear c20
         try clear c20b0
         try clear c21
         try clear c21b0
         try clear c22
         try clear c23
         try clear c23b0
         try clear c24
         try clear c27
         try clear c32
         try clear c32b0
         try clear c32b1
         try clear c38
         try clear c38b0
         try clear c38b1
         try clear c40
         try clear c40b0
         try clear c40b1
         try clear c42
         try clear c42b0
         try clear c42b1
         try clear c45
         try clear p48
         try clear q48
         try clear hx48
         try clear p49
         try clear q49
         try clear hx49
         try clear hx486_0
         try clear hx487_0
         try clear hx489_0
         try clear hx493_0
         try clear p2
         try clear p4
         try clear p486
         try clear p487
         try clear p489
         try clear p493
         try clear p6
         try clear q4
         try clear q486
         try clear q487
         try clear q489
         try clear q493
         obtain ⟨kq, HA, HJ38, HO_8, HO_9, HO_10, HO_14, HB⟩ := hcut
         cases kq with
         | zero => exact absurd HA.out (by simp [attestorlaw03_PolyOne.j6])
         | succ kj38 =>
          have H := HA.out
          clear HA
          simp only [attestorlaw03_PolyOne.j6] at H
          by_cases c53 : 0 ≤ x16_3
          ·rw [if_pos c53] at H
           have c53b0 : decide (0 ≤ x16_3) = true := decide_eq_true c53
           clear c53
           by_cases c54 : x16_3 < (x8_3.length : Int)
           ·rw [if_pos c54] at H
            have c54b0 : decide (x16_3 < (x8_3.length : Int)) = true := decide_eq_true c54
            clear c54
            replace H := Option.bind_eq_some_iff.mp H
            obtain ⟨t505, A550, H⟩ := H
            replace H : (if x16_3 < (x9_3.length : Int) then ((field_Reduce.f (wrap64 (Int.tmod a0 4)) (rd x9_3 x16_3)).bind fun t507 => (if t505 = t507 then ((poly_Eval.f kj38 (wrap64 (Int.tmod a0 4)) x9_3 (rd x8_3 x16_3)).bind fun t509 => (if x10_3.length < 17592186044416 then (attestorlaw03_PolyOne.l2 kj38 (wrap64 (Int.tmod a0 4)) x8_3 x9_3 (x10_3 ++ [t509]) t500 (wrap64 (x16_3 + 1))) else (none))) else (none))) else (none)) = some r := H
            have A55 := Aside0.mk A550
            clear A550
            by_cases c56 : x16_3 < (x9_3.length : Int)
            ·rw [if_pos c56] at H
             have c56b0 : decide (x16_3 < (x9_3.length : Int)) = true := decide_eq_true c56
             clear c56
             replace H := Option.bind_eq_some_iff.mp H
             obtain ⟨t507, A570, H⟩ := H
             replace H : (if t505 = t507 then ((poly_Eval.f kj38 (wrap64 (Int.tmod a0 4)) x9_3 (rd x8_3 x16_3)).bind fun t509 => (if x10_3.length < 17592186044416 then (attestorlaw03_PolyOne.l2 kj38 (wrap64 (Int.tmod a0 4)) x8_3 x9_3 (x10_3 ++ [t509]) t500 (wrap64 (x16_3 + 1))) else (none))) else (none)) = some r := H
             have A57 := Aside0.mk A570
             clear A570
             by_cases c58 : t505 = t507
             ·rw [if_pos c58] at H
              have c58b0 : (t505 == t507) = true := beq_iff_eq.mpr c58
              have c58b1 : (t505 != t507) = false := bne_eq_false_iff_eq.mpr c58
              clear c58
              replace H := Option.bind_eq_some_iff.mp H
              obtain ⟨t509, A590, H⟩ := H
              replace H : (if x10_3.length < 17592186044416 then (attestorlaw03_PolyOne.l2 kj38 (wrap64 (Int.tmod a0 4)) x8_3 x9_3 (x10_3 ++ [t509]) t500 (wrap64 (x16_3 + 1))) else (none)) = some r := H
              have A59 := Aside0.mk A590
              clear A590
              by_cases c60 : x10_3.length < 17592186044416
              ·rw [if_pos c60] at H
               have LMc60 := Aside0.mk c60
               clear c60
               obtain ⟨y510, hy510⟩ : ∃ y_ : List Int, y_ = (x10_3 ++ [t509]) := ⟨_, rfl⟩
               replace H : (attestorlaw03_PolyOne.l2 kj38 (wrap64 (Int.tmod a0 4)) x8_3 x9_3 y510 t500 (wrap64 (x16_3 + 1))) = some r := by first | (rw [hy510]; with_reducible exact H) | (have H2_ := (Option.bind_some _ _).symm.trans H; rw [hy510]; with_reducible exact H2_) | (have H2_ := (Option.bind_some _ _).symm.trans H; with_reducible exact H2_) | with_reducible exact H | (rw [hy510]; exact H) | exact H
               have Ny510 := Aside0.mk hy510
               clear hy510
               have H' := Aside0.mk H
               clear H
               try go_wp2
               have n0_ := Aside0.mk (Kd.R_drew HO_8.out)
               have n1_ := Aside0.mk (Kd.R_drew HO_9.out)
               have n2_ := Aside0.mk (Kd.R_drew HO_10.out)
               have n3_ := Aside0.mk (Kd.R_drew HO_14.out)
               have n4_ := Aside0.mk (below_drew1 HB.out)
               clear HO_8
               clear HO_9
               clear HO_10
               clear HO_14
               clear HB
               have HO_8 := n0_
               have HO_9 := n1_
               have HO_10 := n2_
               have HO_14 := n3_
               have HB := n4_
               clear n0_ n1_ n2_ n3_ n4_
               have p504 : 0 ≤ (x16_3 : Int) := of_decide_eq_true (by first | (with_reducible assumption) | assumption)
               have q504 : x16_3 < (x8_3.length : Int) := of_decide_eq_true (by first | (with_reducible assumption) | assumption)
               obtain ⟨ad504, e504, hx504_0⟩ := Kd.at_int (Kd.R_reads' HO_8.out).2.2 x16_3 p504 q504
               cases e504
               replace p504 := eq_true p504
               replace q504 := eq_true q504
               have p506 : 0 ≤ (x16_3 : Int) := of_decide_eq_true (by first | (with_reducible assumption) | assumption)
               have q506 : x16_3 < (x9_3.length : Int) := of_decide_eq_true (by first | (with_reducible assumption) | assumption)
               obtain ⟨ad506, e506, hx506_0⟩ := Kd.at_int (Kd.R_reads' HO_9.out).2.2 x16_3 p506 q506
               cases e506
               replace p506 := eq_true p506
               replace q506 := eq_true q506
               refine start_ (n := 14) (S := fun w' => w'.cell? (ad504.add (x16_3).toNat) = some (.int .u64 (rd x8_3 x16_3)) ∧ w'.cell? (ad506.add (x16_3).toNat) = some (.int .u64 (rd x9_3 x16_3))) (ds := []) #[false, false, false, false, false, false, false, false, false, false, false, false, false, false] (by kernel_rfl) rfl rfl ⟨hx504_0, hx506_0⟩ (fun hHeld => ?_); refine with_tabW attestorlaw03_PolyOne.tab22 attestorlaw03_PolyOne.bits22 (fun HT_ HW_ => ?_)
               generalize wc.drew = w61 at HO_8 HO_9 HO_10 HO_14 HB hx504_0 hx506_0 hHeld ⊢
               refine pure_ (i := 0) (N := some 103) (v := ?_) (a' := ?_) #[true, false, false, false, false, false, false, false, false, false, false, false, false, false] rfl rfl (any_of HT_.out (by kernel_rfl)) (fun _ _ _ h => h) (Or.inl ⟨by rfl, ?_⟩) ?_ ?_
               rotate_left
               ·intro w'
                go_simp
                with_reducible rfl
               rotate_left
               ·simp only [Act.put, List.setIfInBounds_toArray, List.set_cons_zero, List.set_cons_succ, i64_w, i32_w]
                rfl
               refine pure_ (i := 1) (N := some 104) (v := ?_) (a' := ?_) #[true, true, false, false, false, false, false, false, false, false, false, false, false, false] rfl rfl (any_of HT_.out (by kernel_rfl)) (fun _ _ _ h => h) (Or.inl ⟨by rfl, ?_⟩) ?_ ?_
               rotate_left
               ·intro w'
                go_simp
                with_reducible rfl
               rotate_left
               ·simp only [Act.put, List.setIfInBounds_toArray, List.set_cons_zero, List.set_cons_succ, i64_w, i32_w]
                rfl
               refine pure_ (i := 2) (N := some 105) (v := ?_) (a' := ?_) #[true, true, true, false, false, false, false, false, false, false, false, false, false, false] rfl rfl (any_of HT_.out (by kernel_rfl)) (fun _ _ _ h => h) (Or.inl ⟨by rfl, ?_⟩) ?_ ?_
               rotate_left
               ·intro w'
                go_simp
                with_reducible rfl
               rotate_left
               ·simp only [Act.put, List.setIfInBounds_toArray, List.set_cons_zero, List.set_cons_succ, i64_w, i32_w]
                rfl
               refine pure_ (i := 3) (N := some 106) (v := ?_) (a' := ?_) #[true, true, true, true, false, false, false, false, false, false, false, false, false, false] rfl rfl (any_of HT_.out (by kernel_rfl)) (fun _ _ _ h => h) (Or.inl ⟨by rfl, ?_⟩) ?_ ?_
               rotate_left
               ·intro w'
                go_simp
                with_reducible rfl
               rotate_left
               ·simp only [Act.put, List.setIfInBounds_toArray, List.set_cons_zero, List.set_cons_succ, i64_w, i32_w]
                rfl
               refine pure_ (i := 4) (N := some 107) (v := ?_) (a' := ?_) #[true, true, true, true, true, false, false, false, false, false, false, false, false, false] rfl rfl (any_of HT_.out (by kernel_rfl)) (fun _ _ _ h => h) (Or.inl ⟨by rfl, ?_⟩) ?_ ?_
               rotate_left
               ·intro w'
                go_simp
                with_reducible rfl
               rotate_left
               ·simp only [Act.put, List.setIfInBounds_toArray, List.set_cons_zero, List.set_cons_succ, i64_w, i32_w]
                rfl
               refine pure_ (i := 7) (N := some 110) (v := ?_) (a' := ?_) #[true, true, true, true, true, false, false, true, false, false, false, false, false, false] rfl rfl (any_of HT_.out (by kernel_rfl)) (fun _ _ _ h => h) (Or.inl ⟨by rfl, ?_⟩) ?_ ?_
               rotate_left
               ·intro w'
                go_simp
                with_reducible rfl
               rotate_left
               ·simp only [Act.put, List.setIfInBounds_toArray, List.set_cons_zero, List.set_cons_succ, i64_w, i32_w]
                rfl
               refine pure_ (i := 8) (N := some 111) (v := ?_) (a' := ?_) #[true, true, true, true, true, false, false, true, true, false, false, false, false, false] rfl rfl (any_of HT_.out (by kernel_rfl)) (fun _ _ _ h => h) (Or.inl ⟨by rfl, ?_⟩) ?_ ?_
               rotate_left
               ·intro w'
                go_simp
                with_reducible rfl
               rotate_left
               ·simp only [Act.put, List.setIfInBounds_toArray, List.set_cons_zero, List.set_cons_succ, i64_w, i32_w]
                rfl
               refine pure_ (i := 9) (N := some 112) (v := ?_) (a' := ?_) #[true, true, true, true, true, false, false, true, true, true, false, false, false, false] rfl rfl (any_of HT_.out (by kernel_rfl)) (fun _ _ _ h => h) (Or.inl ⟨by rfl, ?_⟩) ?_ ?_
               rotate_left
               ·intro w'
                go_simp
                with_reducible rfl
               rotate_left
               ·simp only [Act.put, List.setIfInBounds_toArray, List.set_cons_zero, List.set_cons_succ, i64_w, i32_w]
                rfl
               refine pure_ (i := 10) (N := some 113) (v := ?_) (a' := ?_) #[true, true, true, true, true, false, false, true, true, true, true, false, false, false] rfl rfl (any_of HT_.out (by kernel_rfl)) (fun _ _ _ h => h) (Or.inl ⟨by rfl, ?_⟩) ?_ ?_
               rotate_left
               ·intro w'
                go_simp
                with_reducible rfl
               rotate_left
               ·simp only [Act.put, List.setIfInBounds_toArray, List.set_cons_zero, List.set_cons_succ, i64_w, i32_w]
                rfl
               refine take_ (i := 5) (N := some 108) (v := ?_) (a' := ?_) #[true, true, true, true, true, true, false, true, true, true, true, false, false, false] rfl rfl (take_ofW HT_.out HW_.out (by kernel_rfl)) (fun _ _ _ h => h) (Or.inl ⟨by rfl, ?_⟩) hHeld ?_ ?_
               rotate_left
               ·rintro w' ⟨s0, s1⟩
                go_simp
                with_reducible rfl
               rotate_left
               ·simp only [Act.put, List.setIfInBounds_toArray, List.set_cons_zero, List.set_cons_succ, i64_w, i32_w]
                rfl
               refine take_ (i := 11) (N := some 114) (v := ?_) (a' := ?_) #[true, true, true, true, true, true, false, true, true, true, true, true, false, false] rfl rfl (take_ofW HT_.out HW_.out (by kernel_rfl)) (fun _ _ _ h => h) (Or.inl ⟨by rfl, ?_⟩) hHeld ?_ ?_
               rotate_left
               ·rintro w' ⟨s0, s1⟩
                go_simp
                with_reducible rfl
               rotate_left
               ·simp only [Act.put, List.setIfInBounds_toArray, List.set_cons_zero, List.set_cons_succ, i64_w, i32_w]
                rfl
               refine one_ (i := 6) (N := some 109) #[true, true, true, true, true, true, true, true, true, true, true, true, false, false] rfl rfl (one_of HT_.out (by kernel_rfl)) (by decide) (fun K hK => ?_)
               refine goes_ Tryd.func25 (by kernel_rfl) rfl #[.int .i64 (wrap64 (Int.tmod a0 4)), .slice Ao37 t500.length co37, .int .u64 (rd x8_3 x16_3)] (by rfl) rfl rfl (by (try simp only [List.map_toArray, List.map_cons, List.map_nil]); first | done | rfl | (simp only [List.length_drop, List.length_take]; rfl)) ?_
               with_reducible refine (poly_Eval.calls kj38 (wrap64 (Int.tmod a0 4)) _ _ t500 (rd x8_3 x16_3) t505 _ ?side1 ?side2 ?side3 A55.out).mono ?_
               (case side1 => exact fU_ HG.out HB.out)
               (case side2 => repeat (first | exact (Kd.R_reads' HO_14.out).2.2 | (with_reducible refine Kd.C_alloc ?_ _) | (with_reducible refine Kd.C_drewN ?_ _) | (with_reducible refine Kd.C_drew ?_)))
               (case side3 => exact (Kd.R_reads' HO_14.out).2.1)
               rintro e w62 ⟨rfl, hb⟩
               have HS0_ := (hb.cell (World.block_lt_of_cell? _ _ (hHeld.1))).trans (hHeld.1)
               have HS1_ := (hb.cell (World.block_lt_of_cell? _ _ (hHeld.2))).trans (hHeld.2)
               refine ⟨_, rfl, ?_⟩
               have n0_ := Aside0.mk (Kd.R_below (rU_ HO_8.out) hb)
               have n1_ := Aside0.mk (Kd.R_below (rU_ HO_9.out) hb)
               have n2_ := Aside0.mk (Kd.R_below (rU_ HO_10.out) hb)
               have n3_ := Aside0.mk (Kd.R_below (rU_ HO_14.out) hb)
               have n4_ := Aside0.mk (below_step (bU_ HB.out) hb)
               clear HO_8
               clear HO_9
               clear HO_10
               clear HO_14
               clear HB
               have HO_8 := n0_
               have HO_9 := n1_
               have HO_10 := n2_
               have HO_14 := n3_
               have HB := n4_
               clear n0_ n1_ n2_ n3_ n4_
               (try clear hb)
               (try clear hb2)
               (try clear hk)
               (try clear hi)
               refine hK.out _ _ ⟨HS0_, HS1_⟩ (fun hHeld => ?_)
               clear hK K
               refine norm_ (a' := ?_) ?_ ?_
               rotate_left
               ·show Act.put _ (some 109) _ = _
                simp only [Act.put, List.setIfInBounds_toArray, List.set_cons_zero, List.set_cons_succ, i64_w, i32_w]
                rfl
               refine one_ (i := 12) (N := some 115) #[true, true, true, true, true, true, true, true, true, true, true, true, true, false] rfl rfl (one_of HT_.out (by kernel_rfl)) (by decide) (fun K hK => ?_)
               refine goes_ Tryd.func26 (by kernel_rfl) rfl #[.int .i64 (wrap64 (Int.tmod a0 4)), .int .u64 (rd x9_3 x16_3)] (by rfl) rfl rfl (by (try simp only [List.map_toArray, List.map_cons, List.map_nil]); first | done | rfl | (simp only [List.length_drop, List.length_take]; rfl)) ?_
               with_reducible refine (field_Reduce.calls (wrap64 (Int.tmod a0 4)) (rd x9_3 x16_3) t507 _ ?side1 A57.out).mono ?_
               (case side1 => exact fU_ HG.out HB.out)
               rintro e w63 ⟨rfl, hb⟩
               have HS0_ := (hb.cell (World.block_lt_of_cell? _ _ (hHeld.1))).trans (hHeld.1)
               have HS1_ := (hb.cell (World.block_lt_of_cell? _ _ (hHeld.2))).trans (hHeld.2)
               refine ⟨_, rfl, ?_⟩
               have n0_ := Aside0.mk (Kd.R_below (rU_ HO_8.out) hb)
               have n1_ := Aside0.mk (Kd.R_below (rU_ HO_9.out) hb)
               have n2_ := Aside0.mk (Kd.R_below (rU_ HO_10.out) hb)
               have n3_ := Aside0.mk (Kd.R_below (rU_ HO_14.out) hb)
               have n4_ := Aside0.mk (below_step (bU_ HB.out) hb)
               clear HO_8
               clear HO_9
               clear HO_10
               clear HO_14
               clear HB
               have HO_8 := n0_
               have HO_9 := n1_
               have HO_10 := n2_
               have HO_14 := n3_
               have HB := n4_
               clear n0_ n1_ n2_ n3_ n4_
               (try clear hb)
               (try clear hb2)
               (try clear hk)
               (try clear hi)
               refine hK.out _ _ ⟨HS0_, HS1_⟩ (fun hHeld => ?_)
               clear hK K
               refine norm_ (a' := ?_) ?_ ?_
               rotate_left
               ·show Act.put _ (some 115) _ = _
                simp only [Act.put, List.setIfInBounds_toArray, List.set_cons_zero, List.set_cons_succ, i64_w, i32_w]
                rfl
               refine pure_ (i := 13) (N := some 116) (v := ?_) (a' := ?_) #[true, true, true, true, true, true, true, true, true, true, true, true, true, true] rfl rfl (any_of HT_.out (by kernel_rfl)) (fun _ _ _ h => h) (Or.inl ⟨by rfl, ?_⟩) ?_ ?_
               rotate_left
               ·intro w'
                go_simp
                with_reducible rfl
               rotate_left
               ·simp only [Act.put, List.setIfInBounds_toArray, List.set_cons_zero, List.set_cons_succ, i64_w, i32_w]
                rfl
               refine done_ (done_of HT_.out (by kernel_rfl)) ?_
               have p508 : 0 ≤ (x16_3 : Int) := of_decide_eq_true (by first | (with_reducible assumption) | assumption)
               have q508 : x16_3 < (x8_3.length : Int) := of_decide_eq_true (by first | (with_reducible assumption) | assumption)
               obtain ⟨ad508, e508, hx508_0⟩ := Kd.at_int (Kd.R_reads' HO_8.out).2.2 x16_3 p508 q508
               obtain rfl : ad504 = ad508 := (by injection e508)
               replace p508 := eq_true p508
               replace q508 := eq_true q508
               try go_wp2_with (first | ((with_reducible refine gate_callee (f := 25) rfl ?_); refine goesL_ (some 124) rfl rfl Tryd.func25 (by kernel_rfl) rfl #[.int .i64 (wrap64 (Int.tmod a0 4)), .slice (some ad506) x9_3.length co35, .int .u64 (rd x8_3 x16_3)] rfl (by (try simp only [List.map_toArray, List.map_cons, List.map_nil]); first | done | rfl | (simp only [List.length_drop, List.length_take]; rfl)) ?_; (with_reducible refine (poly_Eval.calls kj38 (wrap64 (Int.tmod a0 4)) _ _ x9_3 (rd x8_3 x16_3) t509 _ ?side1 ?side2 ?side3 A59.out).mono ?_); (case side1 => exact fU_ HG.out HB.out); (case side2 => repeat (first | exact (Kd.R_reads' HO_9.out).2.2 | (with_reducible refine Kd.C_alloc ?_ _) | (with_reducible refine Kd.C_drewN ?_ _) | (with_reducible refine Kd.C_drew ?_))); (case side3 => exact (Kd.R_reads' HO_9.out).2.1); rintro e w64 ⟨rfl, hb⟩; refine ⟨_, rfl, ?_⟩; have n0_ := Aside0.mk (Kd.R_below (rU_ HO_8.out) hb); have n1_ := Aside0.mk (Kd.R_below (rU_ HO_9.out) hb); have n2_ := Aside0.mk (Kd.R_below (rU_ HO_10.out) hb); have n3_ := Aside0.mk (Kd.R_below (rU_ HO_14.out) hb); have n4_ := Aside0.mk (below_step (bU_ HB.out) hb); clear HO_8; clear HO_9; clear HO_10; clear HO_14; clear HB; have HO_8 := n0_; have HO_9 := n1_; have HO_10 := n2_; have HO_14 := n3_; have HB := n4_; clear n0_ n1_ n2_ n3_ n4_; (try clear hb); (try clear hb2); (try clear hk); (try clear hi)) | ((with_reducible refine gate_builtin (b := .append) (xs := #[.tmp 117, .tmp 125]) rfl ?_); (try (refine gate_guard (by rfl) ?_; dsimp only)); at_builtin; refine Kd.R_append (Kd.int .u64) (w0 := w) w.heap.size rfl (.tmp 117) (.tmp 125) 22 32 (.int .u64 0) 8 rfl Tryd.underlying22 info32 rfl (by decide) (by omega) u10 x10_3 t509 [.int .u64 t509] (fun k_ => some k_ ≠ (.slice (some ad504) x8_3.length co34 : Value).ownBlock ∧ some k_ ≠ (.slice (some ad506) x9_3.length co35 : Value).ownBlock ∧ some k_ ≠ (.slice Ao37 t500.length co37 : Value).ownBlock) (fun _ => False) rfl rfl ?aP (fun _ hk => hk.elim) ?aF ?aO ?aB ?aS ?aL ?_; (case aP => exact rfl); (case aB => exact (bU_ HB.out)); (case aF => exact (fun k_ hk => ⟨Kd.fresh' (Kd.R_lt (rU_ HO_8.out)) k_ hk, Kd.fresh' (Kd.R_lt (rU_ HO_9.out)) k_ hk, Kd.fresh' (Kd.R_lt (rU_ HO_14.out)) k_ hk⟩)); (case aO => exact (rU_ HO_10.out)); (case aS => exact (below_size (bU_ HB.out))); (case aL => have := LMc60.out; omega); intro v511 w65 ho hb hg hat; rw [← Ny510.out] at ho; have n0_ := Aside0.mk (Kd.R_after (ok := (fun k_ => some k_ ≠ (.slice (some ad506) x9_3.length co35 : Value).ownBlock ∧ some k_ ≠ (.slice Ao37 t500.length co37 : Value).ownBlock)) (by (with_reducible repeat (first | apply Kd.R_alloc | apply Kd.R_drewN | apply Kd.R_drew)); exact Kd.R_mono HO_8.out (fun _ hk => ⟨⟨hk.1, hk.2.2⟩, hk.2.1⟩)) hg hat); have n1_ := Aside0.mk (Kd.R_after (ok := (fun k_ => some k_ ≠ (.slice (some ad504) x8_3.length co34 : Value).ownBlock ∧ some k_ ≠ (.slice Ao37 t500.length co37 : Value).ownBlock)) (by (with_reducible repeat (first | apply Kd.R_alloc | apply Kd.R_drewN | apply Kd.R_drew)); exact Kd.R_mono HO_9.out (fun _ hk => ⟨⟨hk.1, hk.2.2⟩, hk.2.1⟩)) hg hat); have n2_ := Aside0.mk (Kd.R_after (ok := (fun k_ => some k_ ≠ (.slice (some ad504) x8_3.length co34 : Value).ownBlock ∧ some k_ ≠ (.slice (some ad506) x9_3.length co35 : Value).ownBlock)) (by (with_reducible repeat (first | apply Kd.R_alloc | apply Kd.R_drewN | apply Kd.R_drew)); exact Kd.R_mono HO_14.out (fun _ hk => ⟨⟨hk.1, hk.2.1⟩, hk.2.2⟩)) hg hat); have n3_ := Aside0.mk (hb); have n4_ := Aside0.mk (ho); clear HO_8; clear HO_9; clear HO_14; clear HB; clear HO_10; have HO_8 := n0_; have HO_9 := n1_; have HO_14 := n2_; have HB := n3_; have HO512 := n4_; clear n0_ n1_ n2_ n3_ n4_; clear ho hb hg hat))
               go_roundg kj38
               case measure => have := HJ3.out; have := HJ32.out; have := HK3.out; have := HJ38.out; omega
               case rel => exact ⟨(y510), (wrap64 (x16_3 + 1)), (by first | rfl | (simp; done) | (simp [*]; done)), H', ⟨by have := HJ3.out; have := HJ32.out; have := HK3.out; have := HJ38.out; omega⟩, ⟨by (with_reducible repeat (first | apply Kd.R_alloc | apply Kd.R_drewN | apply Kd.R_drew)); exact Kd.R_mono HO_8.out (fun _ hk => ⟨hk.1.1, ⟨hk.2, hk.1.2⟩⟩)⟩, ⟨by (with_reducible repeat (first | apply Kd.R_alloc | apply Kd.R_drewN | apply Kd.R_drew)); exact Kd.R_mono HO_9.out (fun _ hk => ⟨hk.1.1, ⟨hk.2, hk.1.2⟩⟩)⟩, ⟨rU_ HO512.out⟩, ⟨by (with_reducible repeat (first | apply Kd.R_alloc | apply Kd.R_drewN | apply Kd.R_drew)); exact Kd.R_mono HO_14.out (fun _ hk => ⟨hk.1.1, ⟨hk.1.2, hk.2⟩⟩)⟩, ⟨bU_ HB.out⟩⟩
              ·rw [if_neg c60] at H
               exact absurd H (by simp)
             ·rw [if_neg c58] at H
              exact absurd H (by simp)
            ·rw [if_neg c56] at H
             exact absurd H (by simp)
           ·rw [if_neg c54] at H
            exact absurd H (by simp)
          ·rw [if_neg c53] at H
           exact absurd H (by simp)
   ·rw [if_neg c32] at H
    exact absurd H (by simp)

/-- THE ONE PURE STATEMENT of attestorlaw03_PolyOne: yours. -/
def attestorlaw03_PolyOne.Pure : Prop := ∀ (a0 : Int) (l1 : List Int) (l2 : List Int), (Lit.int .u8 a0).wf = true → l1.length ≤ maxLen → l1.length * 8 ≤ 140737488351232 → (∀ x ∈ l1, (Lit.int .u64 x).wf = true) → l2.length ≤ maxLen → l2.length * 8 ≤ 140737488351232 → (∀ x ∈ l2, (Lit.int .u64 x).wf = true) → ∃ k, attestorlaw03_PolyOne.f k a0 l1 l2 = some true
theorem attestorlaw03_PolyOne.walk (P : attestorlaw03_PolyOne.Pure) (a0 : Int) (a1 : Option Addr) (len1 cap1 : Nat) (z1 : List Int) (a2 : Option Addr) (len2 cap2 : Nat) (z2 : List Int) (w : World) (hG : Fld w) (w0 : (Lit.int .u8 a0).wf = true) (w1 : (a1 = none ∧ len1 = 0 ∧ cap1 = 0 ∧ z1 = []) ∨ ∃ x, a1 = some x ∧ len1 ≤ cap1 ∧ cap1 ≤ maxLen ∧ z1.length = cap1 ∧ (∀ i, i < z1.length → w.cell? (x.add i) = some (.int .u64 (z1.getD i 0))) ∧ ∀ n ∈ z1, (Lit.int .u64 n).wf = true) (y1 : len1 * 8 ≤ 140737488351232) (w2 : (a2 = none ∧ len2 = 0 ∧ cap2 = 0 ∧ z2 = []) ∨ ∃ x, a2 = some x ∧ len2 ≤ cap2 ∧ cap2 ≤ maxLen ∧ z2.length = cap2 ∧ (∀ i, i < z2.length → w.cell? (x.add i) = some (.int .u64 (z2.getD i 0))) ∧ ∀ n ∈ z2, (Lit.int .u64 n).wf = true) (y2 : len2 * 8 ≤ 140737488351232) :
  Calls Tryd.prog 5 #[.int .u8 a0, .slice a1 len1 cap1, .slice a2 len2 cap2] w fun e w' => e = .returned (.bool true) ∧ Below w.heap.size w w' := by
 obtain ⟨l1, rfl, hr1, hm1, hw1, hc1⟩ := ReadsInt.ofRowC w1
 obtain ⟨l2, rfl, hr2, hm2, hw2, hc2⟩ := ReadsInt.ofRowC w2
 obtain ⟨k, h⟩ := P a0 l1 l2 w0 hm1 y1 hw1 hm2 y2 hw2
 refine (attestorlaw03_PolyOne.calls k a0 _ _ l1 _ _ l2 true w hG (Kd.C_of_reads (d := (0 : Int)) (h1 := fun _ => rfl) hr1) hc1 (Kd.C_of_reads (d := (0 : Int)) (h1 := fun _ => rfl) hr2) hc2 h).mono ?_
 rintro e w' ⟨rfl, hd⟩
 exact ⟨rfl, hd⟩

end Go.Proofs.YtmnahhacobfafaaDoor.Q

-- Written by prx.py (this session's driver of the kit's print) out of the translation. Not trusted: Lean checks it.
import Derived.Test.YtmnahhacobfafaaDoorQ0
import Derived.Test.YtmnahhacobfafaaDoorQ1
import Derived.Test.YtmnahhacobfafaaDoorQ2
import Derived.Test.YtmnahhacobfafaaDoorQ3
import Derived.Test.YtmnahhacobfafaaDoorQ4
import Derived.Test.YtmnahhacobfafaaDoorQ13
import Derived.Test.YtmnahhacobfafaaDoorQ15
namespace Go.Proofs.YtmnahhacobfafaaDoor.Q
open Go.RowKit Go.Proofs.YtmnahhacobfafaaDoorW.PrintWords Go.Proofs.YtmnahhacobfafaaDoorW.PrintLast Go.Proofs.YtmnahhacobfafaaDoorW.PrintMore
attribute [local go_sem] max2_int min2_int max_two min_two max_three min_three max_four min_four   -- for this text's walks alone
set_option linter.unusedVariables false
set_option linter.unusedSimpArgs false

/-! ### field_Pow: function 46 -/
def field_Pow.l0 : Nat → Int → Int → Int → Int → Option (Int)
 | 0, _, _, _, _ => none
 | k + 1, x0, x1, x2, x7 => if x2 > 0 then (if (Go.bits .and .u64 x2 1) = 1 then ((field_Mul.f x0 x7 x1).bind fun t883 => ((field_Mul.f x0 x1 x1).bind fun t884 => (field_Pow.l0 k x0 t884 (x2 / 2) t883))) else ((field_Mul.f x0 x1 x1).bind fun t885 => (field_Pow.l0 k x0 t885 (x2 / 2) x7))) else (some x7)
def field_Pow.f (k : Nat) (a0 : Int) (a1 : Int) (a2 : Int) : Option (Int) := (field_Valid.f a0).bind fun t882 => (if t882 = true then (field_Pow.l0 k a0 a1 a2 1) else (some 0))
set_option maxHeartbeats 8000000 in
set_option maxRecDepth 100000 in
theorem field_Pow.calls (k : Nat) (a0 : Int) (a1 : Int) (a2 : Int) (r : Int) (w : World) (hG : Fld w) (h : field_Pow.f k a0 a1 a2 = some r) :
  Calls Tryd.prog 46 #[.int .i64 a0, .int .u64 a1, .int .u64 a2] w fun e w' => e = .returned (.int .u64 r) ∧ Below w.heap.size w w' := by
 have HG := Aside0.mk hG
 clear hG
 have HB := Aside0.mk (Below.refl w.heap.size w)
 have H : ((field_Valid.f a0).bind fun t882 => (if t882 = true then (field_Pow.l0 k a0 a1 a2 1) else (some 0))) = some r := h
 clear h
 replace H := Option.bind_eq_some_iff.mp H
 obtain ⟨t882, A40, H⟩ := H
 replace H : (if t882 = true then (field_Pow.l0 k a0 a1 a2 1) else (some 0)) = some r := H
 have A4 := Aside0.mk A40
 clear A40
 by_cases c5 : t882 = true
 ·subst c5
  have H1 : (field_Pow.l0 k a0 a1 a2 1) = some r := by rw [if_pos rfl] at H; exact H
  clear H
  have H := H1
  clear H1
  have H' := Aside0.mk H
  clear H
  go_enter Tryd.func46, Tryd.ntmps46
  go_wp2_with (first | ((with_reducible refine gate_callee (f := 47) rfl ?_); refine goesL_ (some 9) rfl rfl Tryd.func47 (by kernel_rfl) rfl #[.int .i64 a0] rfl (by (try simp only [List.map_toArray, List.map_cons, List.map_nil]); first | done | rfl | (simp only [List.length_drop, List.length_take]; rfl)) ?_; (with_reducible refine (field_Valid.calls a0 true _ A4.out).mono ?_); rintro e w' ⟨rfl, ⟨nd, rfl⟩⟩; refine ⟨_, rfl, ?_⟩))
  go_loopg [1, 2, 7] k (fun kq v1 v2 v7 w' => ∃ (x1_1 : Int) (x2_1 : Int) (x7_1 : Int), v1 = .int .u64 x1_1 ∧ v2 = .int .u64 x2_1 ∧ v7 = .int .u64 x7_1 ∧ Aside0 (field_Pow.l0 kq a0 x1_1 x2_1 x7_1 = some r) ∧ Aside0 (kq ≤ k) ∧ Aside0 (Below w.heap.size w w'))
  case atStart => exact ⟨(a1), (a2), (1), (by first | rfl | (simp; done) | (simp [*]; done)), (by first | rfl | (simp; done) | (simp [*]; done)), (by first | rfl | (simp; done) | (simp [*]; done)), H', ⟨Nat.le_refl _⟩, ⟨bU_ HB.out⟩⟩
  case round =>
   clear H'
   try clear p2
   try clear c4
   try clear c5
   obtain ⟨x1_1, x2_1, x7_1, rfl, rfl, rfl, HA, HK1, HB⟩ := hrel
   cases gk with
   | zero => exact absurd HA.out (by simp [field_Pow.l0])
   | succ k1 =>
    have H := HA.out
    clear HA
    simp only [field_Pow.l0] at H
    by_cases c6 : x2_1 > 0
    ·rw [if_pos c6] at H
     have c6b0 : decide (0 < x2_1) = true := decide_eq_true c6
     clear c6
     by_cases c7 : (Go.bits .and .u64 x2_1 1) = 1
     ·rw [if_pos c7] at H
      have c7b0 : ((Go.bits .and .u64 x2_1 1) == 1) = true := beq_iff_eq.mpr c7
      have c7b1 : ((Go.bits .and .u64 x2_1 1) != 1) = false := bne_eq_false_iff_eq.mpr c7
      clear c7
      replace H := Option.bind_eq_some_iff.mp H
      obtain ⟨t883, A80, H⟩ := H
      replace H : ((field_Mul.f a0 x1_1 x1_1).bind fun t884 => (field_Pow.l0 k1 a0 t884 (x2_1 / 2) t883)) = some r := H
      have A8 := Aside0.mk A80
      clear A80
      replace H := Option.bind_eq_some_iff.mp H
      obtain ⟨t884, A90, H⟩ := H
      replace H : (field_Pow.l0 k1 a0 t884 (x2_1 / 2) t883) = some r := H
      have A9 := Aside0.mk A90
      clear A90
      have H' := Aside0.mk H
      clear H
      go_wp2_with (first | ((with_reducible refine gate_callee (f := 44) rfl ?_); refine goesL_ (some 21) rfl rfl Tryd.func44 (by kernel_rfl) rfl #[.int .i64 a0, .int .u64 x7_1, .int .u64 x1_1] rfl (by (try simp only [List.map_toArray, List.map_cons, List.map_nil]); first | done | rfl | (simp only [List.length_drop, List.length_take]; rfl)) ?_; (with_reducible refine (field_Mul.calls a0 x7_1 x1_1 t883 _ ?side1 A8.out).mono ?_); (case side1 => exact fU_ HG.out HB.out); rintro e w10 ⟨rfl, hb⟩; refine ⟨_, rfl, ?_⟩; have n0_ := Aside0.mk (below_step (bU_ HB.out) hb); clear HB; have HB := n0_; clear n0_; (try clear hb); (try clear hb2); (try clear hk); (try clear hi)) | ((with_reducible refine gate_callee (f := 44) rfl ?_); refine goesL_ (some 25) rfl rfl Tryd.func44 (by kernel_rfl) rfl #[.int .i64 a0, .int .u64 x1_1, .int .u64 x1_1] rfl (by (try simp only [List.map_toArray, List.map_cons, List.map_nil]); first | done | rfl | (simp only [List.length_drop, List.length_take]; rfl)) ?_; (with_reducible refine (field_Mul.calls a0 x1_1 x1_1 t884 _ ?side1 A9.out).mono ?_); (case side1 => exact fU_ HG.out HB.out); rintro e w11 ⟨rfl, hb⟩; refine ⟨_, rfl, ?_⟩; have n0_ := Aside0.mk (below_step (bU_ HB.out) hb); clear HB; have HB := n0_; clear n0_; (try clear hb); (try clear hb2); (try clear hk); (try clear hi)))
      go_roundg k1
      case measure => have := HK1.out; omega
      case rel => exact ⟨(t884), (x2_1 / 2), (t883), (by first | rfl | (simp; done) | (simp [*]; done)), (by first | rfl | (simp; done) | (simp [*]; done)), (by first | rfl | (simp; done) | (simp [*]; done)), H', ⟨by have := HK1.out; omega⟩, ⟨bU_ HB.out⟩⟩
     ·rw [if_neg c7] at H
      have c7b0 : ((Go.bits .and .u64 x2_1 1) == 1) = false := beq_eq_false_iff_ne.mpr c7
      have c7b1 : ((Go.bits .and .u64 x2_1 1) != 1) = true := bne_iff_ne.mpr c7
      replace H := Option.bind_eq_some_iff.mp H
      obtain ⟨t885, A120, H⟩ := H
      replace H : (field_Pow.l0 k1 a0 t885 (x2_1 / 2) x7_1) = some r := H
      have A12 := Aside0.mk A120
      clear A120
      have H' := Aside0.mk H
      clear H
      go_wp2_with (first | ((with_reducible refine gate_callee (f := 44) rfl ?_); refine goesL_ (some 25) rfl rfl Tryd.func44 (by kernel_rfl) rfl #[.int .i64 a0, .int .u64 x1_1, .int .u64 x1_1] rfl (by (try simp only [List.map_toArray, List.map_cons, List.map_nil]); first | done | rfl | (simp only [List.length_drop, List.length_take]; rfl)) ?_; (with_reducible refine (field_Mul.calls a0 x1_1 x1_1 t885 _ ?side1 A12.out).mono ?_); (case side1 => exact fU_ HG.out HB.out); rintro e w13 ⟨rfl, hb⟩; refine ⟨_, rfl, ?_⟩; have n0_ := Aside0.mk (below_step (bU_ HB.out) hb); clear HB; have HB := n0_; clear n0_; (try clear hb); (try clear hb2); (try clear hk); (try clear hi)))
      go_roundg k1
      case measure => have := HK1.out; omega
      case rel => exact ⟨(t885), (x2_1 / 2), (x7_1), (by first | rfl | (simp; done) | (simp [*]; done)), (by first | rfl | (simp; done) | (simp [*]; done)), (by first | rfl | (simp; done) | (simp [*]; done)), H', ⟨by have := HK1.out; omega⟩, ⟨bU_ HB.out⟩⟩
    ·rw [if_neg c6] at H
     have c6b0 : decide (0 < x2_1) = false := decide_eq_false c6
     clear c6
     obtain rfl := Option.some.inj H
     go_wp2
     go_ret
     exact ⟨by first | rfl | (simp [errW_none, errW_some] <;> rfl) | (simp [*, errW_none, errW_some] <;> rfl), bU_ HB.out⟩
 ·replace c5 := Bool.eq_false_iff.mpr c5
  subst c5
  have H1 : (some 0) = some r := by rw [if_neg (show ¬ (false = true) by decide)] at H; exact H
  clear H
  have H := H1
  clear H1
  obtain rfl := Option.some.inj H
  go_enter Tryd.func46, Tryd.ntmps46
  go_wp2_with (first | ((with_reducible refine gate_callee (f := 47) rfl ?_); refine goesL_ (some 9) rfl rfl Tryd.func47 (by kernel_rfl) rfl #[.int .i64 a0] rfl (by (try simp only [List.map_toArray, List.map_cons, List.map_nil]); first | done | rfl | (simp only [List.length_drop, List.length_take]; rfl)) ?_; (with_reducible refine (field_Valid.calls a0 false _ A4.out).mono ?_); rintro e w' ⟨rfl, ⟨nd, rfl⟩⟩; refine ⟨_, rfl, ?_⟩))
  go_ret
  exact ⟨by first | rfl | (simp [errW_none, errW_some] <;> rfl) | (simp [*, errW_none, errW_some] <;> rfl), bU_ HB.out⟩

/-! ### attestorlaw03_PolyValues: function 10 -/
mutual
def attestorlaw03_PolyValues.j0 : Nat → List Int → Int → Int → Int → Int → Int → Option (Bool)
 | 0, _, _, _, _, _, _ => none
 | k + 1, x2, x4, x5, x13, x14, x17 => (poly_Shift.f k x13 x2 x4).bind fun t915 => ((poly_Eval.f k x13 t915 x5).bind fun t918 => ((field_Mul.f x13 x4 x5).bind fun t919 => ((poly_Eval.f k x13 x2 t919).bind fun t920 => (if t918 = t920 then (attestorlaw03_PolyValues.j1 k x2 x5 x13 x14 x17) else (none)))))
def attestorlaw03_PolyValues.j1 : Nat → List Int → Int → Int → Int → Int → Option (Bool)
 | 0, _, _, _, _, _ => none
 | k + 1, x2, x5, x13, x14, x17 => (poly_Split.f k x13 x2 x14).bind fun t921 => (if (t921.length : Int) = x14 then ((poly_Join.f k x13 t921).bind fun t924 => ((poly_Normal.f k x13 x2).bind fun t927 => ((attestorlaw03_same.f k t924 t927).bind fun t930 => (if t930 = true then (attestorlaw03_PolyValues.j2 k x5 x13 x14 x17 t921) else (none))))) else (none))
def attestorlaw03_PolyValues.j2 : Nat → Int → Int → Int → Int → List (List Int) → Option (Bool)
 | 0, _, _, _, _, _ => none
 | k + 1, x5, x13, x14, x17, x19 => (field_Pow.f k x13 x5 (IntKind.u64.wrap (x14))).bind fun t931 => (attestorlaw03_PolyValues.l0 k x5 x13 x14 x17 x19 0 t931 0)
def attestorlaw03_PolyValues.l0 : Nat → Int → Int → Int → Int → List (List Int) → Int → Int → Int → Option (Bool)
 | 0, _, _, _, _, _, _, _, _ => none
 | k + 1, x5, x13, x14, x17, x19, x20, x21, x22 => if x22 < x14 then (attestorlaw03_PolyValues.j4 k x5 x13 x14 x17 x19 x20 x21 x22) else (if x20 = x17 then ((attestorlaw03_works.f k).bind fun t932 => (some t932)) else (none))
def attestorlaw03_PolyValues.j4 : Nat → Int → Int → Int → Int → List (List Int) → Int → Int → Int → Option (Bool)
 | 0, _, _, _, _, _, _, _, _ => none
 | k + 1, x5, x13, x14, x17, x19, x20, x21, x22 => (field_Pow.f k x13 x5 (IntKind.u64.wrap (x22))).bind fun t933 => (if 0 ≤ x22 then (if x22 < (x19.length : Int) then ((poly_Eval.f k x13 (rd_L1 x19 x22) x21).bind fun t935 => ((field_Mul.f x13 t933 t935).bind fun t936 => ((field_Add.f x13 x20 t936).bind fun t937 => (attestorlaw03_PolyValues.l0 k x5 x13 x14 x17 x19 t937 x21 (wrap64 (x22 + 1)))))) else (none)) else (none))
end
def attestorlaw03_PolyValues.f (k : Nat) (a0 : Int) (a1 : Int) (l2 : List Int) (l3 : List Int) (a4 : Int) (a5 : Int) : Option (Bool) := (attestorlaw03_own.f l2 40).bind fun t886 => ((attestorlaw03_own.f l3 40).bind fun t889 => ((poly_Mul.f k (wrap64 (Int.tmod a0 4)) t886 t889).bind fun bt892 => ((poly_Eval.f k (wrap64 (Int.tmod a0 4)) t886 a5).bind fun t896 => ((poly_Eval.f k (wrap64 (Int.tmod a0 4)) t889 a5).bind fun t897 => (if bt892.2 = 0 then ((poly_Eval.f k (wrap64 (Int.tmod a0 4)) bt892.1 a5).bind fun t898 => ((field_Mul.f (wrap64 (Int.tmod a0 4)) t896 t897).bind fun t899 => (if t898 = t899 then ((poly_Add.f k (wrap64 (Int.tmod a0 4)) t886 t889).bind fun t900 => ((poly_Eval.f k (wrap64 (Int.tmod a0 4)) t900 a5).bind fun t903 => ((field_Add.f (wrap64 (Int.tmod a0 4)) t896 t897).bind fun t904 => (if t903 = t904 then ((poly_Sub.f k (wrap64 (Int.tmod a0 4)) t886 t889).bind fun t905 => ((poly_Eval.f k (wrap64 (Int.tmod a0 4)) t905 a5).bind fun t908 => ((field_Sub.f (wrap64 (Int.tmod a0 4)) t896 t897).bind fun t909 => (if t908 = t909 then ((poly_Scale.f k (wrap64 (Int.tmod a0 4)) t886 a4).bind fun t910 => ((poly_Eval.f k (wrap64 (Int.tmod a0 4)) t910 a5).bind fun t913 => ((field_Mul.f (wrap64 (Int.tmod a0 4)) t896 a4).bind fun t914 => (if t913 = t914 then (attestorlaw03_PolyValues.j0 k t886 a4 a5 (wrap64 (Int.tmod a0 4)) (wrap64 (1 + (wrap64 (Int.tmod a1 64)))) t896) else (none))))) else (none))))) else (none))))) else (none)))) else (none))))))
def attestorlaw03_PolyValues.T16 : Bool × List (List Nat × List Nat) := (true, [([], []), ([], []), ([], []), ([], []), ([], []), ([], []), ([5], [5]), ([3, 4, 6], [3, 4, 6]), ([], []), ([], []), ([], []), ([9, 10], [9, 10]), ([11], [11]), ([], []), ([8, 12, 13, 7], [8, 12, 13]), ([2, 7, 14, 14], [2, 7, 14]), ([0, 1, 15, 15], [0, 1, 15]), ([16, 16, 0, 1, 2, 3, 4, 5, 6, 7, 8, 9, 10, 11, 12, 13, 14, 15, 16], [1, 16])])
def attestorlaw03_PolyValues.B16 : List Nat := [0, 0, 0, 0, 0, 0, 32, 120, 0, 0, 0, 1536, 3584, 0, 16376, 32764, 65535, 131071]
theorem attestorlaw03_PolyValues.tab16 : rtab .any (opsOf Tryd.f10 16) = attestorlaw03_PolyValues.T16 := by kernel_rfl
theorem attestorlaw03_PolyValues.bits16 : waitsOk attestorlaw03_PolyValues.T16.2 attestorlaw03_PolyValues.B16 = true := by kernel_rfl
set_option maxHeartbeats 8000000 in
set_option maxRecDepth 100000 in
theorem attestorlaw03_PolyValues.calls (k : Nat) (a0 : Int) (a1 : Int) (A2 : Option Addr) (c2 : Nat) (l2 : List Int) (A3 : Option Addr) (c3 : Nat) (l3 : List Int) (a4 : Int) (a5 : Int) (r : Bool) (w : World) (hG : Fld w) (hr2 : Kd.C (Kd.int .u64) w A2 l2.length l2) (hc2 : l2.length ≤ c2) (hr3 : Kd.C (Kd.int .u64) w A3 l3.length l3) (hc3 : l3.length ≤ c3) (h : attestorlaw03_PolyValues.f k a0 a1 l2 l3 a4 a5 = some r) :
  Calls Tryd.prog 10 #[.int .u8 a0, .int .u8 a1, .slice A2 l2.length c2, .slice A3 l3.length c3, .int .u64 a4, .int .u64 a5] w fun e w' => e = .returned (.bool r) ∧ Below w.heap.size w w' := by
 have HG := Aside0.mk hG
 clear hG
 have HR2 := Aside0.mk hr2
 have HC2 := Aside0.mk hc2
 clear hr2 hc2
 have HR3 := Aside0.mk hr3
 have HC3 := Aside0.mk hc3
 clear hr3 hc3
 have HB := Aside0.mk (Below.refl w.heap.size w)
 have H : ((attestorlaw03_own.f l2 40).bind fun t886 => ((attestorlaw03_own.f l3 40).bind fun t889 => ((poly_Mul.f k (wrap64 (Int.tmod a0 4)) t886 t889).bind fun bt892 => ((poly_Eval.f k (wrap64 (Int.tmod a0 4)) t886 a5).bind fun t896 => ((poly_Eval.f k (wrap64 (Int.tmod a0 4)) t889 a5).bind fun t897 => (if bt892.2 = 0 then ((poly_Eval.f k (wrap64 (Int.tmod a0 4)) bt892.1 a5).bind fun t898 => ((field_Mul.f (wrap64 (Int.tmod a0 4)) t896 t897).bind fun t899 => (if t898 = t899 then ((poly_Add.f k (wrap64 (Int.tmod a0 4)) t886 t889).bind fun t900 => ((poly_Eval.f k (wrap64 (Int.tmod a0 4)) t900 a5).bind fun t903 => ((field_Add.f (wrap64 (Int.tmod a0 4)) t896 t897).bind fun t904 => (if t903 = t904 then ((poly_Sub.f k (wrap64 (Int.tmod a0 4)) t886 t889).bind fun t905 => ((poly_Eval.f k (wrap64 (Int.tmod a0 4)) t905 a5).bind fun t908 => ((field_Sub.f (wrap64 (Int.tmod a0 4)) t896 t897).bind fun t909 => (if t908 = t909 then ((poly_Scale.f k (wrap64 (Int.tmod a0 4)) t886 a4).bind fun t910 => ((poly_Eval.f k (wrap64 (Int.tmod a0 4)) t910 a5).bind fun t913 => ((field_Mul.f (wrap64 (Int.tmod a0 4)) t896 a4).bind fun t914 => (if t913 = t914 then (attestorlaw03_PolyValues.j0 k t886 a4 a5 (wrap64 (Int.tmod a0 4)) (wrap64 (1 + (wrap64 (Int.tmod a1 64)))) t896) else (none))))) else (none))))) else (none))))) else (none)))) else (none))))))) = some r := h
 clear h
 replace H := Option.bind_eq_some_iff.mp H
 obtain ⟨t886, A70, H⟩ := H
 replace H : ((attestorlaw03_own.f l3 40).bind fun t889 => ((poly_Mul.f k (wrap64 (Int.tmod a0 4)) t886 t889).bind fun bt892 => ((poly_Eval.f k (wrap64 (Int.tmod a0 4)) t886 a5).bind fun t896 => ((poly_Eval.f k (wrap64 (Int.tmod a0 4)) t889 a5).bind fun t897 => (if bt892.2 = 0 then ((poly_Eval.f k (wrap64 (Int.tmod a0 4)) bt892.1 a5).bind fun t898 => ((field_Mul.f (wrap64 (Int.tmod a0 4)) t896 t897).bind fun t899 => (if t898 = t899 then ((poly_Add.f k (wrap64 (Int.tmod a0 4)) t886 t889).bind fun t900 => ((poly_Eval.f k (wrap64 (Int.tmod a0 4)) t900 a5).bind fun t903 => ((field_Add.f (wrap64 (Int.tmod a0 4)) t896 t897).bind fun t904 => (if t903 = t904 then ((poly_Sub.f k (wrap64 (Int.tmod a0 4)) t886 t889).bind fun t905 => ((poly_Eval.f k (wrap64 (Int.tmod a0 4)) t905 a5).bind fun t908 => ((field_Sub.f (wrap64 (Int.tmod a0 4)) t896 t897).bind fun t909 => (if t908 = t909 then ((poly_Scale.f k (wrap64 (Int.tmod a0 4)) t886 a4).bind fun t910 => ((poly_Eval.f k (wrap64 (Int.tmod a0 4)) t910 a5).bind fun t913 => ((field_Mul.f (wrap64 (Int.tmod a0 4)) t896 a4).bind fun t914 => (if t913 = t914 then (attestorlaw03_PolyValues.j0 k t886 a4 a5 (wrap64 (Int.tmod a0 4)) (wrap64 (1 + (wrap64 (Int.tmod a1 64)))) t896) else (none))))) else (none))))) else (none))))) else (none)))) else (none)))))) = some r := H
 have A7 := Aside0.mk A70
 clear A70
 replace H := Option.bind_eq_some_iff.mp H
 obtain ⟨t889, A80, H⟩ := H
 replace H : ((poly_Mul.f k (wrap64 (Int.tmod a0 4)) t886 t889).bind fun bt892 => ((poly_Eval.f k (wrap64 (Int.tmod a0 4)) t886 a5).bind fun t896 => ((poly_Eval.f k (wrap64 (Int.tmod a0 4)) t889 a5).bind fun t897 => (if bt892.2 = 0 then ((poly_Eval.f k (wrap64 (Int.tmod a0 4)) bt892.1 a5).bind fun t898 => ((field_Mul.f (wrap64 (Int.tmod a0 4)) t896 t897).bind fun t899 => (if t898 = t899 then ((poly_Add.f k (wrap64 (Int.tmod a0 4)) t886 t889).bind fun t900 => ((poly_Eval.f k (wrap64 (Int.tmod a0 4)) t900 a5).bind fun t903 => ((field_Add.f (wrap64 (Int.tmod a0 4)) t896 t897).bind fun t904 => (if t903 = t904 then ((poly_Sub.f k (wrap64 (Int.tmod a0 4)) t886 t889).bind fun t905 => ((poly_Eval.f k (wrap64 (Int.tmod a0 4)) t905 a5).bind fun t908 => ((field_Sub.f (wrap64 (Int.tmod a0 4)) t896 t897).bind fun t909 => (if t908 = t909 then ((poly_Scale.f k (wrap64 (Int.tmod a0 4)) t886 a4).bind fun t910 => ((poly_Eval.f k (wrap64 (Int.tmod a0 4)) t910 a5).bind fun t913 => ((field_Mul.f (wrap64 (Int.tmod a0 4)) t896 a4).bind fun t914 => (if t913 = t914 then (attestorlaw03_PolyValues.j0 k t886 a4 a5 (wrap64 (Int.tmod a0 4)) (wrap64 (1 + (wrap64 (Int.tmod a1 64)))) t896) else (none))))) else (none))))) else (none))))) else (none)))) else (none))))) = some r := H
 have A8 := Aside0.mk A80
 clear A80
 replace H := Option.bind_eq_some_iff.mp H
 obtain ⟨⟨t892, t893⟩, A90, H⟩ := H
 replace H : ((poly_Eval.f k (wrap64 (Int.tmod a0 4)) t886 a5).bind fun t896 => ((poly_Eval.f k (wrap64 (Int.tmod a0 4)) t889 a5).bind fun t897 => (if t893 = 0 then ((poly_Eval.f k (wrap64 (Int.tmod a0 4)) t892 a5).bind fun t898 => ((field_Mul.f (wrap64 (Int.tmod a0 4)) t896 t897).bind fun t899 => (if t898 = t899 then ((poly_Add.f k (wrap64 (Int.tmod a0 4)) t886 t889).bind fun t900 => ((poly_Eval.f k (wrap64 (Int.tmod a0 4)) t900 a5).bind fun t903 => ((field_Add.f (wrap64 (Int.tmod a0 4)) t896 t897).bind fun t904 => (if t903 = t904 then ((poly_Sub.f k (wrap64 (Int.tmod a0 4)) t886 t889).bind fun t905 => ((poly_Eval.f k (wrap64 (Int.tmod a0 4)) t905 a5).bind fun t908 => ((field_Sub.f (wrap64 (Int.tmod a0 4)) t896 t897).bind fun t909 => (if t908 = t909 then ((poly_Scale.f k (wrap64 (Int.tmod a0 4)) t886 a4).bind fun t910 => ((poly_Eval.f k (wrap64 (Int.tmod a0 4)) t910 a5).bind fun t913 => ((field_Mul.f (wrap64 (Int.tmod a0 4)) t896 a4).bind fun t914 => (if t913 = t914 then (attestorlaw03_PolyValues.j0 k t886 a4 a5 (wrap64 (Int.tmod a0 4)) (wrap64 (1 + (wrap64 (Int.tmod a1 64)))) t896) else (none))))) else (none))))) else (none))))) else (none)))) else (none)))) = some r := H
 have A9 := Aside0.mk A90
 clear A90
 replace H := Option.bind_eq_some_iff.mp H
 obtain ⟨t896, A100, H⟩ := H
 replace H : ((poly_Eval.f k (wrap64 (Int.tmod a0 4)) t889 a5).bind fun t897 => (if t893 = 0 then ((poly_Eval.f k (wrap64 (Int.tmod a0 4)) t892 a5).bind fun t898 => ((field_Mul.f (wrap64 (Int.tmod a0 4)) t896 t897).bind fun t899 => (if t898 = t899 then ((poly_Add.f k (wrap64 (Int.tmod a0 4)) t886 t889).bind fun t900 => ((poly_Eval.f k (wrap64 (Int.tmod a0 4)) t900 a5).bind fun t903 => ((field_Add.f (wrap64 (Int.tmod a0 4)) t896 t897).bind fun t904 => (if t903 = t904 then ((poly_Sub.f k (wrap64 (Int.tmod a0 4)) t886 t889).bind fun t905 => ((poly_Eval.f k (wrap64 (Int.tmod a0 4)) t905 a5).bind fun t908 => ((field_Sub.f (wrap64 (Int.tmod a0 4)) t896 t897).bind fun t909 => (if t908 = t909 then ((poly_Scale.f k (wrap64 (Int.tmod a0 4)) t886 a4).bind fun t910 => ((poly_Eval.f k (wrap64 (Int.tmod a0 4)) t910 a5).bind fun t913 => ((field_Mul.f (wrap64 (Int.tmod a0 4)) t896 a4).bind fun t914 => (if t913 = t914 then (attestorlaw03_PolyValues.j0 k t886 a4 a5 (wrap64 (Int.tmod a0 4)) (wrap64 (1 + (wrap64 (Int.tmod a1 64)))) t896) else (none))))) else (none))))) else (none))))) else (none)))) else (none))) = some r := H
 have A10 := Aside0.mk A100
 clear A100
 replace H := Option.bind_eq_some_iff.mp H
 obtain ⟨t897, A110, H⟩ := H
 replace H : (if t893 = 0 then ((poly_Eval.f k (wrap64 (Int.tmod a0 4)) t892 a5).bind fun t898 => ((field_Mul.f (wrap64 (Int.tmod a0 4)) t896 t897).bind fun t899 => (if t898 = t899 then ((poly_Add.f k (wrap64 (Int.tmod a0 4)) t886 t889).bind fun t900 => ((poly_Eval.f k (wrap64 (Int.tmod a0 4)) t900 a5).bind fun t903 => ((field_Add.f (wrap64 (Int.tmod a0 4)) t896 t897).bind fun t904 => (if t903 = t904 then ((poly_Sub.f k (wrap64 (Int.tmod a0 4)) t886 t889).bind fun t905 => ((poly_Eval.f k (wrap64 (Int.tmod a0 4)) t905 a5).bind fun t908 => ((field_Sub.f (wrap64 (Int.tmod a0 4)) t896 t897).bind fun t909 => (if t908 = t909 then ((poly_Scale.f k (wrap64 (Int.tmod a0 4)) t886 a4).bind fun t910 => ((poly_Eval.f k (wrap64 (Int.tmod a0 4)) t910 a5).bind fun t913 => ((field_Mul.f (wrap64 (Int.tmod a0 4)) t896 a4).bind fun t914 => (if t913 = t914 then (attestorlaw03_PolyValues.j0 k t886 a4 a5 (wrap64 (Int.tmod a0 4)) (wrap64 (1 + (wrap64 (Int.tmod a1 64)))) t896) else (none))))) else (none))))) else (none))))) else (none)))) else (none)) = some r := H
 have A11 := Aside0.mk A110
 clear A110
 by_cases c12 : t893 = 0
 ·rw [if_pos c12] at H
  have c12b0 : (t893 == 0) = true := beq_iff_eq.mpr c12
  have c12b1 : (t893 != 0) = false := bne_eq_false_iff_eq.mpr c12
  clear c12
  replace H := Option.bind_eq_some_iff.mp H
  obtain ⟨t898, A130, H⟩ := H
  replace H : ((field_Mul.f (wrap64 (Int.tmod a0 4)) t896 t897).bind fun t899 => (if t898 = t899 then ((poly_Add.f k (wrap64 (Int.tmod a0 4)) t886 t889).bind fun t900 => ((poly_Eval.f k (wrap64 (Int.tmod a0 4)) t900 a5).bind fun t903 => ((field_Add.f (wrap64 (Int.tmod a0 4)) t896 t897).bind fun t904 => (if t903 = t904 then ((poly_Sub.f k (wrap64 (Int.tmod a0 4)) t886 t889).bind fun t905 => ((poly_Eval.f k (wrap64 (Int.tmod a0 4)) t905 a5).bind fun t908 => ((field_Sub.f (wrap64 (Int.tmod a0 4)) t896 t897).bind fun t909 => (if t908 = t909 then ((poly_Scale.f k (wrap64 (Int.tmod a0 4)) t886 a4).bind fun t910 => ((poly_Eval.f k (wrap64 (Int.tmod a0 4)) t910 a5).bind fun t913 => ((field_Mul.f (wrap64 (Int.tmod a0 4)) t896 a4).bind fun t914 => (if t913 = t914 then (attestorlaw03_PolyValues.j0 k t886 a4 a5 (wrap64 (Int.tmod a0 4)) (wrap64 (1 + (wrap64 (Int.tmod a1 64)))) t896) else (none))))) else (none))))) else (none))))) else (none))) = some r := H
  have A13 := Aside0.mk A130
  clear A130
  replace H := Option.bind_eq_some_iff.mp H
  obtain ⟨t899, A140, H⟩ := H
  replace H : (if t898 = t899 then ((poly_Add.f k (wrap64 (Int.tmod a0 4)) t886 t889).bind fun t900 => ((poly_Eval.f k (wrap64 (Int.tmod a0 4)) t900 a5).bind fun t903 => ((field_Add.f (wrap64 (Int.tmod a0 4)) t896 t897).bind fun t904 => (if t903 = t904 then ((poly_Sub.f k (wrap64 (Int.tmod a0 4)) t886 t889).bind fun t905 => ((poly_Eval.f k (wrap64 (Int.tmod a0 4)) t905 a5).bind fun t908 => ((field_Sub.f (wrap64 (Int.tmod a0 4)) t896 t897).bind fun t909 => (if t908 = t909 then ((poly_Scale.f k (wrap64 (Int.tmod a0 4)) t886 a4).bind fun t910 => ((poly_Eval.f k (wrap64 (Int.tmod a0 4)) t910 a5).bind fun t913 => ((field_Mul.f (wrap64 (Int.tmod a0 4)) t896 a4).bind fun t914 => (if t913 = t914 then (attestorlaw03_PolyValues.j0 k t886 a4 a5 (wrap64 (Int.tmod a0 4)) (wrap64 (1 + (wrap64 (Int.tmod a1 64)))) t896) else (none))))) else (none))))) else (none))))) else (none)) = some r := H
  have A14 := Aside0.mk A140
  clear A140
  by_cases c15 : t898 = t899
  ·rw [if_pos c15] at H
   have c15b0 : (t898 == t899) = true := beq_iff_eq.mpr c15
   have c15b1 : (t898 != t899) = false := bne_eq_false_iff_eq.mpr c15
   clear c15
   replace H := Option.bind_eq_some_iff.mp H
   obtain ⟨t900, A160, H⟩ := H
   replace H : ((poly_Eval.f k (wrap64 (Int.tmod a0 4)) t900 a5).bind fun t903 => ((field_Add.f (wrap64 (Int.tmod a0 4)) t896 t897).bind fun t904 => (if t903 = t904 then ((poly_Sub.f k (wrap64 (Int.tmod a0 4)) t886 t889).bind fun t905 => ((poly_Eval.f k (wrap64 (Int.tmod a0 4)) t905 a5).bind fun t908 => ((field_Sub.f (wrap64 (Int.tmod a0 4)) t896 t897).bind fun t909 => (if t908 = t909 then ((poly_Scale.f k (wrap64 (Int.tmod a0 4)) t886 a4).bind fun t910 => ((poly_Eval.f k (wrap64 (Int.tmod a0 4)) t910 a5).bind fun t913 => ((field_Mul.f (wrap64 (Int.tmod a0 4)) t896 a4).bind fun t914 => (if t913 = t914 then (attestorlaw03_PolyValues.j0 k t886 a4 a5 (wrap64 (Int.tmod a0 4)) (wrap64 (1 + (wrap64 (Int.tmod a1 64)))) t896) else (none))))) else (none))))) else (none)))) = some r := H
   have A16 := Aside0.mk A160
   clear A160
   replace H := Option.bind_eq_some_iff.mp H
   obtain ⟨t903, A170, H⟩ := H
   replace H : ((field_Add.f (wrap64 (Int.tmod a0 4)) t896 t897).bind fun t904 => (if t903 = t904 then ((poly_Sub.f k (wrap64 (Int.tmod a0 4)) t886 t889).bind fun t905 => ((poly_Eval.f k (wrap64 (Int.tmod a0 4)) t905 a5).bind fun t908 => ((field_Sub.f (wrap64 (Int.tmod a0 4)) t896 t897).bind fun t909 => (if t908 = t909 then ((poly_Scale.f k (wrap64 (Int.tmod a0 4)) t886 a4).bind fun t910 => ((poly_Eval.f k (wrap64 (Int.tmod a0 4)) t910 a5).bind fun t913 => ((field_Mul.f (wrap64 (Int.tmod a0 4)) t896 a4).bind fun t914 => (if t913 = t914 then (attestorlaw03_PolyValues.j0 k t886 a4 a5 (wrap64 (Int.tmod a0 4)) (wrap64 (1 + (wrap64 (Int.tmod a1 64)))) t896) else (none))))) else (none))))) else (none))) = some r := H
   have A17 := Aside0.mk A170
   clear A170
   replace H := Option.bind_eq_some_iff.mp H
   obtain ⟨t904, A180, H⟩ := H
   replace H : (if t903 = t904 then ((poly_Sub.f k (wrap64 (Int.tmod a0 4)) t886 t889).bind fun t905 => ((poly_Eval.f k (wrap64 (Int.tmod a0 4)) t905 a5).bind fun t908 => ((field_Sub.f (wrap64 (Int.tmod a0 4)) t896 t897).bind fun t909 => (if t908 = t909 then ((poly_Scale.f k (wrap64 (Int.tmod a0 4)) t886 a4).bind fun t910 => ((poly_Eval.f k (wrap64 (Int.tmod a0 4)) t910 a5).bind fun t913 => ((field_Mul.f (wrap64 (Int.tmod a0 4)) t896 a4).bind fun t914 => (if t913 = t914 then (attestorlaw03_PolyValues.j0 k t886 a4 a5 (wrap64 (Int.tmod a0 4)) (wrap64 (1 + (wrap64 (Int.tmod a1 64)))) t896) else (none))))) else (none))))) else (none)) = some r := H
   have A18 := Aside0.mk A180
   clear A180
   by_cases c19 : t903 = t904
   ·rw [if_pos c19] at H
    have c19b0 : (t903 == t904) = true := beq_iff_eq.mpr c19
    have c19b1 : (t903 != t904) = false := bne_eq_false_iff_eq.mpr c19
    clear c19
    replace H := Option.bind_eq_some_iff.mp H
    obtain ⟨t905, A200, H⟩ := H
    replace H : ((poly_Eval.f k (wrap64 (Int.tmod a0 4)) t905 a5).bind fun t908 => ((field_Sub.f (wrap64 (Int.tmod a0 4)) t896 t897).bind fun t909 => (if t908 = t909 then ((poly_Scale.f k (wrap64 (Int.tmod a0 4)) t886 a4).bind fun t910 => ((poly_Eval.f k (wrap64 (Int.tmod a0 4)) t910 a5).bind fun t913 => ((field_Mul.f (wrap64 (Int.tmod a0 4)) t896 a4).bind fun t914 => (if t913 = t914 then (attestorlaw03_PolyValues.j0 k t886 a4 a5 (wrap64 (Int.tmod a0 4)) (wrap64 (1 + (wrap64 (Int.tmod a1 64)))) t896) else (none))))) else (none)))) = some r := H
    have A20 := Aside0.mk A200
    clear A200
    replace H := Option.bind_eq_some_iff.mp H
    obtain ⟨t908, A210, H⟩ := H
    replace H : ((field_Sub.f (wrap64 (Int.tmod a0 4)) t896 t897).bind fun t909 => (if t908 = t909 then ((poly_Scale.f k (wrap64 (Int.tmod a0 4)) t886 a4).bind fun t910 => ((poly_Eval.f k (wrap64 (Int.tmod a0 4)) t910 a5).bind fun t913 => ((field_Mul.f (wrap64 (Int.tmod a0 4)) t896 a4).bind fun t914 => (if t913 = t914 then (attestorlaw03_PolyValues.j0 k t886 a4 a5 (wrap64 (Int.tmod a0 4)) (wrap64 (1 + (wrap64 (Int.tmod a1 64)))) t896) else (none))))) else (none))) = some r := H
    have A21 := Aside0.mk A210
    clear A210
    replace H := Option.bind_eq_some_iff.mp H
    obtain ⟨t909, A220, H⟩ := H
    replace H : (if t908 = t909 then ((poly_Scale.f k (wrap64 (Int.tmod a0 4)) t886 a4).bind fun t910 => ((poly_Eval.f k (wrap64 (Int.tmod a0 4)) t910 a5).bind fun t913 => ((field_Mul.f (wrap64 (Int.tmod a0 4)) t896 a4).bind fun t914 => (if t913 = t914 then (attestorlaw03_PolyValues.j0 k t886 a4 a5 (wrap64 (Int.tmod a0 4)) (wrap64 (1 + (wrap64 (Int.tmod a1 64)))) t896) else (none))))) else (none)) = some r := H
    have A22 := Aside0.mk A220
    clear A220
    by_cases c23 : t908 = t909
    ·rw [if_pos c23] at H
     have c23b0 : (t908 == t909) = true := beq_iff_eq.mpr c23
     have c23b1 : (t908 != t909) = false := bne_eq_false_iff_eq.mpr c23
     clear c23
     replace H := Option.bind_eq_some_iff.mp H
     obtain ⟨t910, A240, H⟩ := H
     replace H : ((poly_Eval.f k (wrap64 (Int.tmod a0 4)) t910 a5).bind fun t913 => ((field_Mul.f (wrap64 (Int.tmod a0 4)) t896 a4).bind fun t914 => (if t913 = t914 then (attestorlaw03_PolyValues.j0 k t886 a4 a5 (wrap64 (Int.tmod a0 4)) (wrap64 (1 + (wrap64 (Int.tmod a1 64)))) t896) else (none)))) = some r := H
     have A24 := Aside0.mk A240
     clear A240
     replace H := Option.bind_eq_some_iff.mp H
     obtain ⟨t913, A250, H⟩ := H
     replace H : ((field_Mul.f (wrap64 (Int.tmod a0 4)) t896 a4).bind fun t914 => (if t913 = t914 then (attestorlaw03_PolyValues.j0 k t886 a4 a5 (wrap64 (Int.tmod a0 4)) (wrap64 (1 + (wrap64 (Int.tmod a1 64)))) t896) else (none))) = some r := H
     have A25 := Aside0.mk A250
     clear A250
     replace H := Option.bind_eq_some_iff.mp H
     obtain ⟨t914, A260, H⟩ := H
     replace H : (if t913 = t914 then (attestorlaw03_PolyValues.j0 k t886 a4 a5 (wrap64 (Int.tmod a0 4)) (wrap64 (1 + (wrap64 (Int.tmod a1 64)))) t896) else (none)) = some r := H
     have A26 := Aside0.mk A260
     clear A260
     have HC27 := Aside0.mk H
     clear H
     go_enter Tryd.func10, Tryd.ntmps10
     go_upto_if 103 with (first | ((with_reducible refine gate_callee (f := 11) rfl ?_); refine goesL_ (some 31) rfl rfl Tryd.func11 (by kernel_rfl) rfl #[.slice A2 l2.length c2, .int .i64 40] rfl (by (try simp only [List.map_toArray, List.map_cons, List.map_nil]); first | done | rfl | (simp only [List.length_drop, List.length_take]; rfl)) ?_; (with_reducible refine (attestorlaw03_own.calls _ _ l2 40 t886 _ ?side1 ?side2 A7.out).mono ?_); (case side1 => repeat (first | exact HR2.out | (with_reducible refine Kd.C_alloc ?_ _) | (with_reducible refine Kd.C_drewN ?_ _) | (with_reducible refine Kd.C_drew ?_))); (case side2 => exact HC2.out); rintro e w28 ⟨v887, rfl, ho0, hb⟩; refine ⟨_, rfl, ?_⟩; have n0_ := Aside0.mk (Kd.R_lower ho0 (below_size (bU_ HB.out))); have n1_ := Aside0.mk (below_step (bU_ HB.out) hb); clear HB; have HO888 := n0_; have HB := n1_; clear n0_ n1_; (try clear hb); (try clear hb2); (try clear hk); (try clear hi); (try clear ho0)) | ((with_reducible refine gate_callee (f := 11) rfl ?_); refine goesL_ (some 33) rfl rfl Tryd.func11 (by kernel_rfl) rfl #[.slice A3 l3.length c3, .int .i64 40] rfl (by (try simp only [List.map_toArray, List.map_cons, List.map_nil]); first | done | rfl | (simp only [List.length_drop, List.length_take]; rfl)) ?_; (with_reducible refine (attestorlaw03_own.calls _ _ l3 40 t889 _ ?side1 ?side2 A8.out).mono ?_); (case side1 => repeat (first | exact (Kd.C_below HR3.out HB.out) | (with_reducible refine Kd.C_alloc ?_ _) | (with_reducible refine Kd.C_drewN ?_ _) | (with_reducible refine Kd.C_drew ?_))); (case side2 => exact HC3.out); rintro e w29 ⟨v890, rfl, ho0, hb⟩; refine ⟨_, rfl, ?_⟩; have n0_ := Aside0.mk (Kd.R_elder' (rU_ HO888.out) (Kd.R_base ho0) hb); have n1_ := Aside0.mk (Kd.R_lower (Kd.R_new' ho0 (Kd.R_lt (rU_ HO888.out))) (below_size (bU_ HB.out))); have n2_ := Aside0.mk (below_step (bU_ HB.out) hb); clear HO888; clear HB; have HO888 := n0_; have HO891 := n1_; have HB := n2_; clear n0_ n1_ n2_; (try clear hb); (try clear hb2); (try clear hk); (try clear hi); (try clear ho0); obtain ⟨Ao30, co30, eo30⟩ := Kd.R_slice HO888.out; subst eo30; obtain ⟨Ao31, co31, eo31⟩ := Kd.R_slice HO891.out; subst eo31) | ((with_reducible refine gate_callee (f := 20) rfl ?_); refine goesL_ (some 38) rfl rfl Tryd.func20 (by kernel_rfl) rfl #[.int .i64 (wrap64 (Int.tmod a0 4)), .slice Ao30 t886.length co30, .slice Ao31 t889.length co31] rfl (by (try simp only [List.map_toArray, List.map_cons, List.map_nil]); first | done | rfl | (simp only [List.length_drop, List.length_take]; rfl)) ?_; (with_reducible refine (poly_Mul.calls k (wrap64 (Int.tmod a0 4)) _ _ t886 _ _ t889 t892 t893 _ ?side1 ?side2 ?side3 ?side4 ?side5 A9.out).mono ?_); (case side1 => exact fU_ HG.out HB.out); (case side2 => repeat (first | exact (Kd.R_reads' HO888.out).2.2 | (with_reducible refine Kd.C_alloc ?_ _) | (with_reducible refine Kd.C_drewN ?_ _) | (with_reducible refine Kd.C_drew ?_))); (case side3 => exact (Kd.R_reads' HO888.out).2.1); (case side4 => repeat (first | exact (Kd.R_reads' HO891.out).2.2 | (with_reducible refine Kd.C_alloc ?_ _) | (with_reducible refine Kd.C_drewN ?_ _) | (with_reducible refine Kd.C_drew ?_))); (case side5 => exact (Kd.R_reads' HO891.out).2.1); rintro e w32 ⟨v894, rfl, ho0, hb⟩; refine ⟨_, rfl, ?_⟩; have n0_ := Aside0.mk (Kd.R_elder' (rU_ HO888.out) (Kd.R_base ho0) hb); have n1_ := Aside0.mk (Kd.R_elder' (rU_ HO891.out) (Kd.R_base ho0) hb); have n2_ := Aside0.mk (Kd.R_lower (Kd.R_new' (Kd.R_new' ho0 (Kd.R_lt (rU_ HO888.out))) (Kd.R_lt (rU_ HO891.out))) (below_size (bU_ HB.out))); have n3_ := Aside0.mk (below_step (bU_ HB.out) hb); clear HO888; clear HO891; clear HB; have HO888 := n0_; have HO891 := n1_; have HO895 := n2_; have HB := n3_; clear n0_ n1_ n2_ n3_; (try clear hb); (try clear hb2); (try clear hk); (try clear hi); (try clear ho0)) | ((with_reducible refine gate_callee (f := 25) rfl ?_); refine goesL_ (some 44) rfl rfl Tryd.func25 (by kernel_rfl) rfl #[.int .i64 (wrap64 (Int.tmod a0 4)), .slice Ao30 t886.length co30, .int .u64 a5] rfl (by (try simp only [List.map_toArray, List.map_cons, List.map_nil]); first | done | rfl | (simp only [List.length_drop, List.length_take]; rfl)) ?_; (with_reducible refine (poly_Eval.calls k (wrap64 (Int.tmod a0 4)) _ _ t886 a5 t896 _ ?side1 ?side2 ?side3 A10.out).mono ?_); (case side1 => exact fU_ HG.out HB.out); (case side2 => repeat (first | exact (Kd.R_reads' HO888.out).2.2 | (with_reducible refine Kd.C_alloc ?_ _) | (with_reducible refine Kd.C_drewN ?_ _) | (with_reducible refine Kd.C_drew ?_))); (case side3 => exact (Kd.R_reads' HO888.out).2.1); rintro e w33 ⟨rfl, hb⟩; refine ⟨_, rfl, ?_⟩; have n0_ := Aside0.mk (Kd.R_below (rU_ HO888.out) hb); have n1_ := Aside0.mk (Kd.R_below (rU_ HO891.out) hb); have n2_ := Aside0.mk (Kd.R_below (rU_ HO895.out) hb); have n3_ := Aside0.mk (below_step (bU_ HB.out) hb); clear HO888; clear HO891; clear HO895; clear HB; have HO888 := n0_; have HO891 := n1_; have HO895 := n2_; have HB := n3_; clear n0_ n1_ n2_ n3_; (try clear hb); (try clear hb2); (try clear hk); (try clear hi)) | ((with_reducible refine gate_callee (f := 25) rfl ?_); refine goesL_ (some 48) rfl rfl Tryd.func25 (by kernel_rfl) rfl #[.int .i64 (wrap64 (Int.tmod a0 4)), .slice Ao31 t889.length co31, .int .u64 a5] rfl (by (try simp only [List.map_toArray, List.map_cons, List.map_nil]); first | done | rfl | (simp only [List.length_drop, List.length_take]; rfl)) ?_; (with_reducible refine (poly_Eval.calls k (wrap64 (Int.tmod a0 4)) _ _ t889 a5 t897 _ ?side1 ?side2 ?side3 A11.out).mono ?_); (case side1 => exact fU_ HG.out HB.out); (case side2 => repeat (first | exact (Kd.R_reads' HO891.out).2.2 | (with_reducible refine Kd.C_alloc ?_ _) | (with_reducible refine Kd.C_drewN ?_ _) | (with_reducible refine Kd.C_drew ?_))); (case side3 => exact (Kd.R_reads' HO891.out).2.1); rintro e w34 ⟨rfl, hb⟩; refine ⟨_, rfl, ?_⟩; have n0_ := Aside0.mk (Kd.R_below (rU_ HO888.out) hb); have n1_ := Aside0.mk (Kd.R_below (rU_ HO891.out) hb); have n2_ := Aside0.mk (Kd.R_below (rU_ HO895.out) hb); have n3_ := Aside0.mk (below_step (bU_ HB.out) hb); clear HO888; clear HO891; clear HO895; clear HB; have HO888 := n0_; have HO891 := n1_; have HO895 := n2_; have HB := n3_; clear n0_ n1_ n2_ n3_; (try clear hb); (try clear hb2); (try clear hk); (try clear hi); obtain ⟨Ao35, co35, eo35⟩ := Kd.R_slice HO895.out; subst eo35) | (go_at_call 25; (with_reducible refine (poly_Eval.calls k (wrap64 (Int.tmod a0 4)) _ _ t892 a5 t898 _ ?side1 ?side2 ?side3 A13.out).mono ?_); (case side1 => exact fU_ HG.out HB.out); (case side2 => repeat (first | exact (Kd.R_reads' HO895.out).2.2 | (with_reducible refine Kd.C_alloc ?_ _) | (with_reducible refine Kd.C_drewN ?_ _) | (with_reducible refine Kd.C_drew ?_))); (case side3 => exact (Kd.R_reads' HO895.out).2.1); rintro e w36 ⟨rfl, hb⟩; have n0_ := Aside0.mk (Kd.R_below (rU_ HO888.out) hb); have n1_ := Aside0.mk (Kd.R_below (rU_ HO891.out) hb); have n2_ := Aside0.mk (Kd.R_below (rU_ HO895.out) hb); have n3_ := Aside0.mk (below_step (bU_ HB.out) hb); clear HO888; clear HO891; clear HO895; clear HB; have HO888 := n0_; have HO891 := n1_; have HO895 := n2_; have HB := n3_; clear n0_ n1_ n2_ n3_; (try clear hb); (try clear hb2); (try clear hk); (try clear hi)) | (go_at_call 44; (with_reducible refine (field_Mul.calls (wrap64 (Int.tmod a0 4)) t896 t897 t899 _ ?side1 A14.out).mono ?_); (case side1 => exact fU_ HG.out HB.out); rintro e w37 ⟨rfl, hb⟩; have n0_ := Aside0.mk (Kd.R_below (rU_ HO888.out) hb); have n1_ := Aside0.mk (Kd.R_below (rU_ HO891.out) hb); have n2_ := Aside0.mk (Kd.R_below (rU_ HO895.out) hb); have n3_ := Aside0.mk (below_step (bU_ HB.out) hb); clear HO888; clear HO891; clear HO895; clear HB; have HO888 := n0_; have HO891 := n1_; have HO895 := n2_; have HB := n3_; clear n0_ n1_ n2_ n3_; (try clear hb); (try clear hb2); (try clear hk); (try clear hi)) | (go_at_call 22; (with_reducible refine (poly_Add.calls k (wrap64 (Int.tmod a0 4)) _ _ t886 _ _ t889 t900 _ ?side1 ?side2 ?side3 ?side4 ?side5 A16.out).mono ?_); (case side1 => exact fU_ HG.out HB.out); (case side2 => repeat (first | exact (Kd.R_reads' HO888.out).2.2 | (with_reducible refine Kd.C_alloc ?_ _) | (with_reducible refine Kd.C_drewN ?_ _) | (with_reducible refine Kd.C_drew ?_))); (case side3 => exact (Kd.R_reads' HO888.out).2.1); (case side4 => repeat (first | exact (Kd.R_reads' HO891.out).2.2 | (with_reducible refine Kd.C_alloc ?_ _) | (with_reducible refine Kd.C_drewN ?_ _) | (with_reducible refine Kd.C_drew ?_))); (case side5 => exact (Kd.R_reads' HO891.out).2.1); rintro e w38 ⟨v901, rfl, ho0, hb⟩; have n0_ := Aside0.mk (Kd.R_elder' (rU_ HO888.out) (Kd.R_base ho0) hb); have n1_ := Aside0.mk (Kd.R_elder' (rU_ HO891.out) (Kd.R_base ho0) hb); have n2_ := Aside0.mk (Kd.R_elder' (rU_ HO895.out) (Kd.R_base ho0) hb); have n3_ := Aside0.mk (Kd.R_lower (Kd.R_new' (Kd.R_new' (Kd.R_new' ho0 (Kd.R_lt (rU_ HO888.out))) (Kd.R_lt (rU_ HO891.out))) (Kd.R_lt (rU_ HO895.out))) (below_size (bU_ HB.out))); have n4_ := Aside0.mk (below_step (bU_ HB.out) hb); clear HO888; clear HO891; clear HO895; clear HB; have HO888 := n0_; have HO891 := n1_; have HO895 := n2_; have HO902 := n3_; have HB := n4_; clear n0_ n1_ n2_ n3_ n4_; (try clear hb); (try clear hb2); (try clear hk); (try clear hi); (try clear ho0); obtain ⟨Ao39, co39, eo39⟩ := Kd.R_slice HO902.out; subst eo39) | (go_at_call 25; (with_reducible refine (poly_Eval.calls k (wrap64 (Int.tmod a0 4)) _ _ t900 a5 t903 _ ?side1 ?side2 ?side3 A17.out).mono ?_); (case side1 => exact fU_ HG.out HB.out); (case side2 => repeat (first | exact (Kd.R_reads' HO902.out).2.2 | (with_reducible refine Kd.C_alloc ?_ _) | (with_reducible refine Kd.C_drewN ?_ _) | (with_reducible refine Kd.C_drew ?_))); (case side3 => exact (Kd.R_reads' HO902.out).2.1); rintro e w40 ⟨rfl, hb⟩; have n0_ := Aside0.mk (Kd.R_below (rU_ HO888.out) hb); have n1_ := Aside0.mk (Kd.R_below (rU_ HO891.out) hb); have n2_ := Aside0.mk (Kd.R_below (rU_ HO895.out) hb); have n3_ := Aside0.mk (Kd.R_below (rU_ HO902.out) hb); have n4_ := Aside0.mk (below_step (bU_ HB.out) hb); clear HO888; clear HO891; clear HO895; clear HO902; clear HB; have HO888 := n0_; have HO891 := n1_; have HO895 := n2_; have HO902 := n3_; have HB := n4_; clear n0_ n1_ n2_ n3_ n4_; (try clear hb); (try clear hb2); (try clear hk); (try clear hi)) | (go_at_call 45; (with_reducible refine (field_Add.calls (wrap64 (Int.tmod a0 4)) t896 t897 t904 _ ?side1 A18.out).mono ?_); (case side1 => exact fU_ HG.out HB.out); rintro e w41 ⟨rfl, hb⟩; have n0_ := Aside0.mk (Kd.R_below (rU_ HO888.out) hb); have n1_ := Aside0.mk (Kd.R_below (rU_ HO891.out) hb); have n2_ := Aside0.mk (Kd.R_below (rU_ HO895.out) hb); have n3_ := Aside0.mk (Kd.R_below (rU_ HO902.out) hb); have n4_ := Aside0.mk (below_step (bU_ HB.out) hb); clear HO888; clear HO891; clear HO895; clear HO902; clear HB; have HO888 := n0_; have HO891 := n1_; have HO895 := n2_; have HO902 := n3_; have HB := n4_; clear n0_ n1_ n2_ n3_ n4_; (try clear hb); (try clear hb2); (try clear hk); (try clear hi)) | (go_at_call 30; (with_reducible refine (poly_Sub.calls k (wrap64 (Int.tmod a0 4)) _ _ t886 _ _ t889 t905 _ ?side1 ?side2 ?side3 ?side4 ?side5 A20.out).mono ?_); (case side1 => exact fU_ HG.out HB.out); (case side2 => repeat (first | exact (Kd.R_reads' HO888.out).2.2 | (with_reducible refine Kd.C_alloc ?_ _) | (with_reducible refine Kd.C_drewN ?_ _) | (with_reducible refine Kd.C_drew ?_))); (case side3 => exact (Kd.R_reads' HO888.out).2.1); (case side4 => repeat (first | exact (Kd.R_reads' HO891.out).2.2 | (with_reducible refine Kd.C_alloc ?_ _) | (with_reducible refine Kd.C_drewN ?_ _) | (with_reducible refine Kd.C_drew ?_))); (case side5 => exact (Kd.R_reads' HO891.out).2.1); rintro e w42 ⟨v906, rfl, ho0, hb⟩; have n0_ := Aside0.mk (Kd.R_elder' (rU_ HO888.out) (Kd.R_base ho0) hb); have n1_ := Aside0.mk (Kd.R_elder' (rU_ HO891.out) (Kd.R_base ho0) hb); have n2_ := Aside0.mk (Kd.R_elder' (rU_ HO895.out) (Kd.R_base ho0) hb); have n3_ := Aside0.mk (Kd.R_elder' (rU_ HO902.out) (Kd.R_base ho0) hb); have n4_ := Aside0.mk (Kd.R_lower (Kd.R_new' (Kd.R_new' (Kd.R_new' (Kd.R_new' ho0 (Kd.R_lt (rU_ HO888.out))) (Kd.R_lt (rU_ HO891.out))) (Kd.R_lt (rU_ HO895.out))) (Kd.R_lt (rU_ HO902.out))) (below_size (bU_ HB.out))); have n5_ := Aside0.mk (below_step (bU_ HB.out) hb); clear HO888; clear HO891; clear HO895; clear HO902; clear HB; have HO888 := n0_; have HO891 := n1_; have HO895 := n2_; have HO902 := n3_; have HO907 := n4_; have HB := n5_; clear n0_ n1_ n2_ n3_ n4_ n5_; (try clear hb); (try clear hb2); (try clear hk); (try clear hi); (try clear ho0); obtain ⟨Ao43, co43, eo43⟩ := Kd.R_slice HO907.out; subst eo43) | (go_at_call 25; (with_reducible refine (poly_Eval.calls k (wrap64 (Int.tmod a0 4)) _ _ t905 a5 t908 _ ?side1 ?side2 ?side3 A21.out).mono ?_); (case side1 => exact fU_ HG.out HB.out); (case side2 => repeat (first | exact (Kd.R_reads' HO907.out).2.2 | (with_reducible refine Kd.C_alloc ?_ _) | (with_reducible refine Kd.C_drewN ?_ _) | (with_reducible refine Kd.C_drew ?_))); (case side3 => exact (Kd.R_reads' HO907.out).2.1); rintro e w44 ⟨rfl, hb⟩; have n0_ := Aside0.mk (Kd.R_below (rU_ HO888.out) hb); have n1_ := Aside0.mk (Kd.R_below (rU_ HO891.out) hb); have n2_ := Aside0.mk (Kd.R_below (rU_ HO895.out) hb); have n3_ := Aside0.mk (Kd.R_below (rU_ HO902.out) hb); have n4_ := Aside0.mk (Kd.R_below (rU_ HO907.out) hb); have n5_ := Aside0.mk (below_step (bU_ HB.out) hb); clear HO888; clear HO891; clear HO895; clear HO902; clear HO907; clear HB; have HO888 := n0_; have HO891 := n1_; have HO895 := n2_; have HO902 := n3_; have HO907 := n4_; have HB := n5_; clear n0_ n1_ n2_ n3_ n4_ n5_; (try clear hb); (try clear hb2); (try clear hk); (try clear hi)) | (go_at_call 24; (with_reducible refine (field_Sub.calls (wrap64 (Int.tmod a0 4)) t896 t897 t909 _ ?side1 A22.out).mono ?_); (case side1 => exact fU_ HG.out HB.out); rintro e w45 ⟨rfl, hb⟩; have n0_ := Aside0.mk (Kd.R_below (rU_ HO888.out) hb); have n1_ := Aside0.mk (Kd.R_below (rU_ HO891.out) hb); have n2_ := Aside0.mk (Kd.R_below (rU_ HO895.out) hb); have n3_ := Aside0.mk (Kd.R_below (rU_ HO902.out) hb); have n4_ := Aside0.mk (Kd.R_below (rU_ HO907.out) hb); have n5_ := Aside0.mk (below_step (bU_ HB.out) hb); clear HO888; clear HO891; clear HO895; clear HO902; clear HO907; clear HB; have HO888 := n0_; have HO891 := n1_; have HO895 := n2_; have HO902 := n3_; have HO907 := n4_; have HB := n5_; clear n0_ n1_ n2_ n3_ n4_ n5_; (try clear hb); (try clear hb2); (try clear hk); (try clear hi)) | (go_at_call 32; (with_reducible refine (poly_Scale.calls k (wrap64 (Int.tmod a0 4)) _ _ t886 a4 t910 _ ?side1 ?side2 ?side3 A24.out).mono ?_); (case side1 => exact fU_ HG.out HB.out); (case side2 => repeat (first | exact (Kd.R_reads' HO888.out).2.2 | (with_reducible refine Kd.C_alloc ?_ _) | (with_reducible refine Kd.C_drewN ?_ _) | (with_reducible refine Kd.C_drew ?_))); (case side3 => exact (Kd.R_reads' HO888.out).2.1); rintro e w46 ⟨v911, rfl, ho0, hb⟩; have n0_ := Aside0.mk (Kd.R_elder' (rU_ HO888.out) (Kd.R_base ho0) hb); have n1_ := Aside0.mk (Kd.R_elder' (rU_ HO891.out) (Kd.R_base ho0) hb); have n2_ := Aside0.mk (Kd.R_elder' (rU_ HO895.out) (Kd.R_base ho0) hb); have n3_ := Aside0.mk (Kd.R_elder' (rU_ HO902.out) (Kd.R_base ho0) hb); have n4_ := Aside0.mk (Kd.R_elder' (rU_ HO907.out) (Kd.R_base ho0) hb); have n5_ := Aside0.mk (Kd.R_lower (Kd.R_new' (Kd.R_new' (Kd.R_new' (Kd.R_new' (Kd.R_new' ho0 (Kd.R_lt (rU_ HO888.out))) (Kd.R_lt (rU_ HO891.out))) (Kd.R_lt (rU_ HO895.out))) (Kd.R_lt (rU_ HO902.out))) (Kd.R_lt (rU_ HO907.out))) (below_size (bU_ HB.out))); have n6_ := Aside0.mk (below_step (bU_ HB.out) hb); clear HO888; clear HO891; clear HO895; clear HO902; clear HO907; clear HB; have HO888 := n0_; have HO891 := n1_; have HO895 := n2_; have HO902 := n3_; have HO907 := n4_; have HO912 := n5_; have HB := n6_; clear n0_ n1_ n2_ n3_ n4_ n5_ n6_; (try clear hb); (try clear hb2); (try clear hk); (try clear hi); (try clear ho0); obtain ⟨Ao47, co47, eo47⟩ := Kd.R_slice HO912.out; subst eo47) | (go_at_call 25; (with_reducible refine (poly_Eval.calls k (wrap64 (Int.tmod a0 4)) _ _ t910 a5 t913 _ ?side1 ?side2 ?side3 A25.out).mono ?_); (case side1 => exact fU_ HG.out HB.out); (case side2 => repeat (first | exact (Kd.R_reads' HO912.out).2.2 | (with_reducible refine Kd.C_alloc ?_ _) | (with_reducible refine Kd.C_drewN ?_ _) | (with_reducible refine Kd.C_drew ?_))); (case side3 => exact (Kd.R_reads' HO912.out).2.1); rintro e w48 ⟨rfl, hb⟩; have n0_ := Aside0.mk (Kd.R_below (rU_ HO888.out) hb); have n1_ := Aside0.mk (Kd.R_below (rU_ HO891.out) hb); have n2_ := Aside0.mk (Kd.R_below (rU_ HO895.out) hb); have n3_ := Aside0.mk (Kd.R_below (rU_ HO902.out) hb); have n4_ := Aside0.mk (Kd.R_below (rU_ HO907.out) hb); have n5_ := Aside0.mk (Kd.R_below (rU_ HO912.out) hb); have n6_ := Aside0.mk (below_step (bU_ HB.out) hb); clear HO888; clear HO891; clear HO895; clear HO902; clear HO907; clear HO912; clear HB; have HO888 := n0_; have HO891 := n1_; have HO895 := n2_; have HO902 := n3_; have HO907 := n4_; have HO912 := n5_; have HB := n6_; clear n0_ n1_ n2_ n3_ n4_ n5_ n6_; (try clear hb); (try clear hb2); (try clear hk); (try clear hi)) | (go_at_call 44; (with_reducible refine (field_Mul.calls (wrap64 (Int.tmod a0 4)) t896 a4 t914 _ ?side1 A26.out).mono ?_); (case side1 => exact fU_ HG.out HB.out); rintro e w49 ⟨rfl, hb⟩; have n0_ := Aside0.mk (Kd.R_below (rU_ HO888.out) hb); have n1_ := Aside0.mk (Kd.R_below (rU_ HO891.out) hb); have n2_ := Aside0.mk (Kd.R_below (rU_ HO895.out) hb); have n3_ := Aside0.mk (Kd.R_below (rU_ HO902.out) hb); have n4_ := Aside0.mk (Kd.R_below (rU_ HO907.out) hb); have n5_ := Aside0.mk (Kd.R_below (rU_ HO912.out) hb); have n6_ := Aside0.mk (below_step (bU_ HB.out) hb); clear HO888; clear HO891; clear HO895; clear HO902; clear HO907; clear HO912; clear HB; have HO888 := n0_; have HO891 := n1_; have HO895 := n2_; have HO902 := n3_; have HO907 := n4_; have HO912 := n5_; have HB := n6_; clear n0_ n1_ n2_ n3_ n4_ n5_ n6_; (try clear hb); (try clear hb2); (try clear hk); (try clear hi)))
     (try simp only [Act.put, List.setIfInBounds_toArray, List.set_cons_zero, List.set_cons_succ])
     go_cut [] (fun wc => ∃ (kq : Nat), Aside0 (attestorlaw03_PolyValues.j0 kq t886 a4 a5 (wrap64 (Int.tmod a0 4)) (wrap64 (1 + (wrap64 (Int.tmod a1 64)))) t896 = some r) ∧ Aside0 (kq ≤ k) ∧ Aside0 (Kd.R (Kd.int .u64) 32 wc w.heap.size (fun _ => True) (.slice Ao30 t886.length co30) t886) ∧ Aside0 (Below w.heap.size w wc))
     case first =>
      have H := HC27.out
      clear HC27
      by_cases c50 : t913 = t914
      ·rw [if_pos c50] at H
       have c50b0 : (t913 == t914) = true := beq_iff_eq.mpr c50
       have c50b1 : (t913 != t914) = false := bne_eq_false_iff_eq.mpr c50
       clear c50
       (first | rw [c50b0] | (simp only [i64_w, i32_w]; rw [c50b0]) | rw [c50b1] | skip)
       have H' := Aside0.mk H
       clear H
       go_wp2
       go_meet
       case rel => exact ⟨_, H', ⟨by first | omega | exact Nat.le_refl _⟩, ⟨by (with_reducible repeat (first | apply Kd.R_alloc | apply Kd.R_drewN | apply Kd.R_drew)); exact Kd.R_mono HO888.out (fun _ hk => trivial)⟩, ⟨bU_ HB.out⟩⟩
      ·rw [if_neg c50] at H
       exact absurd H (by simp)
     case rest =>
      clear HC27
      try clear c1
      try clear c2
      try clear p2
      try clear c3
      try clear c5
      try clear p6
      try clear c10
      try clear c11
      try clear c12
      try clear c12b0
      try clear c12b1
      try clear c15
      try clear c15b0
      try clear c15b1
      try clear c19
      try clear c19b0
      try clear c19b1
      try clear c20
      try clear c23
      try clear c23b0
      try clear c23b1
      try clear c25
      try clear c50
      try clear c50b0
      try clear c50b1
      obtain ⟨kq, HA, HJ26, HO_2, HB⟩ := hcut
      cases kq with
      | zero => exact absurd HA.out (by simp [attestorlaw03_PolyValues.j0])
      | succ kj26 =>
       have H := HA.out
       clear HA
       simp only [attestorlaw03_PolyValues.j0] at H
       replace H := Option.bind_eq_some_iff.mp H
       obtain ⟨t915, A510, H⟩ := H
       replace H : ((poly_Eval.f kj26 (wrap64 (Int.tmod a0 4)) t915 a5).bind fun t918 => ((field_Mul.f (wrap64 (Int.tmod a0 4)) a4 a5).bind fun t919 => ((poly_Eval.f kj26 (wrap64 (Int.tmod a0 4)) t886 t919).bind fun t920 => (if t918 = t920 then (attestorlaw03_PolyValues.j1 kj26 t886 a5 (wrap64 (Int.tmod a0 4)) (wrap64 (1 + (wrap64 (Int.tmod a1 64)))) t896) else (none))))) = some r := H
       have A51 := Aside0.mk A510
       clear A510
       replace H := Option.bind_eq_some_iff.mp H
       obtain ⟨t918, A520, H⟩ := H
       replace H : ((field_Mul.f (wrap64 (Int.tmod a0 4)) a4 a5).bind fun t919 => ((poly_Eval.f kj26 (wrap64 (Int.tmod a0 4)) t886 t919).bind fun t920 => (if t918 = t920 then (attestorlaw03_PolyValues.j1 kj26 t886 a5 (wrap64 (Int.tmod a0 4)) (wrap64 (1 + (wrap64 (Int.tmod a1 64)))) t896) else (none)))) = some r := H
       have A52 := Aside0.mk A520
       clear A520
       replace H := Option.bind_eq_some_iff.mp H
       obtain ⟨t919, A530, H⟩ := H
       replace H : ((poly_Eval.f kj26 (wrap64 (Int.tmod a0 4)) t886 t919).bind fun t920 => (if t918 = t920 then (attestorlaw03_PolyValues.j1 kj26 t886 a5 (wrap64 (Int.tmod a0 4)) (wrap64 (1 + (wrap64 (Int.tmod a1 64)))) t896) else (none))) = some r := H
       have A53 := Aside0.mk A530
       clear A530
       replace H := Option.bind_eq_some_iff.mp H
       obtain ⟨t920, A540, H⟩ := H
       replace H : (if t918 = t920 then (attestorlaw03_PolyValues.j1 kj26 t886 a5 (wrap64 (Int.tmod a0 4)) (wrap64 (1 + (wrap64 (Int.tmod a1 64)))) t896) else (none)) = some r := H
       have A54 := Aside0.mk A540
       clear A540
       have HC55 := Aside0.mk H
       clear H
       go_upto_if 118 with (first | ((with_reducible refine gate_callee (f := 35) rfl ?_); refine goesL_ (some 108) rfl rfl Tryd.func35 (by kernel_rfl) rfl #[.int .i64 (wrap64 (Int.tmod a0 4)), .slice Ao30 t886.length co30, .int .u64 a4] rfl (by (try simp only [List.map_toArray, List.map_cons, List.map_nil]); first | done | rfl | (simp only [List.length_drop, List.length_take]; rfl)) ?_; (with_reducible refine (poly_Shift.calls kj26 (wrap64 (Int.tmod a0 4)) _ _ t886 a4 t915 _ ?side1 ?side2 ?side3 A51.out).mono ?_); (case side1 => exact fU_ HG.out HB.out); (case side2 => repeat (first | exact (Kd.R_reads' HO_2.out).2.2 | (with_reducible refine Kd.C_alloc ?_ _) | (with_reducible refine Kd.C_drewN ?_ _) | (with_reducible refine Kd.C_drew ?_))); (case side3 => exact (Kd.R_reads' HO_2.out).2.1); rintro e w56 ⟨v916, rfl, ho0, hb⟩; refine ⟨_, rfl, ?_⟩; have n0_ := Aside0.mk (Kd.R_elder' (rU_ HO_2.out) (Kd.R_base ho0) hb); have n1_ := Aside0.mk (Kd.R_lower (Kd.R_new' ho0 (Kd.R_lt (rU_ HO_2.out))) (below_size (bU_ HB.out))); have n2_ := Aside0.mk (below_step (bU_ HB.out) hb); clear HO_2; clear HB; have HO_2 := n0_; have HO917 := n1_; have HB := n2_; clear n0_ n1_ n2_; (try clear hb); (try clear hb2); (try clear hk); (try clear hi); (try clear ho0); obtain ⟨Ao57, co57, eo57⟩ := Kd.R_slice HO917.out; subst eo57) | ((with_reducible refine gate_callee (f := 25) rfl ?_); refine goesL_ (some 110) rfl rfl Tryd.func25 (by kernel_rfl) rfl #[.int .i64 (wrap64 (Int.tmod a0 4)), .slice Ao57 t915.length co57, .int .u64 a5] rfl (by (try simp only [List.map_toArray, List.map_cons, List.map_nil]); first | done | rfl | (simp only [List.length_drop, List.length_take]; rfl)) ?_; (with_reducible refine (poly_Eval.calls kj26 (wrap64 (Int.tmod a0 4)) _ _ t915 a5 t918 _ ?side1 ?side2 ?side3 A52.out).mono ?_); (case side1 => exact fU_ HG.out HB.out); (case side2 => repeat (first | exact (Kd.R_reads' HO917.out).2.2 | (with_reducible refine Kd.C_alloc ?_ _) | (with_reducible refine Kd.C_drewN ?_ _) | (with_reducible refine Kd.C_drew ?_))); (case side3 => exact (Kd.R_reads' HO917.out).2.1); rintro e w58 ⟨rfl, hb⟩; refine ⟨_, rfl, ?_⟩; have n0_ := Aside0.mk (Kd.R_below (rU_ HO_2.out) hb); have n1_ := Aside0.mk (Kd.R_below (rU_ HO917.out) hb); have n2_ := Aside0.mk (below_step (bU_ HB.out) hb); clear HO_2; clear HO917; clear HB; have HO_2 := n0_; have HO917 := n1_; have HB := n2_; clear n0_ n1_ n2_; (try clear hb); (try clear hb2); (try clear hk); (try clear hi)) | ((with_reducible refine gate_callee (f := 44) rfl ?_); refine goesL_ (some 116) rfl rfl Tryd.func44 (by kernel_rfl) rfl #[.int .i64 (wrap64 (Int.tmod a0 4)), .int .u64 a4, .int .u64 a5] rfl (by (try simp only [List.map_toArray, List.map_cons, List.map_nil]); first | done | rfl | (simp only [List.length_drop, List.length_take]; rfl)) ?_; (with_reducible refine (field_Mul.calls (wrap64 (Int.tmod a0 4)) a4 a5 t919 _ ?side1 A53.out).mono ?_); (case side1 => exact fU_ HG.out HB.out); rintro e w59 ⟨rfl, hb⟩; refine ⟨_, rfl, ?_⟩; have n0_ := Aside0.mk (Kd.R_below (rU_ HO_2.out) hb); have n1_ := Aside0.mk (Kd.R_below (rU_ HO917.out) hb); have n2_ := Aside0.mk (below_step (bU_ HB.out) hb); clear HO_2; clear HO917; clear HB; have HO_2 := n0_; have HO917 := n1_; have HB := n2_; clear n0_ n1_ n2_; (try clear hb); (try clear hb2); (try clear hk); (try clear hi)) | ((with_reducible refine gate_callee (f := 25) rfl ?_); refine goesL_ (some 117) rfl rfl Tryd.func25 (by kernel_rfl) rfl #[.int .i64 (wrap64 (Int.tmod a0 4)), .slice Ao30 t886.length co30, .int .u64 t919] rfl (by (try simp only [List.map_toArray, List.map_cons, List.map_nil]); first | done | rfl | (simp only [List.length_drop, List.length_take]; rfl)) ?_; (with_reducible refine (poly_Eval.calls kj26 (wrap64 (Int.tmod a0 4)) _ _ t886 t919 t920 _ ?side1 ?side2 ?side3 A54.out).mono ?_); (case side1 => exact fU_ HG.out HB.out); (case side2 => repeat (first | exact (Kd.R_reads' HO_2.out).2.2 | (with_reducible refine Kd.C_alloc ?_ _) | (with_reducible refine Kd.C_drewN ?_ _) | (with_reducible refine Kd.C_drew ?_))); (case side3 => exact (Kd.R_reads' HO_2.out).2.1); rintro e w60 ⟨rfl, hb⟩; refine ⟨_, rfl, ?_⟩; have n0_ := Aside0.mk (Kd.R_below (rU_ HO_2.out) hb); have n1_ := Aside0.mk (Kd.R_below (rU_ HO917.out) hb); have n2_ := Aside0.mk (below_step (bU_ HB.out) hb); clear HO_2; clear HO917; clear HB; have HO_2 := n0_; have HO917 := n1_; have HB := n2_; clear n0_ n1_ n2_; (try clear hb); (try clear hb2); (try clear hk); (try clear hi)))
       (try simp only [Act.put, List.setIfInBounds_toArray, List.set_cons_zero, List.set_cons_succ])
       go_cut [] (fun wc => ∃ (kq : Nat), Aside0 (attestorlaw03_PolyValues.j1 kq t886 a5 (wrap64 (Int.tmod a0 4)) (wrap64 (1 + (wrap64 (Int.tmod a1 64)))) t896 = some r) ∧ Aside0 (kq ≤ kj26) ∧ Aside0 (Kd.R (Kd.int .u64) 32 wc w.heap.size (fun _ => True) (.slice Ao30 t886.length co30) t886) ∧ Aside0 (Below w.heap.size w wc))
       case first =>
        have H := HC55.out
        clear HC55
        by_cases c61 : t918 = t920
        ·rw [if_pos c61] at H
         have c61b0 : (t918 == t920) = true := beq_iff_eq.mpr c61
         have c61b1 : (t918 != t920) = false := bne_eq_false_iff_eq.mpr c61
         clear c61
         (first | rw [c61b0] | (simp only [i64_w, i32_w]; rw [c61b0]) | rw [c61b1] | skip)
         have H' := Aside0.mk H
         clear H
         go_wp2
         go_meet
         case rel => exact ⟨_, H', ⟨by have := HJ26.out; first | omega | exact Nat.le_refl _⟩, ⟨by (with_reducible repeat (first | apply Kd.R_alloc | apply Kd.R_drewN | apply Kd.R_drew)); exact Kd.R_mono HO_2.out (fun _ hk => trivial)⟩, ⟨bU_ HB.out⟩⟩
        ·rw [if_neg c61] at H
         exact absurd H (by simp)
       case rest =>
        clear HC55
        try clear c1
        try clear c2
        try clear p2
        try clear c3
        try clear c4
        try clear c5
        try clear c6
        try clear p6
        try clear c10
        try clear c11
        try clear c12
        try clear c12b0
        try clear c12b1
        try clear c15
        try clear c15b0
        try clear c15b1
        try clear c19
        try clear c19b0
        try clear c19b1
        try clear c20
        try clear c23
        try clear c23b0
        try clear c23b1
        try clear c25
        try clear c35
        try clear c44
        try clear c50
        try clear c50b0
        try clear c50b1
        try clear c61
        try clear c61b0
        try clear c61b1
        try clear p2
        try clear p6
        obtain ⟨kq, HA, HJ54, HO_2, HB⟩ := hcut
        cases kq with
        | zero => exact absurd HA.out (by simp [attestorlaw03_PolyValues.j1])
        | succ kj54 =>
         have H := HA.out
         clear HA
         simp only [attestorlaw03_PolyValues.j1] at H
         replace H := Option.bind_eq_some_iff.mp H
         obtain ⟨t921, A620, H⟩ := H
         replace H : (if (t921.length : Int) = (wrap64 (1 + (wrap64 (Int.tmod a1 64)))) then ((poly_Join.f kj54 (wrap64 (Int.tmod a0 4)) t921).bind fun t924 => ((poly_Normal.f kj54 (wrap64 (Int.tmod a0 4)) t886).bind fun t927 => ((attestorlaw03_same.f kj54 t924 t927).bind fun t930 => (if t930 = true then (attestorlaw03_PolyValues.j2 kj54 a5 (wrap64 (Int.tmod a0 4)) (wrap64 (1 + (wrap64 (Int.tmod a1 64)))) t896 t921) else (none))))) else (none)) = some r := H
         have A62 := Aside0.mk A620
         clear A620
         by_cases c63 : (t921.length : Int) = (wrap64 (1 + (wrap64 (Int.tmod a1 64))))
         ·rw [if_pos c63] at H
          have c63b0 : ((t921.length : Int) == (wrap64 (1 + (wrap64 (Int.tmod a1 64))))) = true := beq_iff_eq.mpr c63
          have c63b1 : ((t921.length : Int) != (wrap64 (1 + (wrap64 (Int.tmod a1 64))))) = false := bne_eq_false_iff_eq.mpr c63
          clear c63
          replace H := Option.bind_eq_some_iff.mp H
          obtain ⟨t924, A640, H⟩ := H
          replace H : ((poly_Normal.f kj54 (wrap64 (Int.tmod a0 4)) t886).bind fun t927 => ((attestorlaw03_same.f kj54 t924 t927).bind fun t930 => (if t930 = true then (attestorlaw03_PolyValues.j2 kj54 a5 (wrap64 (Int.tmod a0 4)) (wrap64 (1 + (wrap64 (Int.tmod a1 64)))) t896 t921) else (none)))) = some r := H
          have A64 := Aside0.mk A640
          clear A640
          replace H := Option.bind_eq_some_iff.mp H
          obtain ⟨t927, A650, H⟩ := H
          replace H : ((attestorlaw03_same.f kj54 t924 t927).bind fun t930 => (if t930 = true then (attestorlaw03_PolyValues.j2 kj54 a5 (wrap64 (Int.tmod a0 4)) (wrap64 (1 + (wrap64 (Int.tmod a1 64)))) t896 t921) else (none))) = some r := H
          have A65 := Aside0.mk A650
          clear A650
          replace H := Option.bind_eq_some_iff.mp H
          obtain ⟨t930, A660, H⟩ := H
          replace H : (if t930 = true then (attestorlaw03_PolyValues.j2 kj54 a5 (wrap64 (Int.tmod a0 4)) (wrap64 (1 + (wrap64 (Int.tmod a1 64)))) t896 t921) else (none)) = some r := H
          have A66 := Aside0.mk A660
          clear A660
          have HC67 := Aside0.mk H
          clear H
          go_upto_if 136 with (first | ((with_reducible refine gate_callee (f := 40) rfl ?_); refine goesL_ (some 122) rfl rfl Tryd.func40 (by kernel_rfl) rfl #[.int .i64 (wrap64 (Int.tmod a0 4)), .slice Ao30 t886.length co30, .int .i64 (wrap64 (1 + (wrap64 (Int.tmod a1 64))))] rfl (by (try simp only [List.map_toArray, List.map_cons, List.map_nil]); first | done | rfl | (simp only [List.length_drop, List.length_take]; rfl)) ?_; (with_reducible refine (poly_Split.calls kj54 (wrap64 (Int.tmod a0 4)) _ _ t886 (wrap64 (1 + (wrap64 (Int.tmod a1 64)))) t921 _ ?side1 ?side2 ?side3 A62.out).mono ?_); (case side1 => exact fU_ HG.out HB.out); (case side2 => repeat (first | exact (Kd.R_reads' HO_2.out).2.2 | (with_reducible refine Kd.C_alloc ?_ _) | (with_reducible refine Kd.C_drewN ?_ _) | (with_reducible refine Kd.C_drew ?_))); (case side3 => exact (Kd.R_reads' HO_2.out).2.1); rintro e w68 ⟨v922, rfl, ho0, hb⟩; refine ⟨_, rfl, ?_⟩; have n0_ := Aside0.mk (Kd.R_below (rU_ HO_2.out) hb); have n1_ := Aside0.mk (Kd.S_lower (Kd.S_new' ho0 (Kd.R_lt (rU_ HO_2.out))) (below_size (bU_ HB.out))); have n2_ := Aside0.mk (below_step (bU_ HB.out) hb); clear HO_2; clear HB; have HO_2 := n0_; have HO923 := n1_; have HB := n2_; clear n0_ n1_ n2_; (try clear hb); (try clear hb2); (try clear hk); (try clear hi); (try clear ho0); obtain ⟨Ao69, co69, eo69⟩ := Kd.S_slice HO923.out; subst eo69) | (go_at_call 42; (with_reducible refine (poly_Join.calls kj54 (wrap64 (Int.tmod a0 4)) _ _ t921 t924 _ ?side1 ?side2 ?side3 A64.out).mono ?_); (case side1 => exact fU_ HG.out HB.out); (case side2 => repeat (first | exact (Kd.S_reads' HO923.out).2.2 | (with_reducible refine Kd.C_alloc ?_ _) | (with_reducible refine Kd.C_drewN ?_ _) | (with_reducible refine Kd.C_drew ?_))); (case side3 => exact (Kd.S_reads' HO923.out).2.1); rintro e w70 ⟨v925, rfl, ho0, hb⟩; have n0_ := Aside0.mk (Kd.R_elder' (rU_ HO_2.out) (Kd.R_base ho0) hb); have n1_ := Aside0.mk (Kd.S_elder' (by (with_reducible repeat (first | apply Kd.S_alloc | apply Kd.S_drewN | apply Kd.S_drew)); exact HO923.out) (Kd.R_base ho0) hb); have n2_ := Aside0.mk (Kd.R_lower (Kd.R_new' ho0 (Kd.R_lt (rU_ HO_2.out))) (below_size (bU_ HB.out))); have n3_ := Aside0.mk (below_step (bU_ HB.out) hb); clear HO_2; clear HO923; clear HB; have HO_2 := n0_; have HO923 := n1_; have HO926 := n2_; have HB := n3_; clear n0_ n1_ n2_ n3_; (try clear hb); (try clear hb2); (try clear hk); (try clear hi); (try clear ho0)) | (go_at_call 23; (with_reducible refine (poly_Normal.calls kj54 (wrap64 (Int.tmod a0 4)) _ _ t886 t927 _ ?side1 ?side2 ?side3 A65.out).mono ?_); (case side1 => exact fU_ HG.out HB.out); (case side2 => repeat (first | exact (Kd.R_reads' HO_2.out).2.2 | (with_reducible refine Kd.C_alloc ?_ _) | (with_reducible refine Kd.C_drewN ?_ _) | (with_reducible refine Kd.C_drew ?_))); (case side3 => exact (Kd.R_reads' HO_2.out).2.1); rintro e w71 ⟨v928, rfl, ho0, hb⟩; have n0_ := Aside0.mk (Kd.R_elder' (rU_ HO_2.out) (Kd.R_base ho0) hb); have n1_ := Aside0.mk (Kd.S_elder' (by (with_reducible repeat (first | apply Kd.S_alloc | apply Kd.S_drewN | apply Kd.S_drew)); exact HO923.out) (Kd.R_base ho0) hb); have n2_ := Aside0.mk (Kd.R_elder' (rU_ HO926.out) (Kd.R_base ho0) hb); have n3_ := Aside0.mk (Kd.R_lower (Kd.R_new' (Kd.R_new' ho0 (Kd.R_lt (rU_ HO_2.out))) (Kd.R_lt (rU_ HO926.out))) (below_size (bU_ HB.out))); have n4_ := Aside0.mk (below_step (bU_ HB.out) hb); clear HO_2; clear HO923; clear HO926; clear HB; have HO_2 := n0_; have HO923 := n1_; have HO926 := n2_; have HO929 := n3_; have HB := n4_; clear n0_ n1_ n2_ n3_ n4_; (try clear hb); (try clear hb2); (try clear hk); (try clear hi); (try clear ho0); obtain ⟨Ao72, co72, eo72⟩ := Kd.R_slice HO926.out; subst eo72; obtain ⟨Ao73, co73, eo73⟩ := Kd.R_slice HO929.out; subst eo73) | (go_at_call 21; (with_reducible refine (attestorlaw03_same.calls kj54 _ _ t924 _ _ t927 t930 _ ?side1 ?side2 ?side3 ?side4 A66.out).mono ?_); (case side1 => repeat (first | exact (Kd.R_reads' HO926.out).2.2 | (with_reducible refine Kd.C_alloc ?_ _) | (with_reducible refine Kd.C_drewN ?_ _) | (with_reducible refine Kd.C_drew ?_))); (case side2 => exact (Kd.R_reads' HO926.out).2.1); (case side3 => repeat (first | exact (Kd.R_reads' HO929.out).2.2 | (with_reducible refine Kd.C_alloc ?_ _) | (with_reducible refine Kd.C_drewN ?_ _) | (with_reducible refine Kd.C_drew ?_))); (case side4 => exact (Kd.R_reads' HO929.out).2.1); rintro e w' ⟨rfl, ⟨nd, rfl⟩⟩))
          (try simp only [Act.put, List.setIfInBounds_toArray, List.set_cons_zero, List.set_cons_succ])
          go_cut [] (fun wc => ∃ (kq : Nat), Aside0 (attestorlaw03_PolyValues.j2 kq a5 (wrap64 (Int.tmod a0 4)) (wrap64 (1 + (wrap64 (Int.tmod a1 64)))) t896 t921 = some r) ∧ Aside0 (kq ≤ kj54) ∧ Aside0 (Kd.S (Kd.slice 32 (Kd.int .u64)) 22 wc w.heap.size (fun _ => True) (.slice Ao69 t921.length co69) t921) ∧ Aside0 (Below w.heap.size w wc))
          case first =>
           have H := HC67.out
           clear HC67
           by_cases c74 : t930 = true
           ·subst c74
            have H1 : (attestorlaw03_PolyValues.j2 kj54 a5 (wrap64 (Int.tmod a0 4)) (wrap64 (1 + (wrap64 (Int.tmod a1 64)))) t896 t921) = some r := by rw [if_pos rfl] at H; exact H
            clear H
            have H := H1
            clear H1
            have H' := Aside0.mk H
            clear H
            go_wp2
            go_meet
            case rel => exact ⟨_, H', ⟨by have := HJ26.out; have := HJ54.out; first | omega | exact Nat.le_refl _⟩, ⟨by (with_reducible repeat (first | apply Kd.S_alloc | apply Kd.S_drewN | apply Kd.S_drew)); exact Kd.S_mono HO923.out (fun _ hk => trivial)⟩, ⟨bU_ HB.out⟩⟩
           ·replace c74 := Bool.eq_false_iff.mpr c74
            subst c74
            have H1 : (none) = some r := by rw [if_neg (show ¬ (false = true) by decide)] at H; exact H
            clear H
            have H := H1
            clear H1
            exact absurd H (by simp)
          case rest =>
           clear HC67
           try clear c1
           try clear c2
           try clear p2
           try clear c3
           try clear c4
           try clear c5
           try clear c6
           try clear p6
           try clear c7
           try clear c10
           try clear c11
           try clear c12
           try clear c12b0
           try clear c12b1
           try clear c15
           try clear c15b0
           try clear c15b1
           try clear c19
           try clear c19b0
           try clear c19b1
           try clear c20
           try clear c23
           try clear c23b0
           try clear c23b1
           try clear c25
           try clear c35
           try clear c40
           try clear c44
           try clear c50
           try clear c50b0
           try clear c50b1
           try clear c61
           try clear c61b0
           try clear c61b1
           try clear c63
           try clear c63b0
           try clear c63b1
           try clear p64
           try clear c74
           try clear p2
           try clear p6
           obtain ⟨kq, HA, HJ66, HO_19, HB⟩ := hcut
           cases kq with
           | zero => exact absurd HA.out (by simp [attestorlaw03_PolyValues.j2])
           | succ kj66 =>
            have H := HA.out
            clear HA
            simp only [attestorlaw03_PolyValues.j2] at H
            replace H := Option.bind_eq_some_iff.mp H
            obtain ⟨t931, A750, H⟩ := H
            replace H : (attestorlaw03_PolyValues.l0 kj66 a5 (wrap64 (Int.tmod a0 4)) (wrap64 (1 + (wrap64 (Int.tmod a1 64)))) t896 t921 0 t931 0) = some r := H
            have A75 := Aside0.mk A750
            clear A750
            have H' := Aside0.mk H
            clear H
            go_wp2_with (first | ((with_reducible refine gate_callee (f := 46) rfl ?_); refine goesL_ (some 141) rfl rfl Tryd.func46 (by kernel_rfl) rfl #[.int .i64 (wrap64 (Int.tmod a0 4)), .int .u64 a5, .int .u64 (IntKind.u64.wrap ((wrap64 (1 + (wrap64 (Int.tmod a1 64))))))] rfl (by (try simp only [List.map_toArray, List.map_cons, List.map_nil]); first | done | rfl | (simp only [List.length_drop, List.length_take]; rfl)) ?_; (with_reducible refine (field_Pow.calls kj66 (wrap64 (Int.tmod a0 4)) a5 (IntKind.u64.wrap ((wrap64 (1 + (wrap64 (Int.tmod a1 64)))))) t931 _ ?side1 A75.out).mono ?_); (case side1 => exact fU_ HG.out HB.out); rintro e w76 ⟨rfl, hb⟩; refine ⟨_, rfl, ?_⟩; have n0_ := Aside0.mk (Kd.S_below (by (with_reducible repeat (first | apply Kd.S_alloc | apply Kd.S_drewN | apply Kd.S_drew)); exact HO_19.out) hb); have n1_ := Aside0.mk (below_step (bU_ HB.out) hb); clear HO_19; clear HB; have HO_19 := n0_; have HB := n1_; clear n0_ n1_; (try clear hb); (try clear hb2); (try clear hk); (try clear hi)))
            go_loopg [20, 22] kj66 (fun kq v20 v22 w' => ∃ (x20_4 : Int) (x22_4 : Int), v20 = .int .u64 x20_4 ∧ v22 = .int .i64 x22_4 ∧ Aside0 (attestorlaw03_PolyValues.l0 kq a5 (wrap64 (Int.tmod a0 4)) (wrap64 (1 + (wrap64 (Int.tmod a1 64)))) t896 t921 x20_4 t931 x22_4 = some r) ∧ Aside0 (kq ≤ kj66) ∧ Aside0 (Kd.S (Kd.slice 32 (Kd.int .u64)) 22 w' w.heap.size (fun _ => True) (.slice Ao69 t921.length co69) t921) ∧ Aside0 (Below w.heap.size w w'))
            case atStart => exact ⟨(0), (0), (by first | rfl | (simp; done) | (simp [*]; done)), (by first | rfl | (simp; done) | (simp [*]; done)), H', ⟨Nat.le_refl _⟩, ⟨by (with_reducible repeat (first | apply Kd.S_alloc | apply Kd.S_drewN | apply Kd.S_drew)); exact HO_19.out⟩, ⟨bU_ HB.out⟩⟩
            case round =>
             clear H'
             try clear c1
             try clear c2
             try clear p2
             try clear c3
             try clear c4
             try clear c5
             try clear c6
             try clear p6
             try clear c7
             try clear c10
             try clear c11
             try clear c12
             try clear c12b0
             try clear c12b1
             try clear c15
             try clear c15b0
             try clear c15b1
             try clear c19
             try clear c19b0
             try clear c19b1
             try clear c20
             try clear c23
             try clear c23b0
             try clear c23b1
             try clear c25
             try clear c35
             try clear c40
             try clear c44
             try clear c46
             try clear c50
             try clear c50b0
             try clear c50b1
             try clear c61
             try clear c61b0
             try clear c61b1
             try clear c63
             try clear c63b0
             try clear c63b1
             try clear p64
             try clear c74
             try clear p2
             try clear p6
             try clear p64
             obtain ⟨x20_4, x22_4, rfl, rfl, HA, HK4, HO_19, HB⟩ := hrel
             cases gk with
             | zero => exact absurd HA.out (by simp [attestorlaw03_PolyValues.l0])
             | succ k4 =>
              have H := HA.out
              clear HA
              simp only [attestorlaw03_PolyValues.l0] at H
              have HC77 := Aside0.mk H
              clear H
              go_upto_if 144 with (fail)
              go_cut [] (fun wc => ∃ (kq : Nat), Aside0 (attestorlaw03_PolyValues.j4 kq a5 (wrap64 (Int.tmod a0 4)) (wrap64 (1 + (wrap64 (Int.tmod a1 64)))) t896 t921 x20_4 t931 x22_4 = some r) ∧ Aside0 (kq ≤ k4) ∧ Aside0 (Kd.S (Kd.slice 32 (Kd.int .u64)) 22 wc w.heap.size (fun _ => True) (.slice Ao69 t921.length co69) t921) ∧ Aside0 (Below w.heap.size w wc))
              case first =>
               have H := HC77.out
               clear HC77
               by_cases c78 : x22_4 < (wrap64 (1 + (wrap64 (Int.tmod a1 64))))
               ·rw [if_pos c78] at H
                have c78b0 : decide (x22_4 < (wrap64 (1 + (wrap64 (Int.tmod a1 64))))) = true := decide_eq_true c78
                clear c78
                (first | rw [c78b0] | (simp only [i64_w, i32_w]; rw [c78b0]) | rw [c78b1] | skip)
                have H' := Aside0.mk H
                clear H
                go_wp2
                go_meet
                case rel => exact ⟨_, H', ⟨by have := HJ26.out; have := HJ54.out; have := HJ66.out; have := HK4.out; first | omega | exact Nat.le_refl _⟩, ⟨by (with_reducible repeat (first | apply Kd.S_alloc | apply Kd.S_drewN | apply Kd.S_drew)); exact HO_19.out⟩, ⟨bU_ HB.out⟩⟩
               ·rw [if_neg c78] at H
                have c78b0 : decide (x22_4 < (wrap64 (1 + (wrap64 (Int.tmod a1 64))))) = false := decide_eq_false c78
                clear c78
                (first | rw [c78b0] | (simp only [i64_w, i32_w]; rw [c78b0]) | rw [c78b1] | skip)
                by_cases c79 : x20_4 = t896
                ·rw [if_pos c79] at H
                 have c79b0 : (x20_4 == t896) = true := beq_iff_eq.mpr c79
                 have c79b1 : (x20_4 != t896) = false := bne_eq_false_iff_eq.mpr c79
                 clear c79
                 replace H := Option.bind_eq_some_iff.mp H
                 obtain ⟨t932, A800, H⟩ := H
                 replace H : (some t932) = some r := H
                 have A80 := Aside0.mk A800
                 clear A800
                 obtain rfl := Option.some.inj H
                 go_wp2_with (first | (go_at_call 17; (with_reducible refine (attestorlaw03_works.calls k4  t932 _ ?side1 A80.out).mono ?_); (case side1 => exact fU_ HG.out HB.out); rintro e w81 ⟨rfl, hb⟩; have n0_ := Aside0.mk (Kd.S_below (by (with_reducible repeat (first | apply Kd.S_alloc | apply Kd.S_drewN | apply Kd.S_drew)); exact HO_19.out) hb); have n1_ := Aside0.mk (below_step (bU_ HB.out) hb); clear HO_19; clear HB; have HO_19 := n0_; have HB := n1_; clear n0_ n1_; (try clear hb); (try clear hb2); (try clear hk); (try clear hi)))
                 go_ret
                 exact ⟨by first | rfl | (simp [errW_none, errW_some] <;> rfl) | (simp [*, errW_none, errW_some] <;> rfl), bU_ HB.out⟩
                ·rw [if_neg c79] at H
                 exact absurd H (by simp)
              case rest =>
               clear HC77
               try clear c1
               try clear c2
               try clear p2
               try clear c3
               try clear c4
               try clear c5
               try clear c6
               try clear p6
               try clear c7
               try clear c10
               try clear c11
               try clear c12
               try clear c12b0
               try clear c12b1
               try clear c15
               try clear c15b0
               try clear c15b1
               try clear c19
               try clear c19b0
               try clear c19b1
               try clear c20
               try clear c23
               try clear c23b0
               try clear c23b1
               try clear c25
               try clear c35
               try clear c40
               try clear c44
               try clear c46
               try clear c50
               try clear c50b0
               try clear c50b1
               try clear c61
               try clear c61b0
               try clear c61b1
               try clear c63
               try clear c63b0
               try clear c63b1
               try clear p64
               try clear c74
               try clear c78
               try clear c78b0
               try clear c78b1
               try clear c79
               try clear c79b0
               try clear c79b1
               try clear p2
               try clear p6
               try clear p64
               obtain ⟨kq, HA, HJ76, HO_19, HB⟩ := hcut
               cases kq with
               | zero => exact absurd HA.out (by simp [attestorlaw03_PolyValues.j4])
               | succ kj76 =>
                have H := HA.out
                clear HA
                simp only [attestorlaw03_PolyValues.j4] at H
                replace H := Option.bind_eq_some_iff.mp H
                obtain ⟨t933, A820, H⟩ := H
                replace H : (if 0 ≤ x22_4 then (if x22_4 < (t921.length : Int) then ((poly_Eval.f kj76 (wrap64 (Int.tmod a0 4)) (rd_L1 t921 x22_4) t931).bind fun t935 => ((field_Mul.f (wrap64 (Int.tmod a0 4)) t933 t935).bind fun t936 => ((field_Add.f (wrap64 (Int.tmod a0 4)) x20_4 t936).bind fun t937 => (attestorlaw03_PolyValues.l0 kj76 a5 (wrap64 (Int.tmod a0 4)) (wrap64 (1 + (wrap64 (Int.tmod a1 64)))) t896 t921 t937 t931 (wrap64 (x22_4 + 1)))))) else (none)) else (none)) = some r := H
                have A82 := Aside0.mk A820
                clear A820
                by_cases c83 : 0 ≤ x22_4
                ·rw [if_pos c83] at H
                 have c83b0 : decide (0 ≤ x22_4) = true := decide_eq_true c83
                 clear c83
                 by_cases c84 : x22_4 < (t921.length : Int)
                 ·rw [if_pos c84] at H
                  have c84b0 : decide (x22_4 < (t921.length : Int)) = true := decide_eq_true c84
                  clear c84
                  replace H := Option.bind_eq_some_iff.mp H
                  obtain ⟨t935, A850, H⟩ := H
                  replace H : ((field_Mul.f (wrap64 (Int.tmod a0 4)) t933 t935).bind fun t936 => ((field_Add.f (wrap64 (Int.tmod a0 4)) x20_4 t936).bind fun t937 => (attestorlaw03_PolyValues.l0 kj76 a5 (wrap64 (Int.tmod a0 4)) (wrap64 (1 + (wrap64 (Int.tmod a1 64)))) t896 t921 t937 t931 (wrap64 (x22_4 + 1))))) = some r := H
                  have A85 := Aside0.mk A850
                  clear A850
                  replace H := Option.bind_eq_some_iff.mp H
                  obtain ⟨t936, A860, H⟩ := H
                  replace H : ((field_Add.f (wrap64 (Int.tmod a0 4)) x20_4 t936).bind fun t937 => (attestorlaw03_PolyValues.l0 kj76 a5 (wrap64 (Int.tmod a0 4)) (wrap64 (1 + (wrap64 (Int.tmod a1 64)))) t896 t921 t937 t931 (wrap64 (x22_4 + 1)))) = some r := H
                  have A86 := Aside0.mk A860
                  clear A860
                  replace H := Option.bind_eq_some_iff.mp H
                  obtain ⟨t937, A870, H⟩ := H
                  replace H : (attestorlaw03_PolyValues.l0 kj76 a5 (wrap64 (Int.tmod a0 4)) (wrap64 (1 + (wrap64 (Int.tmod a1 64)))) t896 t921 t937 t931 (wrap64 (x22_4 + 1))) = some r := H
                  have A87 := Aside0.mk A870
                  clear A870
                  have H' := Aside0.mk H
                  clear H
                  try go_wp2
                  have n0_ := Aside0.mk (Kd.S_drew HO_19.out)
                  have n1_ := Aside0.mk (below_drew1 HB.out)
                  clear HO_19
                  clear HB
                  have HO_19 := n0_
                  have HB := n1_
                  clear n0_ n1_
                  have p934 : 0 ≤ (x22_4 : Int) := of_decide_eq_true (by first | (with_reducible assumption) | assumption)
                  have q934 : x22_4 < (t921.length : Int) := of_decide_eq_true (by first | (with_reducible assumption) | assumption)
                  obtain ⟨ad934, A934_0, c934_0, e934, hx934_0, hl934_0, hi934_0⟩ := at_L1 (Kd.S_reads' HO_19.out).2.2 x22_4 p934 q934
                  cases e934
                  obtain ⟨ce934, hce934, hMe934, hcc934⟩ := Kd.S_get HO_19.out [] x22_4 p934 (by first | exact q934 | exact of_decide_eq_true (by first | (with_reducible assumption) | assumption) | (have e_ := (Kd.S_reads' HO_19.out).1; omega))
                  obtain ⟨ve934_0, rfl, ge934_0⟩ := hMe934
                  have hv934_0 := hcc934 0 _ rfl
                  rw [Nat.add_zero, show ((Kd.slice 32 (Kd.int .u64))).sz = 1 from rfl, Nat.mul_one] at hv934_0
                  replace hv934_0 := Option.some.inj (hv934_0.symm.trans hx934_0)
                  rw [hv934_0] at ge934_0
                  have HL934_0 := Aside0.mk (show Kd.R (Kd.int .u64) 32 _ _ _ _ (rd_L1 t921 x22_4) from ge934_0)
                  clear hv934_0 ge934_0
                  clear hcc934 hce934
                  have HR934_0 := Aside0.mk hi934_0
                  have HC934_0 := Aside0.mk hl934_0
                  clear hi934_0 hl934_0
                  replace p934 := eq_true p934
                  replace q934 := eq_true q934
                  refine start_ (n := 18) (S := fun w' => w'.cell? (ad934.add (x22_4).toNat) = some (.slice A934_0 (rd_L1 t921 x22_4).length c934_0)) (ds := []) #[false, false, false, false, false, false, false, false, false, false, false, false, false, false, false, false, false, false] (by kernel_rfl) rfl rfl (hx934_0) (fun hHeld => ?_); refine with_tabW attestorlaw03_PolyValues.tab16 attestorlaw03_PolyValues.bits16 (fun HT_ HW_ => ?_)
                  generalize wc.drew = w88 at HO_19 HB HL934_0 HR934_0 hx934_0 hHeld ⊢
                  refine pure_ (i := 0) (N := some 147) (v := ?_) (a' := ?_) #[true, false, false, false, false, false, false, false, false, false, false, false, false, false, false, false, false, false] rfl rfl (any_of HT_.out (by kernel_rfl)) (fun _ _ _ h => h) (Or.inl ⟨by rfl, ?_⟩) ?_ ?_
                  rotate_left
                  ·intro w'
                   go_simp
                   with_reducible rfl
                  rotate_left
                  ·simp only [Act.put, List.setIfInBounds_toArray, List.set_cons_zero, List.set_cons_succ, i64_w, i32_w]
                   rfl
                  refine pure_ (i := 1) (N := some 148) (v := ?_) (a' := ?_) #[true, true, false, false, false, false, false, false, false, false, false, false, false, false, false, false, false, false] rfl rfl (any_of HT_.out (by kernel_rfl)) (fun _ _ _ h => h) (Or.inl ⟨by rfl, ?_⟩) ?_ ?_
                  rotate_left
                  ·intro w'
                   go_simp
                   with_reducible rfl
                  rotate_left
                  ·simp only [Act.put, List.setIfInBounds_toArray, List.set_cons_zero, List.set_cons_succ, i64_w, i32_w]
                   rfl
                  refine pure_ (i := 2) (N := some 149) (v := ?_) (a' := ?_) #[true, true, true, false, false, false, false, false, false, false, false, false, false, false, false, false, false, false] rfl rfl (any_of HT_.out (by kernel_rfl)) (fun _ _ _ h => h) (Or.inl ⟨by rfl, ?_⟩) ?_ ?_
                  rotate_left
                  ·intro w'
                   go_simp
                   with_reducible rfl
                  rotate_left
                  ·simp only [Act.put, List.setIfInBounds_toArray, List.set_cons_zero, List.set_cons_succ, i64_w, i32_w]
                   rfl
                  refine pure_ (i := 3) (N := some 150) (v := ?_) (a' := ?_) #[true, true, true, true, false, false, false, false, false, false, false, false, false, false, false, false, false, false] rfl rfl (any_of HT_.out (by kernel_rfl)) (fun _ _ _ h => h) (Or.inl ⟨by rfl, ?_⟩) ?_ ?_
                  rotate_left
                  ·intro w'
                   go_simp
                   with_reducible rfl
                  rotate_left
                  ·simp only [Act.put, List.setIfInBounds_toArray, List.set_cons_zero, List.set_cons_succ, i64_w, i32_w]
                   rfl
                  refine pure_ (i := 4) (N := some 151) (v := ?_) (a' := ?_) #[true, true, true, true, true, false, false, false, false, false, false, false, false, false, false, false, false, false] rfl rfl (any_of HT_.out (by kernel_rfl)) (fun _ _ _ h => h) (Or.inl ⟨by rfl, ?_⟩) ?_ ?_
                  rotate_left
                  ·intro w'
                   go_simp
                   with_reducible rfl
                  rotate_left
                  ·simp only [Act.put, List.setIfInBounds_toArray, List.set_cons_zero, List.set_cons_succ, i64_w, i32_w]
                   rfl
                  refine pure_ (i := 5) (N := some 152) (v := ?_) (a' := ?_) #[true, true, true, true, true, true, false, false, false, false, false, false, false, false, false, false, false, false] rfl rfl (any_of HT_.out (by kernel_rfl)) (fun _ _ _ h => h) (Or.inl ⟨by rfl, ?_⟩) ?_ ?_
                  rotate_left
                  ·intro w'
                   go_simp
                   with_reducible rfl
                  rotate_left
                  ·simp only [Act.put, List.setIfInBounds_toArray, List.set_cons_zero, List.set_cons_succ, i64_w, i32_w]
                   rfl
                  refine pure_ (i := 6) (N := some 153) (v := ?_) (a' := ?_) #[true, true, true, true, true, true, true, false, false, false, false, false, false, false, false, false, false, false] rfl rfl (any_of HT_.out (by kernel_rfl)) (fun _ _ _ h => h) (Or.inl ⟨by rfl, ?_⟩) ?_ ?_
                  rotate_left
                  ·intro w'
                   go_simp
                   with_reducible rfl
                  rotate_left
                  ·simp only [Act.put, List.setIfInBounds_toArray, List.set_cons_zero, List.set_cons_succ, i64_w, i32_w]
                   rfl
                  refine pure_ (i := 8) (N := some 155) (v := ?_) (a' := ?_) #[true, true, true, true, true, true, true, false, true, false, false, false, false, false, false, false, false, false] rfl rfl (any_of HT_.out (by kernel_rfl)) (fun _ _ _ h => h) (Or.inl ⟨by rfl, ?_⟩) ?_ ?_
                  rotate_left
                  ·intro w'
                   go_simp
                   with_reducible rfl
                  rotate_left
                  ·simp only [Act.put, List.setIfInBounds_toArray, List.set_cons_zero, List.set_cons_succ, i64_w, i32_w]
                   rfl
                  refine pure_ (i := 9) (N := some 156) (v := ?_) (a' := ?_) #[true, true, true, true, true, true, true, false, true, true, false, false, false, false, false, false, false, false] rfl rfl (any_of HT_.out (by kernel_rfl)) (fun _ _ _ h => h) (Or.inl ⟨by rfl, ?_⟩) ?_ ?_
                  rotate_left
                  ·intro w'
                   go_simp
                   with_reducible rfl
                  rotate_left
                  ·simp only [Act.put, List.setIfInBounds_toArray, List.set_cons_zero, List.set_cons_succ, i64_w, i32_w]
                   rfl
                  refine pure_ (i := 10) (N := some 157) (v := ?_) (a' := ?_) #[true, true, true, true, true, true, true, false, true, true, true, false, false, false, false, false, false, false] rfl rfl (any_of HT_.out (by kernel_rfl)) (fun _ _ _ h => h) (Or.inl ⟨by rfl, ?_⟩) ?_ ?_
                  rotate_left
                  ·intro w'
                   go_simp
                   with_reducible rfl
                  rotate_left
                  ·simp only [Act.put, List.setIfInBounds_toArray, List.set_cons_zero, List.set_cons_succ, i64_w, i32_w]
                   rfl
                  refine pure_ (i := 11) (N := some 158) (v := ?_) (a' := ?_) #[true, true, true, true, true, true, true, false, true, true, true, true, false, false, false, false, false, false] rfl rfl (any_of HT_.out (by kernel_rfl)) (fun _ _ _ h => h) (Or.inl ⟨by rfl, ?_⟩) ?_ ?_
                  rotate_left
                  ·intro w'
                   go_simp
                   with_reducible rfl
                  rotate_left
                  ·simp only [Act.put, List.setIfInBounds_toArray, List.set_cons_zero, List.set_cons_succ, i64_w, i32_w]
                   rfl
                  refine pure_ (i := 13) (N := some 160) (v := ?_) (a' := ?_) #[true, true, true, true, true, true, true, false, true, true, true, true, false, true, false, false, false, false] rfl rfl (any_of HT_.out (by kernel_rfl)) (fun _ _ _ h => h) (Or.inl ⟨by rfl, ?_⟩) ?_ ?_
                  rotate_left
                  ·intro w'
                   go_simp
                   with_reducible rfl
                  rotate_left
                  ·simp only [Act.put, List.setIfInBounds_toArray, List.set_cons_zero, List.set_cons_succ, i64_w, i32_w]
                   rfl
                  refine take_ (i := 12) (N := some 159) (v := ?_) (a' := ?_) #[true, true, true, true, true, true, true, false, true, true, true, true, true, true, false, false, false, false] rfl rfl (take_ofW HT_.out HW_.out (by kernel_rfl)) (fun _ _ _ h => h) (Or.inl ⟨by rfl, ?_⟩) hHeld ?_ ?_
                  rotate_left
                  ·intro w' s0
                   go_simp
                   with_reducible rfl
                  rotate_left
                  ·simp only [Act.put, List.setIfInBounds_toArray, List.set_cons_zero, List.set_cons_succ, i64_w, i32_w]
                   rfl
                  refine one_ (i := 7) (N := some 154) #[true, true, true, true, true, true, true, true, true, true, true, true, true, true, false, false, false, false] rfl rfl (one_of HT_.out (by kernel_rfl)) (by decide) (fun K hK => ?_)
                  refine goes_ Tryd.func46 (by kernel_rfl) rfl #[.int .i64 (wrap64 (Int.tmod a0 4)), .int .u64 a5, .int .u64 (IntKind.u64.wrap (x22_4))] (by rfl) rfl rfl (by (try simp only [List.map_toArray, List.map_cons, List.map_nil]); first | done | rfl | (simp only [List.length_drop, List.length_take]; rfl)) ?_
                  with_reducible refine (field_Pow.calls kj76 (wrap64 (Int.tmod a0 4)) a5 (IntKind.u64.wrap (x22_4)) t933 _ ?side1 A82.out).mono ?_
                  (case side1 => exact fU_ HG.out HB.out)
                  rintro e w89 ⟨rfl, hb⟩
                  have HS0_ := (hb.cell (World.block_lt_of_cell? _ _ (hHeld))).trans (hHeld)
                  refine ⟨_, rfl, ?_⟩
                  have n0_ := Aside0.mk (Kd.S_below (by (with_reducible repeat (first | apply Kd.S_alloc | apply Kd.S_drewN | apply Kd.S_drew)); exact HO_19.out) hb)
                  have n1_ := Aside0.mk (Kd.R_below (rU_ HL934_0.out) hb)
                  have n2_ := Aside0.mk (Kd.C_below (by repeat (first | (with_reducible exact HR934_0.out) | (with_reducible refine Kd.C_alloc ?_ _) | (with_reducible refine Kd.C_drewN ?_ _) | (with_reducible refine Kd.C_drew ?_) | exact HR934_0.out)) hb)
                  have n3_ := Aside0.mk (below_step (bU_ HB.out) hb)
                  clear HO_19
                  clear HL934_0
                  clear HR934_0
                  clear HB
                  have HO_19 := n0_
                  have HL934_0 := n1_
                  have HR934_0 := n2_
                  have HB := n3_
                  clear n0_ n1_ n2_ n3_
                  (try clear hb)
                  (try clear hb2)
                  (try clear hk)
                  (try clear hi)
                  refine hK.out _ _ (HS0_) (fun hHeld => ?_)
                  clear hK K
                  refine norm_ (a' := ?_) ?_ ?_
                  rotate_left
                  ·show Act.put _ (some 154) _ = _
                   simp only [Act.put, List.setIfInBounds_toArray, List.set_cons_zero, List.set_cons_succ, i64_w, i32_w]
                   rfl
                  refine one_ (i := 14) (N := some 161) #[true, true, true, true, true, true, true, true, true, true, true, true, true, true, true, false, false, false] rfl rfl (one_of HT_.out (by kernel_rfl)) (by decide) (fun K hK => ?_)
                  refine goes_ Tryd.func25 (by kernel_rfl) rfl #[.int .i64 (wrap64 (Int.tmod a0 4)), .slice A934_0 (rd_L1 t921 x22_4).length c934_0, .int .u64 t931] (by rfl) rfl rfl (by (try simp only [List.map_toArray, List.map_cons, List.map_nil]); first | done | rfl | (simp only [List.length_drop, List.length_take]; rfl)) ?_
                  with_reducible refine (poly_Eval.calls kj76 (wrap64 (Int.tmod a0 4)) _ _ (rd_L1 t921 x22_4) t931 t935 _ ?side1 ?side2 ?side3 A85.out).mono ?_
                  (case side1 => exact fU_ HG.out HB.out)
                  (case side2 => repeat (first | exact (by repeat (first | (with_reducible exact HR934_0.out) | (with_reducible refine Kd.C_alloc ?_ _) | (with_reducible refine Kd.C_drewN ?_ _) | (with_reducible refine Kd.C_drew ?_) | exact HR934_0.out)) | (with_reducible refine Kd.C_alloc ?_ _) | (with_reducible refine Kd.C_drewN ?_ _) | (with_reducible refine Kd.C_drew ?_)))
                  (case side3 => exact HC934_0.out)
                  rintro e w90 ⟨rfl, hb⟩
                  have HS0_ := (hb.cell (World.block_lt_of_cell? _ _ (hHeld))).trans (hHeld)
                  refine ⟨_, rfl, ?_⟩
                  have n0_ := Aside0.mk (Kd.S_below (by (with_reducible repeat (first | apply Kd.S_alloc | apply Kd.S_drewN | apply Kd.S_drew)); exact HO_19.out) hb)
                  have n1_ := Aside0.mk (Kd.R_below (rU_ HL934_0.out) hb)
                  have n2_ := Aside0.mk (Kd.C_below (by repeat (first | (with_reducible exact HR934_0.out) | (with_reducible refine Kd.C_alloc ?_ _) | (with_reducible refine Kd.C_drewN ?_ _) | (with_reducible refine Kd.C_drew ?_) | exact HR934_0.out)) hb)
                  have n3_ := Aside0.mk (below_step (bU_ HB.out) hb)
                  clear HO_19
                  clear HL934_0
                  clear HR934_0
                  clear HB
                  have HO_19 := n0_
                  have HL934_0 := n1_
                  have HR934_0 := n2_
                  have HB := n3_
                  clear n0_ n1_ n2_ n3_
                  (try clear hb)
                  (try clear hb2)
                  (try clear hk)
                  (try clear hi)
                  refine hK.out _ _ (HS0_) (fun hHeld => ?_)
                  clear hK K
                  refine norm_ (a' := ?_) ?_ ?_
                  rotate_left
                  ·show Act.put _ (some 161) _ = _
                   simp only [Act.put, List.setIfInBounds_toArray, List.set_cons_zero, List.set_cons_succ, i64_w, i32_w]
                   rfl
                  refine one_ (i := 15) (N := some 162) #[true, true, true, true, true, true, true, true, true, true, true, true, true, true, true, true, false, false] rfl rfl (one_of HT_.out (by kernel_rfl)) (by decide) (fun K hK => ?_)
                  refine goes_ Tryd.func44 (by kernel_rfl) rfl #[.int .i64 (wrap64 (Int.tmod a0 4)), .int .u64 t933, .int .u64 t935] (by rfl) rfl rfl (by (try simp only [List.map_toArray, List.map_cons, List.map_nil]); first | done | rfl | (simp only [List.length_drop, List.length_take]; rfl)) ?_
                  with_reducible refine (field_Mul.calls (wrap64 (Int.tmod a0 4)) t933 t935 t936 _ ?side1 A86.out).mono ?_
                  (case side1 => exact fU_ HG.out HB.out)
                  rintro e w91 ⟨rfl, hb⟩
                  have HS0_ := (hb.cell (World.block_lt_of_cell? _ _ (hHeld))).trans (hHeld)
                  refine ⟨_, rfl, ?_⟩
                  have n0_ := Aside0.mk (Kd.S_below (by (with_reducible repeat (first | apply Kd.S_alloc | apply Kd.S_drewN | apply Kd.S_drew)); exact HO_19.out) hb)
                  have n1_ := Aside0.mk (Kd.R_below (rU_ HL934_0.out) hb)
                  have n2_ := Aside0.mk (Kd.C_below (by repeat (first | (with_reducible exact HR934_0.out) | (with_reducible refine Kd.C_alloc ?_ _) | (with_reducible refine Kd.C_drewN ?_ _) | (with_reducible refine Kd.C_drew ?_) | exact HR934_0.out)) hb)
                  have n3_ := Aside0.mk (below_step (bU_ HB.out) hb)
                  clear HO_19
                  clear HL934_0
                  clear HR934_0
                  clear HB
                  have HO_19 := n0_
                  have HL934_0 := n1_
                  have HR934_0 := n2_
                  have HB := n3_
                  clear n0_ n1_ n2_ n3_
                  (try clear hb)
                  (try clear hb2)
                  (try clear hk)
                  (try clear hi)
                  refine hK.out _ _ (HS0_) (fun hHeld => ?_)
                  clear hK K
                  refine norm_ (a' := ?_) ?_ ?_
                  rotate_left
                  ·show Act.put _ (some 162) _ = _
                   simp only [Act.put, List.setIfInBounds_toArray, List.set_cons_zero, List.set_cons_succ, i64_w, i32_w]
                   rfl
                  refine one_ (i := 16) (N := some 163) #[true, true, true, true, true, true, true, true, true, true, true, true, true, true, true, true, true, false] rfl rfl (one_of HT_.out (by kernel_rfl)) (by decide) (fun K hK => ?_)
                  refine goes_ Tryd.func45 (by kernel_rfl) rfl #[.int .i64 (wrap64 (Int.tmod a0 4)), .int .u64 x20_4, .int .u64 t936] (by rfl) rfl rfl (by (try simp only [List.map_toArray, List.map_cons, List.map_nil]); first | done | rfl | (simp only [List.length_drop, List.length_take]; rfl)) ?_
                  with_reducible refine (field_Add.calls (wrap64 (Int.tmod a0 4)) x20_4 t936 t937 _ ?side1 A87.out).mono ?_
                  (case side1 => exact fU_ HG.out HB.out)
                  rintro e w92 ⟨rfl, hb⟩
                  have HS0_ := (hb.cell (World.block_lt_of_cell? _ _ (hHeld))).trans (hHeld)
                  refine ⟨_, rfl, ?_⟩
                  have n0_ := Aside0.mk (Kd.S_below (by (with_reducible repeat (first | apply Kd.S_alloc | apply Kd.S_drewN | apply Kd.S_drew)); exact HO_19.out) hb)
                  have n1_ := Aside0.mk (Kd.R_below (rU_ HL934_0.out) hb)
                  have n2_ := Aside0.mk (Kd.C_below (by repeat (first | (with_reducible exact HR934_0.out) | (with_reducible refine Kd.C_alloc ?_ _) | (with_reducible refine Kd.C_drewN ?_ _) | (with_reducible refine Kd.C_drew ?_) | exact HR934_0.out)) hb)
                  have n3_ := Aside0.mk (below_step (bU_ HB.out) hb)
                  clear HO_19
                  clear HL934_0
                  clear HR934_0
                  clear HB
                  have HO_19 := n0_
                  have HL934_0 := n1_
                  have HR934_0 := n2_
                  have HB := n3_
                  clear n0_ n1_ n2_ n3_
                  (try clear hb)
                  (try clear hb2)
                  (try clear hk)
                  (try clear hi)
                  refine hK.out _ _ (HS0_) (fun hHeld => ?_)
                  clear hK K
                  refine norm_ (a' := ?_) ?_ ?_
                  rotate_left
                  ·show Act.put _ (some 163) _ = _
                   simp only [Act.put, List.setIfInBounds_toArray, List.set_cons_zero, List.set_cons_succ, i64_w, i32_w]
                   rfl
                  refine pure_ (i := 17) (N := some 20) (v := ?_) (a' := ?_) #[true, true, true, true, true, true, true, true, true, true, true, true, true, true, true, true, true, true] rfl rfl (any_of HT_.out (by kernel_rfl)) (fun _ _ _ h => h) (Or.inl ⟨by rfl, ?_⟩) ?_ ?_
                  rotate_left
                  ·intro w'
                   go_simp
                   with_reducible rfl
                  rotate_left
                  ·simp only [Act.put, List.setIfInBounds_toArray, List.set_cons_zero, List.set_cons_succ, i64_w, i32_w]
                   rfl
                  refine done_ (done_of HT_.out (by kernel_rfl)) ?_
                  try go_wp2
                  go_roundg kj76
                  case measure => have := HJ26.out; have := HJ54.out; have := HJ66.out; have := HK4.out; have := HJ76.out; omega
                  case rel => exact ⟨(t937), (wrap64 (x22_4 + 1)), (by first | rfl | (simp; done) | (simp [*]; done)), (by first | rfl | (simp; done) | (simp [*]; done)), H', ⟨by have := HJ26.out; have := HJ54.out; have := HJ66.out; have := HK4.out; have := HJ76.out; omega⟩, ⟨by (with_reducible repeat (first | apply Kd.S_alloc | apply Kd.S_drewN | apply Kd.S_drew)); exact HO_19.out⟩, ⟨bU_ HB.out⟩⟩
                 ·rw [if_neg c84] at H
                  exact absurd H (by simp)
                ·rw [if_neg c83] at H
                 exact absurd H (by simp)
         ·rw [if_neg c63] at H
          exact absurd H (by simp)
    ·rw [if_neg c23] at H
     exact absurd H (by simp)
   ·rw [if_neg c19] at H
    exact absurd H (by simp)
  ·rw [if_neg c15] at H
   exact absurd H (by simp)
 ·rw [if_neg c12] at H
  exact absurd H (by simp)

/-- THE ONE PURE STATEMENT of attestorlaw03_PolyValues: yours. -/
def attestorlaw03_PolyValues.Pure : Prop := ∀ (a0 : Int) (a1 : Int) (l2 : List Int) (l3 : List Int) (a4 : Int) (a5 : Int), (Lit.int .u8 a0).wf = true → (Lit.int .u8 a1).wf = true → l2.length ≤ maxLen → l2.length * 8 ≤ 140737488351232 → (∀ x ∈ l2, (Lit.int .u64 x).wf = true) → l3.length ≤ maxLen → l3.length * 8 ≤ 140737488351232 → (∀ x ∈ l3, (Lit.int .u64 x).wf = true) → (Lit.int .u64 a4).wf = true → (Lit.int .u64 a5).wf = true → ∃ k, attestorlaw03_PolyValues.f k a0 a1 l2 l3 a4 a5 = some true
theorem attestorlaw03_PolyValues.walk (P : attestorlaw03_PolyValues.Pure) (a0 : Int) (a1 : Int) (a2 : Option Addr) (len2 cap2 : Nat) (z2 : List Int) (a3 : Option Addr) (len3 cap3 : Nat) (z3 : List Int) (a4 : Int) (a5 : Int) (w : World) (hG : Fld w) (w0 : (Lit.int .u8 a0).wf = true) (w1 : (Lit.int .u8 a1).wf = true) (w2 : (a2 = none ∧ len2 = 0 ∧ cap2 = 0 ∧ z2 = []) ∨ ∃ x, a2 = some x ∧ len2 ≤ cap2 ∧ cap2 ≤ maxLen ∧ z2.length = cap2 ∧ (∀ i, i < z2.length → w.cell? (x.add i) = some (.int .u64 (z2.getD i 0))) ∧ ∀ n ∈ z2, (Lit.int .u64 n).wf = true) (y2 : len2 * 8 ≤ 140737488351232) (w3 : (a3 = none ∧ len3 = 0 ∧ cap3 = 0 ∧ z3 = []) ∨ ∃ x, a3 = some x ∧ len3 ≤ cap3 ∧ cap3 ≤ maxLen ∧ z3.length = cap3 ∧ (∀ i, i < z3.length → w.cell? (x.add i) = some (.int .u64 (z3.getD i 0))) ∧ ∀ n ∈ z3, (Lit.int .u64 n).wf = true) (y3 : len3 * 8 ≤ 140737488351232) (w4 : (Lit.int .u64 a4).wf = true) (w5 : (Lit.int .u64 a5).wf = true) :
  Calls Tryd.prog 10 #[.int .u8 a0, .int .u8 a1, .slice a2 len2 cap2, .slice a3 len3 cap3, .int .u64 a4, .int .u64 a5] w fun e w' => e = .returned (.bool true) ∧ Below w.heap.size w w' := by
 obtain ⟨l2, rfl, hr2, hm2, hw2, hc2⟩ := ReadsInt.ofRowC w2
 obtain ⟨l3, rfl, hr3, hm3, hw3, hc3⟩ := ReadsInt.ofRowC w3
 obtain ⟨k, h⟩ := P a0 a1 l2 l3 a4 a5 w0 w1 hm2 y2 hw2 hm3 y3 hw3 w4 w5
 refine (attestorlaw03_PolyValues.calls k a0 a1 _ _ l2 _ _ l3 a4 a5 true w hG (Kd.C_of_reads (d := (0 : Int)) (h1 := fun _ => rfl) hr2) hc2 (Kd.C_of_reads (d := (0 : Int)) (h1 := fun _ => rfl) hr3) hc3 h).mono ?_
 rintro e w' ⟨rfl, hd⟩
 exact ⟨rfl, hd⟩

end Go.Proofs.YtmnahhacobfafaaDoor.Q

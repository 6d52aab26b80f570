import Derived.Test.YthinfmfjpaikiaaDoorQ0
import Derived.Test.YthinfmfjpaikiaaDoorQ1
import Derived.Test.YthinfmfjpaikiaaDoorQ2
import Derived.Test.YthinfmfjpaikiaaDoorQ3
import Derived.Test.YthinfmfjpaikiaaDoorQ4
import Derived.Test.YthinfmfjpaikiaaDoorQ5
namespace Go.Proofs.YthinfmfjpaikiaaDoor.Q
open Go.RowKit Go.Proofs.YthinfmfjpaikiaaDoorW.PrintWords Go.Proofs.YthinfmfjpaikiaaDoorW.PrintLast Go.Proofs.YthinfmfjpaikiaaDoorW.PrintMore
attribute [local go_sem] max2_int min2_int max_two min_two max_three min_three max_four min_four   -- for this text's walks alone
set_option linter.unusedVariables false
set_option linter.unusedSimpArgs false

attribute [local go_sem high] eqA24
def attestorref09_Rounds.f (a0 : Int) : Option (Int) := if a0 < 0 then (some 0) else (some (wrap64 (Int.tdiv a0 3)))
set_option maxHeartbeats 8000000 in
set_option maxRecDepth 100000 in
theorem attestorref09_Rounds.calls (a0 : Int) (r : Int) (w : World) (h : attestorref09_Rounds.f a0 = some r) :
  Calls Tryd.prog 13 #[.int .i64 a0] w fun e w' => e = .returned (.int .i64 r) ∧ Drawn0 w w' := by
 have H : (if a0 < 0 then (some 0) else (some (wrap64 (Int.tdiv a0 3)))) = some r := h
 clear h
 by_cases c2 : a0 < 0
 ·rw [if_pos c2] at H
  have c2b0 := decide_eq_true c2
  clear c2
  obtain rfl := Option.some.inj H
  go_enter Tryd.func13, Tryd.ntmps13
  go_wp2
  go_ret
  exact ⟨by first | rfl | (simp; done) | (simp [*]; done), by repeat (first | exact Drawn0.refl _ | apply Drawn0.step)⟩
 rw [if_neg c2] at H
 have c2b0 := decide_eq_false c2
 clear c2
 obtain rfl := Option.some.inj H
 go_enter Tryd.func13, Tryd.ntmps13
 go_wp2
 go_ret
 exact ⟨by first | rfl | (simp; done) | (simp [*]; done), by repeat (first | exact Drawn0.refl _ | apply Drawn0.step)⟩

def attestorlaw09_FoldPoints.f (k : Nat) (a0_0 : Int) (a0_1 : Int) (a0_2 : Int) (a1 : Int) (a2 : Int) (a3 : Int) (a4 : List Int) (a5 : Int) : Option (Bool) := (fold_Next.f k a0_0 a0_1 a0_2).bind fun bt316 => ((attestorref09_Next.f k a0_0 a0_1 a0_2).bind fun bt321 => ((fold_Rounds.f a1).bind fun t326 => ((attestorref09_Rounds.f a1).bind fun t327 => (if t326 = t327 then (if (bt316.1 == bt321.1 && (bt316.2.1 == bt321.2.1 && (bt316.2.2.1 == bt321.2.2.1))) = true then (if bt316.2.2.2 = bt321.2.2.2 then ((fold_At.f k a2 a3 a4 a5).bind fun t328 => ((attestorref09_At.f k a2 a3 a4 a5).bind fun t329 => (if t328 = t329 then ((attestorlaw09_works.f k).bind fun t330 => (some t330)) else (none)))) else (none)) else (none)) else (none)))))
def attestorlaw09_FoldPoints.T3 : Bool × List (List Nat × List Nat) := (true, [([], []), ([0], [0]), ([], []), ([2, 1], [2]), ([1, 3], [1, 3]), ([4, 3], [4]), ([5], [5]), ([5], [5]), ([6, 7, 5], [5, 6, 7]), ([5, 8], [5, 8]), ([9, 5], [9]), ([10], [10]), ([10], [10]), ([11, 12, 10], [10, 11, 12]), ([10, 13], [10, 13]), ([14, 10], [14]), ([15], [15]), ([15], [15]), ([15], [15]), ([15], [15]), ([16, 17, 18, 19, 15, 15], [15, 16, 17, 18, 19]), ([15], [15]), ([15], [15]), ([15], [15]), ([15], [15]), ([21, 22, 23, 24, 20, 15], [15, 21, 22, 23, 24]), ([20, 25, 15], [15, 20, 25]), ([15, 26], [15, 26]), ([27, 25], [27]), ([28, 28], [28]), ([28, 29], [28, 29]), ([30, 29, 0, 1, 2, 3, 4, 5, 6, 7, 8, 9, 10, 11, 12, 13, 14, 15, 16, 17, 18, 19, 20, 21, 22, 23, 24, 25, 26, 27, 28, 29, 30], [30])])
def attestorlaw09_FoldPoints.B3 : List Nat := [0, 1, 0, 7, 15, 31, 63, 63, 255, 511, 1023, 2047, 2047, 8191, 16383, 32767, 65535, 65535, 65535, 65535, 1048575, 65535, 65535, 65535, 65535, 33554431, 67108863, 134217727, 268435455, 536870911, 1073741823, 2147483647]
theorem attestorlaw09_FoldPoints.tab3 : rtab .any (opsOf Tryd.f3 3) = attestorlaw09_FoldPoints.T3 := by kernel_rfl
theorem attestorlaw09_FoldPoints.bits3 : waitsOk attestorlaw09_FoldPoints.T3.2 attestorlaw09_FoldPoints.B3 = true := by kernel_rfl
set_option maxHeartbeats 8000000 in
set_option maxRecDepth 100000 in
theorem attestorlaw09_FoldPoints.calls (k : Nat) (a0_0 : Int) (a0_1 : Int) (a0_2 : Int) (a1 : Int) (a2 : Int) (a3 : Int) (a4 : List Int) (a5 : Int) (r : Bool) (w : World) (hG : Fld w) (h : attestorlaw09_FoldPoints.f k a0_0 a0_1 a0_2 a1 a2 a3 a4 a5 = some r) :
  Calls Tryd.prog 3 #[.agg #[.int .i64 a0_0, .int .i64 a0_1, .int .u64 a0_2], .int .i64 a1, .int .i64 a2, .int .u64 a3, .agg #[.int .u64 (bco a4 0), .int .u64 (bco a4 1), .int .u64 (bco a4 2), .int .u64 (bco a4 3), .int .u64 (bco a4 4), .int .u64 (bco a4 5), .int .u64 (bco a4 6), .int .u64 (bco a4 7)], .int .u64 a5] w fun e w' => e = .returned (.bool r) ∧ Below w.heap.size w w' := by
 have hu24 := Tryd.underlying24
 have hu25 := Tryd.underlying25
 have HG := ak hG
 clear hG
 have HB := ak (Below.refl w.heap.size w)
 have H := h
 clear h
 unfold attestorlaw09_FoldPoints.f at H
 revert H
 refine bd4_ fun t316 t317 t318 t319 A7 H => ?_
 try dsimp only at H
 revert H
 refine bd4_ fun t321 t322 t323 t324 A8 H => ?_
 try dsimp only at H
 revert H
 refine bd_ fun t326 A9 H => ?_
 revert H
 refine bd_ fun t327 A10 H => ?_
 obtain ⟨c11, H⟩ : (t326 = t327) ∧ _ := it_ H
 have c11b0 := beq_iff_eq.mpr c11
 have c11b1 := bne_eq_false_iff_eq.mpr c11
 clear c11
 obtain ⟨c12, H⟩ : ((t316 == t321 && (t317 == t322 && (t318 == t323))) = true) ∧ _ := it_ H
 have c12b0 : (t316 == t321 && (t317 == t322 && (t318 == t323))) = true := c12
 (try (have c12b1 : decide (t316 = t321 && (t317 == t322 && (t318 == t323))) = true := by simpa using c12))
 (try (have c12b2 : (t316 == t321 && (t317 == t322 && (t318 == t323))) = true := by simpa using c12))
 clear c12
 obtain ⟨c13, H⟩ : (t319 = t324) ∧ _ := it_ H
 have c13b0 := beq_iff_eq.mpr c13
 have c13b1 := bne_eq_false_iff_eq.mpr c13
 clear c13
 revert H
 refine bd_ fun t328 A14 H => ?_
 revert H
 refine bd_ fun t329 A15 H => ?_
 obtain ⟨c16, H⟩ : (t328 = t329) ∧ _ := it_ H
 have c16b0 := beq_iff_eq.mpr c16
 have c16b1 := bne_eq_false_iff_eq.mpr c16
 clear c16
 revert H
 refine bd_ fun t330 A17 H => ?_
 obtain rfl := Option.some.inj H
 go_enter Tryd.func3, Tryd.ntmps3
 try go_wp2_with (first | ((with_reducible refine gate_dst (N := 6) rfl ?_); refine bx_ 6 24 #[.int .i64 a0_0, .int .i64 a0_1, .int .u64 a0_2] ?_; intro gb314 hg w18 hbox hb; refine nx4_ (below_step (bU_ HB.out) hb) (hbox) ((hs_ hg (below_size (bU_ HB.out)))) ((hs_ hg (below_size (bU_ HB.out)))) ?_; clear HB; intro HB BK314 GW314 GE314; clear hb hbox hg) | ((with_reducible refine gate_dst (N := 10) rfl ?_); refine bx_ 10 25 #[.int .u64 (bco a4 0), .int .u64 (bco a4 1), .int .u64 (bco a4 2), .int .u64 (bco a4 3), .int .u64 (bco a4 4), .int .u64 (bco a4 5), .int .u64 (bco a4 6), .int .u64 (bco a4 7)] ?_; intro gb315 hg w19 hbox hb; refine nx7_ (blk_below (kU_ BK314.out) hb) (below_step sU_ hb) (hbox) ((hs_ hg (below_size sU_) : w.heap.size ≤ gb315)) ((hs_ hg (below_size sU_) : w.heap.size ≤ gb315)) ((hl_ hg (kU_ BK314.out))) ((hm_ hg (kU_ BK314.out))) ?_; clear BK314 HB; intro BK314 HB BK315 GW315 GE315 NB314_315 NB315_314; clear hb hbox hg; have hnb20 := NB314_315.out; have hnc20 := NB315_314.out; have hcz21_0 := bc0_ BK314.out; have hcz21_1 := bc1_ BK314.out; have hcz21_2 := bc2_ BK314.out; have hfz21_0 := blk_frozen BK314.out 0; have hfz21_1 := blk_frozen BK314.out 1; have hfz21_2 := blk_frozen BK314.out 2) | ((with_reducible refine gate_callee (f := 10) rfl ?_); refine gl_ (some 19) Tryd.func10 #[.agg #[.int .i64 a0_0, .int .i64 a0_1, .int .u64 a0_2]] ?_; (with_reducible refine (fold_Next.calls k a0_0 a0_1 a0_2 t316 t317 t318 t319 _ ?side1 A7.out).mono ?_); (case side1 => repeat (first | with_reducible exact HG.out | with_reducible exact (Fld.below HG.out HB.out) | exact (Fld.below HG.out sU_) | (with_reducible refine Fld.alloc ?_ _) | (with_reducible refine Fld.drewN ?_ _) | (with_reducible refine Fld.drew ?_))); rintro e w22 ⟨rfl, hb⟩; refine ⟨_, rfl, ?_⟩; refine nx3_ (blk_below (kU_ BK314.out) hb) (blk_below (g := gb315) (o := .cells #[.int .u64 (bco a4 0), .int .u64 (bco a4 1), .int .u64 (bco a4 2), .int .u64 (bco a4 3), .int .u64 (bco a4 4), .int .u64 (bco a4 5), .int .u64 (bco a4 6), .int .u64 (bco a4 7)] 25 (0, 0)) (kU_ BK315.out) hb) (below_step sU_ hb) ?_; clear BK314 BK315 HB; intro BK314 BK315 HB; clear hb) | ((with_reducible refine gate_dst (N := 13) rfl ?_); refine bx_ 13 24 #[.int .i64 0, .int .i64 0, .int .u64 0] ?_; intro gb320 hg w23 hbox hb; refine nx10_ (blk_below (kU_ BK314.out) hb) (blk_below (g := gb315) (o := .cells #[.int .u64 (bco a4 0), .int .u64 (bco a4 1), .int .u64 (bco a4 2), .int .u64 (bco a4 3), .int .u64 (bco a4 4), .int .u64 (bco a4 5), .int .u64 (bco a4 6), .int .u64 (bco a4 7)] 25 (0, 0)) (kU_ BK315.out) hb) (below_step sU_ hb) (hbox) ((hs_ hg (below_size sU_) : w.heap.size ≤ gb320)) ((hs_ hg (below_size sU_) : w.heap.size ≤ gb320)) ((hl_ hg (kU_ BK314.out))) ((hm_ hg (kU_ BK314.out))) ((by rw [hg]; exact Nat.ne_of_lt (blk_lt (g := gb315) (o := .cells #[.int .u64 (bco a4 0), .int .u64 (bco a4 1), .int .u64 (bco a4 2), .int .u64 (bco a4 3), .int .u64 (bco a4 4), .int .u64 (bco a4 5), .int .u64 (bco a4 6), .int .u64 (bco a4 7)] 25 (0, 0)) (kU_ BK315.out)) : gb315 ≠ gb320)) ((by rw [hg]; exact Nat.ne_of_gt (blk_lt (g := gb315) (o := .cells #[.int .u64 (bco a4 0), .int .u64 (bco a4 1), .int .u64 (bco a4 2), .int .u64 (bco a4 3), .int .u64 (bco a4 4), .int .u64 (bco a4 5), .int .u64 (bco a4 6), .int .u64 (bco a4 7)] 25 (0, 0)) (kU_ BK315.out)) : gb320 ≠ gb315)) ?_; clear BK314 BK315 HB; intro BK314 BK315 HB BK320 GW320 GE320 NB314_320 NB320_314 NB315_320 NB320_315; clear hb hbox hg; have hnb24 := NB320_314.out; have hnc24 := NB314_320.out; have hnb25 := NB320_315.out; have hnc25 := NB315_320.out; have hcz26_0 := bc0_ BK320.out; have hcz26_1 := bc1_ BK320.out; have hcz26_2 := bc2_ BK320.out; have hfz26_0 := blk_frozen BK320.out 0; have hfz26_1 := blk_frozen BK320.out 1; have hfz26_2 := blk_frozen BK320.out 2; have hcz27_0 := bc0_ BK314.out; have hcz27_1 := bc1_ BK314.out; have hcz27_2 := bc2_ BK314.out; have hfz27_0 := blk_frozen BK314.out 0; have hfz27_1 := blk_frozen BK314.out 1; have hfz27_2 := blk_frozen BK314.out 2) | ((with_reducible refine gate_callee (f := 11) rfl ?_); refine gl_ (some 24) Tryd.func11 #[.agg #[.int .i64 a0_0, .int .i64 a0_1, .int .u64 a0_2]] ?_; (with_reducible refine (attestorref09_Next.calls k a0_0 a0_1 a0_2 t321 t322 t323 t324 _ A8.out).mono ?_); rintro e w28 ⟨rfl, hb⟩; refine ⟨_, rfl, ?_⟩; refine nx4_ (blk_below (g := gb314) (o := .cells #[.int .i64 a0_0, .int .i64 a0_1, .int .u64 a0_2] 24 (0, 0)) kp_ hb) (blk_below (g := gb315) (o := .cells #[.int .u64 (bco a4 0), .int .u64 (bco a4 1), .int .u64 (bco a4 2), .int .u64 (bco a4 3), .int .u64 (bco a4 4), .int .u64 (bco a4 5), .int .u64 (bco a4 6), .int .u64 (bco a4 7)] 25 (0, 0)) kp_ hb) (blk_below (g := gb320) (o := .cells #[.int .i64 t316, .int .i64 t317, .int .u64 t318] 24 (0, 0)) kp_ hb) (below_step sU_ hb) ?_; clear BK314 BK315 BK320 HB; intro BK314 BK315 BK320 HB; clear hb) | ((with_reducible refine gate_dst (N := 15) rfl ?_); refine bx_ 15 24 #[.int .i64 0, .int .i64 0, .int .u64 0] ?_; intro gb325 hg w29 hbox hb; refine nx13_ (blk_below (kU_ BK314.out) hb) (blk_below (g := gb315) (o := .cells #[.int .u64 (bco a4 0), .int .u64 (bco a4 1), .int .u64 (bco a4 2), .int .u64 (bco a4 3), .int .u64 (bco a4 4), .int .u64 (bco a4 5), .int .u64 (bco a4 6), .int .u64 (bco a4 7)] 25 (0, 0)) (kU_ BK315.out) hb) (blk_below (kU_ BK320.out) hb) (below_step sU_ hb) (hbox) ((hs_ hg (below_size sU_) : w.heap.size ≤ gb325)) ((hs_ hg (below_size sU_) : w.heap.size ≤ gb325)) ((hl_ hg (kU_ BK314.out))) ((hm_ hg (kU_ BK314.out))) ((by rw [hg]; exact Nat.ne_of_lt (blk_lt (g := gb315) (o := .cells #[.int .u64 (bco a4 0), .int .u64 (bco a4 1), .int .u64 (bco a4 2), .int .u64 (bco a4 3), .int .u64 (bco a4 4), .int .u64 (bco a4 5), .int .u64 (bco a4 6), .int .u64 (bco a4 7)] 25 (0, 0)) (kU_ BK315.out)) : gb315 ≠ gb325)) ((by rw [hg]; exact Nat.ne_of_gt (blk_lt (g := gb315) (o := .cells #[.int .u64 (bco a4 0), .int .u64 (bco a4 1), .int .u64 (bco a4 2), .int .u64 (bco a4 3), .int .u64 (bco a4 4), .int .u64 (bco a4 5), .int .u64 (bco a4 6), .int .u64 (bco a4 7)] 25 (0, 0)) (kU_ BK315.out)) : gb325 ≠ gb315)) ((hl_ hg (kU_ BK320.out))) ((hm_ hg (kU_ BK320.out))) ?_; clear BK314 BK315 BK320 HB; intro BK314 BK315 BK320 HB BK325 GW325 GE325 NB314_325 NB325_314 NB315_325 NB325_315 NB320_325 NB325_320; clear hb hbox hg; have hnb30 := NB325_314.out; have hnc30 := NB314_325.out; have hnb31 := NB325_315.out; have hnc31 := NB315_325.out; have hnb32 := NB325_320.out; have hnc32 := NB320_325.out; have hcz33_0 := bc0_ BK325.out; have hcz33_1 := bc1_ BK325.out; have hcz33_2 := bc2_ BK325.out; have hfz33_0 := blk_frozen BK325.out 0; have hfz33_1 := blk_frozen BK325.out 1; have hfz33_2 := blk_frozen BK325.out 2))
 have n0_ : Aside0 ((((w29.setCell ⟨gb325, 0, none⟩ (.int .i64 t321)).setCell ⟨gb325, 1, none⟩ (.int .i64 t322)).setCell ⟨gb325, 2, none⟩ (.int .u64 t323)).heap[gb314]? = some (.cells #[.int .i64 a0_0, .int .i64 a0_1, .int .u64 a0_2] 24 (0, 0))) := ⟨by (with_reducible repeat (first | refine blk_drewN ?_ _ | refine blk_drew ?_ | refine blk_alloc ?_ _)); refine blk_far ?_ NB314_325.out _; (with_reducible repeat (first | refine blk_drewN ?_ _ | refine blk_drew ?_ | refine blk_alloc ?_ _)); refine blk_far ?_ NB314_325.out _; (with_reducible repeat (first | refine blk_drewN ?_ _ | refine blk_drew ?_ | refine blk_alloc ?_ _)); refine blk_far ?_ NB314_325.out _; (with_reducible repeat (first | refine blk_drewN ?_ _ | refine blk_drew ?_ | refine blk_alloc ?_ _)); exact BK314.out⟩
 have n1_ : Aside0 ((((w29.setCell ⟨gb325, 0, none⟩ (.int .i64 t321)).setCell ⟨gb325, 1, none⟩ (.int .i64 t322)).setCell ⟨gb325, 2, none⟩ (.int .u64 t323)).heap[gb315]? = some (.cells #[.int .u64 (bco a4 0), .int .u64 (bco a4 1), .int .u64 (bco a4 2), .int .u64 (bco a4 3), .int .u64 (bco a4 4), .int .u64 (bco a4 5), .int .u64 (bco a4 6), .int .u64 (bco a4 7)] 25 (0, 0))) := ⟨by (with_reducible repeat (first | refine blk_drewN ?_ _ | refine blk_drew ?_ | refine blk_alloc ?_ _)); refine blk_far ?_ NB315_325.out _; (with_reducible repeat (first | refine blk_drewN ?_ _ | refine blk_drew ?_ | refine blk_alloc ?_ _)); refine blk_far ?_ NB315_325.out _; (with_reducible repeat (first | refine blk_drewN ?_ _ | refine blk_drew ?_ | refine blk_alloc ?_ _)); refine blk_far ?_ NB315_325.out _; (with_reducible repeat (first | refine blk_drewN ?_ _ | refine blk_drew ?_ | refine blk_alloc ?_ _)); exact BK315.out⟩
 have n2_ : Aside0 ((((w29.setCell ⟨gb325, 0, none⟩ (.int .i64 t321)).setCell ⟨gb325, 1, none⟩ (.int .i64 t322)).setCell ⟨gb325, 2, none⟩ (.int .u64 t323)).heap[gb320]? = some (.cells #[.int .i64 t316, .int .i64 t317, .int .u64 t318] 24 (0, 0))) := ⟨by (with_reducible repeat (first | refine blk_drewN ?_ _ | refine blk_drew ?_ | refine blk_alloc ?_ _)); refine blk_far ?_ NB320_325.out _; (with_reducible repeat (first | refine blk_drewN ?_ _ | refine blk_drew ?_ | refine blk_alloc ?_ _)); refine blk_far ?_ NB320_325.out _; (with_reducible repeat (first | refine blk_drewN ?_ _ | refine blk_drew ?_ | refine blk_alloc ?_ _)); refine blk_far ?_ NB320_325.out _; (with_reducible repeat (first | refine blk_drewN ?_ _ | refine blk_drew ?_ | refine blk_alloc ?_ _)); exact BK320.out⟩
 have n3_ : Aside0 ((((w29.setCell ⟨gb325, 0, none⟩ (.int .i64 t321)).setCell ⟨gb325, 1, none⟩ (.int .i64 t322)).setCell ⟨gb325, 2, none⟩ (.int .u64 t323)).heap[gb325]? = some (.cells #[.int .i64 t321, .int .i64 t322, .int .u64 t323] 24 (0, 0))) := ⟨by (with_reducible repeat (first | refine blk_drewN ?_ _ | refine blk_drew ?_ | refine blk_alloc ?_ _)); refine blk_put (cs := #[.int .i64 t321, .int .i64 t322, .int .u64 0]) ?_ 2 _ rfl; (with_reducible repeat (first | refine blk_drewN ?_ _ | refine blk_drew ?_ | refine blk_alloc ?_ _)); refine blk_put (cs := #[.int .i64 t321, .int .i64 0, .int .u64 0]) ?_ 1 _ rfl; (with_reducible repeat (first | refine blk_drewN ?_ _ | refine blk_drew ?_ | refine blk_alloc ?_ _)); refine blk_put (cs := #[.int .i64 0, .int .i64 0, .int .u64 0]) ?_ 0 _ rfl; (with_reducible repeat (first | refine blk_drewN ?_ _ | refine blk_drew ?_ | refine blk_alloc ?_ _)); exact BK325.out⟩
 have n4_ : Aside0 (Below w.heap.size w (((w29.setCell ⟨gb325, 0, none⟩ (.int .i64 t321)).setCell ⟨gb325, 1, none⟩ (.int .i64 t322)).setCell ⟨gb325, 2, none⟩ (.int .u64 t323))) := ⟨sU_⟩
 (try clear BK314)
 (try clear BK315)
 (try clear BK320)
 (try clear BK325)
 (try clear HB)
 generalize (((w29.setCell ⟨gb325, 0, none⟩ (.int .i64 t321)).setCell ⟨gb325, 1, none⟩ (.int .i64 t322)).setCell ⟨gb325, 2, none⟩ (.int .u64 t323)) = w34 at n0_ n1_ n2_ n3_ n4_ ⊢
 have BK314 := n0_
 have BK315 := n1_
 have BK320 := n2_
 have BK325 := n3_
 have HB := n4_
 clear n0_ n1_ n2_ n3_ n4_
 refine nx5_ (blk_drew BK314.out) (blk_drew BK315.out) (blk_drew BK320.out) (blk_drew BK325.out) (below_drew1 HB.out) ?_
 clear BK314 BK315 BK320 BK325 HB
 intro BK314 BK315 BK320 BK325 HB
 refine start_ (n := 32) (S := fun w' => w'.cell? ⟨gb320, 0, none⟩ = some (.int .i64 t316) ∧ w'.cell? ⟨gb320, 1, none⟩ = some (.int .i64 t317) ∧ w'.cell? ⟨gb320, 2, none⟩ = some (.int .u64 t318) ∧ w'.cell? ⟨gb325, 0, none⟩ = some (.int .i64 t321) ∧ w'.cell? ⟨gb325, 1, none⟩ = some (.int .i64 t322) ∧ w'.cell? ⟨gb325, 2, none⟩ = some (.int .u64 t323) ∧ w'.cell? ⟨gb315, 0, none⟩ = some (.int .u64 (bco a4 0)) ∧ w'.cell? ⟨gb315, 1, none⟩ = some (.int .u64 (bco a4 1)) ∧ w'.cell? ⟨gb315, 2, none⟩ = some (.int .u64 (bco a4 2)) ∧ w'.cell? ⟨gb315, 3, none⟩ = some (.int .u64 (bco a4 3)) ∧ w'.cell? ⟨gb315, 4, none⟩ = some (.int .u64 (bco a4 4)) ∧ w'.cell? ⟨gb315, 5, none⟩ = some (.int .u64 (bco a4 5)) ∧ w'.cell? ⟨gb315, 6, none⟩ = some (.int .u64 (bco a4 6)) ∧ w'.cell? ⟨gb315, 7, none⟩ = some (.int .u64 (bco a4 7))) (ds := []) (bv 32 0) (by kernel_rfl) rfl rfl ⟨bc0_ BK320.out, bc1_ BK320.out, bc2_ BK320.out, bc0_ BK325.out, bc1_ BK325.out, bc2_ BK325.out, bc0_ BK315.out, bc1_ BK315.out, bc2_ BK315.out, (blk_cell BK315.out 3).trans rfl, (blk_cell BK315.out 4).trans rfl, (blk_cell BK315.out 5).trans rfl, (blk_cell BK315.out 6).trans rfl, (blk_cell BK315.out 7).trans rfl⟩ (fun hHeld => ?_); refine with_tabW attestorlaw09_FoldPoints.tab3 attestorlaw09_FoldPoints.bits3 (fun HT_ HW_ => ?_)
 generalize w34.drew = w35 at BK314 BK315 BK320 BK325 HB hHeld ⊢
 refine pq_ 0 27 32 1 HT_.out ?_
 refine pq_ 2 29 32 5 HT_.out ?_
 refine oq_ 1 28 32 7 HT_.out fun K hK => ?_
 refine gs_ Tryd.func12 #[.int .i64 a1] ?_
 with_reducible refine (fold_Rounds.calls a1 t326 _ A9.out).mono ?_
 rintro e w36 ⟨rfl, hb⟩
 refine ⟨_, rfl, ?_⟩
 refine nx5_ (blk_below (kU_ BK314.out) hb) (blk_below (g := gb315) (o := .cells #[.int .u64 (bco a4 0), .int .u64 (bco a4 1), .int .u64 (bco a4 2), .int .u64 (bco a4 3), .int .u64 (bco a4 4), .int .u64 (bco a4 5), .int .u64 (bco a4 6), .int .u64 (bco a4 7)] 25 (0, 0)) (kU_ BK315.out) hb) (blk_below (kU_ BK320.out) hb) (blk_below (kU_ BK325.out) hb) (below_step sU_ hb) ?_
 clear BK314 BK315 BK320 BK325 HB
 intro BK314 BK315 BK320 BK325 HB
 (try clear hb)
 (try clear hb2)
 (try clear hk)
 (try clear hi)
 refine hK.out _ _ ⟨bc0_ BK320.out, bc1_ BK320.out, bc2_ BK320.out, bc0_ BK325.out, bc1_ BK325.out, bc2_ BK325.out, bc0_ BK315.out, bc1_ BK315.out, bc2_ BK315.out, (blk_cell BK315.out 3).trans rfl, (blk_cell BK315.out 4).trans rfl, (blk_cell BK315.out 5).trans rfl, (blk_cell BK315.out 6).trans rfl, (blk_cell BK315.out 7).trans rfl⟩ (fun hHeld => ?_)
 clear hK K
 refine norm_ (a' := ?_) ?_ ?_
 rotate_left
 ·show Act.put _ (some 28) _ = _
  simp only [Act.put, s1_, s2_, s3_, i64_w, i32_w]
  rfl
 refine oq_ 3 30 32 15 HT_.out fun K hK => ?_
 refine gs_ Tryd.func13 #[.int .i64 a1] ?_
 with_reducible refine (attestorref09_Rounds.calls a1 t327 _ A10.out).mono ?_
 rintro e w' ⟨rfl, ⟨nd, rfl⟩⟩
 refine ⟨_, rfl, ?_⟩
 refine hK.out _ _ ⟨bc0_ BK320.out, bc1_ BK320.out, bc2_ BK320.out, bc0_ BK325.out, bc1_ BK325.out, bc2_ BK325.out, bc0_ BK315.out, bc1_ BK315.out, bc2_ BK315.out, (blk_cell BK315.out 3).trans rfl, (blk_cell BK315.out 4).trans rfl, (blk_cell BK315.out 5).trans rfl, (blk_cell BK315.out 6).trans rfl, (blk_cell BK315.out 7).trans rfl⟩ (fun hHeld => ?_)
 clear hK K
 refine norm_ (a' := ?_) ?_ ?_
 rotate_left
 ·show Act.put _ (some 30) _ = _
  simp only [Act.put, s1_, s2_, s3_, i64_w, i32_w]
  rfl
 refine pq_ 4 31 32 31 HT_.out ?_
 refine pq_ 5 32 32 63 HT_.out ?_
 refine tq_ 6 33 32 127 HT_.out HW_.out hHeld ?_
 refine tq_ 7 34 32 255 HT_.out HW_.out hHeld ?_
 refine pq_ 8 35 32 511 HT_.out ?_
 refine pq_ 9 36 32 1023 HT_.out ?_
 refine pq_ 10 37 32 2047 HT_.out ?_
 refine pq_ 11 38 32 4095 HT_.out ?_
 refine pq_ 12 39 32 8191 HT_.out ?_
 refine pq_ 13 40 32 16383 HT_.out ?_
 refine pq_ 14 41 32 32767 HT_.out ?_
 refine pq_ 15 42 32 65535 HT_.out ?_
 refine pq_ 16 43 32 131071 HT_.out ?_
 refine pq_ 17 44 32 262143 HT_.out ?_
 refine pq_ 19 46 32 786431 HT_.out ?_
 refine pq_ 21 48 32 2883583 HT_.out ?_
 refine pq_ 22 49 32 7077887 HT_.out ?_
 refine pq_ 24 51 32 23855103 HT_.out ?_
 refine tq_ 18 45 32 24117247 HT_.out HW_.out hHeld ?_
 refine tq_ 23 50 32 32505855 HT_.out HW_.out hHeld ?_
 refine oq_ 20 47 32 33554431 HT_.out fun K hK => ?_
 refine gs_ Tryd.func14 #[.int .i64 a2, .int .u64 a3, .agg #[.int .u64 (bco a4 0), .int .u64 (bco a4 1), .int .u64 (bco a4 2), .int .u64 (bco a4 3), .int .u64 (bco a4 4), .int .u64 (bco a4 5), .int .u64 (bco a4 6), .int .u64 (bco a4 7)], .int .u64 a5] ?_
 with_reducible refine (fold_At.calls k a2 a3 a4 a5 t328 _ ?side1 A14.out).mono ?_
 (case side1 => repeat (first | with_reducible exact HG.out | with_reducible exact (Fld.below HG.out HB.out) | exact (Fld.below HG.out sU_) | (with_reducible refine Fld.alloc ?_ _) | (with_reducible refine Fld.drewN ?_ _) | (with_reducible refine Fld.drew ?_)))
 rintro e w37 ⟨rfl, hb⟩
 refine ⟨_, rfl, ?_⟩
 refine nx5_ (blk_below (kU_ BK314.out) hb) (blk_below (g := gb315) (o := .cells #[.int .u64 (bco a4 0), .int .u64 (bco a4 1), .int .u64 (bco a4 2), .int .u64 (bco a4 3), .int .u64 (bco a4 4), .int .u64 (bco a4 5), .int .u64 (bco a4 6), .int .u64 (bco a4 7)] 25 (0, 0)) (kU_ BK315.out) hb) (blk_below (kU_ BK320.out) hb) (blk_below (kU_ BK325.out) hb) (below_step sU_ hb) ?_
 clear BK314 BK315 BK320 BK325 HB
 intro BK314 BK315 BK320 BK325 HB
 (try clear hb)
 (try clear hb2)
 (try clear hk)
 (try clear hi)
 refine hK.out _ _ ⟨bc0_ BK320.out, bc1_ BK320.out, bc2_ BK320.out, bc0_ BK325.out, bc1_ BK325.out, bc2_ BK325.out, bc0_ BK315.out, bc1_ BK315.out, bc2_ BK315.out, (blk_cell BK315.out 3).trans rfl, (blk_cell BK315.out 4).trans rfl, (blk_cell BK315.out 5).trans rfl, (blk_cell BK315.out 6).trans rfl, (blk_cell BK315.out 7).trans rfl⟩ (fun hHeld => ?_)
 clear hK K
 refine norm_ (a' := ?_) ?_ ?_
 rotate_left
 ·show Act.put _ (some 47) _ = _
  simp only [Act.put, s1_, s2_, s3_, i64_w, i32_w]
  rfl
 refine oq_ 25 52 32 67108863 HT_.out fun K hK => ?_
 refine gs_ Tryd.func15 #[.int .i64 a2, .int .u64 a3, .agg #[.int .u64 (bco a4 0), .int .u64 (bco a4 1), .int .u64 (bco a4 2), .int .u64 (bco a4 3), .int .u64 (bco a4 4), .int .u64 (bco a4 5), .int .u64 (bco a4 6), .int .u64 (bco a4 7)], .int .u64 a5] ?_
 with_reducible refine (attestorref09_At.calls k a2 a3 a4 a5 t329 _ A15.out).mono ?_
 rintro e w38 ⟨rfl, hb⟩
 refine ⟨_, rfl, ?_⟩
 refine nx5_ (blk_below (kU_ BK314.out) hb) (blk_below (g := gb315) (o := .cells #[.int .u64 (bco a4 0), .int .u64 (bco a4 1), .int .u64 (bco a4 2), .int .u64 (bco a4 3), .int .u64 (bco a4 4), .int .u64 (bco a4 5), .int .u64 (bco a4 6), .int .u64 (bco a4 7)] 25 (0, 0)) (kU_ BK315.out) hb) (blk_below (kU_ BK320.out) hb) (blk_below (kU_ BK325.out) hb) (below_step sU_ hb) ?_
 clear BK314 BK315 BK320 BK325 HB
 intro BK314 BK315 BK320 BK325 HB
 (try clear hb)
 (try clear hb2)
 (try clear hk)
 (try clear hi)
 refine hK.out _ _ ⟨bc0_ BK320.out, bc1_ BK320.out, bc2_ BK320.out, bc0_ BK325.out, bc1_ BK325.out, bc2_ BK325.out, bc0_ BK315.out, bc1_ BK315.out, bc2_ BK315.out, (blk_cell BK315.out 3).trans rfl, (blk_cell BK315.out 4).trans rfl, (blk_cell BK315.out 5).trans rfl, (blk_cell BK315.out 6).trans rfl, (blk_cell BK315.out 7).trans rfl⟩ (fun hHeld => ?_)
 clear hK K
 refine norm_ (a' := ?_) ?_ ?_
 rotate_left
 ·show Act.put _ (some 52) _ = _
  simp only [Act.put, s1_, s2_, s3_, i64_w, i32_w]
  rfl
 refine pq_ 26 53 32 134217727 HT_.out ?_
 refine pq_ 27 54 32 268435455 HT_.out ?_
 refine pq_ 28 55 32 536870911 HT_.out ?_
 refine oq_ 29 56 32 1073741823 HT_.out fun K hK => ?_
 refine gs_ Tryd.func16 #[] ?_
 with_reducible refine (attestorlaw09_works.calls k  t330 _ ?side1 A17.out).mono ?_
 (case side1 => repeat (first | with_reducible exact HG.out | with_reducible exact (Fld.below HG.out HB.out) | exact (Fld.below HG.out sU_) | (with_reducible refine Fld.alloc ?_ _) | (with_reducible refine Fld.drewN ?_ _) | (with_reducible refine Fld.drew ?_)))
 rintro e w39 ⟨rfl, hb⟩
 refine ⟨_, rfl, ?_⟩
 refine nx5_ (blk_below (kU_ BK314.out) hb) (blk_below (g := gb315) (o := .cells #[.int .u64 (bco a4 0), .int .u64 (bco a4 1), .int .u64 (bco a4 2), .int .u64 (bco a4 3), .int .u64 (bco a4 4), .int .u64 (bco a4 5), .int .u64 (bco a4 6), .int .u64 (bco a4 7)] 25 (0, 0)) (kU_ BK315.out) hb) (blk_below (kU_ BK320.out) hb) (blk_below (kU_ BK325.out) hb) (below_step sU_ hb) ?_
 clear BK314 BK315 BK320 BK325 HB
 intro BK314 BK315 BK320 BK325 HB
 (try clear hb)
 (try clear hb2)
 (try clear hk)
 (try clear hi)
 refine hK.out _ _ ⟨bc0_ BK320.out, bc1_ BK320.out, bc2_ BK320.out, bc0_ BK325.out, bc1_ BK325.out, bc2_ BK325.out, bc0_ BK315.out, bc1_ BK315.out, bc2_ BK315.out, (blk_cell BK315.out 3).trans rfl, (blk_cell BK315.out 4).trans rfl, (blk_cell BK315.out 5).trans rfl, (blk_cell BK315.out 6).trans rfl, (blk_cell BK315.out 7).trans rfl⟩ (fun hHeld => ?_)
 clear hK K
 refine norm_ (a' := ?_) ?_ ?_
 rotate_left
 ·show Act.put _ (some 56) _ = _
  simp only [Act.put, s1_, s2_, s3_, i64_w, i32_w]
  rfl
 refine pq_ 30 57 32 2147483647 HT_.out ?_
 refine pq_ 31 12 32 4294967295 HT_.out ?_
 refine done_ (done_of HT_.out (by kernel_rfl)) ?_
 try go_wp2
 go_ret
 exact ⟨eW_, sU_⟩

end Go.Proofs.YthinfmfjpaikiaaDoor.Q

import Derived.Test.YtedapdagagkajaaDoorQ0
import Derived.Test.YtedapdagagkajaaDoorQ1
import Derived.Test.YtedapdagagkajaaDoorQ2
import Derived.Test.YtedapdagagkajaaDoorQ3
import Derived.Test.YtedapdagagkajaaDoorQ4
import Derived.Test.YtedapdagagkajaaDoorQ5
namespace Go.Proofs.YtedapdagagkajaaDoor.Q
open Go.RowKit Go.Proofs.YtedapdagagkajaaDoorW.PrintWords Go.Proofs.YtedapdagagkajaaDoorW.PrintLast Go.Proofs.YtedapdagagkajaaDoorW.PrintMore
open Kd (R_below R_mono R_types R_lower R_new' R_elder' R_base R_lt R_slice R_reads' R_lit V_below V_mono V_elder' V_mk C_below fresh' freshB R_drew V_drew)
attribute [local go_sem] max2_int min2_int max_two min_two max_three min_three max_four min_four   -- for this text's walks alone
attribute [local go_sem high] eqA8
set_option linter.unusedVariables false
set_option linter.unusedSimpArgs false

attribute [local go_sem high] eqA24
def attestorlaw05_works.f (k : Nat)  : Option (Bool) := (code_Wide.f 0 1 1).bind fun bt364 => ((code_Extend.f k 0 (([(([1, 96] : List Int)), (([3, 3] : List Int))] : List (List Int))) 1).bind fun bt378 => ((attestorlaw05_four.f).bind fun bt382 => ((code_Fill.f k bt382.1 bt382.2.1 bt382.2.2 (([5, 13, 0, 0] : List Int)) (([true, true, false, false] : List Bool)) 2).bind fun bt391 => (if bt364.2.2.2 = 0 then ((attestorlaw05_four.f).bind fun bt395 => (if (bt364.1 == bt395.1 && (bt364.2.1 == bt395.2.1 && (bt364.2.2.1 == bt395.2.2))) = true then (if bt378.2 = 0 then (if (bt378.1.length : Int) = 2 then (if 0 < (bt378.1.length : Int) then ((attestorlaw05_same.f k (rd_L1 bt378.1 0) (([5, 13, 92, 84] : List Int))).bind fun t402 => (if t402 = true then (if 1 < (bt378.1.length : Int) then ((attestorlaw05_same.f k (rd_L1 bt378.1 1) (([3, 3, 3, 3] : List Int))).bind fun t407 => (if t407 = true then (if bt391.2 = 0 then ((attestorlaw05_same.f k bt391.1 (([5, 13, 92, 84] : List Int))).bind fun t411 => (if t411 = true then ((attestorlaw05_four.f).bind fun bt412 => ((code_IsWord.f k bt412.1 bt412.2.1 bt412.2.2 bt391.1 2).bind fun t415 => (if t415 = true then ((attestorlaw05_four.f).bind fun bt416 => ((code_IsWord.f k bt416.1 bt416.2.1 bt416.2.2 bt391.1 1).bind fun t419 => (if t419 = true then (none) else ((code_Differ.f k 0 (([1, 2] : List Int)) (([98, 3] : List Int))).bind fun t426 => (if t426 = 1 then ((code_Local.f k 0 3 1 (([7, 7, 7, 7, 7, 7, 7, 7] : List Int)) 0).bind fun t430 => (some ((bco t430 0) == 7 && ((bco t430 1) == 0 && ((bco t430 2) == 0 && ((bco t430 3) == 0 && ((bco t430 4) == 0 && ((bco t430 5) == 0 && ((bco t430 6) == 0 && ((bco t430 7) == 0)))))))))) else (none)))))) else (none)))) else (none))) else (none)) else (none))) else (none)) else (none))) else (none)) else (none)) else (none)) else (none))) else (none)))))
theorem attestorlaw05_works.mono : ∀ k, LeO (attestorlaw05_works.f k ) (attestorlaw05_works.f (k + 1) ) := by
 intro  k
 unfold attestorlaw05_works.f
 with_reducible repeat' first | apply attestorlaw05_same.mono | apply code_Differ.mono | apply code_Extend.mono | apply code_Fill.mono | apply code_IsWord.mono | apply code_Local.mono | exact LeO.refl _ | exact LeO.none _ | refine LeO.ite ?_ ?_ | refine LeO.bind ?_ (fun _ => ?_)
def attestorlaw05_works.T4 : Bool × List (List Nat × List Nat) := (true, [([], []), ([0], [0]), ([1], [1]), ([2], [2]), ([2, 2], [2]), ([3, 4, 2], [2, 3, 4]), ([2, 5], [2, 5]), ([6, 4], [6]), ([7], [7]), ([8, 7], [7, 8]), ([7, 9], [7, 9]), ([10, 7], [10]), ([11], [11]), ([12, 11], [11, 12]), ([13, 11], [11, 13]), ([11, 14], [11, 14]), ([15, 11], [15]), ([16], [16]), ([17, 16], [16, 17]), ([18, 16], [16, 18]), ([16], [16]), ([19, 20, 16, 16], [16, 19, 20]), ([16, 21], [16, 21]), ([22, 21], [22]), ([23], [23]), ([24, 23], [23, 24]), ([25, 23], [23, 25]), ([23], [23]), ([26, 27, 23, 23], [23, 26, 27]), ([23, 28], [23, 28]), ([29, 28], [29]), ([30], [30]), ([31, 30], [30, 31]), ([30, 32], [30, 32]), ([33, 30], [33]), ([34], [34]), ([34], [34]), ([35, 36, 34, 34], [34, 35, 36]), ([34, 37], [34, 37]), ([38, 37], [38]), ([39, 39], [39]), ([39], [39]), ([40, 41, 40, 39], [39, 40, 41]), ([39, 42], [39, 42]), ([43, 42], [43]), ([44, 44], [44]), ([44], [44]), ([45, 46, 45, 44], [44, 45, 46]), ([47, 44], [44, 47]), ([44, 48], [44, 48]), ([49, 47], [49]), ([50], [50]), ([50], [50]), ([51, 52, 50, 50], [50, 51, 52]), ([53, 50], [50, 53]), ([50, 54], [50, 54]), ([55, 53], [55]), ([56], [56]), ([56], [56]), ([57, 58, 56, 56], [56, 57, 58]), ([56], [56]), ([59, 60, 56], [56, 59, 60]), ([56, 61], [56, 61]), ([62, 59, 0, 1, 2, 3, 4, 5, 6, 7, 8, 9, 10, 11, 12, 13, 14, 15, 16, 17, 18, 19, 20, 21, 22, 23, 24, 25, 26, 27, 28, 29, 30, 31, 32, 33, 34, 35, 36, 37, 38, 39, 40, 41, 42, 43, 44, 45, 46, 47, 48, 49, 50, 51, 52, 53, 54, 55, 56, 57, 58, 59, 60, 61, 62], [62])])
def attestorlaw05_works.B4 : List Nat := [0, 1, 3, 7, 7, 31, 63, 127, 255, 511, 1023, 2047, 4095, 8191, 16383, 32767, 65535, 131071, 262143, 524287, 131071, 2097151, 4194303, 8388607, 16777215, 33554431, 67108863, 16777215, 268435455, 536870911, 1073741823, 2147483647, 4294967295, 8589934591, 17179869183, 34359738367, 34359738367, 137438953471, 274877906943, 549755813887, 1099511627775, 1099511627775, 4398046511103, 8796093022207, 17592186044415, 35184372088831, 35184372088831, 140737488355327, 281474976710655, 562949953421311, 1125899906842623, 2251799813685247, 2251799813685247, 9007199254740991, 18014398509481983, 36028797018963967, 72057594037927935, 144115188075855871, 144115188075855871, 576460752303423487, 144115188075855871, 2305843009213693951, 4611686018427387903, 9223372036854775807]
theorem attestorlaw05_works.tab4 : rtab .any (opsOf Tryd.f23 4) = attestorlaw05_works.T4 := by kernel_rfl
theorem attestorlaw05_works.bits4 : waitsOk attestorlaw05_works.T4.2 attestorlaw05_works.B4 = true := by kernel_rfl
set_option maxHeartbeats 8000000 in
set_option maxRecDepth 100000 in
theorem attestorlaw05_works.calls (k : Nat)  (r : Bool) (w : World) (hG : Fld w) (h : attestorlaw05_works.f k  = some r) :
  Calls Tryd.prog 23 #[] w fun e w' => e = .returned (.bool r) ∧ Below w.heap.size w w' := by
 have hbA58_0 : ∀ (x0 : Int) (w : World), (Instr.build 58 #[(0, .int .u64 x0)]).run Tryd.prog w = .ok (.agg #[.int .u64 x0, .int .u64 0, .int .u64 0, .int .u64 0, .int .u64 0, .int .u64 0, .int .u64 0, .int .u64 0]) w := by intros; rfl
 have hu24 := Tryd.underlying24
 have HG := ak hG
 clear hG
 have HB := ak (Below.refl w.heap.size w)
 have H := h
 clear h
 unfold attestorlaw05_works.f at H
 revert H
 refine bd4_ fun t364 t365 t366 t367 A1 H => ?_
 try dsimp only at H
 obtain ⟨y369, hy369⟩ : ∃ y_ : List Int, y_ = (([1, 96] : List Int)) := ⟨_, rfl⟩
 replace H : ((code_Extend.f k 0 (([y369, (([3, 3] : List Int))] : List (List Int))) 1).bind fun bt378 => ((attestorlaw05_four.f).bind fun bt382 => ((code_Fill.f k bt382.1 bt382.2.1 bt382.2.2 (([5, 13, 0, 0] : List Int)) (([true, true, false, false] : List Bool)) 2).bind fun bt391 => (if t367 = 0 then ((attestorlaw05_four.f).bind fun bt395 => (if (t364 == bt395.1 && (t365 == bt395.2.1 && (t366 == bt395.2.2))) = true then (if bt378.2 = 0 then (if (bt378.1.length : Int) = 2 then (if 0 < (bt378.1.length : Int) then ((attestorlaw05_same.f k (rd_L1 bt378.1 0) (([5, 13, 92, 84] : List Int))).bind fun t402 => (if t402 = true then (if 1 < (bt378.1.length : Int) then ((attestorlaw05_same.f k (rd_L1 bt378.1 1) (([3, 3, 3, 3] : List Int))).bind fun t407 => (if t407 = true then (if bt391.2 = 0 then ((attestorlaw05_same.f k bt391.1 (([5, 13, 92, 84] : List Int))).bind fun t411 => (if t411 = true then ((attestorlaw05_four.f).bind fun bt412 => ((code_IsWord.f k bt412.1 bt412.2.1 bt412.2.2 bt391.1 2).bind fun t415 => (if t415 = true then ((attestorlaw05_four.f).bind fun bt416 => ((code_IsWord.f k bt416.1 bt416.2.1 bt416.2.2 bt391.1 1).bind fun t419 => (if t419 = true then (none) else ((code_Differ.f k 0 (([1, 2] : List Int)) (([98, 3] : List Int))).bind fun t426 => (if t426 = 1 then ((code_Local.f k 0 3 1 (([7, 7, 7, 7, 7, 7, 7, 7] : List Int)) 0).bind fun t430 => (some ((bco t430 0) == 7 && ((bco t430 1) == 0 && ((bco t430 2) == 0 && ((bco t430 3) == 0 && ((bco t430 4) == 0 && ((bco t430 5) == 0 && ((bco t430 6) == 0 && ((bco t430 7) == 0)))))))))) else (none)))))) else (none)))) else (none))) else (none)) else (none))) else (none)) else (none))) else (none)) else (none)) else (none)) else (none))) else (none))))) = some r := by first | (rw [hy369]; with_reducible exact H) | (have H2_ := (Option.bind_some _ _).symm.trans H; rw [hy369]; with_reducible exact H2_) | (have H2_ := (Option.bind_some _ _).symm.trans H; with_reducible exact H2_) | with_reducible exact H | (rw [hy369]; exact H) | exact H
 have Ny369 := ak hy369
 clear hy369
 obtain ⟨y372, hy372⟩ : ∃ y_ : List Int, y_ = (([3, 3] : List Int)) := ⟨_, rfl⟩
 replace H : ((code_Extend.f k 0 (([y369, y372] : List (List Int))) 1).bind fun bt378 => ((attestorlaw05_four.f).bind fun bt382 => ((code_Fill.f k bt382.1 bt382.2.1 bt382.2.2 (([5, 13, 0, 0] : List Int)) (([true, true, false, false] : List Bool)) 2).bind fun bt391 => (if t367 = 0 then ((attestorlaw05_four.f).bind fun bt395 => (if (t364 == bt395.1 && (t365 == bt395.2.1 && (t366 == bt395.2.2))) = true then (if bt378.2 = 0 then (if (bt378.1.length : Int) = 2 then (if 0 < (bt378.1.length : Int) then ((attestorlaw05_same.f k (rd_L1 bt378.1 0) (([5, 13, 92, 84] : List Int))).bind fun t402 => (if t402 = true then (if 1 < (bt378.1.length : Int) then ((attestorlaw05_same.f k (rd_L1 bt378.1 1) (([3, 3, 3, 3] : List Int))).bind fun t407 => (if t407 = true then (if bt391.2 = 0 then ((attestorlaw05_same.f k bt391.1 (([5, 13, 92, 84] : List Int))).bind fun t411 => (if t411 = true then ((attestorlaw05_four.f).bind fun bt412 => ((code_IsWord.f k bt412.1 bt412.2.1 bt412.2.2 bt391.1 2).bind fun t415 => (if t415 = true then ((attestorlaw05_four.f).bind fun bt416 => ((code_IsWord.f k bt416.1 bt416.2.1 bt416.2.2 bt391.1 1).bind fun t419 => (if t419 = true then (none) else ((code_Differ.f k 0 (([1, 2] : List Int)) (([98, 3] : List Int))).bind fun t426 => (if t426 = 1 then ((code_Local.f k 0 3 1 (([7, 7, 7, 7, 7, 7, 7, 7] : List Int)) 0).bind fun t430 => (some ((bco t430 0) == 7 && ((bco t430 1) == 0 && ((bco t430 2) == 0 && ((bco t430 3) == 0 && ((bco t430 4) == 0 && ((bco t430 5) == 0 && ((bco t430 6) == 0 && ((bco t430 7) == 0)))))))))) else (none)))))) else (none)))) else (none))) else (none)) else (none))) else (none)) else (none))) else (none)) else (none)) else (none)) else (none))) else (none))))) = some r := by first | (rw [hy372]; with_reducible exact H) | (have H2_ := (Option.bind_some _ _).symm.trans H; rw [hy372]; with_reducible exact H2_) | (have H2_ := (Option.bind_some _ _).symm.trans H; with_reducible exact H2_) | with_reducible exact H | (rw [hy372]; exact H) | exact H
 have Ny372 := ak hy372
 clear hy372
 obtain ⟨y375, hy375⟩ : ∃ y_ : List (List Int), y_ = (([y369, y372] : List (List Int))) := ⟨_, rfl⟩
 replace H : ((code_Extend.f k 0 y375 1).bind fun bt378 => ((attestorlaw05_four.f).bind fun bt382 => ((code_Fill.f k bt382.1 bt382.2.1 bt382.2.2 (([5, 13, 0, 0] : List Int)) (([true, true, false, false] : List Bool)) 2).bind fun bt391 => (if t367 = 0 then ((attestorlaw05_four.f).bind fun bt395 => (if (t364 == bt395.1 && (t365 == bt395.2.1 && (t366 == bt395.2.2))) = true then (if bt378.2 = 0 then (if (bt378.1.length : Int) = 2 then (if 0 < (bt378.1.length : Int) then ((attestorlaw05_same.f k (rd_L1 bt378.1 0) (([5, 13, 92, 84] : List Int))).bind fun t402 => (if t402 = true then (if 1 < (bt378.1.length : Int) then ((attestorlaw05_same.f k (rd_L1 bt378.1 1) (([3, 3, 3, 3] : List Int))).bind fun t407 => (if t407 = true then (if bt391.2 = 0 then ((attestorlaw05_same.f k bt391.1 (([5, 13, 92, 84] : List Int))).bind fun t411 => (if t411 = true then ((attestorlaw05_four.f).bind fun bt412 => ((code_IsWord.f k bt412.1 bt412.2.1 bt412.2.2 bt391.1 2).bind fun t415 => (if t415 = true then ((attestorlaw05_four.f).bind fun bt416 => ((code_IsWord.f k bt416.1 bt416.2.1 bt416.2.2 bt391.1 1).bind fun t419 => (if t419 = true then (none) else ((code_Differ.f k 0 (([1, 2] : List Int)) (([98, 3] : List Int))).bind fun t426 => (if t426 = 1 then ((code_Local.f k 0 3 1 (([7, 7, 7, 7, 7, 7, 7, 7] : List Int)) 0).bind fun t430 => (some ((bco t430 0) == 7 && ((bco t430 1) == 0 && ((bco t430 2) == 0 && ((bco t430 3) == 0 && ((bco t430 4) == 0 && ((bco t430 5) == 0 && ((bco t430 6) == 0 && ((bco t430 7) == 0)))))))))) else (none)))))) else (none)))) else (none))) else (none)) else (none))) else (none)) else (none))) else (none)) else (none)) else (none)) else (none))) else (none))))) = some r := by first | (rw [hy375]; with_reducible exact H) | (have H2_ := (Option.bind_some _ _).symm.trans H; rw [hy375]; with_reducible exact H2_) | (have H2_ := (Option.bind_some _ _).symm.trans H; with_reducible exact H2_) | with_reducible exact H | (rw [hy375]; exact H) | exact H
 have Ny375 := ak hy375
 clear hy375
 revert H
 refine bd2_ fun t378 t379 A2 H => ?_
 try dsimp only at H
 revert H
 refine bd3_ fun t382 t383 t384 A3 H => ?_
 try dsimp only at H
 obtain ⟨y385, hy385⟩ : ∃ y_ : List Int, y_ = (([5, 13, 0, 0] : List Int)) := ⟨_, rfl⟩
 replace H : ((code_Fill.f k t382 t383 t384 y385 (([true, true, false, false] : List Bool)) 2).bind fun bt391 => (if t367 = 0 then ((attestorlaw05_four.f).bind fun bt395 => (if (t364 == bt395.1 && (t365 == bt395.2.1 && (t366 == bt395.2.2))) = true then (if t379 = 0 then (if (t378.length : Int) = 2 then (if 0 < (t378.length : Int) then ((attestorlaw05_same.f k (rd_L1 t378 0) (([5, 13, 92, 84] : List Int))).bind fun t402 => (if t402 = true then (if 1 < (t378.length : Int) then ((attestorlaw05_same.f k (rd_L1 t378 1) (([3, 3, 3, 3] : List Int))).bind fun t407 => (if t407 = true then (if bt391.2 = 0 then ((attestorlaw05_same.f k bt391.1 (([5, 13, 92, 84] : List Int))).bind fun t411 => (if t411 = true then ((attestorlaw05_four.f).bind fun bt412 => ((code_IsWord.f k bt412.1 bt412.2.1 bt412.2.2 bt391.1 2).bind fun t415 => (if t415 = true then ((attestorlaw05_four.f).bind fun bt416 => ((code_IsWord.f k bt416.1 bt416.2.1 bt416.2.2 bt391.1 1).bind fun t419 => (if t419 = true then (none) else ((code_Differ.f k 0 (([1, 2] : List Int)) (([98, 3] : List Int))).bind fun t426 => (if t426 = 1 then ((code_Local.f k 0 3 1 (([7, 7, 7, 7, 7, 7, 7, 7] : List Int)) 0).bind fun t430 => (some ((bco t430 0) == 7 && ((bco t430 1) == 0 && ((bco t430 2) == 0 && ((bco t430 3) == 0 && ((bco t430 4) == 0 && ((bco t430 5) == 0 && ((bco t430 6) == 0 && ((bco t430 7) == 0)))))))))) else (none)))))) else (none)))) else (none))) else (none)) else (none))) else (none)) else (none))) else (none)) else (none)) else (none)) else (none))) else (none))) = some r := by first | (rw [hy385]; with_reducible exact H) | (have H2_ := (Option.bind_some _ _).symm.trans H; rw [hy385]; with_reducible exact H2_) | (have H2_ := (Option.bind_some _ _).symm.trans H; with_reducible exact H2_) | with_reducible exact H | (rw [hy385]; exact H) | exact H
 have Ny385 := ak hy385
 clear hy385
 obtain ⟨y388, hy388⟩ : ∃ y_ : List Bool, y_ = (([true, true, false, false] : List Bool)) := ⟨_, rfl⟩
 replace H : ((code_Fill.f k t382 t383 t384 y385 y388 2).bind fun bt391 => (if t367 = 0 then ((attestorlaw05_four.f).bind fun bt395 => (if (t364 == bt395.1 && (t365 == bt395.2.1 && (t366 == bt395.2.2))) = true then (if t379 = 0 then (if (t378.length : Int) = 2 then (if 0 < (t378.length : Int) then ((attestorlaw05_same.f k (rd_L1 t378 0) (([5, 13, 92, 84] : List Int))).bind fun t402 => (if t402 = true then (if 1 < (t378.length : Int) then ((attestorlaw05_same.f k (rd_L1 t378 1) (([3, 3, 3, 3] : List Int))).bind fun t407 => (if t407 = true then (if bt391.2 = 0 then ((attestorlaw05_same.f k bt391.1 (([5, 13, 92, 84] : List Int))).bind fun t411 => (if t411 = true then ((attestorlaw05_four.f).bind fun bt412 => ((code_IsWord.f k bt412.1 bt412.2.1 bt412.2.2 bt391.1 2).bind fun t415 => (if t415 = true then ((attestorlaw05_four.f).bind fun bt416 => ((code_IsWord.f k bt416.1 bt416.2.1 bt416.2.2 bt391.1 1).bind fun t419 => (if t419 = true then (none) else ((code_Differ.f k 0 (([1, 2] : List Int)) (([98, 3] : List Int))).bind fun t426 => (if t426 = 1 then ((code_Local.f k 0 3 1 (([7, 7, 7, 7, 7, 7, 7, 7] : List Int)) 0).bind fun t430 => (some ((bco t430 0) == 7 && ((bco t430 1) == 0 && ((bco t430 2) == 0 && ((bco t430 3) == 0 && ((bco t430 4) == 0 && ((bco t430 5) == 0 && ((bco t430 6) == 0 && ((bco t430 7) == 0)))))))))) else (none)))))) else (none)))) else (none))) else (none)) else (none))) else (none)) else (none))) else (none)) else (none)) else (none)) else (none))) else (none))) = some r := by first | (rw [hy388]; with_reducible exact H) | (have H2_ := (Option.bind_some _ _).symm.trans H; rw [hy388]; with_reducible exact H2_) | (have H2_ := (Option.bind_some _ _).symm.trans H; with_reducible exact H2_) | with_reducible exact H | (rw [hy388]; exact H) | exact H
 have Ny388 := ak hy388
 clear hy388
 revert H
 refine bd2_ fun t391 t394 A4 H => ?_
 try dsimp only at H
 obtain ⟨c5, H⟩ : (t367 = 0) ∧ _ := it_ H
 have c5b0 := beq_iff_eq.mpr c5
 have c5b1 := bne_eq_false_iff_eq.mpr c5
 clear c5
 revert H
 refine bd3_ fun t395 t396 t397 A6 H => ?_
 try dsimp only at H
 obtain ⟨c7, H⟩ : ((t364 == t395 && (t365 == t396 && (t366 == t397))) = true) ∧ _ := it_ H
 have c7b0 : (t364 == t395 && (t365 == t396 && (t366 == t397))) = true := c7
 (try (have c7b1 : decide (t364 = t395 && (t365 == t396 && (t366 == t397))) = true := by simpa using c7))
 (try (have c7b2 : (t364 == t395 && (t365 == t396 && (t366 == t397))) = true := by simpa using c7))
 clear c7
 obtain ⟨c8, H⟩ : (t379 = 0) ∧ _ := it_ H
 have c8b0 := beq_iff_eq.mpr c8
 have c8b1 := bne_eq_false_iff_eq.mpr c8
 clear c8
 obtain ⟨c9, H⟩ : ((t378.length : Int) = 2) ∧ _ := it_ H
 have c9b0 := beq_iff_eq.mpr c9
 have c9b1 := bne_eq_false_iff_eq.mpr c9
 clear c9
 obtain ⟨c10, H⟩ : (0 < (t378.length : Int)) ∧ _ := it_ H
 have c10b0 := decide_eq_true c10
 have c10b1 : decide (0 < t378.length) = true := decide_eq_true (by omega)
 clear c10
 obtain ⟨y399, hy399⟩ : ∃ y_ : List Int, y_ = (([5, 13, 92, 84] : List Int)) := ⟨_, rfl⟩
 replace H : ((attestorlaw05_same.f k (rd_L1 t378 0) y399).bind fun t402 => (if t402 = true then (if 1 < (t378.length : Int) then ((attestorlaw05_same.f k (rd_L1 t378 1) (([3, 3, 3, 3] : List Int))).bind fun t407 => (if t407 = true then (if t394 = 0 then ((attestorlaw05_same.f k t391 (([5, 13, 92, 84] : List Int))).bind fun t411 => (if t411 = true then ((attestorlaw05_four.f).bind fun bt412 => ((code_IsWord.f k bt412.1 bt412.2.1 bt412.2.2 t391 2).bind fun t415 => (if t415 = true then ((attestorlaw05_four.f).bind fun bt416 => ((code_IsWord.f k bt416.1 bt416.2.1 bt416.2.2 t391 1).bind fun t419 => (if t419 = true then (none) else ((code_Differ.f k 0 (([1, 2] : List Int)) (([98, 3] : List Int))).bind fun t426 => (if t426 = 1 then ((code_Local.f k 0 3 1 (([7, 7, 7, 7, 7, 7, 7, 7] : List Int)) 0).bind fun t430 => (some ((bco t430 0) == 7 && ((bco t430 1) == 0 && ((bco t430 2) == 0 && ((bco t430 3) == 0 && ((bco t430 4) == 0 && ((bco t430 5) == 0 && ((bco t430 6) == 0 && ((bco t430 7) == 0)))))))))) else (none)))))) else (none)))) else (none))) else (none)) else (none))) else (none)) else (none))) = some r := by first | (rw [hy399]; with_reducible exact H) | (have H2_ := (Option.bind_some _ _).symm.trans H; rw [hy399]; with_reducible exact H2_) | (have H2_ := (Option.bind_some _ _).symm.trans H; with_reducible exact H2_) | with_reducible exact H | (rw [hy399]; exact H) | exact H
 have Ny399 := ak hy399
 clear hy399
 revert H
 refine bd_ fun t402 A11 H => ?_
 by_cases c12 : t402 = true
 ·subst c12
  rw [if_pos rfl] at H
  obtain ⟨c13, H⟩ : (1 < (t378.length : Int)) ∧ _ := it_ H
  have c13b0 := decide_eq_true c13
  have c13b1 : decide (1 < t378.length) = true := decide_eq_true (by omega)
  clear c13
  obtain ⟨y404, hy404⟩ : ∃ y_ : List Int, y_ = (([3, 3, 3, 3] : List Int)) := ⟨_, rfl⟩
  replace H : ((attestorlaw05_same.f k (rd_L1 t378 1) y404).bind fun t407 => (if t407 = true then (if t394 = 0 then ((attestorlaw05_same.f k t391 (([5, 13, 92, 84] : List Int))).bind fun t411 => (if t411 = true then ((attestorlaw05_four.f).bind fun bt412 => ((code_IsWord.f k bt412.1 bt412.2.1 bt412.2.2 t391 2).bind fun t415 => (if t415 = true then ((attestorlaw05_four.f).bind fun bt416 => ((code_IsWord.f k bt416.1 bt416.2.1 bt416.2.2 t391 1).bind fun t419 => (if t419 = true then (none) else ((code_Differ.f k 0 (([1, 2] : List Int)) (([98, 3] : List Int))).bind fun t426 => (if t426 = 1 then ((code_Local.f k 0 3 1 (([7, 7, 7, 7, 7, 7, 7, 7] : List Int)) 0).bind fun t430 => (some ((bco t430 0) == 7 && ((bco t430 1) == 0 && ((bco t430 2) == 0 && ((bco t430 3) == 0 && ((bco t430 4) == 0 && ((bco t430 5) == 0 && ((bco t430 6) == 0 && ((bco t430 7) == 0)))))))))) else (none)))))) else (none)))) else (none))) else (none)) else (none))) = some r := by first | (rw [hy404]; with_reducible exact H) | (have H2_ := (Option.bind_some _ _).symm.trans H; rw [hy404]; with_reducible exact H2_) | (have H2_ := (Option.bind_some _ _).symm.trans H; with_reducible exact H2_) | with_reducible exact H | (rw [hy404]; exact H) | exact H
  have Ny404 := ak hy404
  clear hy404
  revert H
  refine bd_ fun t407 A14 H => ?_
  by_cases c15 : t407 = true
  ·subst c15
   rw [if_pos rfl] at H
   obtain ⟨c16, H⟩ : (t394 = 0) ∧ _ := it_ H
   have c16b0 := beq_iff_eq.mpr c16
   have c16b1 := bne_eq_false_iff_eq.mpr c16
   clear c16
   obtain ⟨y408, hy408⟩ : ∃ y_ : List Int, y_ = (([5, 13, 92, 84] : List Int)) := ⟨_, rfl⟩
   replace H : ((attestorlaw05_same.f k t391 y408).bind fun t411 => (if t411 = true then ((attestorlaw05_four.f).bind fun bt412 => ((code_IsWord.f k bt412.1 bt412.2.1 bt412.2.2 t391 2).bind fun t415 => (if t415 = true then ((attestorlaw05_four.f).bind fun bt416 => ((code_IsWord.f k bt416.1 bt416.2.1 bt416.2.2 t391 1).bind fun t419 => (if t419 = true then (none) else ((code_Differ.f k 0 (([1, 2] : List Int)) (([98, 3] : List Int))).bind fun t426 => (if t426 = 1 then ((code_Local.f k 0 3 1 (([7, 7, 7, 7, 7, 7, 7, 7] : List Int)) 0).bind fun t430 => (some ((bco t430 0) == 7 && ((bco t430 1) == 0 && ((bco t430 2) == 0 && ((bco t430 3) == 0 && ((bco t430 4) == 0 && ((bco t430 5) == 0 && ((bco t430 6) == 0 && ((bco t430 7) == 0)))))))))) else (none)))))) else (none)))) else (none))) = some r := by first | (rw [hy408]; with_reducible exact H) | (have H2_ := (Option.bind_some _ _).symm.trans H; rw [hy408]; with_reducible exact H2_) | (have H2_ := (Option.bind_some _ _).symm.trans H; with_reducible exact H2_) | with_reducible exact H | (rw [hy408]; exact H) | exact H
   have Ny408 := ak hy408
   clear hy408
   revert H
   refine bd_ fun t411 A17 H => ?_
   by_cases c18 : t411 = true
   ·subst c18
    rw [if_pos rfl] at H
    revert H
    refine bd3_ fun t412 t413 t414 A19 H => ?_
    try dsimp only at H
    revert H
    refine bd_ fun t415 A20 H => ?_
    by_cases c21 : t415 = true
    ·subst c21
     rw [if_pos rfl] at H
     revert H
     refine bd3_ fun t416 t417 t418 A22 H => ?_
     try dsimp only at H
     revert H
     refine bd_ fun t419 A23 H => ?_
     by_cases c24 : t419 = true
     ·subst c24
      rw [if_pos rfl] at H
      exact absurd H (by simp)
     replace c24 := Bool.eq_false_iff.mpr c24
     subst c24
     rw [if_neg (show ¬ (false = true) by decide)] at H
     obtain ⟨y420, hy420⟩ : ∃ y_ : List Int, y_ = (([1, 2] : List Int)) := ⟨_, rfl⟩
     replace H : ((code_Differ.f k 0 y420 (([98, 3] : List Int))).bind fun t426 => (if t426 = 1 then ((code_Local.f k 0 3 1 (([7, 7, 7, 7, 7, 7, 7, 7] : List Int)) 0).bind fun t430 => (some ((bco t430 0) == 7 && ((bco t430 1) == 0 && ((bco t430 2) == 0 && ((bco t430 3) == 0 && ((bco t430 4) == 0 && ((bco t430 5) == 0 && ((bco t430 6) == 0 && ((bco t430 7) == 0)))))))))) else (none))) = some r := by first | (rw [hy420]; with_reducible exact H) | (have H2_ := (Option.bind_some _ _).symm.trans H; rw [hy420]; with_reducible exact H2_) | (have H2_ := (Option.bind_some _ _).symm.trans H; with_reducible exact H2_) | with_reducible exact H | (rw [hy420]; exact H) | exact H
     have Ny420 := ak hy420
     clear hy420
     obtain ⟨y423, hy423⟩ : ∃ y_ : List Int, y_ = (([98, 3] : List Int)) := ⟨_, rfl⟩
     replace H : ((code_Differ.f k 0 y420 y423).bind fun t426 => (if t426 = 1 then ((code_Local.f k 0 3 1 (([7, 7, 7, 7, 7, 7, 7, 7] : List Int)) 0).bind fun t430 => (some ((bco t430 0) == 7 && ((bco t430 1) == 0 && ((bco t430 2) == 0 && ((bco t430 3) == 0 && ((bco t430 4) == 0 && ((bco t430 5) == 0 && ((bco t430 6) == 0 && ((bco t430 7) == 0)))))))))) else (none))) = some r := by first | (rw [hy423]; with_reducible exact H) | (have H2_ := (Option.bind_some _ _).symm.trans H; rw [hy423]; with_reducible exact H2_) | (have H2_ := (Option.bind_some _ _).symm.trans H; with_reducible exact H2_) | with_reducible exact H | (rw [hy423]; exact H) | exact H
     have Ny423 := ak hy423
     clear hy423
     revert H
     refine bd_ fun t426 A25 H => ?_
     obtain ⟨c26, H⟩ : (t426 = 1) ∧ _ := it_ H
     have c26b0 := beq_iff_eq.mpr c26
     have c26b1 := bne_eq_false_iff_eq.mpr c26
     clear c26
     obtain ⟨y427, hy427⟩ : ∃ y_ : List Int, y_ = (([7, 7, 7, 7, 7, 7, 7, 7] : List Int)) := ⟨_, rfl⟩
     replace H : ((code_Local.f k 0 3 1 y427 0).bind fun t430 => (some ((bco t430 0) == 7 && ((bco t430 1) == 0 && ((bco t430 2) == 0 && ((bco t430 3) == 0 && ((bco t430 4) == 0 && ((bco t430 5) == 0 && ((bco t430 6) == 0 && ((bco t430 7) == 0)))))))))) = some r := by first | (rw [hy427]; with_reducible exact H) | (have H2_ := (Option.bind_some _ _).symm.trans H; rw [hy427]; with_reducible exact H2_) | (have H2_ := (Option.bind_some _ _).symm.trans H; with_reducible exact H2_) | with_reducible exact H | (rw [hy427]; exact H) | exact H
     have Ny427 := ak hy427
     clear hy427
     revert H
     refine bd_ fun t430 A27 H => ?_
     obtain rfl := Option.some.inj H
     go_enter Tryd.func23, Tryd.ntmps23
     try go_wp2_with (first | ((with_reducible refine gate_callee (f := 17) rfl ?_); refine gl_ (some 8) Tryd.func17 #[.int .i64 0, .int .i64 1, .int .i64 1] ?_; (with_reducible refine (code_Wide.calls 0 1 1 t364 t365 t366 t367 _ ?side1 A1.out).mono ?_); (case side1 => exact fU_ HG.out HB.out); rintro e w28 ⟨rfl, hb⟩; refine ⟨_, rfl, ?_⟩; refine nx1_ (below_step (bU_ HB.out) hb) ?_; clear HB; intro HB; clear hb) | ((with_reducible refine gate_dst (N := 1) rfl ?_); (try (refine gate_guard (by rfl) ?_; dsimp only)); refine bx_ 1 24 #[.int .i64 0, .int .i64 0, .int .u64 0] ?_; intro gb368 hg w29 hbox hb; refine nx4_ (below_step (bU_ HB.out) hb) (hbox) ((hs_ hg (below_size (bU_ HB.out)))) ((hs_ hg (below_size (bU_ HB.out)))) ?_; clear HB; intro HB BK368 GW368 GE368; clear hb hbox hg; have hcz30_0 := bc0_ BK368.out; have hcz30_1 := bc1_ BK368.out; have hcz30_2 := bc2_ BK368.out; have hfz30_0 := blk_frozen BK368.out 0; have hfz30_1 := blk_frozen BK368.out 1; have hfz30_2 := blk_frozen BK368.out 2) | ((with_reducible refine gate_dst (N := 12) rfl ?_); (try (refine gate_guard (by rfl) ?_; dsimp only)); refine R_lit (Kd.int .u64) _ 22 ?hg (N := 12) ?hd (xs := ([1, 96] : List Int)) (inner := [.int .u64 1, .int .u64 96]) (ok := fun _ => True) (okp := fun _ => True) ?hr ?hp (fun _ hk => hk) trivial (Below.refl _ _) (Nat.le_refl _) (by simp) ?_; (case hd => rfl); (case hg => rfl); (case hr => first | (go_simp; done) | (go_simp; rfl)); (case hp => exact (Reps.one (show Kd.M (Kd.int .u64) _ _ _ 1 [.int .u64 1] from rfl) (Reps.one (show Kd.M (Kd.int .u64) _ _ _ 96 [.int .u64 96] from rfl) (Reps.none _ _)))); intro v370 w31 ho32 hb hg_ hnew_; clear hg_ hnew_; (first | rw [← Ny369.out] at ho32 | (simp only [Int.reduceToNat] at ho32; rw [← Ny369.out] at ho32)); refine nx3_ (R_lower ho32 (below_size sU_)) (blk_below (g := gb368) (o := .cells #[.int .i64 t364, .int .i64 t365, .int .u64 t366] 24 (0, 0)) kp_ hb) (below_step sU_ hb) ?_; clear BK368 HB; intro HO371 BK368 HB; clear hb ho32) | ((with_reducible refine gate_dst (N := 13) rfl ?_); (try (refine gate_guard (by rfl) ?_; dsimp only)); refine R_lit (Kd.int .u64) _ 22 ?hg (N := 13) ?hd (xs := ([3, 3] : List Int)) (inner := [.int .u64 3, .int .u64 3]) (ok := fun _ => True) (okp := fun _ => True) ?hr ?hp (fun _ hk => hk) trivial (Below.refl _ _) (Nat.le_refl _) (by simp) ?_; (case hd => rfl); (case hg => rfl); (case hr => first | (go_simp; done) | (go_simp; rfl)); (case hp => exact (Reps.one (show Kd.M (Kd.int .u64) _ _ _ 3 [.int .u64 3] from rfl) (Reps.one (show Kd.M (Kd.int .u64) _ _ _ 3 [.int .u64 3] from rfl) (Reps.none _ _)))); intro v373 w33 ho34 hb hg_ hnew_; clear hg_ hnew_; (first | rw [← Ny372.out] at ho34 | (simp only [Int.reduceToNat] at ho34; rw [← Ny372.out] at ho34)); refine nx4_ (R_elder' (rU_ HO371.out) (R_base ho34) hb) (R_lower (R_new' ho34 (R_lt (rU_ HO371.out))) (below_size sU_)) (blk_below (kU_ BK368.out) hb) (below_step sU_ hb) ?_; clear HO371 BK368 HB; intro HO371 HO374 BK368 HB; clear hb ho34; obtain ⟨Ao35, co35, eo35⟩ := R_slice HO371.out; subst eo35; obtain ⟨Ao36, co36, eo36⟩ := R_slice HO374.out; subst eo36) | ((with_reducible refine gate_dst (N := 14) rfl ?_); (try (refine gate_guard (by rfl) ?_; dsimp only)); refine Kd.N_lit (Kd.slice 22 (Kd.int .u64)) _ 33 ?hg (N' := 14) ?hd (xs := ([y369, y372] : List (List Int))) (inner := [.slice Ao35 y369.length co35, .slice Ao36 y372.length co36]) (ok := (fun k_ => k_ ≠ gb368)) (okp := (fun k_ => k_ ≠ gb368)) ?hr ?hp (fun _ hk => hk) ((show ∀ k_, w33.heap.size ≤ k_ → (fun k_ => k_ ≠ gb368) k_ from fun k_ hk => freshB (kU_ BK368.out) k_ hk) _ (Nat.le_refl _)) (Below.refl _ _) (Nat.le_refl _) (by simp) ?_; (case hd => rfl); (case hg => rfl); (case hr => first | (go_simp; done) | (go_simp; rfl)); (case hp => exact (Reps.one (show Kd.FK (Kd.slice 22 (Kd.int .u64)) _ _ y369 [.slice Ao35 y369.length co35] from (Kd.FK_slice_mk (R_reads' (R_mono (ok' := (fun k_ => k_ ≠ gb368)) (R_types (HO371.out) BK368.out (by decide)) (fun k_ hk => hk.2))).2.1 (Kd.R_F (R_mono (ok' := (fun k_ => k_ ≠ gb368)) (R_types (HO371.out) BK368.out (by decide)) (fun k_ hk => hk.2))))) (Reps.one (show Kd.FK (Kd.slice 22 (Kd.int .u64)) _ _ y372 [.slice Ao36 y372.length co36] from (Kd.FK_slice_mk (R_reads' (R_mono (ok' := (fun k_ => k_ ≠ gb368)) (R_types (HO374.out) BK368.out (by decide)) (fun k_ hk => hk.2))).2.1 (Kd.R_F (R_mono (ok' := (fun k_ => k_ ≠ gb368)) (R_types (HO374.out) BK368.out (by decide)) (fun k_ hk => hk.2))))) (Reps.none _ _)))); intro v376 w37 ho38 hb hg_ hnew_; clear hg_ hnew_; (first | rw [← Ny375.out] at ho38 | (simp only [Int.reduceToNat] at ho38; rw [← Ny375.out] at ho38)); refine nx3_ (Kd.N_lower ho38 (below_size sU_)) (blk_below (kU_ BK368.out) hb) (below_step sU_ hb) ?_; clear BK368 HB HO371 HO374; intro HO377 BK368 HB; clear hb ho38; obtain ⟨Ao39, co39, eo39⟩ := Kd.N_slice HO377.out; subst eo39) | ((with_reducible refine gate_callee (f := 25) rfl ?_); refine gl_ (some 15) Tryd.func25 #[.int .i64 0, .slice Ao39 y375.length co39, .int .i64 1] ?_; (with_reducible refine (code_Extend.calls k 0 _ _ y375 1 t378 t379 _ ?side1 ?side2 ?side3 A2.out).mono ?_); (case side1 => repeat (first | with_reducible exact HG.out | with_reducible exact (Fld.below HG.out HB.out) | exact (Fld.below HG.out sU_) | (with_reducible refine Fld.alloc ?_ _) | (with_reducible refine Fld.drewN ?_ _) | (with_reducible refine Fld.drew ?_))); (case side2 => exact cU_ ((Kd.N_reads' HO377.out).2.2)); (case side3 => exact (Kd.N_reads' HO377.out).2.1); rintro e w40 ⟨v380, rfl, ho0, hb⟩; refine ⟨_, rfl, ?_⟩; refine nx4_ (Kd.N_elder' (by (with_reducible repeat (first | apply Kd.N_alloc | apply Kd.N_drewN | apply Kd.N_drew)); exact HO377.out) (by first | exact Kd.S_base ho0 | exact Kd.N_base ho0) hb) (Kd.N_lower (Kd.N_mono (ok' := fun k_ => some k_ ≠ (.slice Ao39 y375.length co39 : Value).ownBlock ∧ k_ ≠ gb368) (Kd.S_N (Kd.S_bound ho0)) (fun k_ hk_ => ⟨(fresh' (Kd.N_lt (by (with_reducible repeat (first | apply Kd.N_alloc | apply Kd.N_drewN | apply Kd.N_drew)); exact HO377.out)) k_ hk_.2.1), (freshB (kU_ BK368.out) k_ hk_.2.1)⟩)) (below_size sU_)) (blk_below (kU_ BK368.out) hb) (below_step sU_ hb) ?_; clear HO377 BK368 HB; intro HO377 HO381 BK368 HB; clear hb ho0) | ((with_reducible refine gate_callee (f := 44) rfl ?_); refine gl_ (some 19) Tryd.func44 #[] ?_; (with_reducible refine (attestorlaw05_four.calls  t382 t383 t384 _ A3.out).mono ?_); rintro e w41 ⟨rfl, hb⟩; refine ⟨_, rfl, ?_⟩; refine nx4_ (Kd.N_below (by (with_reducible repeat (first | apply Kd.N_alloc | apply Kd.N_drewN | apply Kd.N_drew)); exact HO377.out) hb) (Kd.N_below (by (with_reducible repeat (first | apply Kd.N_alloc | apply Kd.N_drewN | apply Kd.N_drew)); exact HO381.out) hb) (blk_below (kU_ BK368.out) hb) (below_step sU_ hb) ?_; clear HO377 HO381 BK368 HB; intro HO377 HO381 BK368 HB; clear hb) | ((with_reducible refine gate_dst (N := 20) rfl ?_); (try (refine gate_guard (by rfl) ?_; dsimp only)); refine R_lit (Kd.int .u64) _ 22 ?hg (N := 20) ?hd (xs := ([5, 13, 0, 0] : List Int)) (inner := [.int .u64 5, .int .u64 13, .int .u64 0, .int .u64 0]) (ok := fun _ => True) (okp := fun _ => True) ?hr ?hp (fun _ hk => hk) trivial (Below.refl _ _) (Nat.le_refl _) (by simp) ?_; (case hd => rfl); (case hg => rfl); (case hr => first | (go_simp; done) | (go_simp; rfl)); (case hp => exact (Reps.one (show Kd.M (Kd.int .u64) _ _ _ 5 [.int .u64 5] from rfl) (Reps.one (show Kd.M (Kd.int .u64) _ _ _ 13 [.int .u64 13] from rfl) (Reps.one (show Kd.M (Kd.int .u64) _ _ _ 0 [.int .u64 0] from rfl) (Reps.one (show Kd.M (Kd.int .u64) _ _ _ 0 [.int .u64 0] from rfl) (Reps.none _ _)))))); intro v386 w42 ho43 hb hg_ hnew_; clear hg_ hnew_; (first | rw [← Ny385.out] at ho43 | (simp only [Int.reduceToNat] at ho43; rw [← Ny385.out] at ho43)); refine nx5_ (Kd.N_elder' (by (with_reducible repeat (first | apply Kd.N_alloc | apply Kd.N_drewN | apply Kd.N_drew)); exact HO377.out) (R_base ho43) hb) (Kd.N_elder' (by (with_reducible repeat (first | apply Kd.N_alloc | apply Kd.N_drewN | apply Kd.N_drew)); exact HO381.out) (R_base ho43) hb) (R_lower ho43 (below_size sU_)) (blk_below (kU_ BK368.out) hb) (below_step sU_ hb) ?_; clear HO377 HO381 BK368 HB; intro HO377 HO381 HO387 BK368 HB; clear hb ho43) | ((with_reducible refine gate_dst (N := 21) rfl ?_); (try (refine gate_guard (by rfl) ?_; dsimp only)); refine R_lit Kd.bool _ 4 ?hg (N := 21) ?hd (xs := ([true, true, false, false] : List Bool)) (inner := [.bool true, .bool true, .bool false, .bool false]) (ok := fun _ => True) (okp := fun _ => True) ?hr ?hp (fun _ hk => hk) trivial (Below.refl _ _) (Nat.le_refl _) (by simp) ?_; (case hd => rfl); (case hg => rfl); (case hr => first | (go_simp; done) | (go_simp; rfl)); (case hp => exact (Reps.one (show Kd.M Kd.bool _ _ _ true [.bool true] from rfl) (Reps.one (show Kd.M Kd.bool _ _ _ true [.bool true] from rfl) (Reps.one (show Kd.M Kd.bool _ _ _ false [.bool false] from rfl) (Reps.one (show Kd.M Kd.bool _ _ _ false [.bool false] from rfl) (Reps.none _ _)))))); intro v389 w44 ho45 hb hg_ hnew_; clear hg_ hnew_; (first | rw [← Ny388.out] at ho45 | (simp only [Int.reduceToNat] at ho45; rw [← Ny388.out] at ho45)); refine nx6_ (Kd.N_elder' (by (with_reducible repeat (first | apply Kd.N_alloc | apply Kd.N_drewN | apply Kd.N_drew)); exact HO377.out) (R_base ho45) hb) (Kd.N_elder' (by (with_reducible repeat (first | apply Kd.N_alloc | apply Kd.N_drewN | apply Kd.N_drew)); exact HO381.out) (R_base ho45) hb) (R_below (rU_ HO387.out) hb) (R_lower ho45 (below_size sU_)) (blk_below (kU_ BK368.out) hb) (below_step sU_ hb) ?_; clear HO377 HO381 HO387 BK368 HB; intro HO377 HO381 HO387 HO390 BK368 HB; clear hb ho45; obtain ⟨Ao46, co46, eo46⟩ := R_slice HO387.out; subst eo46; obtain ⟨Ao47, co47, eo47⟩ := R_slice HO390.out; subst eo47) | ((with_reducible refine gate_callee (f := 29) rfl ?_); refine gl_ (some 22) Tryd.func29 #[.agg #[.int .i64 t382, .int .i64 t383, .int .u64 t384], .slice Ao46 y385.length co46, .slice Ao47 y388.length co47, .int .i64 2] ?_; (with_reducible refine (code_Fill.calls k t382 t383 t384 _ _ y385 _ _ y388 2 t391 t394 _ ?side1 ?side2 ?side3 ?side4 ?side5 A4.out).mono ?_); (case side1 => repeat (first | with_reducible exact HG.out | with_reducible exact (Fld.below HG.out HB.out) | exact (Fld.below HG.out sU_) | (with_reducible refine Fld.alloc ?_ _) | (with_reducible refine Fld.drewN ?_ _) | (with_reducible refine Fld.drew ?_))); (case side2 => exact cU_ ((R_reads' HO387.out).2.2)); (case side3 => exact (R_reads' HO387.out).2.1); (case side4 => exact cU_ ((R_reads' HO390.out).2.2)); (case side5 => exact (R_reads' HO390.out).2.1); rintro e w48 ⟨v392, rfl, ho0, hb⟩; refine ⟨_, rfl, ?_⟩; refine nx7_ (Kd.N_elder' (by (with_reducible repeat (first | apply Kd.N_alloc | apply Kd.N_drewN | apply Kd.N_drew)); exact HO377.out) (R_base ho0) hb) (Kd.N_elder' (by (with_reducible repeat (first | apply Kd.N_alloc | apply Kd.N_drewN | apply Kd.N_drew)); exact HO381.out) (R_base ho0) hb) (R_elder' (rU_ HO387.out) (R_base ho0) hb) (R_below (rU_ HO390.out) hb) (R_lower (R_new' ho0 (R_lt (rU_ HO387.out))) (below_size sU_)) (blk_below (kU_ BK368.out) hb) (below_step sU_ hb) ?_; clear HO377 HO381 HO387 HO390 BK368 HB; intro HO377 HO381 HO387 HO390 HO393 BK368 HB; clear hb ho0; obtain ⟨Ao49, co49, eo49⟩ := R_slice HO393.out; subst eo49))
     refine nx7_ (Kd.N_drew HO377.out) (Kd.N_drew HO381.out) (R_drew HO387.out) (R_drew HO390.out) (R_drew HO393.out) (blk_drew BK368.out) (below_drew1 HB.out) ?_
     clear HO377 HO381 HO387 HO390 HO393 BK368 HB
     intro HO377 HO381 HO387 HO390 HO393 BK368 HB
     obtain ⟨Ao52, co52, eo52⟩ := Kd.N_slice HO381.out   -- opened first
     subst eo52
     have p398 : 0 ≤ (0 : Int) := (by omega)
     have q398 : 0 < (t378.length : Int) := od_
     obtain ⟨ad398, A398_0, c398_0, e398, hx398_0, hl398_0, hi398_0⟩ := at_L1 (Kd.N_reads' HO381.out).2.2 0 p398 q398
     cases e398
     obtain ⟨ce398, hce398, hMe398, hcc398⟩ := Kd.N_get HO381.out [] 0 p398 (by first | exact q398 | exact od_ | (have e_ := (Kd.N_reads' HO381.out).1; omega))
     obtain ⟨ua398_0, uc398_0, rfl, ul398_0, ge398_0⟩ := Kd.FK_slice_open hMe398
     have hv398_0 := hcc398 0 _ rfl
     rw [Nat.add_zero, show ((Kd.slice 22 (Kd.int .u64))).sz = 1 from rfl, Nat.mul_one] at hv398_0
     replace hv398_0 := Option.some.inj (hv398_0.symm.trans hx398_0)
     injection hv398_0 with hva_ hvn_ hvc_
     rw [hva_] at ge398_0
     rw [hvc_] at ul398_0
     have HL398_0 := ak (show Kd.V (Kd.int .u64) 22 _ w.heap.size _ _ (rd_L1 t378 0) from V_mk ul398_0 ge398_0)
     clear hva_ hvn_ hvc_ ge398_0 ul398_0
     clear hcc398 hce398
     have qi398 : (0 < t378.length) = True := eq_true (by omega)
     (try rw [show ((0 : Int)).toNat = 0 from rfl] at hx398_0)
     (try rw [Addr.add_zero'] at hx398_0)
     have HR398_0 := ak hi398_0
     have HC398_0 := ak hl398_0
     clear hi398_0 hl398_0
     replace p398 := eq_true p398
     replace q398 := eq_true q398
     have p403 : 0 ≤ (1 : Int) := (by omega)
     have q403 : 1 < (t378.length : Int) := od_
     obtain ⟨ad403, A403_0, c403_0, e403, hx403_0, hl403_0, hi403_0⟩ := at_L1 (Kd.N_reads' HO381.out).2.2 1 p403 q403
     obtain rfl : ad398 = ad403 := (by injection e403)
     obtain ⟨ce403, hce403, hMe403, hcc403⟩ := Kd.N_get HO381.out [] 1 p403 (by first | exact q403 | exact od_ | (have e_ := (Kd.N_reads' HO381.out).1; omega))
     obtain ⟨ua403_0, uc403_0, rfl, ul403_0, ge403_0⟩ := Kd.FK_slice_open hMe403
     have hv403_0 := hcc403 0 _ rfl
     rw [Nat.add_zero, show ((Kd.slice 22 (Kd.int .u64))).sz = 1 from rfl, Nat.mul_one] at hv403_0
     replace hv403_0 := Option.some.inj (hv403_0.symm.trans hx403_0)
     injection hv403_0 with hva_ hvn_ hvc_
     rw [hva_] at ge403_0
     rw [hvc_] at ul403_0
     have HL403_0 := ak (show Kd.V (Kd.int .u64) 22 _ w.heap.size _ _ (rd_L1 t378 1) from V_mk ul403_0 ge403_0)
     clear hva_ hvn_ hvc_ ge403_0 ul403_0
     clear hcc403 hce403
     (try simp only [show (1 : Int).toNat = 1 from rfl, Nat.reduceMul, Nat.reduceEqDiff, Go.Addr.add, ↓reduceIte] at hx403_0)
     have qi403 : (1 < t378.length) = True := eq_true (by omega)
     (try rw [show ((1 : Int)).toNat = 1 from rfl] at hx403_0)
     have HR403_0 := ak hi403_0
     have HC403_0 := ak hl403_0
     clear hi403_0 hl403_0
     replace p403 := eq_true p403
     replace q403 := eq_true q403
     refine start_ (n := 64) (S := fun w' => w'.cell? ⟨gb368, 0, none⟩ = some (.int .i64 t364) ∧ w'.cell? ⟨gb368, 1, none⟩ = some (.int .i64 t365) ∧ w'.cell? ⟨gb368, 2, none⟩ = some (.int .u64 t366) ∧ w'.cell? ad398 = some (.slice A398_0 (rd_L1 t378 0).length c398_0) ∧ w'.cell? ⟨ad398.block, ad398.off + 1, none⟩ = some (.slice A403_0 (rd_L1 t378 1).length c403_0)) (ds := []) (bv 64 0) (by kernel_rfl) rfl rfl ⟨bc0_ BK368.out, bc1_ BK368.out, bc2_ BK368.out, hx398_0, hx403_0⟩ (fun hHeld => ?_); refine with_tabW attestorlaw05_works.tab4 attestorlaw05_works.bits4 (fun HT_ HW_ => ?_)
     generalize w48.drew = w50 at HO377 HO381 HO387 HO390 HO393 BK368 HB HL398_0 HL403_0 HR398_0 HR403_0 hx398_0 hx403_0 hHeld ⊢
     refine pq_ 0 25 64 1 HT_.out ?_
     refine pq_ 1 26 64 3 HT_.out ?_
     refine pq_ 2 27 64 7 HT_.out ?_
     refine tq_ 3 28 64 15 HT_.out HW_.out hHeld ?_
     refine oq_ 4 29 64 31 HT_.out fun K hK => ?_
     refine gs_ Tryd.func44 #[] ?_
     with_reducible refine (attestorlaw05_four.calls  t395 t396 t397 _ A6.out).mono ?_
     rintro e w51 ⟨rfl, hb⟩
     have HS3_ := (hb.cell (World.block_lt_of_cell? _ _ (hHeld.2.2.2.1))).trans (hHeld.2.2.2.1)
     have HS4_ := (hb.cell (World.block_lt_of_cell? _ _ (hHeld.2.2.2.2))).trans (hHeld.2.2.2.2)
     refine ⟨_, rfl, ?_⟩
     replace HL398_0 := ak (V_below HL398_0.out hb)   -- carried
     replace HR398_0 := ak (C_below HR398_0.out hb)
     replace HL403_0 := ak (V_below HL403_0.out hb)   -- carried
     replace HR403_0 := ak (C_below HR403_0.out hb)
     refine nx7_ (Kd.N_below (by (with_reducible repeat (first | apply Kd.N_alloc | apply Kd.N_drewN | apply Kd.N_drew)); exact HO377.out) hb) (Kd.N_below (by (with_reducible repeat (first | apply Kd.N_alloc | apply Kd.N_drewN | apply Kd.N_drew)); exact HO381.out) hb) (R_below (rU_ HO387.out) hb) (R_below (rU_ HO390.out) hb) (R_below (rU_ HO393.out) hb) (blk_below (kU_ BK368.out) hb) (below_step sU_ hb) ?_
     clear HO377 HO381 HO387 HO390 HO393 BK368 HB
     intro HO377 HO381 HO387 HO390 HO393 BK368 HB
     (try clear hb)
     (try clear hb2)
     (try clear hk)
     (try clear hi)
     obtain ⟨Aox_, co52, eo52⟩ := Kd.N_slice HO381.out
     (first | subst eo52 | (injection eo52 with f1_ f2_ f3_; have f4_ := f1_.symm; have f5_ := f3_.symm; clear f1_ f2_ f3_; subst f4_; subst f5_))
     refine hK.out _ _ ⟨bc0_ BK368.out, bc1_ BK368.out, bc2_ BK368.out, HS3_, HS4_⟩ (fun hHeld => ?_)
     clear hK K
     refine norm_ (a' := ?_) ?_ ?_
     rotate_left
     ·show Act.put _ (some 29) _ = _
      simp only [Act.put, s1_, s2_, s3_, i64_w, i32_w]
      rfl
     refine pq_ 5 30 64 63 HT_.out ?_
     refine pq_ 6 31 64 127 HT_.out ?_
     refine pq_ 7 32 64 255 HT_.out ?_
     refine pq_ 8 33 64 511 HT_.out ?_
     refine pq_ 9 34 64 1023 HT_.out ?_
     refine pq_ 10 35 64 2047 HT_.out ?_
     refine pq_ 11 36 64 4095 HT_.out ?_
     refine pq_ 12 37 64 8191 HT_.out ?_
     refine pq_ 13 38 64 16383 HT_.out ?_
     refine pq_ 14 39 64 32767 HT_.out ?_
     refine pq_ 15 40 64 65535 HT_.out ?_
     refine pq_ 16 41 64 131071 HT_.out ?_
     refine pq_ 17 42 64 262143 HT_.out ?_
     refine pq_ 18 43 64 524287 HT_.out ?_
     refine tq_ 19 44 64 1048575 HT_.out HW_.out hHeld ?_
     refine oq_ 20 45 64 2097151 HT_.out fun K hK => ?_
     refine Kd.R_lit_step (Kd.int .u64) _ 22 ?hg (N := 45) ?hd (xs := ([5, 13, 92, 84] : List Int)) (inner := [.int .u64 5, .int .u64 13, .int .u64 92, .int .u64 84]) (ok := fun _ => True) (okp := fun _ => True) ?hr ?hp (fun _ hk => hk) trivial (Below.refl _ _) (Nat.le_refl _) (by simp) ?_; (case hd => rfl); (case hg => rfl); (case hr => first | (go_simp; done) | (go_simp; rfl)); (case hp => exact (Reps.one (show Kd.M (Kd.int .u64) _ _ _ 5 [.int .u64 5] from rfl) (Reps.one (show Kd.M (Kd.int .u64) _ _ _ 13 [.int .u64 13] from rfl) (Reps.one (show Kd.M (Kd.int .u64) _ _ _ 92 [.int .u64 92] from rfl) (Reps.one (show Kd.M (Kd.int .u64) _ _ _ 84 [.int .u64 84] from rfl) (Reps.none _ _))))))
     intro v400 w53 ho54 hb hg_ hnew_
     have HS3_ := (hb.cell (World.block_lt_of_cell? _ _ (hHeld.2.2.2.1))).trans (hHeld.2.2.2.1)
     have HS4_ := (hb.cell (World.block_lt_of_cell? _ _ (hHeld.2.2.2.2))).trans (hHeld.2.2.2.2)
     clear hg_ hnew_
     (first | rw [← Ny399.out] at ho54 | (simp only [Int.reduceToNat] at ho54; rw [← Ny399.out] at ho54))
     first | replace HL403_0 := ak (V_mono (ok' := fun k_ => (_ ∧ _) ∧ _) (V_elder' (vU_ HL403_0.out) (R_base ho54) hb) (fun _ hk => ⟨⟨hk.1.1, hk.2⟩, hk.1.2⟩)) | replace HL403_0 := ak (V_elder' (vU_ HL403_0.out) (R_base ho54) hb)   -- turned
     replace HR403_0 := ak (C_below HR403_0.out hb)
     refine nx10_ (Kd.N_elder' (by (with_reducible repeat (first | apply Kd.N_alloc | apply Kd.N_drewN | apply Kd.N_drew)); exact HO377.out) (R_base ho54) hb) (Kd.N_elder' (by (with_reducible repeat (first | apply Kd.N_alloc | apply Kd.N_drewN | apply Kd.N_drew)); exact HO381.out) (R_base ho54) hb) (R_elder' (rU_ HO387.out) (R_base ho54) hb) (R_below (rU_ HO390.out) hb) (R_elder' (rU_ HO393.out) (R_base ho54) hb) (V_elder' (vU_ HL398_0.out) (R_base ho54) hb) (R_lower (R_new' (R_new' ho54 (R_lt (rU_ HO387.out))) (R_lt (rU_ HO393.out))) (below_size sU_)) (blk_below (kU_ BK368.out) hb) (C_below (by repeat (first | (with_reducible exact HR398_0.out) | (with_reducible refine Kd.C_alloc ?_ _) | (with_reducible refine Kd.C_drewN ?_ _) | (with_reducible refine Kd.C_drew ?_) | exact HR398_0.out)) hb) (below_step sU_ hb) ?_
     clear HO377 HO381 HO387 HO390 HO393 HL398_0 BK368 HR398_0 HB
     intro HO377 HO381 HO387 HO390 HO393 HL398_0 HO401 BK368 HR398_0 HB
     clear hb ho54
     obtain ⟨Ao55, co55, eo55⟩ := R_slice HO401.out
     (first | subst eo55 | (injection eo55 with f1_ f2_ f3_; have f4_ := f1_.symm; have f5_ := f3_.symm; clear f1_ f2_ f3_; subst f4_; subst f5_))
     refine hK.out _ _ ⟨bc0_ BK368.out, bc1_ BK368.out, bc2_ BK368.out, HS3_, HS4_⟩ (fun hHeld => ?_)
     clear hK K
     refine norm_ (a' := ?_) ?_ ?_
     rotate_left
     ·show Act.put _ (some 45) _ = _
      simp only [Act.put, s1_, s2_, s3_, i64_w, i32_w]
      rfl
     refine oq_ 21 46 64 4194303 HT_.out fun K hK => ?_
     refine gs_ Tryd.func37 #[.slice A398_0 (rd_L1 t378 0).length c398_0, .slice Ao55 y399.length co55] ?_
     with_reducible refine (attestorlaw05_same.calls k _ _ (rd_L1 t378 0) _ _ y399 true _ ?side1 ?side2 ?side3 ?side4 A11.out).mono ?_
     (case side1 => repeat (first | exact (by repeat (first | (with_reducible exact HR398_0.out) | (with_reducible refine Kd.C_alloc ?_ _) | (with_reducible refine Kd.C_drewN ?_ _) | (with_reducible refine Kd.C_drew ?_) | exact HR398_0.out)) | (with_reducible refine Kd.C_alloc ?_ _) | (with_reducible refine Kd.C_drewN ?_ _) | (with_reducible refine Kd.C_drew ?_)))
     (case side2 => exact HC398_0.out)
     (case side3 => exact cU_ ((R_reads' HO401.out).2.2))
     (case side4 => exact (R_reads' HO401.out).2.1)
     rintro e w' ⟨rfl, ⟨nd, rfl⟩⟩
     refine ⟨_, rfl, ?_⟩
     refine hK.out _ _ ⟨bc0_ BK368.out, bc1_ BK368.out, bc2_ BK368.out, hHeld.2.2.2.1, hHeld.2.2.2.2⟩ (fun hHeld => ?_)
     clear hK K
     refine norm_ (a' := ?_) ?_ ?_
     rotate_left
     ·show Act.put _ (some 46) _ = _
      simp only [Act.put, s1_, s2_, s3_, i64_w, i32_w]
      rfl
     refine pq_ 22 47 64 8388607 HT_.out ?_
     refine pq_ 23 48 64 16777215 HT_.out ?_
     refine pq_ 24 49 64 33554431 HT_.out ?_
     refine pq_ 25 50 64 67108863 HT_.out ?_
     refine tq_ 26 51 64 134217727 HT_.out HW_.out hHeld ?_
     refine oq_ 27 52 64 268435455 HT_.out fun K hK => ?_
     refine Kd.R_lit_step (Kd.int .u64) _ 22 ?hg (N := 52) ?hd (xs := ([3, 3, 3, 3] : List Int)) (inner := [.int .u64 3, .int .u64 3, .int .u64 3, .int .u64 3]) (ok := fun _ => True) (okp := fun _ => True) ?hr ?hp (fun _ hk => hk) trivial (Below.refl _ _) (Nat.le_refl _) (by simp) ?_; (case hd => rfl); (case hg => rfl); (case hr => first | (go_simp; done) | (go_simp; rfl)); (case hp => exact (Reps.one (show Kd.M (Kd.int .u64) _ _ _ 3 [.int .u64 3] from rfl) (Reps.one (show Kd.M (Kd.int .u64) _ _ _ 3 [.int .u64 3] from rfl) (Reps.one (show Kd.M (Kd.int .u64) _ _ _ 3 [.int .u64 3] from rfl) (Reps.one (show Kd.M (Kd.int .u64) _ _ _ 3 [.int .u64 3] from rfl) (Reps.none _ _))))))
     intro v405 w56 ho57 hb hg_ hnew_
     have HS3_ := (hb.cell (World.block_lt_of_cell? _ _ (hHeld.2.2.2.1))).trans (hHeld.2.2.2.1)
     have HS4_ := (hb.cell (World.block_lt_of_cell? _ _ (hHeld.2.2.2.2))).trans (hHeld.2.2.2.2)
     clear hg_ hnew_
     (first | rw [← Ny404.out] at ho57 | (simp only [Int.reduceToNat] at ho57; rw [← Ny404.out] at ho57))
     refine nx13_ (Kd.N_elder' (by (with_reducible repeat (first | apply Kd.N_alloc | apply Kd.N_drewN | apply Kd.N_drew)); exact HO377.out) (R_base ho57) hb) (Kd.N_elder' (by (with_reducible repeat (first | apply Kd.N_alloc | apply Kd.N_drewN | apply Kd.N_drew)); exact HO381.out) (R_base ho57) hb) (R_elder' (rU_ HO387.out) (R_base ho57) hb) (R_below (rU_ HO390.out) hb) (R_elder' (rU_ HO393.out) (R_base ho57) hb) (V_elder' (vU_ HL398_0.out) (R_base ho57) hb) (R_elder' (rU_ HO401.out) (R_base ho57) hb) (V_elder' (vU_ HL403_0.out) (R_base ho57) hb) (R_lower (R_new' (R_new' (R_new' ho57 (R_lt (rU_ HO387.out))) (R_lt (rU_ HO393.out))) (R_lt (rU_ HO401.out))) (below_size sU_)) (blk_below (kU_ BK368.out) hb) (C_below (by repeat (first | (with_reducible exact HR398_0.out) | (with_reducible refine Kd.C_alloc ?_ _) | (with_reducible refine Kd.C_drewN ?_ _) | (with_reducible refine Kd.C_drew ?_) | exact HR398_0.out)) hb) (C_below (by repeat (first | (with_reducible exact HR403_0.out) | (with_reducible refine Kd.C_alloc ?_ _) | (with_reducible refine Kd.C_drewN ?_ _) | (with_reducible refine Kd.C_drew ?_) | exact HR403_0.out)) hb) (below_step sU_ hb) ?_
     clear HO377 HO381 HO387 HO390 HO393 HL398_0 HO401 HL403_0 BK368 HR398_0 HR403_0 HB
     intro HO377 HO381 HO387 HO390 HO393 HL398_0 HO401 HL403_0 HO406 BK368 HR398_0 HR403_0 HB
     clear hb ho57
     obtain ⟨Ao58, co58, eo58⟩ := R_slice HO406.out
     (first | subst eo58 | (injection eo58 with f1_ f2_ f3_; have f4_ := f1_.symm; have f5_ := f3_.symm; clear f1_ f2_ f3_; subst f4_; subst f5_))
     refine hK.out _ _ ⟨bc0_ BK368.out, bc1_ BK368.out, bc2_ BK368.out, HS3_, HS4_⟩ (fun hHeld => ?_)
     clear hK K
     refine norm_ (a' := ?_) ?_ ?_
     rotate_left
     ·show Act.put _ (some 52) _ = _
      simp only [Act.put, s1_, s2_, s3_, i64_w, i32_w]
      rfl
     refine oq_ 28 53 64 536870911 HT_.out fun K hK => ?_
     refine gs_ Tryd.func37 #[.slice A403_0 (rd_L1 t378 1).length c403_0, .slice Ao58 y404.length co58] ?_
     with_reducible refine (attestorlaw05_same.calls k _ _ (rd_L1 t378 1) _ _ y404 true _ ?side1 ?side2 ?side3 ?side4 A14.out).mono ?_
     (case side1 => repeat (first | exact (by repeat (first | (with_reducible exact HR403_0.out) | (with_reducible refine Kd.C_alloc ?_ _) | (with_reducible refine Kd.C_drewN ?_ _) | (with_reducible refine Kd.C_drew ?_) | exact HR403_0.out)) | (with_reducible refine Kd.C_alloc ?_ _) | (with_reducible refine Kd.C_drewN ?_ _) | (with_reducible refine Kd.C_drew ?_)))
     (case side2 => exact HC403_0.out)
     (case side3 => exact cU_ ((R_reads' HO406.out).2.2))
     (case side4 => exact (R_reads' HO406.out).2.1)
     rintro e w' ⟨rfl, ⟨nd, rfl⟩⟩
     refine ⟨_, rfl, ?_⟩
     refine hK.out _ _ ⟨bc0_ BK368.out, bc1_ BK368.out, bc2_ BK368.out, hHeld.2.2.2.1, hHeld.2.2.2.2⟩ (fun hHeld => ?_)
     clear hK K
     refine norm_ (a' := ?_) ?_ ?_
     rotate_left
     ·show Act.put _ (some 53) _ = _
      simp only [Act.put, s1_, s2_, s3_, i64_w, i32_w]
      rfl
     refine pq_ 29 54 64 1073741823 HT_.out ?_
     refine pq_ 30 55 64 2147483647 HT_.out ?_
     refine pq_ 31 56 64 4294967295 HT_.out ?_
     refine pq_ 32 57 64 8589934591 HT_.out ?_
     refine pq_ 33 58 64 17179869183 HT_.out ?_
     refine pq_ 34 59 64 34359738367 HT_.out ?_
     refine pq_ 35 60 64 68719476735 HT_.out ?_
     refine oq_ 36 61 64 137438953471 HT_.out fun K hK => ?_
     refine Kd.R_lit_step (Kd.int .u64) _ 22 ?hg (N := 61) ?hd (xs := ([5, 13, 92, 84] : List Int)) (inner := [.int .u64 5, .int .u64 13, .int .u64 92, .int .u64 84]) (ok := fun _ => True) (okp := fun _ => True) ?hr ?hp (fun _ hk => hk) trivial (Below.refl _ _) (Nat.le_refl _) (by simp) ?_; (case hd => rfl); (case hg => rfl); (case hr => first | (go_simp; done) | (go_simp; rfl)); (case hp => exact (Reps.one (show Kd.M (Kd.int .u64) _ _ _ 5 [.int .u64 5] from rfl) (Reps.one (show Kd.M (Kd.int .u64) _ _ _ 13 [.int .u64 13] from rfl) (Reps.one (show Kd.M (Kd.int .u64) _ _ _ 92 [.int .u64 92] from rfl) (Reps.one (show Kd.M (Kd.int .u64) _ _ _ 84 [.int .u64 84] from rfl) (Reps.none _ _))))))
     intro v409 w59 ho60 hb hg_ hnew_
     have HS3_ := (hb.cell (World.block_lt_of_cell? _ _ (hHeld.2.2.2.1))).trans (hHeld.2.2.2.1)
     have HS4_ := (hb.cell (World.block_lt_of_cell? _ _ (hHeld.2.2.2.2))).trans (hHeld.2.2.2.2)
     clear hg_ hnew_
     (first | rw [← Ny408.out] at ho60 | (simp only [Int.reduceToNat] at ho60; rw [← Ny408.out] at ho60))
     refine nx14_ (Kd.N_elder' (by (with_reducible repeat (first | apply Kd.N_alloc | apply Kd.N_drewN | apply Kd.N_drew)); exact HO377.out) (R_base ho60) hb) (Kd.N_elder' (by (with_reducible repeat (first | apply Kd.N_alloc | apply Kd.N_drewN | apply Kd.N_drew)); exact HO381.out) (R_base ho60) hb) (R_elder' (rU_ HO387.out) (R_base ho60) hb) (R_below (rU_ HO390.out) hb) (R_elder' (rU_ HO393.out) (R_base ho60) hb) (V_elder' (vU_ HL398_0.out) (R_base ho60) hb) (R_elder' (rU_ HO401.out) (R_base ho60) hb) (V_elder' (vU_ HL403_0.out) (R_base ho60) hb) (R_elder' (rU_ HO406.out) (R_base ho60) hb) (R_lower (R_new' (R_new' (R_new' (R_new' ho60 (R_lt (rU_ HO387.out))) (R_lt (rU_ HO393.out))) (R_lt (rU_ HO401.out))) (R_lt (rU_ HO406.out))) (below_size sU_)) (blk_below (kU_ BK368.out) hb) (C_below (by repeat (first | (with_reducible exact HR398_0.out) | (with_reducible refine Kd.C_alloc ?_ _) | (with_reducible refine Kd.C_drewN ?_ _) | (with_reducible refine Kd.C_drew ?_) | exact HR398_0.out)) hb) (C_below (by repeat (first | (with_reducible exact HR403_0.out) | (with_reducible refine Kd.C_alloc ?_ _) | (with_reducible refine Kd.C_drewN ?_ _) | (with_reducible refine Kd.C_drew ?_) | exact HR403_0.out)) hb) (below_step sU_ hb) ?_
     clear HO377 HO381 HO387 HO390 HO393 HL398_0 HO401 HL403_0 HO406 BK368 HR398_0 HR403_0 HB
     intro HO377 HO381 HO387 HO390 HO393 HL398_0 HO401 HL403_0 HO406 HO410 BK368 HR398_0 HR403_0 HB
     clear hb ho60
     obtain ⟨Ao61, co61, eo61⟩ := R_slice HO410.out
     (first | subst eo61 | (injection eo61 with f1_ f2_ f3_; have f4_ := f1_.symm; have f5_ := f3_.symm; clear f1_ f2_ f3_; subst f4_; subst f5_))
     refine hK.out _ _ ⟨bc0_ BK368.out, bc1_ BK368.out, bc2_ BK368.out, HS3_, HS4_⟩ (fun hHeld => ?_)
     clear hK K
     refine norm_ (a' := ?_) ?_ ?_
     rotate_left
     ·show Act.put _ (some 61) _ = _
      simp only [Act.put, s1_, s2_, s3_, i64_w, i32_w]
      rfl
     refine oq_ 37 62 64 274877906943 HT_.out fun K hK => ?_
     refine gs_ Tryd.func37 #[.slice Ao49 t391.length co49, .slice Ao61 y408.length co61] ?_
     with_reducible refine (attestorlaw05_same.calls k _ _ t391 _ _ y408 true _ ?side1 ?side2 ?side3 ?side4 A17.out).mono ?_
     (case side1 => exact cU_ ((R_reads' HO393.out).2.2))
     (case side2 => exact (R_reads' HO393.out).2.1)
     (case side3 => exact cU_ ((R_reads' HO410.out).2.2))
     (case side4 => exact (R_reads' HO410.out).2.1)
     rintro e w' ⟨rfl, ⟨nd, rfl⟩⟩
     refine ⟨_, rfl, ?_⟩
     refine hK.out _ _ ⟨bc0_ BK368.out, bc1_ BK368.out, bc2_ BK368.out, hHeld.2.2.2.1, hHeld.2.2.2.2⟩ (fun hHeld => ?_)
     clear hK K
     refine norm_ (a' := ?_) ?_ ?_
     rotate_left
     ·show Act.put _ (some 62) _ = _
      simp only [Act.put, s1_, s2_, s3_, i64_w, i32_w]
      rfl
     refine pq_ 38 63 64 549755813887 HT_.out ?_
     refine pq_ 39 64 64 1099511627775 HT_.out ?_
     refine pq_ 41 66 64 3298534883327 HT_.out ?_
     refine oq_ 40 65 64 4398046511103 HT_.out fun K hK => ?_
     refine gs_ Tryd.func44 #[] ?_
     with_reducible refine (attestorlaw05_four.calls  t412 t413 t414 _ A19.out).mono ?_
     rintro e w62 ⟨rfl, hb⟩
     have HS3_ := (hb.cell (World.block_lt_of_cell? _ _ (hHeld.2.2.2.1))).trans (hHeld.2.2.2.1)
     have HS4_ := (hb.cell (World.block_lt_of_cell? _ _ (hHeld.2.2.2.2))).trans (hHeld.2.2.2.2)
     refine ⟨_, rfl, ?_⟩
     refine nx14_ (Kd.N_below (by (with_reducible repeat (first | apply Kd.N_alloc | apply Kd.N_drewN | apply Kd.N_drew)); exact HO377.out) hb) (Kd.N_below (by (with_reducible repeat (first | apply Kd.N_alloc | apply Kd.N_drewN | apply Kd.N_drew)); exact HO381.out) hb) (R_below (rU_ HO387.out) hb) (R_below (rU_ HO390.out) hb) (R_below (rU_ HO393.out) hb) (V_below (vU_ HL398_0.out) hb) (R_below (rU_ HO401.out) hb) (V_below (vU_ HL403_0.out) hb) (R_below (rU_ HO406.out) hb) (R_below (rU_ HO410.out) hb) (blk_below (kU_ BK368.out) hb) (C_below (by repeat (first | (with_reducible exact HR398_0.out) | (with_reducible refine Kd.C_alloc ?_ _) | (with_reducible refine Kd.C_drewN ?_ _) | (with_reducible refine Kd.C_drew ?_) | exact HR398_0.out)) hb) (C_below (by repeat (first | (with_reducible exact HR403_0.out) | (with_reducible refine Kd.C_alloc ?_ _) | (with_reducible refine Kd.C_drewN ?_ _) | (with_reducible refine Kd.C_drew ?_) | exact HR403_0.out)) hb) (below_step sU_ hb) ?_
     clear HO377 HO381 HO387 HO390 HO393 HL398_0 HO401 HL403_0 HO406 HO410 BK368 HR398_0 HR403_0 HB
     intro HO377 HO381 HO387 HO390 HO393 HL398_0 HO401 HL403_0 HO406 HO410 BK368 HR398_0 HR403_0 HB
     (try clear hb)
     (try clear hb2)
     (try clear hk)
     (try clear hi)
     refine hK.out _ _ ⟨bc0_ BK368.out, bc1_ BK368.out, bc2_ BK368.out, HS3_, HS4_⟩ (fun hHeld => ?_)
     clear hK K
     refine norm_ (a' := ?_) ?_ ?_
     rotate_left
     ·show Act.put _ (some 65) _ = _
      simp only [Act.put, s1_, s2_, s3_, i64_w, i32_w]
      rfl
     refine oq_ 42 67 64 8796093022207 HT_.out fun K hK => ?_
     refine gs_ Tryd.func31 #[.agg #[.int .i64 t412, .int .i64 t413, .int .u64 t414], .slice Ao49 t391.length co49, .int .i64 2] ?_
     with_reducible refine (code_IsWord.calls k t412 t413 t414 _ _ t391 2 true _ ?side1 ?side2 ?side3 A20.out).mono ?_
     (case side1 => repeat (first | with_reducible exact HG.out | with_reducible exact (Fld.below HG.out HB.out) | exact (Fld.below HG.out sU_) | (with_reducible refine Fld.alloc ?_ _) | (with_reducible refine Fld.drewN ?_ _) | (with_reducible refine Fld.drew ?_)))
     (case side2 => exact cU_ ((R_reads' HO393.out).2.2))
     (case side3 => exact (R_reads' HO393.out).2.1)
     rintro e w63 ⟨rfl, hb⟩
     have HS3_ := (hb.cell (World.block_lt_of_cell? _ _ (hHeld.2.2.2.1))).trans (hHeld.2.2.2.1)
     have HS4_ := (hb.cell (World.block_lt_of_cell? _ _ (hHeld.2.2.2.2))).trans (hHeld.2.2.2.2)
     refine ⟨_, rfl, ?_⟩
     refine nx14_ (Kd.N_below (by (with_reducible repeat (first | apply Kd.N_alloc | apply Kd.N_drewN | apply Kd.N_drew)); exact HO377.out) hb) (Kd.N_below (by (with_reducible repeat (first | apply Kd.N_alloc | apply Kd.N_drewN | apply Kd.N_drew)); exact HO381.out) hb) (R_below (rU_ HO387.out) hb) (R_below (rU_ HO390.out) hb) (R_below (rU_ HO393.out) hb) (V_below (vU_ HL398_0.out) hb) (R_below (rU_ HO401.out) hb) (V_below (vU_ HL403_0.out) hb) (R_below (rU_ HO406.out) hb) (R_below (rU_ HO410.out) hb) (blk_below (kU_ BK368.out) hb) (C_below (by repeat (first | (with_reducible exact HR398_0.out) | (with_reducible refine Kd.C_alloc ?_ _) | (with_reducible refine Kd.C_drewN ?_ _) | (with_reducible refine Kd.C_drew ?_) | exact HR398_0.out)) hb) (C_below (by repeat (first | (with_reducible exact HR403_0.out) | (with_reducible refine Kd.C_alloc ?_ _) | (with_reducible refine Kd.C_drewN ?_ _) | (with_reducible refine Kd.C_drew ?_) | exact HR403_0.out)) hb) (below_step sU_ hb) ?_
     clear HO377 HO381 HO387 HO390 HO393 HL398_0 HO401 HL403_0 HO406 HO410 BK368 HR398_0 HR403_0 HB
     intro HO377 HO381 HO387 HO390 HO393 HL398_0 HO401 HL403_0 HO406 HO410 BK368 HR398_0 HR403_0 HB
     (try clear hb)
     (try clear hb2)
     (try clear hk)
     (try clear hi)
     refine hK.out _ _ ⟨bc0_ BK368.out, bc1_ BK368.out, bc2_ BK368.out, HS3_, HS4_⟩ (fun hHeld => ?_)
     clear hK K
     refine norm_ (a' := ?_) ?_ ?_
     rotate_left
     ·show Act.put _ (some 67) _ = _
      simp only [Act.put, s1_, s2_, s3_, i64_w, i32_w]
      rfl
     refine pq_ 43 68 64 17592186044415 HT_.out ?_
     refine pq_ 44 69 64 35184372088831 HT_.out ?_
     refine pq_ 46 71 64 105553116266495 HT_.out ?_
     refine oq_ 45 70 64 140737488355327 HT_.out fun K hK => ?_
     refine gs_ Tryd.func44 #[] ?_
     with_reducible refine (attestorlaw05_four.calls  t416 t417 t418 _ A22.out).mono ?_
     rintro e w64 ⟨rfl, hb⟩
     have HS3_ := (hb.cell (World.block_lt_of_cell? _ _ (hHeld.2.2.2.1))).trans (hHeld.2.2.2.1)
     have HS4_ := (hb.cell (World.block_lt_of_cell? _ _ (hHeld.2.2.2.2))).trans (hHeld.2.2.2.2)
     refine ⟨_, rfl, ?_⟩
     refine nx14_ (Kd.N_below (by (with_reducible repeat (first | apply Kd.N_alloc | apply Kd.N_drewN | apply Kd.N_drew)); exact HO377.out) hb) (Kd.N_below (by (with_reducible repeat (first | apply Kd.N_alloc | apply Kd.N_drewN | apply Kd.N_drew)); exact HO381.out) hb) (R_below (rU_ HO387.out) hb) (R_below (rU_ HO390.out) hb) (R_below (rU_ HO393.out) hb) (V_below (vU_ HL398_0.out) hb) (R_below (rU_ HO401.out) hb) (V_below (vU_ HL403_0.out) hb) (R_below (rU_ HO406.out) hb) (R_below (rU_ HO410.out) hb) (blk_below (kU_ BK368.out) hb) (C_below (by repeat (first | (with_reducible exact HR398_0.out) | (with_reducible refine Kd.C_alloc ?_ _) | (with_reducible refine Kd.C_drewN ?_ _) | (with_reducible refine Kd.C_drew ?_) | exact HR398_0.out)) hb) (C_below (by repeat (first | (with_reducible exact HR403_0.out) | (with_reducible refine Kd.C_alloc ?_ _) | (with_reducible refine Kd.C_drewN ?_ _) | (with_reducible refine Kd.C_drew ?_) | exact HR403_0.out)) hb) (below_step sU_ hb) ?_
     clear HO377 HO381 HO387 HO390 HO393 HL398_0 HO401 HL403_0 HO406 HO410 BK368 HR398_0 HR403_0 HB
     intro HO377 HO381 HO387 HO390 HO393 HL398_0 HO401 HL403_0 HO406 HO410 BK368 HR398_0 HR403_0 HB
     (try clear hb)
     (try clear hb2)
     (try clear hk)
     (try clear hi)
     refine hK.out _ _ ⟨bc0_ BK368.out, bc1_ BK368.out, bc2_ BK368.out, HS3_, HS4_⟩ (fun hHeld => ?_)
     clear hK K
     refine norm_ (a' := ?_) ?_ ?_
     rotate_left
     ·show Act.put _ (some 70) _ = _
      simp only [Act.put, s1_, s2_, s3_, i64_w, i32_w]
      rfl
     refine oq_ 47 72 64 281474976710655 HT_.out fun K hK => ?_
     refine gs_ Tryd.func31 #[.agg #[.int .i64 t416, .int .i64 t417, .int .u64 t418], .slice Ao49 t391.length co49, .int .i64 1] ?_
     with_reducible refine (code_IsWord.calls k t416 t417 t418 _ _ t391 1 false _ ?side1 ?side2 ?side3 A23.out).mono ?_
     (case side1 => repeat (first | with_reducible exact HG.out | with_reducible exact (Fld.below HG.out HB.out) | exact (Fld.below HG.out sU_) | (with_reducible refine Fld.alloc ?_ _) | (with_reducible refine Fld.drewN ?_ _) | (with_reducible refine Fld.drew ?_)))
     (case side2 => exact cU_ ((R_reads' HO393.out).2.2))
     (case side3 => exact (R_reads' HO393.out).2.1)
     rintro e w65 ⟨rfl, hb⟩
     have HS3_ := (hb.cell (World.block_lt_of_cell? _ _ (hHeld.2.2.2.1))).trans (hHeld.2.2.2.1)
     have HS4_ := (hb.cell (World.block_lt_of_cell? _ _ (hHeld.2.2.2.2))).trans (hHeld.2.2.2.2)
     refine ⟨_, rfl, ?_⟩
     refine nx14_ (Kd.N_below (by (with_reducible repeat (first | apply Kd.N_alloc | apply Kd.N_drewN | apply Kd.N_drew)); exact HO377.out) hb) (Kd.N_below (by (with_reducible repeat (first | apply Kd.N_alloc | apply Kd.N_drewN | apply Kd.N_drew)); exact HO381.out) hb) (R_below (rU_ HO387.out) hb) (R_below (rU_ HO390.out) hb) (R_below (rU_ HO393.out) hb) (V_below (vU_ HL398_0.out) hb) (R_below (rU_ HO401.out) hb) (V_below (vU_ HL403_0.out) hb) (R_below (rU_ HO406.out) hb) (R_below (rU_ HO410.out) hb) (blk_below (kU_ BK368.out) hb) (C_below (by repeat (first | (with_reducible exact HR398_0.out) | (with_reducible refine Kd.C_alloc ?_ _) | (with_reducible refine Kd.C_drewN ?_ _) | (with_reducible refine Kd.C_drew ?_) | exact HR398_0.out)) hb) (C_below (by repeat (first | (with_reducible exact HR403_0.out) | (with_reducible refine Kd.C_alloc ?_ _) | (with_reducible refine Kd.C_drewN ?_ _) | (with_reducible refine Kd.C_drew ?_) | exact HR403_0.out)) hb) (below_step sU_ hb) ?_
     clear HO377 HO381 HO387 HO390 HO393 HL398_0 HO401 HL403_0 HO406 HO410 BK368 HR398_0 HR403_0 HB
     intro HO377 HO381 HO387 HO390 HO393 HL398_0 HO401 HL403_0 HO406 HO410 BK368 HR398_0 HR403_0 HB
     (try clear hb)
     (try clear hb2)
     (try clear hk)
     (try clear hi)
     refine hK.out _ _ ⟨bc0_ BK368.out, bc1_ BK368.out, bc2_ BK368.out, HS3_, HS4_⟩ (fun hHeld => ?_)
     clear hK K
     refine norm_ (a' := ?_) ?_ ?_
     rotate_left
     ·show Act.put _ (some 72) _ = _
      simp only [Act.put, s1_, s2_, s3_, i64_w, i32_w]
      rfl
     refine pq_ 48 73 64 562949953421311 HT_.out ?_
     refine pq_ 49 74 64 1125899906842623 HT_.out ?_
     refine pq_ 50 75 64 2251799813685247 HT_.out ?_
     refine join_ (σ := Value × Value) 11 #[true, true, true, true, true, true, true, true, true, true, true, true, true, true, true, true, true, true, true, true, true, true, true, true, true, true, true, true, true, true, true, true, true, true, true, true, true, true, true, true, true, true, true, true, true, true, true, true, true, true, true, true, true, false, false, false, false, false, false, false, false, false, false, false] (fun s_ => [(76, s_.1), (77, s_.2)]) (fun s_ w' => (w'.cell? ⟨gb368, 0, none⟩ = some (.int .i64 t364) ∧ w'.cell? ⟨gb368, 1, none⟩ = some (.int .i64 t365) ∧ w'.cell? ⟨gb368, 2, none⟩ = some (.int .u64 t366) ∧ w'.cell? ad398 = some (.slice A398_0 (rd_L1 t378 0).length c398_0) ∧ w'.cell? ⟨ad398.block, ad398.off + 1, none⟩ = some (.slice A403_0 (rd_L1 t378 1).length c403_0)) ∧ (Kd.V (Kd.int .u64) 22 w' w.heap.size (fun k_ => some k_ ≠ (.slice Ao39 y375.length co39 : Value).ownBlock ∧ some k_ ≠ (.slice (some ad398) t378.length co52 : Value).ownBlock ∧ some k_ ≠ (.slice Ao46 y385.length co46 : Value).ownBlock ∧ some k_ ≠ (.slice Ao47 y388.length co47 : Value).ownBlock ∧ some k_ ≠ (.slice Ao49 t391.length co49 : Value).ownBlock ∧ some k_ ≠ (.slice Ao55 y399.length co55 : Value).ownBlock ∧ some k_ ≠ (.slice Ao58 y404.length co58 : Value).ownBlock ∧ some k_ ≠ (.slice Ao61 y408.length co61 : Value).ownBlock ∧ some k_ ≠ (s_.1 : Value).ownBlock ∧ some k_ ≠ (s_.2 : Value).ownBlock ∧ k_ ≠ gb368) (.slice A398_0 (rd_L1 t378 0).length c398_0) (rd_L1 t378 0)) ∧ (Kd.V (Kd.int .u64) 22 w' w.heap.size (fun k_ => some k_ ≠ (.slice Ao39 y375.length co39 : Value).ownBlock ∧ some k_ ≠ (.slice (some ad398) t378.length co52 : Value).ownBlock ∧ some k_ ≠ (.slice Ao46 y385.length co46 : Value).ownBlock ∧ some k_ ≠ (.slice Ao47 y388.length co47 : Value).ownBlock ∧ some k_ ≠ (.slice Ao49 t391.length co49 : Value).ownBlock ∧ some k_ ≠ (.slice Ao55 y399.length co55 : Value).ownBlock ∧ some k_ ≠ (.slice Ao58 y404.length co58 : Value).ownBlock ∧ some k_ ≠ (.slice Ao61 y408.length co61 : Value).ownBlock ∧ some k_ ≠ (s_.1 : Value).ownBlock ∧ some k_ ≠ (s_.2 : Value).ownBlock ∧ k_ ≠ gb368) (.slice A403_0 (rd_L1 t378 1).length c403_0) (rd_L1 t378 1)) ∧ (Kd.N (Kd.slice 22 (Kd.int .u64)) 33 w' w.heap.size (fun k_ => some k_ ≠ (.slice (some ad398) t378.length co52 : Value).ownBlock ∧ some k_ ≠ (.slice Ao46 y385.length co46 : Value).ownBlock ∧ some k_ ≠ (.slice Ao47 y388.length co47 : Value).ownBlock ∧ some k_ ≠ (.slice Ao49 t391.length co49 : Value).ownBlock ∧ some k_ ≠ (.slice Ao55 y399.length co55 : Value).ownBlock ∧ some k_ ≠ (.slice Ao58 y404.length co58 : Value).ownBlock ∧ some k_ ≠ (.slice Ao61 y408.length co61 : Value).ownBlock ∧ some k_ ≠ (s_.1 : Value).ownBlock ∧ some k_ ≠ (s_.2 : Value).ownBlock ∧ k_ ≠ gb368) (.slice Ao39 y375.length co39) y375) ∧ (Kd.N (Kd.slice 22 (Kd.int .u64)) 33 w' w.heap.size (fun k_ => some k_ ≠ (.slice Ao39 y375.length co39 : Value).ownBlock ∧ some k_ ≠ (.slice Ao46 y385.length co46 : Value).ownBlock ∧ some k_ ≠ (.slice Ao47 y388.length co47 : Value).ownBlock ∧ some k_ ≠ (.slice Ao49 t391.length co49 : Value).ownBlock ∧ some k_ ≠ (.slice Ao55 y399.length co55 : Value).ownBlock ∧ some k_ ≠ (.slice Ao58 y404.length co58 : Value).ownBlock ∧ some k_ ≠ (.slice Ao61 y408.length co61 : Value).ownBlock ∧ some k_ ≠ (s_.1 : Value).ownBlock ∧ some k_ ≠ (s_.2 : Value).ownBlock ∧ k_ ≠ gb368) (.slice (some ad398) t378.length co52) t378) ∧ (Kd.R (Kd.int .u64) 22 w' w.heap.size (fun k_ => some k_ ≠ (.slice Ao49 t391.length co49 : Value).ownBlock ∧ some k_ ≠ (.slice Ao55 y399.length co55 : Value).ownBlock ∧ some k_ ≠ (.slice Ao58 y404.length co58 : Value).ownBlock ∧ some k_ ≠ (.slice Ao61 y408.length co61 : Value).ownBlock ∧ some k_ ≠ (s_.1 : Value).ownBlock ∧ some k_ ≠ (s_.2 : Value).ownBlock) (.slice Ao46 y385.length co46) y385) ∧ (Kd.R Kd.bool 4 w' w.heap.size (fun _ => True) (.slice Ao47 y388.length co47) y388) ∧ (Kd.R (Kd.int .u64) 22 w' w.heap.size (fun k_ => some k_ ≠ (.slice Ao46 y385.length co46 : Value).ownBlock ∧ some k_ ≠ (.slice Ao55 y399.length co55 : Value).ownBlock ∧ some k_ ≠ (.slice Ao58 y404.length co58 : Value).ownBlock ∧ some k_ ≠ (.slice Ao61 y408.length co61 : Value).ownBlock ∧ some k_ ≠ (s_.1 : Value).ownBlock ∧ some k_ ≠ (s_.2 : Value).ownBlock) (.slice Ao49 t391.length co49) t391) ∧ (Kd.R (Kd.int .u64) 22 w' w.heap.size (fun k_ => some k_ ≠ (.slice Ao46 y385.length co46 : Value).ownBlock ∧ some k_ ≠ (.slice Ao49 t391.length co49 : Value).ownBlock ∧ some k_ ≠ (.slice Ao58 y404.length co58 : Value).ownBlock ∧ some k_ ≠ (.slice Ao61 y408.length co61 : Value).ownBlock ∧ some k_ ≠ (s_.1 : Value).ownBlock ∧ some k_ ≠ (s_.2 : Value).ownBlock) (.slice Ao55 y399.length co55) y399) ∧ (Kd.R (Kd.int .u64) 22 w' w.heap.size (fun k_ => some k_ ≠ (.slice Ao46 y385.length co46 : Value).ownBlock ∧ some k_ ≠ (.slice Ao49 t391.length co49 : Value).ownBlock ∧ some k_ ≠ (.slice Ao55 y399.length co55 : Value).ownBlock ∧ some k_ ≠ (.slice Ao61 y408.length co61 : Value).ownBlock ∧ some k_ ≠ (s_.1 : Value).ownBlock ∧ some k_ ≠ (s_.2 : Value).ownBlock) (.slice Ao58 y404.length co58) y404) ∧ (Kd.R (Kd.int .u64) 22 w' w.heap.size (fun k_ => some k_ ≠ (.slice Ao46 y385.length co46 : Value).ownBlock ∧ some k_ ≠ (.slice Ao49 t391.length co49 : Value).ownBlock ∧ some k_ ≠ (.slice Ao55 y399.length co55 : Value).ownBlock ∧ some k_ ≠ (.slice Ao58 y404.length co58 : Value).ownBlock ∧ some k_ ≠ (s_.1 : Value).ownBlock ∧ some k_ ≠ (s_.2 : Value).ownBlock) (.slice Ao61 y408.length co61) y408) ∧ (Kd.R (Kd.int .u64) 22 w' w.heap.size (fun k_ => some k_ ≠ (.slice Ao46 y385.length co46 : Value).ownBlock ∧ some k_ ≠ (.slice Ao49 t391.length co49 : Value).ownBlock ∧ some k_ ≠ (.slice Ao55 y399.length co55 : Value).ownBlock ∧ some k_ ≠ (.slice Ao58 y404.length co58 : Value).ownBlock ∧ some k_ ≠ (.slice Ao61 y408.length co61 : Value).ownBlock ∧ some k_ ≠ (s_.2 : Value).ownBlock) s_.1 y420) ∧ (Kd.R (Kd.int .u64) 22 w' w.heap.size (fun k_ => some k_ ≠ (.slice Ao46 y385.length co46 : Value).ownBlock ∧ some k_ ≠ (.slice Ao49 t391.length co49 : Value).ownBlock ∧ some k_ ≠ (.slice Ao55 y399.length co55 : Value).ownBlock ∧ some k_ ≠ (.slice Ao58 y404.length co58 : Value).ownBlock ∧ some k_ ≠ (.slice Ao61 y408.length co61 : Value).ownBlock ∧ some k_ ≠ (s_.1 : Value).ownBlock) s_.2 y423) ∧ (w'.heap[gb368]? = some (.cells #[.int .i64 t364, .int .i64 t365, .int .u64 t366] 24 (0, 0))) ∧ (Below w.heap.size w w')) ?_ ?_
     rotate_left
     ·intro hCont
      refine two_ (i := 51) (j := 52) (Ni := some 76) (Nj := some 77) (bv 64 4503599627370495) (bv 64 6755399441055743) rfl rfl rfl rfl (two_of HT_.out (by kernel_rfl)) (by decide) (by decide) (fun K hK => ?_) (fun K hK => ?_)
      ·skip
       refine Kd.R_lit_step (Kd.int .u64) _ 22 ?hg (N := 76) ?hd (xs := ([1, 2] : List Int)) (inner := [.int .u64 1, .int .u64 2]) (ok := fun _ => True) (okp := fun _ => True) ?hr ?hp (fun _ hk => hk) trivial (Below.refl _ _) (Nat.le_refl _) (by simp) ?_; (case hd => rfl); (case hg => rfl); (case hr => first | (go_simp; done) | (go_simp; rfl)); (case hp => exact (Reps.one (show Kd.M (Kd.int .u64) _ _ _ 1 [.int .u64 1] from rfl) (Reps.one (show Kd.M (Kd.int .u64) _ _ _ 2 [.int .u64 2] from rfl) (Reps.none _ _))))
       intro v421 w66 ho67 hb hg_ hnew_
       have HS3_ := (hb.cell (World.block_lt_of_cell? _ _ (hHeld.2.2.2.1))).trans (hHeld.2.2.2.1)
       have HS4_ := (hb.cell (World.block_lt_of_cell? _ _ (hHeld.2.2.2.2))).trans (hHeld.2.2.2.2)
       clear hg_ hnew_
       (first | rw [← Ny420.out] at ho67 | (simp only [Int.reduceToNat] at ho67; rw [← Ny420.out] at ho67))
       refine nx15_ (Kd.N_elder' (by (with_reducible repeat (first | apply Kd.N_alloc | apply Kd.N_drewN | apply Kd.N_drew)); exact HO377.out) (R_base ho67) hb) (Kd.N_elder' (by (with_reducible repeat (first | apply Kd.N_alloc | apply Kd.N_drewN | apply Kd.N_drew)); exact HO381.out) (R_base ho67) hb) (R_elder' (rU_ HO387.out) (R_base ho67) hb) (R_below (rU_ HO390.out) hb) (R_elder' (rU_ HO393.out) (R_base ho67) hb) (V_elder' (vU_ HL398_0.out) (R_base ho67) hb) (R_elder' (rU_ HO401.out) (R_base ho67) hb) (V_elder' (vU_ HL403_0.out) (R_base ho67) hb) (R_elder' (rU_ HO406.out) (R_base ho67) hb) (R_elder' (rU_ HO410.out) (R_base ho67) hb) (R_lower (R_new' (R_new' (R_new' (R_new' (R_new' ho67 (R_lt (rU_ HO387.out))) (R_lt (rU_ HO393.out))) (R_lt (rU_ HO401.out))) (R_lt (rU_ HO406.out))) (R_lt (rU_ HO410.out))) (below_size sU_)) (blk_below (kU_ BK368.out) hb) (C_below (by repeat (first | (with_reducible exact HR398_0.out) | (with_reducible refine Kd.C_alloc ?_ _) | (with_reducible refine Kd.C_drewN ?_ _) | (with_reducible refine Kd.C_drew ?_) | exact HR398_0.out)) hb) (C_below (by repeat (first | (with_reducible exact HR403_0.out) | (with_reducible refine Kd.C_alloc ?_ _) | (with_reducible refine Kd.C_drewN ?_ _) | (with_reducible refine Kd.C_drew ?_) | exact HR403_0.out)) hb) (below_step sU_ hb) ?_
       clear HO377 HO381 HO387 HO390 HO393 HL398_0 HO401 HL403_0 HO406 HO410 BK368 HR398_0 HR403_0 HB
       intro HO377 HO381 HO387 HO390 HO393 HL398_0 HO401 HL403_0 HO406 HO410 HO422 BK368 HR398_0 HR403_0 HB
       clear hb ho67
       refine hK.out _ _ ⟨bc0_ BK368.out, bc1_ BK368.out, bc2_ BK368.out, HS3_, HS4_⟩ (fun hHeld => ?_)
       clear hK K
       refine norm_ (a' := ?_) ?_ ?_
       rotate_left
       ·show Act.put _ (some 76) _ = _
        simp only [Act.put, s1_, s2_, s3_, i64_w, i32_w]
        rfl
       refine oq_ 52 77 64 9007199254740991 HT_.out fun K hK => ?_
       refine Kd.R_lit_step (Kd.int .u64) _ 22 ?hg (N := 77) ?hd (xs := ([98, 3] : List Int)) (inner := [.int .u64 98, .int .u64 3]) (ok := fun _ => True) (okp := fun _ => True) ?hr ?hp (fun _ hk => hk) trivial (Below.refl _ _) (Nat.le_refl _) (by simp) ?_; (case hd => rfl); (case hg => rfl); (case hr => first | (go_simp; done) | (go_simp; rfl)); (case hp => exact (Reps.one (show Kd.M (Kd.int .u64) _ _ _ 98 [.int .u64 98] from rfl) (Reps.one (show Kd.M (Kd.int .u64) _ _ _ 3 [.int .u64 3] from rfl) (Reps.none _ _))))
       intro v424 w68 ho69 hb hg_ hnew_
       have HS3_ := (hb.cell (World.block_lt_of_cell? _ _ (hHeld.2.2.2.1))).trans (hHeld.2.2.2.1)
       have HS4_ := (hb.cell (World.block_lt_of_cell? _ _ (hHeld.2.2.2.2))).trans (hHeld.2.2.2.2)
       clear hg_ hnew_
       (first | rw [← Ny423.out] at ho69 | (simp only [Int.reduceToNat] at ho69; rw [← Ny423.out] at ho69))
       refine nx16_ (Kd.N_elder' (by (with_reducible repeat (first | apply Kd.N_alloc | apply Kd.N_drewN | apply Kd.N_drew)); exact HO377.out) (R_base ho69) hb) (Kd.N_elder' (by (with_reducible repeat (first | apply Kd.N_alloc | apply Kd.N_drewN | apply Kd.N_drew)); exact HO381.out) (R_base ho69) hb) (R_elder' (rU_ HO387.out) (R_base ho69) hb) (R_below (rU_ HO390.out) hb) (R_elder' (rU_ HO393.out) (R_base ho69) hb) (V_elder' (vU_ HL398_0.out) (R_base ho69) hb) (R_elder' (rU_ HO401.out) (R_base ho69) hb) (V_elder' (vU_ HL403_0.out) (R_base ho69) hb) (R_elder' (rU_ HO406.out) (R_base ho69) hb) (R_elder' (rU_ HO410.out) (R_base ho69) hb) (R_elder' (rU_ HO422.out) (R_base ho69) hb) (R_lower (R_new' (R_new' (R_new' (R_new' (R_new' (R_new' ho69 (R_lt (rU_ HO387.out))) (R_lt (rU_ HO393.out))) (R_lt (rU_ HO401.out))) (R_lt (rU_ HO406.out))) (R_lt (rU_ HO410.out))) (R_lt (rU_ HO422.out))) (below_size sU_)) (blk_below (kU_ BK368.out) hb) (C_below (by repeat (first | (with_reducible exact HR398_0.out) | (with_reducible refine Kd.C_alloc ?_ _) | (with_reducible refine Kd.C_drewN ?_ _) | (with_reducible refine Kd.C_drew ?_) | exact HR398_0.out)) hb) (C_below (by repeat (first | (with_reducible exact HR403_0.out) | (with_reducible refine Kd.C_alloc ?_ _) | (with_reducible refine Kd.C_drewN ?_ _) | (with_reducible refine Kd.C_drew ?_) | exact HR403_0.out)) hb) (below_step sU_ hb) ?_
       clear HO377 HO381 HO387 HO390 HO393 HL398_0 HO401 HL403_0 HO406 HO410 HO422 BK368 HR398_0 HR403_0 HB
       intro HO377 HO381 HO387 HO390 HO393 HL398_0 HO401 HL403_0 HO406 HO410 HO422 HO425 BK368 HR398_0 HR403_0 HB
       clear hb ho69
       refine hK.out _ _ ⟨bc0_ BK368.out, bc1_ BK368.out, bc2_ BK368.out, HS3_, HS4_⟩ (fun hHeld => ?_)
       clear hK K
       refine norm_ (a' := ?_) ?_ ?_
       rotate_left
       ·show Act.put _ (some 77) _ = _
        simp only [Act.put, s1_, s2_, s3_, i64_w, i32_w]
        rfl
       exact norm_ (by simp only [putAll, Act.put, List.setIfInBounds_toArray, List.set_cons_zero, List.set_cons_succ]) (hCont (v421, v424) _ ⟨hHeld, (by (with_reducible repeat (first | apply Kd.V_alloc | apply Kd.V_drewN | apply V_drew)); exact V_mono HL398_0.out (fun _ hk => ⟨hk.1.1.1.1.1.1.1.1.1.1, ⟨hk.1.1.1.1.1.2, ⟨hk.1.1.1.1.1.1.1.1.2, ⟨hk.1.1.1.1.1.1.1.2, ⟨hk.1.1.1.1.1.1.2, ⟨hk.1.1.1.1.2, ⟨hk.1.1.1.2, ⟨hk.1.1.2, ⟨hk.1.2, ⟨hk.2, hk.1.1.1.1.1.1.1.1.1.2⟩⟩⟩⟩⟩⟩⟩⟩⟩⟩)), (by (with_reducible repeat (first | apply Kd.V_alloc | apply Kd.V_drewN | apply V_drew)); first | exact V_mono HL403_0.out (fun _ hk => ⟨hk.1.1.1.1.1.1.1.1.1.1, ⟨hk.1.1.1.1.2, ⟨hk.1.1.1.1.1.1.1.1.2, ⟨hk.1.1.1.1.1.1.1.2, ⟨hk.1.1.1.1.1.1.2, ⟨hk.1.1.1.1.1.2, ⟨hk.1.1.1.2, ⟨hk.1.1.2, ⟨hk.1.2, ⟨hk.2, hk.1.1.1.1.1.1.1.1.1.2⟩⟩⟩⟩⟩⟩⟩⟩⟩⟩) | exact V_mono HL403_0.out (fun _ hk => ⟨hk.1.1.1.1.1.1.1.1.1.1, ⟨hk.1.1.1.1.1.2, ⟨hk.1.1.1.1.1.1.1.1.2, ⟨hk.1.1.1.1.1.1.1.2, ⟨hk.1.1.1.1.1.1.2, ⟨hk.1.1.1.1.2, ⟨hk.1.1.1.2, ⟨hk.1.1.2, ⟨hk.1.2, ⟨hk.2, hk.1.1.1.1.1.1.1.1.1.2⟩⟩⟩⟩⟩⟩⟩⟩⟩⟩)), (by (with_reducible repeat (first | apply Kd.N_alloc | apply Kd.N_drewN | apply Kd.N_drew)); exact Kd.N_mono HO377.out (fun _ hk => ⟨hk.1.1.1.1.1.1.1.1.2, ⟨hk.1.1.1.1.1.1.1.2, ⟨hk.1.1.1.1.1.1.2, ⟨hk.1.1.1.1.1.2, ⟨hk.1.1.1.1.2, ⟨hk.1.1.1.2, ⟨hk.1.1.2, ⟨hk.1.2, ⟨hk.2, hk.1.1.1.1.1.1.1.1.1⟩⟩⟩⟩⟩⟩⟩⟩⟩)), (by (with_reducible repeat (first | apply Kd.N_alloc | apply Kd.N_drewN | apply Kd.N_drew)); exact Kd.N_mono HO381.out (fun _ hk => ⟨hk.1.1.1.1.1.1.1.1.1, ⟨hk.1.1.1.1.1.1.1.2, ⟨hk.1.1.1.1.1.1.2, ⟨hk.1.1.1.1.1.2, ⟨hk.1.1.1.1.2, ⟨hk.1.1.1.2, ⟨hk.1.1.2, ⟨hk.1.2, ⟨hk.2, hk.1.1.1.1.1.1.1.1.2⟩⟩⟩⟩⟩⟩⟩⟩⟩)), (R_mono (rU_ HO387.out) (fun _ hk => ⟨hk.1.1.1.1.1.2, ⟨hk.1.1.1.1.2, ⟨hk.1.1.1.2, ⟨hk.1.1.2, ⟨hk.1.2, hk.2⟩⟩⟩⟩⟩)), (rU_ HO390.out), (R_mono (rU_ HO393.out) (fun _ hk => ⟨hk.1.1.1.1.1.2, ⟨hk.1.1.1.1.2, ⟨hk.1.1.1.2, ⟨hk.1.1.2, ⟨hk.1.2, hk.2⟩⟩⟩⟩⟩)), (R_mono (rU_ HO401.out) (fun _ hk => ⟨hk.1.1.1.1.1.2, ⟨hk.1.1.1.1.2, ⟨hk.1.1.1.2, ⟨hk.1.1.2, ⟨hk.1.2, hk.2⟩⟩⟩⟩⟩)), (R_mono (rU_ HO406.out) (fun _ hk => ⟨hk.1.1.1.1.1.2, ⟨hk.1.1.1.1.2, ⟨hk.1.1.1.2, ⟨hk.1.1.2, ⟨hk.1.2, hk.2⟩⟩⟩⟩⟩)), (R_mono (rU_ HO410.out) (fun _ hk => ⟨hk.1.1.1.1.1.2, ⟨hk.1.1.1.1.2, ⟨hk.1.1.1.2, ⟨hk.1.1.2, ⟨hk.1.2, hk.2⟩⟩⟩⟩⟩)), (R_mono (rU_ HO422.out) (fun _ hk => ⟨hk.1.1.1.1.1.2, ⟨hk.1.1.1.1.2, ⟨hk.1.1.1.2, ⟨hk.1.1.2, ⟨hk.1.2, hk.2⟩⟩⟩⟩⟩)), (R_mono (rU_ HO425.out) (fun _ hk => ⟨hk.1.1.1.1.1.2, ⟨hk.1.1.1.1.2, ⟨hk.1.1.1.2, ⟨hk.1.1.2, ⟨hk.1.2, hk.2⟩⟩⟩⟩⟩)), (kU_ BK368.out), sU_⟩)
      skip
      refine Kd.R_lit_step (Kd.int .u64) _ 22 ?hg (N := 77) ?hd (xs := ([98, 3] : List Int)) (inner := [.int .u64 98, .int .u64 3]) (ok := fun _ => True) (okp := fun _ => True) ?hr ?hp (fun _ hk => hk) trivial (Below.refl _ _) (Nat.le_refl _) (by simp) ?_; (case hd => rfl); (case hg => rfl); (case hr => first | (go_simp; done) | (go_simp; rfl)); (case hp => exact (Reps.one (show Kd.M (Kd.int .u64) _ _ _ 98 [.int .u64 98] from rfl) (Reps.one (show Kd.M (Kd.int .u64) _ _ _ 3 [.int .u64 3] from rfl) (Reps.none _ _))))
      intro v424 w66 ho67 hb hg_ hnew_
      have HS3_ := (hb.cell (World.block_lt_of_cell? _ _ (hHeld.2.2.2.1))).trans (hHeld.2.2.2.1)
      have HS4_ := (hb.cell (World.block_lt_of_cell? _ _ (hHeld.2.2.2.2))).trans (hHeld.2.2.2.2)
      clear hg_ hnew_
      (first | rw [← Ny423.out] at ho67 | (simp only [Int.reduceToNat] at ho67; rw [← Ny423.out] at ho67))
      refine nx15_ (Kd.N_elder' (by (with_reducible repeat (first | apply Kd.N_alloc | apply Kd.N_drewN | apply Kd.N_drew)); exact HO377.out) (R_base ho67) hb) (Kd.N_elder' (by (with_reducible repeat (first | apply Kd.N_alloc | apply Kd.N_drewN | apply Kd.N_drew)); exact HO381.out) (R_base ho67) hb) (R_elder' (rU_ HO387.out) (R_base ho67) hb) (R_below (rU_ HO390.out) hb) (R_elder' (rU_ HO393.out) (R_base ho67) hb) (V_elder' (vU_ HL398_0.out) (R_base ho67) hb) (R_elder' (rU_ HO401.out) (R_base ho67) hb) (V_elder' (vU_ HL403_0.out) (R_base ho67) hb) (R_elder' (rU_ HO406.out) (R_base ho67) hb) (R_elder' (rU_ HO410.out) (R_base ho67) hb) (R_lower (R_new' (R_new' (R_new' (R_new' (R_new' ho67 (R_lt (rU_ HO387.out))) (R_lt (rU_ HO393.out))) (R_lt (rU_ HO401.out))) (R_lt (rU_ HO406.out))) (R_lt (rU_ HO410.out))) (below_size sU_)) (blk_below (kU_ BK368.out) hb) (C_below (by repeat (first | (with_reducible exact HR398_0.out) | (with_reducible refine Kd.C_alloc ?_ _) | (with_reducible refine Kd.C_drewN ?_ _) | (with_reducible refine Kd.C_drew ?_) | exact HR398_0.out)) hb) (C_below (by repeat (first | (with_reducible exact HR403_0.out) | (with_reducible refine Kd.C_alloc ?_ _) | (with_reducible refine Kd.C_drewN ?_ _) | (with_reducible refine Kd.C_drew ?_) | exact HR403_0.out)) hb) (below_step sU_ hb) ?_
      clear HO377 HO381 HO387 HO390 HO393 HL398_0 HO401 HL403_0 HO406 HO410 BK368 HR398_0 HR403_0 HB
      intro HO377 HO381 HO387 HO390 HO393 HL398_0 HO401 HL403_0 HO406 HO410 HO425 BK368 HR398_0 HR403_0 HB
      clear hb ho67
      refine hK.out _ _ ⟨bc0_ BK368.out, bc1_ BK368.out, bc2_ BK368.out, HS3_, HS4_⟩ (fun hHeld => ?_)
      clear hK K
      refine norm_ (a' := ?_) ?_ ?_
      rotate_left
      ·show Act.put _ (some 77) _ = _
       simp only [Act.put, s1_, s2_, s3_, i64_w, i32_w]
       rfl
      refine oq_ 51 76 64 9007199254740991 HT_.out fun K hK => ?_
      refine Kd.R_lit_step (Kd.int .u64) _ 22 ?hg (N := 76) ?hd (xs := ([1, 2] : List Int)) (inner := [.int .u64 1, .int .u64 2]) (ok := fun _ => True) (okp := fun _ => True) ?hr ?hp (fun _ hk => hk) trivial (Below.refl _ _) (Nat.le_refl _) (by simp) ?_; (case hd => rfl); (case hg => rfl); (case hr => first | (go_simp; done) | (go_simp; rfl)); (case hp => exact (Reps.one (show Kd.M (Kd.int .u64) _ _ _ 1 [.int .u64 1] from rfl) (Reps.one (show Kd.M (Kd.int .u64) _ _ _ 2 [.int .u64 2] from rfl) (Reps.none _ _))))
      intro v421 w68 ho69 hb hg_ hnew_
      have HS3_ := (hb.cell (World.block_lt_of_cell? _ _ (hHeld.2.2.2.1))).trans (hHeld.2.2.2.1)
      have HS4_ := (hb.cell (World.block_lt_of_cell? _ _ (hHeld.2.2.2.2))).trans (hHeld.2.2.2.2)
      clear hg_ hnew_
      (first | rw [← Ny420.out] at ho69 | (simp only [Int.reduceToNat] at ho69; rw [← Ny420.out] at ho69))
      refine nx16_ (Kd.N_elder' (by (with_reducible repeat (first | apply Kd.N_alloc | apply Kd.N_drewN | apply Kd.N_drew)); exact HO377.out) (R_base ho69) hb) (Kd.N_elder' (by (with_reducible repeat (first | apply Kd.N_alloc | apply Kd.N_drewN | apply Kd.N_drew)); exact HO381.out) (R_base ho69) hb) (R_elder' (rU_ HO387.out) (R_base ho69) hb) (R_below (rU_ HO390.out) hb) (R_elder' (rU_ HO393.out) (R_base ho69) hb) (V_elder' (vU_ HL398_0.out) (R_base ho69) hb) (R_elder' (rU_ HO401.out) (R_base ho69) hb) (V_elder' (vU_ HL403_0.out) (R_base ho69) hb) (R_elder' (rU_ HO406.out) (R_base ho69) hb) (R_elder' (rU_ HO410.out) (R_base ho69) hb) (R_elder' (rU_ HO425.out) (R_base ho69) hb) (R_lower (R_new' (R_new' (R_new' (R_new' (R_new' (R_new' ho69 (R_lt (rU_ HO387.out))) (R_lt (rU_ HO393.out))) (R_lt (rU_ HO401.out))) (R_lt (rU_ HO406.out))) (R_lt (rU_ HO410.out))) (R_lt (rU_ HO425.out))) (below_size sU_)) (blk_below (kU_ BK368.out) hb) (C_below (by repeat (first | (with_reducible exact HR398_0.out) | (with_reducible refine Kd.C_alloc ?_ _) | (with_reducible refine Kd.C_drewN ?_ _) | (with_reducible refine Kd.C_drew ?_) | exact HR398_0.out)) hb) (C_below (by repeat (first | (with_reducible exact HR403_0.out) | (with_reducible refine Kd.C_alloc ?_ _) | (with_reducible refine Kd.C_drewN ?_ _) | (with_reducible refine Kd.C_drew ?_) | exact HR403_0.out)) hb) (below_step sU_ hb) ?_
      clear HO377 HO381 HO387 HO390 HO393 HL398_0 HO401 HL403_0 HO406 HO410 HO425 BK368 HR398_0 HR403_0 HB
      intro HO377 HO381 HO387 HO390 HO393 HL398_0 HO401 HL403_0 HO406 HO410 HO425 HO422 BK368 HR398_0 HR403_0 HB
      clear hb ho69
      refine hK.out _ _ ⟨bc0_ BK368.out, bc1_ BK368.out, bc2_ BK368.out, HS3_, HS4_⟩ (fun hHeld => ?_)
      clear hK K
      refine norm_ (a' := ?_) ?_ ?_
      rotate_left
      ·show Act.put _ (some 76) _ = _
       simp only [Act.put, s1_, s2_, s3_, i64_w, i32_w]
       rfl
      exact norm_ (by simp only [putAll, Act.put, List.setIfInBounds_toArray, List.set_cons_zero, List.set_cons_succ]) (hCont (v421, v424) _ ⟨hHeld, (by (with_reducible repeat (first | apply Kd.V_alloc | apply Kd.V_drewN | apply V_drew)); exact V_mono HL398_0.out (fun _ hk => ⟨hk.1.1.1.1.1.1.1.1.1.1, ⟨hk.1.1.1.1.1.2, ⟨hk.1.1.1.1.1.1.1.1.2, ⟨hk.1.1.1.1.1.1.1.2, ⟨hk.1.1.1.1.1.1.2, ⟨hk.1.1.1.1.2, ⟨hk.1.1.1.2, ⟨hk.1.1.2, ⟨hk.2, ⟨hk.1.2, hk.1.1.1.1.1.1.1.1.1.2⟩⟩⟩⟩⟩⟩⟩⟩⟩⟩)), (by (with_reducible repeat (first | apply Kd.V_alloc | apply Kd.V_drewN | apply V_drew)); first | exact V_mono HL403_0.out (fun _ hk => ⟨hk.1.1.1.1.1.1.1.1.1.1, ⟨hk.1.1.1.1.2, ⟨hk.1.1.1.1.1.1.1.1.2, ⟨hk.1.1.1.1.1.1.1.2, ⟨hk.1.1.1.1.1.1.2, ⟨hk.1.1.1.1.1.2, ⟨hk.1.1.1.2, ⟨hk.1.1.2, ⟨hk.2, ⟨hk.1.2, hk.1.1.1.1.1.1.1.1.1.2⟩⟩⟩⟩⟩⟩⟩⟩⟩⟩) | exact V_mono HL403_0.out (fun _ hk => ⟨hk.1.1.1.1.1.1.1.1.1.1, ⟨hk.1.1.1.1.1.2, ⟨hk.1.1.1.1.1.1.1.1.2, ⟨hk.1.1.1.1.1.1.1.2, ⟨hk.1.1.1.1.1.1.2, ⟨hk.1.1.1.1.2, ⟨hk.1.1.1.2, ⟨hk.1.1.2, ⟨hk.2, ⟨hk.1.2, hk.1.1.1.1.1.1.1.1.1.2⟩⟩⟩⟩⟩⟩⟩⟩⟩⟩)), (by (with_reducible repeat (first | apply Kd.N_alloc | apply Kd.N_drewN | apply Kd.N_drew)); exact Kd.N_mono HO377.out (fun _ hk => ⟨hk.1.1.1.1.1.1.1.1.2, ⟨hk.1.1.1.1.1.1.1.2, ⟨hk.1.1.1.1.1.1.2, ⟨hk.1.1.1.1.1.2, ⟨hk.1.1.1.1.2, ⟨hk.1.1.1.2, ⟨hk.1.1.2, ⟨hk.2, ⟨hk.1.2, hk.1.1.1.1.1.1.1.1.1⟩⟩⟩⟩⟩⟩⟩⟩⟩)), (by (with_reducible repeat (first | apply Kd.N_alloc | apply Kd.N_drewN | apply Kd.N_drew)); exact Kd.N_mono HO381.out (fun _ hk => ⟨hk.1.1.1.1.1.1.1.1.1, ⟨hk.1.1.1.1.1.1.1.2, ⟨hk.1.1.1.1.1.1.2, ⟨hk.1.1.1.1.1.2, ⟨hk.1.1.1.1.2, ⟨hk.1.1.1.2, ⟨hk.1.1.2, ⟨hk.2, ⟨hk.1.2, hk.1.1.1.1.1.1.1.1.2⟩⟩⟩⟩⟩⟩⟩⟩⟩)), (R_mono (rU_ HO387.out) (fun _ hk => ⟨hk.1.1.1.1.1.2, ⟨hk.1.1.1.1.2, ⟨hk.1.1.1.2, ⟨hk.1.1.2, ⟨hk.2, hk.1.2⟩⟩⟩⟩⟩)), (rU_ HO390.out), (R_mono (rU_ HO393.out) (fun _ hk => ⟨hk.1.1.1.1.1.2, ⟨hk.1.1.1.1.2, ⟨hk.1.1.1.2, ⟨hk.1.1.2, ⟨hk.2, hk.1.2⟩⟩⟩⟩⟩)), (R_mono (rU_ HO401.out) (fun _ hk => ⟨hk.1.1.1.1.1.2, ⟨hk.1.1.1.1.2, ⟨hk.1.1.1.2, ⟨hk.1.1.2, ⟨hk.2, hk.1.2⟩⟩⟩⟩⟩)), (R_mono (rU_ HO406.out) (fun _ hk => ⟨hk.1.1.1.1.1.2, ⟨hk.1.1.1.1.2, ⟨hk.1.1.1.2, ⟨hk.1.1.2, ⟨hk.2, hk.1.2⟩⟩⟩⟩⟩)), (R_mono (rU_ HO410.out) (fun _ hk => ⟨hk.1.1.1.1.1.2, ⟨hk.1.1.1.1.2, ⟨hk.1.1.1.2, ⟨hk.1.1.2, ⟨hk.2, hk.1.2⟩⟩⟩⟩⟩)), (R_mono (rU_ HO422.out) (fun _ hk => ⟨hk.1.1.1.1.1.2, ⟨hk.1.1.1.1.2, ⟨hk.1.1.1.2, ⟨hk.1.1.2, ⟨hk.1.2, hk.2⟩⟩⟩⟩⟩)), (R_mono (rU_ HO425.out) (fun _ hk => ⟨hk.1.1.1.1.1.2, ⟨hk.1.1.1.1.2, ⟨hk.1.1.1.2, ⟨hk.1.1.2, ⟨hk.1.2, hk.2⟩⟩⟩⟩⟩)), (kU_ BK368.out), sU_⟩)
     rintro ⟨v421, v424⟩ w70 ⟨hS_, h0_, h1_, h2_, h3_, h4_, h5_, h6_, h7_, h8_, h9_, h10_, h11_, h12_, h13_⟩
     have n0_ : Aside0 (Kd.V (Kd.int .u64) 22 w70 w.heap.size (fun k_ => some k_ ≠ (.slice Ao39 y375.length co39 : Value).ownBlock ∧ some k_ ≠ (.slice (some ad398) t378.length co52 : Value).ownBlock ∧ some k_ ≠ (.slice Ao46 y385.length co46 : Value).ownBlock ∧ some k_ ≠ (.slice Ao47 y388.length co47 : Value).ownBlock ∧ some k_ ≠ (.slice Ao49 t391.length co49 : Value).ownBlock ∧ some k_ ≠ (.slice Ao55 y399.length co55 : Value).ownBlock ∧ some k_ ≠ (.slice Ao58 y404.length co58 : Value).ownBlock ∧ some k_ ≠ (.slice Ao61 y408.length co61 : Value).ownBlock ∧ some k_ ≠ (v421 : Value).ownBlock ∧ some k_ ≠ (v424 : Value).ownBlock ∧ k_ ≠ gb368) (.slice A398_0 (rd_L1 t378 0).length c398_0) (rd_L1 t378 0)) := ⟨h0_⟩
     have n1_ : Aside0 (Kd.V (Kd.int .u64) 22 w70 w.heap.size (fun k_ => some k_ ≠ (.slice Ao39 y375.length co39 : Value).ownBlock ∧ some k_ ≠ (.slice (some ad398) t378.length co52 : Value).ownBlock ∧ some k_ ≠ (.slice Ao46 y385.length co46 : Value).ownBlock ∧ some k_ ≠ (.slice Ao47 y388.length co47 : Value).ownBlock ∧ some k_ ≠ (.slice Ao49 t391.length co49 : Value).ownBlock ∧ some k_ ≠ (.slice Ao55 y399.length co55 : Value).ownBlock ∧ some k_ ≠ (.slice Ao58 y404.length co58 : Value).ownBlock ∧ some k_ ≠ (.slice Ao61 y408.length co61 : Value).ownBlock ∧ some k_ ≠ (v421 : Value).ownBlock ∧ some k_ ≠ (v424 : Value).ownBlock ∧ k_ ≠ gb368) (.slice A403_0 (rd_L1 t378 1).length c403_0) (rd_L1 t378 1)) := ⟨h1_⟩
     have n2_ : Aside0 (Kd.N (Kd.slice 22 (Kd.int .u64)) 33 w70 w.heap.size (fun k_ => some k_ ≠ (.slice (some ad398) t378.length co52 : Value).ownBlock ∧ some k_ ≠ (.slice Ao46 y385.length co46 : Value).ownBlock ∧ some k_ ≠ (.slice Ao47 y388.length co47 : Value).ownBlock ∧ some k_ ≠ (.slice Ao49 t391.length co49 : Value).ownBlock ∧ some k_ ≠ (.slice Ao55 y399.length co55 : Value).ownBlock ∧ some k_ ≠ (.slice Ao58 y404.length co58 : Value).ownBlock ∧ some k_ ≠ (.slice Ao61 y408.length co61 : Value).ownBlock ∧ some k_ ≠ (v421 : Value).ownBlock ∧ some k_ ≠ (v424 : Value).ownBlock ∧ k_ ≠ gb368) (.slice Ao39 y375.length co39) y375) := ⟨h2_⟩
     have n3_ : Aside0 (Kd.N (Kd.slice 22 (Kd.int .u64)) 33 w70 w.heap.size (fun k_ => some k_ ≠ (.slice Ao39 y375.length co39 : Value).ownBlock ∧ some k_ ≠ (.slice Ao46 y385.length co46 : Value).ownBlock ∧ some k_ ≠ (.slice Ao47 y388.length co47 : Value).ownBlock ∧ some k_ ≠ (.slice Ao49 t391.length co49 : Value).ownBlock ∧ some k_ ≠ (.slice Ao55 y399.length co55 : Value).ownBlock ∧ some k_ ≠ (.slice Ao58 y404.length co58 : Value).ownBlock ∧ some k_ ≠ (.slice Ao61 y408.length co61 : Value).ownBlock ∧ some k_ ≠ (v421 : Value).ownBlock ∧ some k_ ≠ (v424 : Value).ownBlock ∧ k_ ≠ gb368) (.slice (some ad398) t378.length co52) t378) := ⟨h3_⟩
     have n4_ : Aside0 (Kd.R (Kd.int .u64) 22 w70 w.heap.size (fun k_ => some k_ ≠ (.slice Ao49 t391.length co49 : Value).ownBlock ∧ some k_ ≠ (.slice Ao55 y399.length co55 : Value).ownBlock ∧ some k_ ≠ (.slice Ao58 y404.length co58 : Value).ownBlock ∧ some k_ ≠ (.slice Ao61 y408.length co61 : Value).ownBlock ∧ some k_ ≠ (v421 : Value).ownBlock ∧ some k_ ≠ (v424 : Value).ownBlock) (.slice Ao46 y385.length co46) y385) := ⟨h4_⟩
     have n5_ : Aside0 (Kd.R Kd.bool 4 w70 w.heap.size (fun _ => True) (.slice Ao47 y388.length co47) y388) := ⟨h5_⟩
     have n6_ : Aside0 (Kd.R (Kd.int .u64) 22 w70 w.heap.size (fun k_ => some k_ ≠ (.slice Ao46 y385.length co46 : Value).ownBlock ∧ some k_ ≠ (.slice Ao55 y399.length co55 : Value).ownBlock ∧ some k_ ≠ (.slice Ao58 y404.length co58 : Value).ownBlock ∧ some k_ ≠ (.slice Ao61 y408.length co61 : Value).ownBlock ∧ some k_ ≠ (v421 : Value).ownBlock ∧ some k_ ≠ (v424 : Value).ownBlock) (.slice Ao49 t391.length co49) t391) := ⟨h6_⟩
     have n7_ : Aside0 (Kd.R (Kd.int .u64) 22 w70 w.heap.size (fun k_ => some k_ ≠ (.slice Ao46 y385.length co46 : Value).ownBlock ∧ some k_ ≠ (.slice Ao49 t391.length co49 : Value).ownBlock ∧ some k_ ≠ (.slice Ao58 y404.length co58 : Value).ownBlock ∧ some k_ ≠ (.slice Ao61 y408.length co61 : Value).ownBlock ∧ some k_ ≠ (v421 : Value).ownBlock ∧ some k_ ≠ (v424 : Value).ownBlock) (.slice Ao55 y399.length co55) y399) := ⟨h7_⟩
     have n8_ : Aside0 (Kd.R (Kd.int .u64) 22 w70 w.heap.size (fun k_ => some k_ ≠ (.slice Ao46 y385.length co46 : Value).ownBlock ∧ some k_ ≠ (.slice Ao49 t391.length co49 : Value).ownBlock ∧ some k_ ≠ (.slice Ao55 y399.length co55 : Value).ownBlock ∧ some k_ ≠ (.slice Ao61 y408.length co61 : Value).ownBlock ∧ some k_ ≠ (v421 : Value).ownBlock ∧ some k_ ≠ (v424 : Value).ownBlock) (.slice Ao58 y404.length co58) y404) := ⟨h8_⟩
     have n9_ : Aside0 (Kd.R (Kd.int .u64) 22 w70 w.heap.size (fun k_ => some k_ ≠ (.slice Ao46 y385.length co46 : Value).ownBlock ∧ some k_ ≠ (.slice Ao49 t391.length co49 : Value).ownBlock ∧ some k_ ≠ (.slice Ao55 y399.length co55 : Value).ownBlock ∧ some k_ ≠ (.slice Ao58 y404.length co58 : Value).ownBlock ∧ some k_ ≠ (v421 : Value).ownBlock ∧ some k_ ≠ (v424 : Value).ownBlock) (.slice Ao61 y408.length co61) y408) := ⟨h9_⟩
     have n10_ : Aside0 (Kd.R (Kd.int .u64) 22 w70 w.heap.size (fun k_ => some k_ ≠ (.slice Ao46 y385.length co46 : Value).ownBlock ∧ some k_ ≠ (.slice Ao49 t391.length co49 : Value).ownBlock ∧ some k_ ≠ (.slice Ao55 y399.length co55 : Value).ownBlock ∧ some k_ ≠ (.slice Ao58 y404.length co58 : Value).ownBlock ∧ some k_ ≠ (.slice Ao61 y408.length co61 : Value).ownBlock ∧ some k_ ≠ (v424 : Value).ownBlock) v421 y420) := ⟨h10_⟩
     have n11_ : Aside0 (Kd.R (Kd.int .u64) 22 w70 w.heap.size (fun k_ => some k_ ≠ (.slice Ao46 y385.length co46 : Value).ownBlock ∧ some k_ ≠ (.slice Ao49 t391.length co49 : Value).ownBlock ∧ some k_ ≠ (.slice Ao55 y399.length co55 : Value).ownBlock ∧ some k_ ≠ (.slice Ao58 y404.length co58 : Value).ownBlock ∧ some k_ ≠ (.slice Ao61 y408.length co61 : Value).ownBlock ∧ some k_ ≠ (v421 : Value).ownBlock) v424 y423) := ⟨h11_⟩
     have n12_ : Aside0 (w70.heap[gb368]? = some (.cells #[.int .i64 t364, .int .i64 t365, .int .u64 t366] 24 (0, 0))) := ⟨h12_⟩
     have n13_ : Aside0 (Below w.heap.size w w70) := ⟨h13_⟩
     clear HO377
     clear HO381
     clear HO387
     clear HO390
     clear HO393
     clear BK368
     clear HB
     clear h0_ h1_ h2_ h3_ h4_ h5_ h6_ h7_ h8_ h9_ h10_ h11_ h12_ h13_
     have HL398_0 := n0_
     have HL403_0 := n1_
     have HO377 := n2_
     have HO381 := n3_
     have HO387 := n4_
     have HO390 := n5_
     have HO393 := n6_
     have HO401 := n7_
     have HO406 := n8_
     have HO410 := n9_
     have HO422 := n10_
     have HO425 := n11_
     have BK368 := n12_
     have HB := n13_
     clear n0_ n1_ n2_ n3_ n4_ n5_ n6_ n7_ n8_ n9_ n10_ n11_ n12_ n13_
     have hHeld : w70.cell? ⟨gb368, 0, none⟩ = some (.int .i64 t364) ∧ w70.cell? ⟨gb368, 1, none⟩ = some (.int .i64 t365) ∧ w70.cell? ⟨gb368, 2, none⟩ = some (.int .u64 t366) ∧ w70.cell? ad398 = some (.slice A398_0 (rd_L1 t378 0).length c398_0) ∧ w70.cell? ⟨ad398.block, ad398.off + 1, none⟩ = some (.slice A403_0 (rd_L1 t378 1).length c403_0) := hS_
     obtain ⟨Ao71, co71, eo71⟩ := R_slice HO422.out
     (first | subst eo71 | (injection eo71 with f1_ f2_ f3_; have f4_ := f1_.symm; have f5_ := f3_.symm; clear f1_ f2_ f3_; subst f4_; subst f5_))
     obtain ⟨Ao72, co72, eo72⟩ := R_slice HO425.out
     (first | subst eo72 | (injection eo72 with f1_ f2_ f3_; have f4_ := f1_.symm; have f5_ := f3_.symm; clear f1_ f2_ f3_; subst f4_; subst f5_))
     refine norm_ (a' := ?_) ?_ ?_
     rotate_left
     ·simp only [putAll, Act.put, List.setIfInBounds_toArray, List.set_cons_zero, List.set_cons_succ]
      rfl
     refine oq_ 53 78 64 18014398509481983 HT_.out fun K hK => ?_
     refine gs_ Tryd.func36 #[.int .i64 0, .slice Ao71 y420.length co71, .slice Ao72 y423.length co72] ?_
     with_reducible refine (code_Differ.calls k 0 _ _ y420 _ _ y423 t426 _ ?side1 ?side2 ?side3 ?side4 ?side5 A25.out).mono ?_
     (case side1 => repeat (first | with_reducible exact HG.out | with_reducible exact (Fld.below HG.out HB.out) | exact (Fld.below HG.out sU_) | (with_reducible refine Fld.alloc ?_ _) | (with_reducible refine Fld.drewN ?_ _) | (with_reducible refine Fld.drew ?_)))
     (case side2 => exact cU_ ((R_reads' HO422.out).2.2))
     (case side3 => exact (R_reads' HO422.out).2.1)
     (case side4 => exact cU_ ((R_reads' HO425.out).2.2))
     (case side5 => exact (R_reads' HO425.out).2.1)
     rintro e w73 ⟨rfl, hb⟩
     have HS3_ := (hb.cell (World.block_lt_of_cell? _ _ (hHeld.2.2.2.1))).trans (hHeld.2.2.2.1)
     have HS4_ := (hb.cell (World.block_lt_of_cell? _ _ (hHeld.2.2.2.2))).trans (hHeld.2.2.2.2)
     refine ⟨_, rfl, ?_⟩
     refine nx14_ (Kd.N_below (by (with_reducible repeat (first | apply Kd.N_alloc | apply Kd.N_drewN | apply Kd.N_drew)); exact HO377.out) hb) (Kd.N_below (by (with_reducible repeat (first | apply Kd.N_alloc | apply Kd.N_drewN | apply Kd.N_drew)); exact HO381.out) hb) (R_below (rU_ HO387.out) hb) (R_below (rU_ HO390.out) hb) (R_below (rU_ HO393.out) hb) (V_below (vU_ HL398_0.out) hb) (R_below (rU_ HO401.out) hb) (V_below (vU_ HL403_0.out) hb) (R_below (rU_ HO406.out) hb) (R_below (rU_ HO410.out) hb) (R_below (rU_ HO422.out) hb) (R_below (rU_ HO425.out) hb) (blk_below (kU_ BK368.out) hb) (below_step sU_ hb) ?_
     clear HO377 HO381 HO387 HO390 HO393 HL398_0 HO401 HL403_0 HO406 HO410 HO422 HO425 BK368 HB
     intro HO377 HO381 HO387 HO390 HO393 HL398_0 HO401 HL403_0 HO406 HO410 HO422 HO425 BK368 HB
     (try clear hb)
     (try clear hb2)
     (try clear hk)
     (try clear hi)
     refine hK.out _ _ ⟨bc0_ BK368.out, bc1_ BK368.out, bc2_ BK368.out, HS3_, HS4_⟩ (fun hHeld => ?_)
     clear hK K
     refine norm_ (a' := ?_) ?_ ?_
     rotate_left
     ·show Act.put _ (some 78) _ = _
      simp only [Act.put, s1_, s2_, s3_, i64_w, i32_w]
      rfl
     refine pq_ 54 79 64 36028797018963967 HT_.out ?_
     refine pq_ 55 80 64 72057594037927935 HT_.out ?_
     refine pq_ 56 81 64 144115188075855871 HT_.out ?_
     refine pq_ 57 82 64 288230376151711743 HT_.out ?_
     refine pq_ 60 85 64 1441151880758558719 HT_.out ?_
     refine oq_ 58 83 64 1729382256910270463 HT_.out fun K hK => ?_
     refine Kd.R_lit_step (Kd.int .u64) _ 22 ?hg (N := 83) ?hd (xs := ([7, 7, 7, 7, 7, 7, 7, 7] : List Int)) (inner := [.int .u64 7, .int .u64 7, .int .u64 7, .int .u64 7, .int .u64 7, .int .u64 7, .int .u64 7, .int .u64 7]) (ok := fun _ => True) (okp := fun _ => True) ?hr ?hp (fun _ hk => hk) trivial (Below.refl _ _) (Nat.le_refl _) (by simp) ?_; (case hd => rfl); (case hg => rfl); (case hr => first | (go_simp; done) | (go_simp; rfl)); (case hp => exact (Reps.one (show Kd.M (Kd.int .u64) _ _ _ 7 [.int .u64 7] from rfl) (Reps.one (show Kd.M (Kd.int .u64) _ _ _ 7 [.int .u64 7] from rfl) (Reps.one (show Kd.M (Kd.int .u64) _ _ _ 7 [.int .u64 7] from rfl) (Reps.one (show Kd.M (Kd.int .u64) _ _ _ 7 [.int .u64 7] from rfl) (Reps.one (show Kd.M (Kd.int .u64) _ _ _ 7 [.int .u64 7] from rfl) (Reps.one (show Kd.M (Kd.int .u64) _ _ _ 7 [.int .u64 7] from rfl) (Reps.one (show Kd.M (Kd.int .u64) _ _ _ 7 [.int .u64 7] from rfl) (Reps.one (show Kd.M (Kd.int .u64) _ _ _ 7 [.int .u64 7] from rfl) (Reps.none _ _))))))))))
     intro v428 w74 ho75 hb hg_ hnew_
     have HS3_ := (hb.cell (World.block_lt_of_cell? _ _ (hHeld.2.2.2.1))).trans (hHeld.2.2.2.1)
     have HS4_ := (hb.cell (World.block_lt_of_cell? _ _ (hHeld.2.2.2.2))).trans (hHeld.2.2.2.2)
     clear hg_ hnew_
     (first | rw [← Ny427.out] at ho75 | (simp only [Int.reduceToNat] at ho75; rw [← Ny427.out] at ho75))
     refine nx15_ (Kd.N_elder' (by (with_reducible repeat (first | apply Kd.N_alloc | apply Kd.N_drewN | apply Kd.N_drew)); exact HO377.out) (R_base ho75) hb) (Kd.N_elder' (by (with_reducible repeat (first | apply Kd.N_alloc | apply Kd.N_drewN | apply Kd.N_drew)); exact HO381.out) (R_base ho75) hb) (R_elder' (rU_ HO387.out) (R_base ho75) hb) (R_below (rU_ HO390.out) hb) (R_elder' (rU_ HO393.out) (R_base ho75) hb) (V_elder' (vU_ HL398_0.out) (R_base ho75) hb) (R_elder' (rU_ HO401.out) (R_base ho75) hb) (V_elder' (vU_ HL403_0.out) (R_base ho75) hb) (R_elder' (rU_ HO406.out) (R_base ho75) hb) (R_elder' (rU_ HO410.out) (R_base ho75) hb) (R_elder' (rU_ HO422.out) (R_base ho75) hb) (R_elder' (rU_ HO425.out) (R_base ho75) hb) (R_lower (R_new' (R_new' (R_new' (R_new' (R_new' (R_new' (R_new' ho75 (R_lt (rU_ HO387.out))) (R_lt (rU_ HO393.out))) (R_lt (rU_ HO401.out))) (R_lt (rU_ HO406.out))) (R_lt (rU_ HO410.out))) (R_lt (rU_ HO422.out))) (R_lt (rU_ HO425.out))) (below_size sU_)) (blk_below (kU_ BK368.out) hb) (below_step sU_ hb) ?_
     clear HO377 HO381 HO387 HO390 HO393 HL398_0 HO401 HL403_0 HO406 HO410 HO422 HO425 BK368 HB
     intro HO377 HO381 HO387 HO390 HO393 HL398_0 HO401 HL403_0 HO406 HO410 HO422 HO425 HO429 BK368 HB
     clear hb ho75
     obtain ⟨Ao76, co76, eo76⟩ := R_slice HO429.out
     (first | subst eo76 | (injection eo76 with f1_ f2_ f3_; have f4_ := f1_.symm; have f5_ := f3_.symm; clear f1_ f2_ f3_; subst f4_; subst f5_))
     refine hK.out _ _ ⟨bc0_ BK368.out, bc1_ BK368.out, bc2_ BK368.out, HS3_, HS4_⟩ (fun hHeld => ?_)
     clear hK K
     refine norm_ (a' := ?_) ?_ ?_
     rotate_left
     ·show Act.put _ (some 83) _ = _
      simp only [Act.put, s1_, s2_, s3_, i64_w, i32_w]
      rfl
     refine oq_ 59 84 64 2305843009213693951 HT_.out fun K hK => ?_
     refine gs_ Tryd.func41 #[.agg #[.int .i64 0, .int .i64 3, .int .u64 1], .slice Ao76 y427.length co76, .int .i64 0] ?_
     with_reducible refine (code_Local.calls k 0 3 1 _ _ y427 0 t430 _ ?side1 ?side2 ?side3 A27.out).mono ?_
     (case side1 => repeat (first | with_reducible exact HG.out | with_reducible exact (Fld.below HG.out HB.out) | exact (Fld.below HG.out sU_) | (with_reducible refine Fld.alloc ?_ _) | (with_reducible refine Fld.drewN ?_ _) | (with_reducible refine Fld.drew ?_)))
     (case side2 => exact cU_ ((R_reads' HO429.out).2.2))
     (case side3 => exact (R_reads' HO429.out).2.1)
     rintro e w77 ⟨rfl, hb⟩
     have HS3_ := (hb.cell (World.block_lt_of_cell? _ _ (hHeld.2.2.2.1))).trans (hHeld.2.2.2.1)
     have HS4_ := (hb.cell (World.block_lt_of_cell? _ _ (hHeld.2.2.2.2))).trans (hHeld.2.2.2.2)
     refine ⟨_, rfl, ?_⟩
     refine nx15_ (Kd.N_below (by (with_reducible repeat (first | apply Kd.N_alloc | apply Kd.N_drewN | apply Kd.N_drew)); exact HO377.out) hb) (Kd.N_below (by (with_reducible repeat (first | apply Kd.N_alloc | apply Kd.N_drewN | apply Kd.N_drew)); exact HO381.out) hb) (R_below (rU_ HO387.out) hb) (R_below (rU_ HO390.out) hb) (R_below (rU_ HO393.out) hb) (V_below (vU_ HL398_0.out) hb) (R_below (rU_ HO401.out) hb) (V_below (vU_ HL403_0.out) hb) (R_below (rU_ HO406.out) hb) (R_below (rU_ HO410.out) hb) (R_below (rU_ HO422.out) hb) (R_below (rU_ HO425.out) hb) (R_below (rU_ HO429.out) hb) (blk_below (kU_ BK368.out) hb) (below_step sU_ hb) ?_
     clear HO377 HO381 HO387 HO390 HO393 HL398_0 HO401 HL403_0 HO406 HO410 HO422 HO425 HO429 BK368 HB
     intro HO377 HO381 HO387 HO390 HO393 HL398_0 HO401 HL403_0 HO406 HO410 HO422 HO425 HO429 BK368 HB
     (try clear hb)
     (try clear hb2)
     (try clear hk)
     (try clear hi)
     refine hK.out _ _ ⟨bc0_ BK368.out, bc1_ BK368.out, bc2_ BK368.out, HS3_, HS4_⟩ (fun hHeld => ?_)
     clear hK K
     refine norm_ (a' := ?_) ?_ ?_
     rotate_left
     ·show Act.put _ (some 84) _ = _
      simp only [Act.put, s1_, s2_, s3_, i64_w, i32_w]
      rfl
     refine pq_ 61 86 64 4611686018427387903 HT_.out ?_
     refine pq_ 62 87 64 9223372036854775807 HT_.out ?_
     refine pq_ 63 0 64 18446744073709551615 HT_.out ?_
     refine done_ (done_of HT_.out (by kernel_rfl)) ?_
     try go_wp2
     go_ret
     exact ⟨eW_, sU_⟩
    replace c21 := Bool.eq_false_iff.mpr c21
    subst c21
    rw [if_neg (show ¬ (false = true) by decide)] at H
    exact absurd H (by simp)
   replace c18 := Bool.eq_false_iff.mpr c18
   subst c18
   rw [if_neg (show ¬ (false = true) by decide)] at H
   exact absurd H (by simp)
  replace c15 := Bool.eq_false_iff.mpr c15
  subst c15
  rw [if_neg (show ¬ (false = true) by decide)] at H
  exact absurd H (by simp)
 replace c12 := Bool.eq_false_iff.mpr c12
 subst c12
 rw [if_neg (show ¬ (false = true) by decide)] at H
 exact absurd H (by simp)

end Go.Proofs.YtedapdagagkajaaDoor.Q

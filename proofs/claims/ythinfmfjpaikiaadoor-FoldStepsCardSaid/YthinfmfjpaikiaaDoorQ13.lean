import Derived.Test.YthinfmfjpaikiaaDoorQ0
import Derived.Test.YthinfmfjpaikiaaDoorQ2
import Derived.Test.YthinfmfjpaikiaaDoorQ3
import Derived.Test.YthinfmfjpaikiaaDoorQ7
import Derived.Test.YthinfmfjpaikiaaDoorQ11
import Derived.Test.YthinfmfjpaikiaaDoorQ12
namespace Go.Proofs.YthinfmfjpaikiaaDoor.Q
open Go.RowKit Go.Proofs.YthinfmfjpaikiaaDoorW.PrintWords Go.Proofs.YthinfmfjpaikiaaDoorW.PrintLast Go.Proofs.YthinfmfjpaikiaaDoorW.PrintMore
open Kd (R_below R_mono R_far R_types R_lower R_new' R_elder' R_base R_lt R_slice R_reads' R_make V_below V_mono V_far V_elder' V_elderB V_mk C_below fresh' freshB R_drew V_drew C_of_reads)
attribute [local go_sem] max2_int min2_int max_two min_two max_three min_three max_four min_four   -- for this text's walks alone
set_option linter.unusedVariables false
set_option linter.unusedSimpArgs false

mutual
def attestorlaw09_FoldSteps.j0 : Nat → List Int → Int → List Int → List (List Int) → Int → Int → Int → Option (Bool)
 | 0, _, _, _, _, _, _, _ => none
 | k + 1, x4, x12, x13, x14, x486000, x486001, x486002 => attestorlaw09_FoldSteps.l0 k x4 x12 x13 x14 0 x486000 x486001 x486002
def attestorlaw09_FoldSteps.l0 : Nat → List Int → Int → List Int → List (List Int) → Int → Int → Int → Int → Option (Bool)
 | 0, _, _, _, _, _, _, _, _ => none
 | k + 1, x4, x12, x13, x14, x16, x486000, x486001, x486002 => if x16 < x12 then (if 0 < (x14.length : Int) then (if 0 ≤ x16 then (if x16 < ((rd_L1 x14 0).length : Int) then (if x16 < (x13.length : Int) then ((field_Reduce.f x486000 (rd x13 x16)).bind fun t502 => (if (rd (rd_L1 x14 0) x16) = t502 then (attestorlaw09_FoldSteps.l0 k x4 x12 x13 x14 (wrap64 (x16 + 1)) x486000 x486001 x486002) else (none))) else (none)) else (none)) else (none)) else (none)) else (attestorlaw09_FoldSteps.l1 k x4 x14 0 x486000 x486001 x486002)
def attestorlaw09_FoldSteps.l1 : Nat → List Int → List (List Int) → Int → Int → Int → Int → Option (Bool)
 | 0, _, _, _, _, _, _ => none
 | k + 1, x4, x14, x17, x486000, x486001, x486002 => if x17 < (x4.length : Int) then (attestorlaw09_FoldSteps.j3 k x4 x14 x17 x486000 x486001 x486002) else ((attestorlaw09_works.f k).bind fun t503 => (some t503))
def attestorlaw09_FoldSteps.j3 : Nat → List Int → List (List Int) → Int → Int → Int → Int → Option (Bool)
 | 0, _, _, _, _, _, _ => none
 | k + 1, x4, x14, x17, x486000, x486001, x486002 => if 0 ≤ x17 then (if x17 < (x14.length : Int) then (if x17 < (x4.length : Int) then ((fold_Word.f k x486000 x486001 x486002 (rd_L1 x14 x17) (rd x4 x17)).bind fun bt506 => ((fold_Next.f k x486000 x486001 x486002).bind fun bt510 => (if bt506.2 = 0 then (if bt510.2.2.2 = 0 then (if 0 ≤ (wrap64 (x17 + 1)) then (if (wrap64 (x17 + 1)) < (x14.length : Int) then ((attestorlaw09_same.f k bt506.1 (rd_L1 x14 (wrap64 (x17 + 1)))).bind fun t516 => (if t516 = true then ((code_Size.f bt510.1 bt510.2.1 bt510.2.2.1).bind fun t517 => (if (bt506.1.length : Int) = t517 then (attestorlaw09_FoldSteps.j4 k x4 x14 x17 bt506.1 x486000 x486001 x486002 bt510.1 bt510.2.1 bt510.2.2.1) else (none))) else (none))) else (none)) else (none)) else (none)) else (none)))) else (none)) else (none)) else (none)
def attestorlaw09_FoldSteps.j4 : Nat → List Int → List (List Int) → Int → List Int → Int → Int → Int → Int → Int → Int → Option (Bool)
 | 0, _, _, _, _, _, _, _, _, _, _ => none
 | k + 1, x4, x14, x17, x18, x486000, x486001, x486002, x515000, x515001, x515002 => attestorlaw09_FoldSteps.l2 k x4 x14 x17 x18 0 x486000 x486001 x486002 x515000 x515001 x515002
def attestorlaw09_FoldSteps.l2 : Nat → List Int → List (List Int) → Int → List Int → Int → Int → Int → Int → Int → Int → Int → Option (Bool)
 | 0, _, _, _, _, _, _, _, _, _, _, _ => none
 | k + 1, x4, x14, x17, x18, x22, x486000, x486001, x486002, x515000, x515001, x515002 => if x22 < (x18.length : Int) then (attestorlaw09_FoldSteps.j6 k x4 x14 x17 x18 x22 x486000 x486001 x486002 x515000 x515001 x515002) else (attestorlaw09_FoldSteps.l1 k x4 x14 (wrap64 (x17 + 1)) x515000 x515001 x515002)
def attestorlaw09_FoldSteps.j6 : Nat → List Int → List (List Int) → Int → List Int → Int → Int → Int → Int → Int → Int → Int → Option (Bool)
 | 0, _, _, _, _, _, _, _, _, _, _, _ => none
 | k + 1, x4, x14, x17, x18, x22, x486000, x486001, x486002, x515000, x515001, x515002 => if 0 ≤ x22 then (if x22 < (x18.length : Int) then ((code_Point.f k x486000 x486001 x486002 x22).bind fun t519 => (if 0 ≤ x17 then (if x17 < (x14.length : Int) then ((fold_Leaf.f k x486000 x486001 x486002 (rd_L1 x14 x17) x22).bind fun t521 => (if x17 < (x4.length : Int) then ((fold_At.f k x486000 t519 t521 (rd x4 x17)).bind fun t523 => (if (rd x18 x22) = t523 then (attestorlaw09_FoldSteps.l2 k x4 x14 x17 x18 (wrap64 (x22 + 1)) x486000 x486001 x486002 x515000 x515001 x515002) else (none))) else (none))) else (none)) else (none))) else (none)) else (none)
end
def attestorlaw09_FoldSteps.f (k : Nat) (a0 : Int) (a1 : Int) (a2 : Int) (l3 : List Int) (l4 : List Int) : Option (Bool) := (attestorlaw09_domain.f a0 a1 a2).bind fun bt482 => (if 0 ≤ (IntKind.u64.wrap (bt482.2.1)) then (if 0 ≤ (shl .i64 1 (IntKind.u64.wrap (bt482.2.1))) then (if (shl .i64 1 (IntKind.u64.wrap (bt482.2.1)) : Int).toNat ≤ 35184372088832 then ((some (cpyAt (List.replicate (shl .i64 1 (IntKind.u64.wrap (bt482.2.1)) : Int).toNat 0) 0 l3 : List Int)).bind fun y489 => ((attestorlaw09_own.f l4 (wrap64 (Int.tdiv bt482.2.1 3))).bind fun t491 => ((fold_Words.f k bt482.1 bt482.2.1 bt482.2.2 y489 t491).bind fun bt494 => (if bt494.2 = 0 then (if (bt494.1.length : Int) = (wrap64 ((t491.length : Int) + 1)) then (if 0 < (bt494.1.length : Int) then (if ((rd_L1 bt494.1 0).length : Int) = (shl .i64 1 (IntKind.u64.wrap (bt482.2.1))) then (attestorlaw09_FoldSteps.j0 k t491 (shl .i64 1 (IntKind.u64.wrap (bt482.2.1))) y489 bt494.1 bt482.1 bt482.2.1 bt482.2.2) else (none)) else (none)) else (none)) else (none))))) else (none)) else (none)) else (none))
def attestorlaw09_FoldSteps.T12 : Bool × List (List Nat × List Nat) := (true, [([], []), ([0], [0]), ([1], [1]), ([], []), ([2, 3], [2, 3]), ([4], [4]), ([], []), ([6], [6]), ([], []), ([], []), ([8, 9], [8, 9]), ([10], [10]), ([7, 11], [7, 11]), ([5, 12], [5, 12])])
def attestorlaw09_FoldSteps.B12 : List Nat := [0, 1, 3, 0, 15, 31, 0, 64, 0, 0, 768, 1792, 4032, 8191]
theorem attestorlaw09_FoldSteps.tab12 : rtab .any (opsOf Tryd.f7 12) = attestorlaw09_FoldSteps.T12 := by kernel_rfl
theorem attestorlaw09_FoldSteps.bits12 : waitsOk attestorlaw09_FoldSteps.T12.2 attestorlaw09_FoldSteps.B12 = true := by kernel_rfl
def attestorlaw09_FoldSteps.T17 : Bool × List (List Nat × List Nat) := (true, [([], []), ([], []), ([], []), ([1, 2], [1, 2]), ([3], [3]), ([], []), ([], []), ([5, 6], [5, 6]), ([7], [7]), ([0, 4, 8], [0, 4, 8]), ([9], [9]), ([10], [10]), ([10], [10]), ([11, 9, 0, 1, 2, 3, 4, 5, 6, 7, 8, 9, 10, 11], [11]), ([12, 13, 0, 1, 2, 3, 4, 5, 6, 7, 8, 9, 10, 11, 12, 13], [12])])
def attestorlaw09_FoldSteps.B17 : List Nat := [0, 0, 0, 6, 14, 0, 0, 96, 224, 511, 1023, 2047, 2047, 4095, 16383]
theorem attestorlaw09_FoldSteps.tab17 : rtab .any (opsOf Tryd.f7 17) = attestorlaw09_FoldSteps.T17 := by kernel_rfl
theorem attestorlaw09_FoldSteps.bits17 : waitsOk attestorlaw09_FoldSteps.T17.2 attestorlaw09_FoldSteps.B17 = true := by kernel_rfl
def attestorlaw09_FoldSteps.T24 : Bool × List (List Nat × List Nat) := (true, [([], []), ([], []), ([0, 1], [0, 1]), ([2], [2]), ([], []), ([4], [4]), ([], []), ([], []), ([6, 7], [6, 7]), ([], []), ([], []), ([], []), ([10, 11], [10, 11]), ([12], [12]), ([], []), ([9, 13, 14, 8], [9, 13, 14]), ([], []), ([], []), ([16, 17], [16, 17]), ([18], [18]), ([5, 8, 15, 19, 15], [5, 8, 15, 19]), ([3, 20], [3, 20])])
def attestorlaw09_FoldSteps.B24 : List Nat := [0, 0, 3, 7, 0, 16, 0, 0, 192, 0, 0, 0, 3072, 7168, 0, 32704, 0, 0, 196608, 458752, 1048560, 2097151]
theorem attestorlaw09_FoldSteps.tab24 : rtab .any (opsOf Tryd.f7 24) = attestorlaw09_FoldSteps.T24 := by kernel_rfl
theorem attestorlaw09_FoldSteps.bits24 : waitsOk attestorlaw09_FoldSteps.T24.2 attestorlaw09_FoldSteps.B24 = true := by kernel_rfl
set_option maxHeartbeats 8000000 in
set_option maxRecDepth 100000 in
theorem attestorlaw09_FoldSteps.calls (k : Nat) (a0 : Int) (a1 : Int) (a2 : Int) (A3 : Option Addr) (c3 : Nat) (l3 : List Int) (A4 : Option Addr) (c4 : Nat) (l4 : List Int) (r : Bool) (w : World) (hG : Fld w) (hr3 : Kd.C (Kd.int .u64) w A3 l3.length l3) (hc3 : l3.length ≤ c3) (hr4 : Kd.C (Kd.int .u64) w A4 l4.length l4) (hc4 : l4.length ≤ c4) (h : attestorlaw09_FoldSteps.f k a0 a1 a2 l3 l4 = some r) :
  Calls Tryd.prog 7 #[.int .u8 a0, .int .u8 a1, .int .u64 a2, .slice A3 l3.length c3, .slice A4 l4.length c4] w fun e w' => e = .returned (.bool r) ∧ Below w.heap.size w w' := by
 have hu24 := Tryd.underlying24
 have HG := ak hG
 clear hG
 have HR3 := ak hr3
 have HC3 := ak hc3
 clear hr3 hc3
 have HR4 := ak hr4
 have HC4 := ak hc4
 clear hr4 hc4
 have HB := ak (Below.refl w.heap.size w)
 have H := h
 clear h
 unfold attestorlaw09_FoldSteps.f at H
 revert H
 refine bd3_ fun t482 t483 t484 A6 H => ?_
 try dsimp only at H
 obtain ⟨ji7, hji7⟩ : ∃ j_ : Int, (IntKind.u64.wrap (t483)) = j_ := ⟨_, rfl⟩
 first | rw [hji7] at H | simp only [hji7] at H
 (try rw [hji7] at A6)
 obtain ⟨c8, H⟩ : (0 ≤ (ji7)) ∧ _ := it_ H
 have c8b0 := eq_true c8
 have c8b1 := decide_eq_true c8
 clear c8
 obtain ⟨ji9, hji9⟩ : ∃ j_ : Int, (shl .i64 1 (ji7)) = j_ := ⟨_, rfl⟩
 first | rw [hji9] at H | simp only [hji9] at H
 (try rw [hji9] at A6)
 have hji9_ : (IntKind.i64.wrap (1 * 2 ^ min (ji7).toNat 64)) = ji9 := hji9
 have hji9z : (ji7) ≤ 64 → (IntKind.i64.wrap (1 * 2 ^ (ji7).toNat)) = ji9 := shl_small hji9
 have hji9u : (IntKind.i64.wrap (2 ^ min (ji7).toNat 64)) = ji9 := by have h_ := hji9_; rw [Int.one_mul] at h_; exact h_
 have hji9v : (ji7) ≤ 64 → (IntKind.i64.wrap (2 ^ (ji7).toNat)) = ji9 := fun hle_ => by have h_ := hji9z hle_; rw [Int.one_mul] at h_; exact h_
 have hji9y : (wrap64 (1 * 2 ^ min (ji7).toNat 64)) = ji9 := (i64_w _).symm.trans hji9_
 have hji9x : (ji7) ≤ 64 → (wrap64 (1 * 2 ^ (ji7).toNat)) = ji9 := fun h_ => (i64_w _).symm.trans (hji9z h_)
 obtain ⟨c10, H⟩ : (0 ≤ (ji9)) ∧ _ := it_ H
 have c10b0 := eq_true c10
 have c10b1 := decide_eq_true c10
 clear c10
 obtain ⟨c11, H⟩ : ((ji9 : Int).toNat ≤ 35184372088832) ∧ _ := it_ H
 have c11b0 := eq_true c11
 have c11b1 := decide_eq_true c11
 clear c11
 obtain ⟨y486, hy486⟩ : ∃ y_ : List Int, y_ = (List.replicate (ji9 : Int).toNat 0) := ⟨_, rfl⟩
 first | rw [Option.bind_some, ← hy486] at H | rw [← hy486] at H
 have Ny486 := ak hy486
 clear hy486
 obtain ⟨y489, hy489⟩ : ∃ y_ : List Int, y_ = (cpyAt y486 0 l3) := ⟨_, rfl⟩
 first | rw [Option.bind_some, ← hy489] at H | rw [← hy489] at H
 have Ny489 := ak hy489
 clear hy489
 revert H
 refine bd_ fun t491 A12 H => ?_
 revert H
 refine bd2_ fun t494 t497 A13 H => ?_
 try dsimp only at H
 obtain ⟨c14, H⟩ : (t497 = 0) ∧ _ := it_ H
 have c14b0 := beq_iff_eq.mpr c14
 have c14b1 := bne_eq_false_iff_eq.mpr c14
 clear c14
 obtain ⟨c15, H⟩ : ((t494.length : Int) = (wrap64 ((t491.length : Int) + 1))) ∧ _ := it_ H
 have c15b0 := beq_iff_eq.mpr c15
 have c15b1 := bne_eq_false_iff_eq.mpr c15
 clear c15
 obtain ⟨c16, H⟩ : (0 < (t494.length : Int)) ∧ _ := it_ H
 have c16b0 := decide_eq_true c16
 have c16b1 : decide (0 < t494.length) = true := decide_eq_true (by omega)
 clear c16
 have HC17 := ak H
 clear H
 go_enter Tryd.func7, Tryd.ntmps7
 go_upto_if 65 with (first | ((with_reducible refine gate_callee (f := 17) rfl ?_); refine gl_ (some 26) Tryd.func17 #[.int .u8 a0, .int .u8 a1, .int .u64 a2] ?_; (with_reducible refine (attestorlaw09_domain.calls a0 a1 a2 t482 t483 t484 _ ?side1 A6.out).mono ?_); (case side1 => exact fU_ HG.out HB.out); rintro e w18 ⟨rfl, hb⟩; refine ⟨_, rfl, ?_⟩; refine nx1_ (below_step (bU_ HB.out) hb) ?_; clear HB; intro HB; clear hb) | ((with_reducible refine gate_dst (N := 11) rfl ?_); (try (refine gate_guard (by rfl) ?_; dsimp only)); refine bx_ 11 24 #[.int .i64 0, .int .i64 0, .int .u64 0] ?_; intro gb485 hg w19 hbox hb; refine nx4_ (below_step (bU_ HB.out) hb) (hbox) ((hs_ hg (below_size (bU_ HB.out)))) ((hs_ hg (below_size (bU_ HB.out)))) ?_; clear HB; intro HB BK485 GW485 GE485; clear hb hbox hg; have hcz20_0 := bc0_ BK485.out; have hcz20_1 := bc1_ BK485.out; have hcz20_2 := bc2_ BK485.out; have hfz20_0 := blk_frozen BK485.out 0; have hfz20_1 := blk_frozen BK485.out 1; have hfz20_2 := blk_frozen BK485.out 2) | ((with_reducible refine gate_dst (N := 32) rfl ?_); (try (refine gate_guard (by rfl) ?_; dsimp only)); refine R_make (Kd.int .u64) _ 22 rfl (N := 32) rfl 33 _ _ rfl ji9 ?hx ?hy Tryd.underlying33 (.int .u64 0) 8 info22 rfl (by decide) (by omega) 0 (ok := fun _ => True) (okp := fun _ => True) rfl (fun _ hk => hk) trivial od_ (Nat.le_trans (Nat.mul_le_mul_right _ (od_ : ji9.toNat ≤ 35184372088832)) (by omega)) (Below.refl _ _) (Nat.le_refl _) ?_; (case hx => first | rfl | (simp only [hji7, hji9]; rfl)); (case hy => first | rfl | (simp only [hji7, hji9]; rfl)); intro v487 w21 ho22 hb hg_ hnew_; clear hg_ hnew_; (first | rw [← Ny486.out] at ho22 | (simp only [Int.reduceToNat] at ho22; rw [← Ny486.out] at ho22)); refine nx3_ (R_lower ho22 (below_size sU_)) (blk_below (g := gb485) (o := .cells #[.int .i64 t482, .int .i64 t483, .int .u64 t484] 24 (0, 0)) kp_ hb) (below_step sU_ hb) ?_; clear BK485 HB; intro HO488 BK485 HB; clear hb ho22; obtain ⟨Ao24, co24, eo24⟩ := R_slice HO488.out; subst eo24) | ((with_reducible refine gate_builtin (b := .copy) (xs := #[.tmp 33, .tmp 34]) rfl ?_); (try (refine gate_guard (by rfl) ?_; dsimp only)); skip; refine copy_own_ .u64 (w0 := w) w.heap.size rfl (.tmp 33) (.tmp 34) 33 33 22 rfl Tryd.underlying33 (show (Tryd.prog.info? 22).map (·.size) = some 1 by kernel_rfl) (.slice Ao24 y486.length co24) y486 l3 _ _ _ (fun _ => True) rfl rfl ?aO ?aR (fun _ _ h => h) ?aF ?aB ?aS ?_; (case aR => exact cU_ (C_below HR3.out HB.out)); (case aB => exact sU_); (case aF => exact (fun _ _ => trivial)); (case aO => exact (rU_ HO488.out)); (case aS => exact (below_size sU_)); intro w23 ho hb hg hat; rw [← Ny489.out] at ho; refine nx3_ (blk_grown (g := gb485) (o := .cells #[.int .i64 t482, .int .i64 t483, .int .u64 t484] 24 (0, 0)) (kU_ BK485.out) hg (Kd.R_ne HO488.out BK485.out (by decide))) (hb) (ho) ?_; clear BK485 HB HO488; intro BK485 HB HO490; clear ho hb hg hat; have hcz25_0 := bc0_ BK485.out; have hcz25_1 := bc1_ BK485.out; have hcz25_2 := bc2_ BK485.out; have hfz25_0 := blk_frozen BK485.out 0; have hfz25_1 := blk_frozen BK485.out 1; have hfz25_2 := blk_frozen BK485.out 2) | ((with_reducible refine gate_callee (f := 25) rfl ?_); refine gl_ (some 40) Tryd.func25 #[.slice A4 l4.length c4, .int .i64 (wrap64 (Int.tdiv t483 3))] ?_; (with_reducible refine (attestorlaw09_own.calls _ _ l4 (wrap64 (Int.tdiv t483 3)) t491 _ ?side1 ?side2 A12.out).mono ?_); (case side1 => exact cU_ (C_below HR4.out HB.out)); (case side2 => exact HC4.out); rintro e w26 ⟨v492, rfl, ho0, hb⟩; refine ⟨_, rfl, ?_⟩; refine nx4_ (R_elder' (rU_ HO490.out) (R_base ho0) hb) (R_lower (R_new' ho0 (R_lt (rU_ HO490.out))) (below_size sU_)) (blk_below (kU_ BK485.out) hb) (below_step sU_ hb) ?_; clear HO490 BK485 HB; intro HO490 HO493 BK485 HB; clear hb ho0; have hcz27_0 := bc0_ BK485.out; have hcz27_1 := bc1_ BK485.out; have hcz27_2 := bc2_ BK485.out; have hfz27_0 := blk_frozen BK485.out 0; have hfz27_1 := blk_frozen BK485.out 1; have hfz27_2 := blk_frozen BK485.out 2; obtain ⟨Ao28, co28, eo28⟩ := R_slice HO493.out; subst eo28) | ((with_reducible refine gate_callee (f := 27) rfl ?_); refine goesL_ (some 45) rfl rfl Tryd.func27 (by kernel_rfl) rfl #[.agg #[.int .i64 t482, .int .i64 t483, .int .u64 t484], .slice Ao24 y489.length co24, .slice Ao28 t491.length co28] rfl (by (try simp only [List.map_toArray, List.map_cons, List.map_nil]); first | done | (rw [show y489.length = y486.length from (R_reads' HO490.out).1.symm] <;> rfl) | rfl | (simp only [List.length_drop, List.length_take]; rfl)) ?_; (with_reducible refine (fold_Words.calls k t482 t483 t484 _ _ y489 _ _ t491 t494 t497 _ ?side1 ?side2 ?side3 ?side4 ?side5 A13.out).mono ?_); (case side1 => repeat (first | with_reducible exact HG.out | with_reducible exact (Fld.below HG.out HB.out) | exact (Fld.below HG.out sU_) | (with_reducible refine Fld.alloc ?_ _) | (with_reducible refine Fld.drewN ?_ _) | (with_reducible refine Fld.drew ?_))); (case side2 => exact cU_ ((R_reads' HO490.out).2.2)); (case side3 => rw [show y489.length = y486.length from (R_reads' HO490.out).1.symm]; exact (R_reads' HO490.out).2.1); (case side4 => exact cU_ ((R_reads' HO493.out).2.2)); (case side5 => exact (R_reads' HO493.out).2.1); rintro e w29 ⟨v495, rfl, ho0, hb⟩; refine ⟨_, rfl, ?_⟩; refine nx5_ (R_below (rU_ HO490.out) hb) (R_below (rU_ HO493.out) hb) (Kd.N_lower (Kd.N_mono (ok' := fun k_ => some k_ ≠ (.slice Ao24 y486.length co24 : Value).ownBlock ∧ some k_ ≠ (.slice Ao28 t491.length co28 : Value).ownBlock ∧ k_ ≠ gb485) ho0 (fun k_ hk_ => ⟨(fresh' (R_lt (rU_ HO490.out)) k_ hk_), (fresh' (R_lt (rU_ HO493.out)) k_ hk_), (freshB (kU_ BK485.out) k_ hk_)⟩)) (below_size sU_)) (blk_below (kU_ BK485.out) hb) (below_step sU_ hb) ?_; clear HO490 HO493 BK485 HB; intro HO490 HO493 HO496 BK485 HB; clear hb ho0; obtain ⟨Ao30, co30, eo30⟩ := Kd.N_slice HO496.out; subst eo30; have p498 : 0 ≤ (0 : Int) := (by omega); have q498 : 0 < (t494.length : Int) := od_; obtain ⟨ad498, A498_0, c498_0, e498, hx498_0, hl498_0, hi498_0⟩ := at_L1 (Kd.N_reads' HO496.out).2.2 0 p498 q498; cases e498; obtain ⟨ce498, hce498, hMe498, hcc498⟩ := Kd.N_get HO496.out [] 0 p498 (by first | exact q498 | exact od_ | (have e_ := (Kd.N_reads' HO496.out).1; omega)); obtain ⟨ua498_0, uc498_0, rfl, ul498_0, ge498_0⟩ := Kd.FK_slice_open hMe498; have hv498_0 := hcc498 0 _ rfl; rw [Nat.add_zero, show ((Kd.slice 22 (Kd.int .u64))).sz = 1 from rfl, Nat.mul_one] at hv498_0; replace hv498_0 := Option.some.inj (hv498_0.symm.trans hx498_0); injection hv498_0 with hva_ hvn_ hvc_; rw [hva_] at ge498_0; rw [hvc_] at ul498_0; have HL498_0 := ak (show Kd.V (Kd.int .u64) 22 _ w.heap.size _ _ (rd_L1 t494 0) from V_mk ul498_0 ge498_0); clear hva_ hvn_ hvc_ ge498_0 ul498_0; clear hcc498 hce498; have qi498 : (0 < t494.length) = True := eq_true (by omega); (try rw [show ((0 : Int)).toNat = 0 from rfl] at hx498_0); (try rw [Addr.add_zero'] at hx498_0); have HR498_0 := ak hi498_0; have HC498_0 := ak hl498_0; clear hi498_0 hl498_0; replace p498 := eq_true p498; replace q498 := eq_true q498))
 (try simp only [Act.put, s1_, s2_, s3_])
 go_cut [] (fun wc => ∃ (kq : Nat), Aside0 (attestorlaw09_FoldSteps.j0 kq t491 ji9 y489 t494 t482 t483 t484 = some r) ∧ Aside0 (kq ≤ k) ∧ Aside0 (Kd.R (Kd.int .u64) 22 wc w.heap.size (fun k_ => some k_ ≠ ((.slice Ao24 y486.length co24) : Value).ownBlock) (.slice Ao28 t491.length co28) t491) ∧ Aside0 (Kd.R (Kd.int .u64) 22 wc w.heap.size (fun k_ => some k_ ≠ ((.slice Ao28 t491.length co28) : Value).ownBlock) (.slice Ao24 y486.length co24) y489) ∧ Aside0 (Kd.N (Kd.slice 22 (Kd.int .u64)) 33 wc w.heap.size (fun k_ => some k_ ≠ ((.slice Ao28 t491.length co28) : Value).ownBlock ∧ some k_ ≠ ((.slice Ao24 y486.length co24) : Value).ownBlock ∧ k_ ≠ gb485) (.slice (some ad498) t494.length co30) t494) ∧ Aside0 (wc.heap[gb485]? = some (.cells #[.int .i64 t482, .int .i64 t483, .int .u64 t484] 24 (0, 0))) ∧ Aside0 (Below w.heap.size w wc))
 case first =>
  have H := HC17.out
  clear HC17
  obtain ⟨c31, H⟩ : (((rd_L1 t494 0).length : Int) = (ji9)) ∧ _ := it_ H
  have c31b0 := beq_iff_eq.mpr c31
  have c31b1 := bne_eq_false_iff_eq.mpr c31
  clear c31
  (first | rw [c31b0] | (simp only [i64_w, i32_w]; rw [c31b0]) | rw [c31b1] | skip)
  have H' := ak H
  clear H
  go_wp2
  go_meet
  case rel => exact ⟨_, H', ⟨by first | omega | exact Nat.le_refl _⟩, ⟨R_mono (rU_ HO493.out) (fun _ hk => hk.2)⟩, ⟨R_mono (rU_ HO490.out) (fun _ hk => hk.2)⟩, ⟨by (with_reducible repeat (first | apply Kd.N_alloc | apply Kd.N_drewN | apply Kd.N_drew)); exact Kd.N_mono HO496.out (fun _ hk => ⟨hk.2.1, ⟨hk.1, hk.2.2⟩⟩)⟩, ⟨by (with_reducible repeat (first | refine blk_drewN ?_ _ | refine blk_drew ?_ | refine blk_alloc ?_ _)); exact BK485.out⟩, ⟨sU_⟩⟩
 case rest =>
  clear HC17
  (try clear c1); (try clear c2); (try clear p2); (try clear c3); (try clear c4); (try clear p4); (try clear q4); (try clear hx4); (try clear qi4); (try clear p6); (try clear c7); (try clear c8); (try clear c8b0); (try clear c8b1); (try clear c10); (try clear c10b0); (try clear c10b1); (try clear c11); (try clear c11b0); (try clear c11b1); (try clear c14); (try clear c14b0); (try clear c14b1); (try clear c15); (try clear c15b0); (try clear c15b1); (try clear c16); (try clear c16b0); (try clear c16b1); (try clear c17); (try clear c25); (try clear c27); (try clear c31); (try clear c31b0); (try clear c31b1); (try clear hcz20_0); (try clear hcz20_1); (try clear hcz20_2); (try clear hcz25_0); (try clear hcz25_1); (try clear hcz25_2); (try clear hcz27_0); (try clear hcz27_1); (try clear hcz27_2); (try clear hfz20_0); (try clear hfz20_1); (try clear hfz20_2); (try clear hfz25_0); (try clear hfz25_1); (try clear hfz25_2); (try clear hfz27_0); (try clear hfz27_1); (try clear hfz27_2); (try clear hx498_0); (try clear p498); (try clear q498)
  obtain ⟨kq, HA, HJ16, HO_4, HO_13, HO_14, BK485, HB⟩ := hcut
  have hl13_16 := (R_reads' HO_13.out).1
  rw [hl13_16] at HO_13
  (try simp only [hl13_16])
  (try simp only [hl13_16] at BK485)
  (try simp only [hl13_16] at HO_4)
  (try simp only [hl13_16] at HO_14)
  cases kq with
  | zero => exact absurd HA.out (by simp [attestorlaw09_FoldSteps.j0])
  | succ kj16 =>
   have H := HA.out
   clear HA
   simp only [attestorlaw09_FoldSteps.j0] at H
   have H' := ak H
   clear H
   go_wp2
   go_loopg [16] kj16 (fun kq v16 w' => ∃ (x16_2 : Int), v16 = .int .i64 x16_2 ∧ Aside0 (attestorlaw09_FoldSteps.l0 kq t491 ji9 y489 t494 x16_2 t482 t483 t484 = some r) ∧ Aside0 (kq ≤ kj16) ∧ Aside0 (Kd.R (Kd.int .u64) 22 w' w.heap.size (fun k_ => some k_ ≠ ((.slice Ao24 y489.length co24) : Value).ownBlock) (.slice Ao28 t491.length co28) t491) ∧ Aside0 (Kd.R (Kd.int .u64) 22 w' w.heap.size (fun k_ => some k_ ≠ ((.slice Ao28 t491.length co28) : Value).ownBlock) (.slice Ao24 y489.length co24) y489) ∧ Aside0 (Kd.N (Kd.slice 22 (Kd.int .u64)) 33 w' w.heap.size (fun k_ => some k_ ≠ ((.slice Ao28 t491.length co28) : Value).ownBlock ∧ some k_ ≠ ((.slice Ao24 y489.length co24) : Value).ownBlock ∧ k_ ≠ gb485) (.slice (some ad498) t494.length co30) t494) ∧ Aside0 (w'.heap[gb485]? = some (.cells #[.int .i64 t482, .int .i64 t483, .int .u64 t484] 24 (0, 0))) ∧ Aside0 (Below w.heap.size w w'))
   case atStart => exact ⟨(0), gb_, H', ⟨Nat.le_refl _⟩, ⟨by (try simp only [hl13_16]); (with_reducible repeat (first | apply Kd.R_alloc | apply Kd.R_drewN | apply R_drew)); exact HO_4.out⟩, ⟨by (try simp only [hl13_16]); (with_reducible repeat (first | apply Kd.R_alloc | apply Kd.R_drewN | apply R_drew)); exact HO_13.out⟩, ⟨by (try simp only [hl13_16]); (with_reducible repeat (first | apply Kd.N_alloc | apply Kd.N_drewN | apply Kd.N_drew)); exact HO_14.out⟩, ⟨by (try simp only [hl13_16]); (with_reducible repeat (first | refine blk_drewN ?_ _ | refine blk_drew ?_ | refine blk_alloc ?_ _)); exact BK485.out⟩, ⟨sU_⟩⟩
   case round =>
    clear H'
    (try clear c1); (try clear c2); (try clear p2); (try clear c3); (try clear c4); (try clear p4); (try clear q4); (try clear hx4); (try clear qi4); (try clear p6); (try clear c7); (try clear c8); (try clear c8b0); (try clear c8b1); (try clear c10); (try clear c10b0); (try clear c10b1); (try clear c11); (try clear c11b0); (try clear c11b1); (try clear c14); (try clear c14b0); (try clear c14b1); (try clear c15); (try clear c15b0); (try clear c15b1); (try clear c16); (try clear c16b0); (try clear c16b1); (try clear c17); (try clear c25); (try clear c27); (try clear c31); (try clear c31b0); (try clear c31b1); (try clear hcz20_0); (try clear hcz20_1); (try clear hcz20_2); (try clear hcz25_0); (try clear hcz25_1); (try clear hcz25_2); (try clear hcz27_0); (try clear hcz27_1); (try clear hcz27_2); (try clear hfz20_0); (try clear hfz20_1); (try clear hfz20_2); (try clear hfz25_0); (try clear hfz25_1); (try clear hfz25_2); (try clear hfz27_0); (try clear hfz27_1); (try clear hfz27_2); (try clear hx498_0); (try clear p498); (try clear q498)
    obtain ⟨x16_2, rfl, HA, HK2, HO_4, HO_13, HO_14, BK485, HB⟩ := hrel
    cases gk with
    | zero => exact absurd HA.out (by simp [attestorlaw09_FoldSteps.l0])
    | succ k2 =>
     have H := HA.out
     clear HA
     simp only [attestorlaw09_FoldSteps.l0] at H
     by_cases c32 : x16_2 < ji9
     ·rw [if_pos c32] at H
      have c32b0 := decide_eq_true c32
      clear c32
      obtain ⟨c33, H⟩ : (0 < (t494.length : Int)) ∧ _ := it_ H
      have c33b0 := decide_eq_true c33
      have c33b1 : decide (0 < t494.length) = true := decide_eq_true (by omega)
      clear c33
      obtain ⟨c34, H⟩ : (0 ≤ x16_2) ∧ _ := it_ H
      have c34b0 := decide_eq_true c34
      clear c34
      obtain ⟨c35, H⟩ : (x16_2 < ((rd_L1 t494 0).length : Int)) ∧ _ := it_ H
      have c35b0 := decide_eq_true c35
      clear c35
      obtain ⟨c36, H⟩ : (x16_2 < (y489.length : Int)) ∧ _ := it_ H
      have c36b0 := decide_eq_true c36
      clear c36
      revert H
      refine bd_ fun t502 A37 H => ?_
      obtain ⟨c38, H⟩ : ((rd (rd_L1 t494 0) x16_2) = t502) ∧ _ := it_ H
      have c38b0 := beq_iff_eq.mpr c38
      have c38b1 := bne_eq_false_iff_eq.mpr c38
      clear c38
      have H' := ak H
      clear H
      try go_wp2
      refine nx5_ (R_drew HO_4.out) (R_drew HO_13.out) (Kd.N_drew HO_14.out) (blk_drew BK485.out) (below_drew1 HB.out) ?_
      clear HO_4 HO_13 HO_14 BK485 HB
      intro HO_4 HO_13 HO_14 BK485 HB
      have p499 : 0 ≤ (0 : Int) := (by omega)
      have q499 : 0 < (t494.length : Int) := od_
      obtain ⟨ad499, A499_0, c499_0, e499, hx499_0, hl499_0, hi499_0⟩ := at_L1 (Kd.N_reads' HO_14.out).2.2 0 p499 q499
      obtain rfl : ad498 = ad499 := (by injection e499)
      obtain ⟨ce499, hce499, hMe499, hcc499⟩ := Kd.N_get HO_14.out [] 0 p499 (by first | exact q499 | exact od_ | (have e_ := (Kd.N_reads' HO_14.out).1; omega))
      obtain ⟨ua499_0, uc499_0, rfl, ul499_0, ge499_0⟩ := Kd.FK_slice_open hMe499
      have hv499_0 := hcc499 0 _ rfl
      rw [Nat.add_zero, show ((Kd.slice 22 (Kd.int .u64))).sz = 1 from rfl, Nat.mul_one] at hv499_0
      replace hv499_0 := Option.some.inj (hv499_0.symm.trans hx499_0)
      injection hv499_0 with hva_ hvn_ hvc_
      rw [hva_] at ge499_0
      rw [hvc_] at ul499_0
      have HL499_0 := ak (show Kd.V (Kd.int .u64) 22 _ w.heap.size _ _ (rd_L1 t494 0) from V_mk ul499_0 ge499_0)
      clear hva_ hvn_ hvc_ ge499_0 ul499_0
      clear hcc499 hce499
      have qi499 : (0 < t494.length) = True := eq_true (by omega)
      (try rw [show ((0 : Int)).toNat = 0 from rfl] at hx499_0)
      (try rw [Addr.add_zero'] at hx499_0)
      have HR499_0 := ak hi499_0
      have HC499_0 := ak hl499_0
      clear hi499_0 hl499_0
      replace p499 := eq_true p499
      replace q499 := eq_true q499
      have p500 : 0 ≤ (x16_2 : Int) := od_
      have q500 : x16_2 < ((rd_L1 t494 0).length : Int) := od_
      obtain ⟨ad500, e500, hx500_0⟩ := Kd.at_int (by repeat (first | (with_reducible exact HR499_0.out) | (with_reducible refine Kd.C_alloc ?_ _) | (with_reducible refine Kd.C_drewN ?_ _) | (with_reducible refine Kd.C_drew ?_) | exact HR499_0.out)) x16_2 p500 q500
      cases e500
      replace p500 := eq_true p500
      replace q500 := eq_true q500
      have p501 : 0 ≤ (x16_2 : Int) := od_
      have q501 : x16_2 < (y489.length : Int) := od_
      obtain ⟨ad501, e501, hx501_0⟩ := Kd.at_int (R_reads' HO_13.out).2.2 x16_2 p501 q501
      cases e501
      replace p501 := eq_true p501
      replace q501 := eq_true q501
      refine start_ (n := 14) (S := fun w' => w'.cell? ⟨gb485, 0, none⟩ = some (.int .i64 t482) ∧ w'.cell? ⟨gb485, 1, none⟩ = some (.int .i64 t483) ∧ w'.cell? ⟨gb485, 2, none⟩ = some (.int .u64 t484) ∧ w'.cell? ad498 = some (.slice (some ad500) (rd_L1 t494 0).length c499_0) ∧ w'.cell? (ad500.add (x16_2).toNat) = some (.int .u64 (rd (rd_L1 t494 0) x16_2)) ∧ w'.cell? (ad501.add (x16_2).toNat) = some (.int .u64 (rd y489 x16_2))) (ds := []) (bv 14 0) (by kernel_rfl) rfl rfl ⟨bc0_ BK485.out, bc1_ BK485.out, bc2_ BK485.out, hx499_0, hx500_0, hx501_0⟩ (fun hHeld => ?_); refine with_tabW attestorlaw09_FoldSteps.tab12 attestorlaw09_FoldSteps.bits12 (fun HT_ HW_ => ?_)
      generalize wr.drew = w39 at HO_4 HO_13 HO_14 BK485 HB HL499_0 HR499_0 hx499_0 hx500_0 hx501_0 hHeld ⊢
      refine pq_ 0 71 14 1 HT_.out ?_
      refine pq_ 1 72 14 3 HT_.out ?_
      refine pq_ 3 74 14 11 HT_.out ?_
      refine pq_ 6 77 14 75 HT_.out ?_
      refine pq_ 8 79 14 331 HT_.out ?_
      refine pq_ 9 80 14 843 HT_.out ?_
      refine pq_ 10 81 14 1867 HT_.out ?_
      refine tq_ 2 73 14 1871 HT_.out HW_.out hHeld ?_
      refine pq_ 4 75 14 1887 HT_.out ?_
      refine tq_ 5 76 14 1919 HT_.out HW_.out hHeld ?_
      refine tq_ 7 78 14 2047 HT_.out HW_.out hHeld ?_
      refine tq_ 11 82 14 4095 HT_.out HW_.out hHeld ?_
      refine oq_ 12 83 14 8191 HT_.out fun K hK => ?_
      refine gs_ Tryd.func22 #[.int .i64 t482, .int .u64 (rd y489 x16_2)] ?_
      with_reducible refine (field_Reduce.calls t482 (rd y489 x16_2) t502 _ ?side1 A37.out).mono ?_
      (case side1 => repeat (first | with_reducible exact HG.out | with_reducible exact (Fld.below HG.out HB.out) | exact (Fld.below HG.out sU_) | (with_reducible refine Fld.alloc ?_ _) | (with_reducible refine Fld.drewN ?_ _) | (with_reducible refine Fld.drew ?_)))
      rintro e w40 ⟨rfl, hb⟩
      have HS3_ := (hb.cell (World.block_lt_of_cell? _ _ (hHeld.2.2.2.1))).trans (hHeld.2.2.2.1)
      have HS4_ := (hb.cell (World.block_lt_of_cell? _ _ (hHeld.2.2.2.2.1))).trans (hHeld.2.2.2.2.1)
      have HS5_ := (hb.cell (World.block_lt_of_cell? _ _ (hHeld.2.2.2.2.2))).trans (hHeld.2.2.2.2.2)
      refine ⟨_, rfl, ?_⟩
      refine nx7_ (R_below (rU_ HO_4.out) hb) (R_below (rU_ HO_13.out) hb) (Kd.N_below (by (with_reducible repeat (first | apply Kd.N_alloc | apply Kd.N_drewN | apply Kd.N_drew)); exact HO_14.out) hb) (V_below (vU_ HL499_0.out) hb) (blk_below (kU_ BK485.out) hb) (C_below (cU_ HR499_0.out) hb) (below_step sU_ hb) ?_
      clear HO_4 HO_13 HO_14 HL499_0 BK485 HR499_0 HB
      intro HO_4 HO_13 HO_14 HL499_0 BK485 HR499_0 HB
      (try clear hb)
      (try clear hb2)
      (try clear hk)
      (try clear hi)
      refine hK.out _ _ ⟨bc0_ BK485.out, bc1_ BK485.out, bc2_ BK485.out, HS3_, HS4_, HS5_⟩ (fun hHeld => ?_)
      clear hK K
      refine norm_ (a' := ?_) ?_ ?_
      rotate_left
      ·show Act.put _ (some 83) _ = _
       simp only [Act.put, s1_, s2_, s3_, i64_w, i32_w]
       rfl
      refine pq_ 13 84 14 16383 HT_.out ?_
      refine done_ (done_of HT_.out (by kernel_rfl)) ?_
      try go_wp2
      go_roundg k2
      case measure => have := HJ16.out; have := HK2.out; omega
      case rel => exact ⟨(wrap64 (x16_2 + 1)), gb_, H', ⟨by have := HJ16.out; have := HK2.out; omega⟩, ⟨by (try simp only [hl13_16]); (with_reducible repeat (first | apply Kd.R_alloc | apply Kd.R_drewN | apply R_drew)); exact HO_4.out⟩, ⟨by (try simp only [hl13_16]); (with_reducible repeat (first | apply Kd.R_alloc | apply Kd.R_drewN | apply R_drew)); exact HO_13.out⟩, ⟨by (try simp only [hl13_16]); (with_reducible repeat (first | apply Kd.N_alloc | apply Kd.N_drewN | apply Kd.N_drew)); exact HO_14.out⟩, ⟨by (try simp only [hl13_16]); (with_reducible repeat (first | refine blk_drewN ?_ _ | refine blk_drew ?_ | refine blk_alloc ?_ _)); exact BK485.out⟩, ⟨sU_⟩⟩
     rw [if_neg c32] at H
     have c32b0 := decide_eq_false c32
     clear c32
     have H' := ak H
     clear H
     go_wp2
     go_loopg [17] k2 (fun kq v17 w' => ∃ (x17_3 : Int) (x486000_3 : Int) (x486001_3 : Int) (x486002_3 : Int), v17 = .int .i64 x17_3 ∧ Aside0 (attestorlaw09_FoldSteps.l1 kq t491 t494 x17_3 x486000_3 x486001_3 x486002_3 = some r) ∧ Aside0 (kq ≤ k2) ∧ Aside0 (Kd.R (Kd.int .u64) 22 w' w.heap.size (fun _ => True) (.slice Ao28 t491.length co28) t491) ∧ Aside0 (Kd.N (Kd.slice 22 (Kd.int .u64)) 33 w' w.heap.size (fun k_ => some k_ ≠ ((.slice Ao28 t491.length co28) : Value).ownBlock ∧ k_ ≠ gb485) (.slice (some ad498) t494.length co30) t494) ∧ Aside0 (w'.heap[gb485]? = some (.cells #[.int .i64 x486000_3, .int .i64 x486001_3, .int .u64 x486002_3] 24 (0, 0))) ∧ Aside0 (Below w.heap.size w w'))
     case atStart => exact ⟨(0), (t482), (t483), (t484), gb_, H', ⟨Nat.le_refl _⟩, ⟨by (try simp only [hl13_16]); (with_reducible repeat (first | apply Kd.R_alloc | apply Kd.R_drewN | apply R_drew)); exact R_mono HO_4.out (fun _ hk => trivial)⟩, ⟨by (try simp only [hl13_16]); (with_reducible repeat (first | apply Kd.N_alloc | apply Kd.N_drewN | apply Kd.N_drew)); exact Kd.N_mono HO_14.out (fun _ hk => ⟨hk.1, hk.2.2⟩)⟩, ⟨by (try simp only [hl13_16]); (with_reducible repeat (first | refine blk_drewN ?_ _ | refine blk_drew ?_ | refine blk_alloc ?_ _)); exact BK485.out⟩, ⟨sU_⟩⟩
     case round =>
      clear H'
      (try clear c1); (try clear c2); (try clear p2); (try clear c3); (try clear c4); (try clear p4); (try clear q4); (try clear hx4); (try clear qi4); (try clear p5); (try clear q5); (try clear hx5); (try clear p6); (try clear c7); (try clear c8); (try clear c8b0); (try clear c8b1); (try clear c10); (try clear c10b0); (try clear c10b1); (try clear c11); (try clear c11b0); (try clear c11b1); (try clear c14); (try clear c14b0); (try clear c14b1); (try clear c15); (try clear c15b0); (try clear c15b1); (try clear c16); (try clear c16b0); (try clear c16b1); (try clear c17); (try clear c22); (try clear c25); (try clear c27); (try clear c31); (try clear c31b0); (try clear c31b1); (try clear c32); (try clear c32b0); (try clear c33); (try clear c33b0); (try clear c33b1); (try clear c34); (try clear c34b0); (try clear c35); (try clear c35b0); (try clear c36); (try clear c36b0); (try clear c38); (try clear c38b0); (try clear c38b1); (try clear hcz20_0); (try clear hcz20_1); (try clear hcz20_2); (try clear hcz25_0); (try clear hcz25_1); (try clear hcz25_2); (try clear hcz27_0); (try clear hcz27_1); (try clear hcz27_2); (try clear hfz20_0); (try clear hfz20_1); (try clear hfz20_2); (try clear hfz25_0); (try clear hfz25_1); (try clear hfz25_2); (try clear hfz27_0); (try clear hfz27_1); (try clear hfz27_2); (try clear hx498_0); (try clear hx499_0); (try clear hx500_0); (try clear hx501_0); (try clear p498); (try clear p499); (try clear p500); (try clear p501); (try clear q498); (try clear q499); (try clear q500); (try clear q501)
      obtain ⟨x17_3, x486000_3, x486001_3, x486002_3, rfl, HA, HK3, HO_4, HO_14, BK485, HB⟩ := hrel
      cases gk with
      | zero => exact absurd HA.out (by simp [attestorlaw09_FoldSteps.l1])
      | succ k3 =>
       have H := HA.out
       clear HA
       simp only [attestorlaw09_FoldSteps.l1] at H
       have HC41 := ak H
       clear H
       go_upto_if 88 with (fail)
       go_cut [] (fun wc => ∃ (kq : Nat), Aside0 (attestorlaw09_FoldSteps.j3 kq t491 t494 x17_3 x486000_3 x486001_3 x486002_3 = some r) ∧ Aside0 (kq ≤ k3) ∧ Aside0 (Kd.R (Kd.int .u64) 22 wc w.heap.size (fun _ => True) (.slice Ao28 t491.length co28) t491) ∧ Aside0 (Kd.N (Kd.slice 22 (Kd.int .u64)) 33 wc w.heap.size (fun k_ => some k_ ≠ ((.slice Ao28 t491.length co28) : Value).ownBlock ∧ k_ ≠ gb485) (.slice (some ad498) t494.length co30) t494) ∧ Aside0 (wc.heap[gb485]? = some (.cells #[.int .i64 x486000_3, .int .i64 x486001_3, .int .u64 x486002_3] 24 (0, 0))) ∧ Aside0 (Below w.heap.size w wc))
       case first =>
        have H := HC41.out
        clear HC41
        by_cases c42 : x17_3 < (t491.length : Int)
        ·rw [if_pos c42] at H
         have c42b0 := decide_eq_true c42
         clear c42
         (first | rw [c42b0] | (simp only [i64_w, i32_w]; rw [c42b0]) | rw [c42b1] | skip)
         have H' := ak H
         clear H
         go_wp2
         go_meet
         case rel => exact ⟨_, H', ⟨by have := HJ16.out; have := HK2.out; have := HK3.out; first | omega | exact Nat.le_refl _⟩, ⟨by (try simp only [hl13_16]); (with_reducible repeat (first | apply Kd.R_alloc | apply Kd.R_drewN | apply R_drew)); exact HO_4.out⟩, ⟨by (try simp only [hl13_16]); (with_reducible repeat (first | apply Kd.N_alloc | apply Kd.N_drewN | apply Kd.N_drew)); exact HO_14.out⟩, ⟨by (try simp only [hl13_16]); (with_reducible repeat (first | refine blk_drewN ?_ _ | refine blk_drew ?_ | refine blk_alloc ?_ _)); exact BK485.out⟩, ⟨sU_⟩⟩
        rw [if_neg c42] at H
        have c42b0 := decide_eq_false c42
        clear c42
        (first | rw [c42b0] | (simp only [i64_w, i32_w]; rw [c42b0]) | rw [c42b1] | skip)
        revert H
        refine bd_ fun t503 A43 H => ?_
        obtain rfl := Option.some.inj H
        go_wp2_with (first | ((with_reducible refine gate_callee (f := 16) rfl ?_); refine gl_ (some 161) Tryd.func16 #[] ?_; (with_reducible refine (attestorlaw09_works.calls k3  t503 _ ?side1 A43.out).mono ?_); (case side1 => repeat (first | with_reducible exact HG.out | with_reducible exact (Fld.below HG.out HB.out) | exact (Fld.below HG.out sU_) | (with_reducible refine Fld.alloc ?_ _) | (with_reducible refine Fld.drewN ?_ _) | (with_reducible refine Fld.drew ?_))); rintro e w44 ⟨rfl, hb⟩; refine ⟨_, rfl, ?_⟩; refine nx4_ (R_below (rU_ HO_4.out) hb) (Kd.N_below (by (with_reducible repeat (first | apply Kd.N_alloc | apply Kd.N_drewN | apply Kd.N_drew)); exact HO_14.out) hb) (blk_below (kU_ BK485.out) hb) (below_step sU_ hb) ?_; clear HO_4 HO_14 BK485 HB; intro HO_4 HO_14 BK485 HB; clear hb))
        go_ret
        exact ⟨by first | rfl | (simp [errW_none, errW_some] <;> rfl) | (simp only [← hji7, ← hji9]; first | rfl | (simp [errW_none, errW_some] <;> rfl)) | (simp [*, errW_none, errW_some] <;> rfl), sU_⟩
       case rest =>
        clear HC41
        (try clear c1); (try clear c2); (try clear p2); (try clear c3); (try clear c4); (try clear p4); (try clear q4); (try clear hx4); (try clear qi4); (try clear p5); (try clear q5); (try clear hx5); (try clear p6); (try clear c7); (try clear c8); (try clear c8b0); (try clear c8b1); (try clear c10); (try clear c10b0); (try clear c10b1); (try clear c11); (try clear c11b0); (try clear c11b1); (try clear c14); (try clear c14b0); (try clear c14b1); (try clear c15); (try clear c15b0); (try clear c15b1); (try clear c16); (try clear c16b0); (try clear c16b1); (try clear c17); (try clear c22); (try clear c25); (try clear c27); (try clear c31); (try clear c31b0); (try clear c31b1); (try clear c32); (try clear c32b0); (try clear c33); (try clear c33b0); (try clear c33b1); (try clear c34); (try clear c34b0); (try clear c35); (try clear c35b0); (try clear c36); (try clear c36b0); (try clear c38); (try clear c38b0); (try clear c38b1); (try clear c42); (try clear c42b0); (try clear c42b1); (try clear hcz20_0); (try clear hcz20_1); (try clear hcz20_2); (try clear hcz25_0); (try clear hcz25_1); (try clear hcz25_2); (try clear hcz27_0); (try clear hcz27_1); (try clear hcz27_2); (try clear hfz20_0); (try clear hfz20_1); (try clear hfz20_2); (try clear hfz25_0); (try clear hfz25_1); (try clear hfz25_2); (try clear hfz27_0); (try clear hfz27_1); (try clear hfz27_2); (try clear hx498_0); (try clear hx499_0); (try clear hx500_0); (try clear hx501_0); (try clear p498); (try clear p499); (try clear p500); (try clear p501); (try clear q498); (try clear q499); (try clear q500); (try clear q501)
        obtain ⟨kq, HA, HJ40, HO_4, HO_14, BK485, HB⟩ := hcut
        cases kq with
        | zero => exact absurd HA.out (by simp [attestorlaw09_FoldSteps.j3])
        | succ kj40 =>
         have H := HA.out
         clear HA
         simp only [attestorlaw09_FoldSteps.j3] at H
         obtain ⟨c45, H⟩ : (0 ≤ x17_3) ∧ _ := it_ H
         have c45b0 := decide_eq_true c45
         clear c45
         obtain ⟨c46, H⟩ : (x17_3 < (t494.length : Int)) ∧ _ := it_ H
         have c46b0 := decide_eq_true c46
         clear c46
         obtain ⟨c47, H⟩ : (x17_3 < (t491.length : Int)) ∧ _ := it_ H
         have c47b0 := decide_eq_true c47
         clear c47
         revert H
         refine bd2_ fun t506 t509 A48 H => ?_
         try dsimp only at H
         revert H
         refine bd4_ fun t510 t511 t512 t513 A49 H => ?_
         try dsimp only at H
         obtain ⟨c50, H⟩ : (t509 = 0) ∧ _ := it_ H
         have c50b0 := beq_iff_eq.mpr c50
         have c50b1 := bne_eq_false_iff_eq.mpr c50
         clear c50
         obtain ⟨c51, H⟩ : (t513 = 0) ∧ _ := it_ H
         have c51b0 := beq_iff_eq.mpr c51
         have c51b1 := bne_eq_false_iff_eq.mpr c51
         clear c51
         obtain ⟨ji52, hji52⟩ : ∃ j_ : Int, (wrap64 (x17_3 + 1)) = j_ := ⟨_, rfl⟩
         first | rw [hji52] at H | simp only [hji52] at H
         (try rw [hji52] at A48)
         (try rw [hji52] at A49)
         have hji52w : (IntKind.i64.wrap (x17_3 + 1)) = ji52 := (i64_w _).trans hji52
         obtain ⟨c53, H⟩ : (0 ≤ (ji52)) ∧ _ := it_ H
         have c53b0 := decide_eq_true c53
         clear c53
         obtain ⟨c54, H⟩ : ((ji52) < (t494.length : Int)) ∧ _ := it_ H
         have c54b0 := decide_eq_true c54
         clear c54
         revert H
         refine bd_ fun t516 A55 H => ?_
         by_cases c56 : t516 = true
         ·subst c56
          rw [if_pos rfl] at H
          revert H
          refine bd_ fun t517 A57 H => ?_
          have HC58 := ak H
          clear H
          try go_wp2
          refine nx4_ (R_drew HO_4.out) (Kd.N_drew HO_14.out) (blk_drew BK485.out) (below_drew1 HB.out) ?_
          clear HO_4 HO_14 BK485 HB
          intro HO_4 HO_14 BK485 HB
          have p504 : 0 ≤ (x17_3 : Int) := od_
          have q504 : x17_3 < (t494.length : Int) := od_
          obtain ⟨ad504, A504_0, c504_0, e504, hx504_0, hl504_0, hi504_0⟩ := at_L1 (Kd.N_reads' HO_14.out).2.2 x17_3 p504 q504
          obtain rfl : ad498 = ad504 := (by injection e504)
          obtain ⟨ce504, hce504, hMe504, hcc504⟩ := Kd.N_get HO_14.out [] x17_3 p504 (by first | exact q504 | exact od_ | (have e_ := (Kd.N_reads' HO_14.out).1; omega))
          obtain ⟨ua504_0, uc504_0, rfl, ul504_0, ge504_0⟩ := Kd.FK_slice_open hMe504
          have hv504_0 := hcc504 0 _ rfl
          rw [Nat.add_zero, show ((Kd.slice 22 (Kd.int .u64))).sz = 1 from rfl, Nat.mul_one] at hv504_0
          replace hv504_0 := Option.some.inj (hv504_0.symm.trans hx504_0)
          injection hv504_0 with hva_ hvn_ hvc_
          rw [hva_] at ge504_0
          rw [hvc_] at ul504_0
          have HL504_0 := ak (show Kd.V (Kd.int .u64) 22 _ w.heap.size _ _ (rd_L1 t494 x17_3) from V_mk ul504_0 ge504_0)
          clear hva_ hvn_ hvc_ ge504_0 ul504_0
          clear hcc504 hce504
          have HR504_0 := ak hi504_0
          have HC504_0 := ak hl504_0
          clear hi504_0 hl504_0
          replace p504 := eq_true p504
          replace q504 := eq_true q504
          have p505 : 0 ≤ (x17_3 : Int) := od_
          have q505 : x17_3 < (t491.length : Int) := od_
          obtain ⟨ad505, e505, hx505_0⟩ := Kd.at_int (R_reads' HO_4.out).2.2 x17_3 p505 q505
          cases e505
          replace p505 := eq_true p505
          replace q505 := eq_true q505
          refine start_ (n := 15) (S := fun w' => w'.cell? ⟨gb485, 0, none⟩ = some (.int .i64 x486000_3) ∧ w'.cell? ⟨gb485, 1, none⟩ = some (.int .i64 x486001_3) ∧ w'.cell? ⟨gb485, 2, none⟩ = some (.int .u64 x486002_3) ∧ w'.cell? (ad498.add (x17_3).toNat) = some (.slice A504_0 (rd_L1 t494 x17_3).length c504_0) ∧ w'.cell? (ad505.add (x17_3).toNat) = some (.int .u64 (rd t491 x17_3))) (ds := []) (bv 15 0) (by kernel_rfl) rfl rfl ⟨bc0_ BK485.out, bc1_ BK485.out, bc2_ BK485.out, hx504_0, hx505_0⟩ (fun hHeld => ?_); refine with_tabW attestorlaw09_FoldSteps.tab17 attestorlaw09_FoldSteps.bits17 (fun HT_ HW_ => ?_)
          generalize wc.drew = w59 at HO_4 HO_14 BK485 HB HL504_0 HR504_0 hx504_0 hx505_0 hHeld ⊢
          refine pq_ 1 93 15 2 HT_.out ?_
          refine pq_ 2 94 15 6 HT_.out ?_
          refine pq_ 3 95 15 14 HT_.out ?_
          refine pq_ 5 97 15 46 HT_.out ?_
          refine pq_ 6 98 15 110 HT_.out ?_
          refine pq_ 7 99 15 238 HT_.out ?_
          refine tq_ 0 92 15 239 HT_.out HW_.out hHeld ?_
          refine tq_ 4 96 15 255 HT_.out HW_.out hHeld ?_
          refine tq_ 8 100 15 511 HT_.out HW_.out hHeld ?_
          refine oq_ 9 101 15 1023 HT_.out fun K hK => ?_
          refine gs_ Tryd.func20 #[.agg #[.int .i64 x486000_3, .int .i64 x486001_3, .int .u64 x486002_3], .slice A504_0 (rd_L1 t494 x17_3).length c504_0, .int .u64 (rd t491 x17_3)] ?_
          with_reducible refine (fold_Word.calls kj40 x486000_3 x486001_3 x486002_3 _ _ (rd_L1 t494 x17_3) (rd t491 x17_3) t506 t509 _ ?side1 ?side2 ?side3 A48.out).mono ?_
          (case side1 => repeat (first | with_reducible exact HG.out | with_reducible exact (Fld.below HG.out HB.out) | exact (Fld.below HG.out sU_) | (with_reducible refine Fld.alloc ?_ _) | (with_reducible refine Fld.drewN ?_ _) | (with_reducible refine Fld.drew ?_)))
          (case side2 => repeat (first | exact (by repeat (first | (with_reducible exact HR504_0.out) | (with_reducible refine Kd.C_alloc ?_ _) | (with_reducible refine Kd.C_drewN ?_ _) | (with_reducible refine Kd.C_drew ?_) | exact HR504_0.out)) | (with_reducible refine Kd.C_alloc ?_ _) | (with_reducible refine Kd.C_drewN ?_ _) | (with_reducible refine Kd.C_drew ?_)))
          (case side3 => exact HC504_0.out)
          rintro e w60 ⟨v507, rfl, ho0, hb⟩
          have HS3_ := (hb.cell (World.block_lt_of_cell? _ _ (hHeld.2.2.2.1))).trans (hHeld.2.2.2.1)
          have HS4_ := (hb.cell (World.block_lt_of_cell? _ _ (hHeld.2.2.2.2))).trans (hHeld.2.2.2.2)
          refine ⟨_, rfl, ?_⟩
          refine nx7_ (R_elder' (rU_ HO_4.out) (R_base ho0) hb) (Kd.N_elder' (by (with_reducible repeat (first | apply Kd.N_alloc | apply Kd.N_drewN | apply Kd.N_drew)); exact HO_14.out) (R_base ho0) hb) (V_elder' (vU_ HL504_0.out) (R_base ho0) hb) (R_lower (R_new' ho0 (R_lt (rU_ HO_4.out))) (below_size sU_)) (blk_below (kU_ BK485.out) hb) (C_below (cU_ HR504_0.out) hb) (below_step sU_ hb) ?_
          clear HO_4 HO_14 HL504_0 BK485 HR504_0 HB
          intro HO_4 HO_14 HL504_0 HO508 BK485 HR504_0 HB
          (try clear hb)
          (try clear hb2)
          (try clear hk)
          (try clear hi)
          (try clear ho0)
          refine hK.out _ _ ⟨bc0_ BK485.out, bc1_ BK485.out, bc2_ BK485.out, HS3_, HS4_⟩ (fun hHeld => ?_)
          clear hK K
          refine norm_ (a' := ?_) ?_ ?_
          rotate_left
          ·show Act.put _ (some 101) _ = _
           simp only [Act.put, s1_, s2_, s3_, i64_w, i32_w]
           rfl
          refine pq_ 10 91 15 2047 HT_.out ?_
          refine pq_ 11 102 15 4095 HT_.out ?_
          refine pq_ 12 103 15 8191 HT_.out ?_
          refine pq_ 13 18 15 16383 HT_.out ?_
          refine pq_ 14 19 15 32767 HT_.out ?_
          refine done_ (done_of HT_.out (by kernel_rfl)) ?_
          have hcz61_0 := bc0_ BK485.out
          have hcz61_1 := bc1_ BK485.out
          have hcz61_2 := bc2_ BK485.out
          have hfz61_0 := blk_frozen BK485.out 0
          have hfz61_1 := blk_frozen BK485.out 1
          have hfz61_2 := blk_frozen BK485.out 2
          go_upto_if 131 with (first | ((with_reducible refine gate_callee (f := 10) rfl ?_); refine gl_ (some 106) Tryd.func10 #[.agg #[.int .i64 x486000_3, .int .i64 x486001_3, .int .u64 x486002_3]] ?_; (with_reducible refine (fold_Next.calls kj40 x486000_3 x486001_3 x486002_3 t510 t511 t512 t513 _ ?side1 A49.out).mono ?_); (case side1 => repeat (first | with_reducible exact HG.out | with_reducible exact (Fld.below HG.out HB.out) | exact (Fld.below HG.out sU_) | (with_reducible refine Fld.alloc ?_ _) | (with_reducible refine Fld.drewN ?_ _) | (with_reducible refine Fld.drew ?_))); rintro e w62 ⟨rfl, hb⟩; refine ⟨_, rfl, ?_⟩; refine nx7_ (R_below (rU_ HO_4.out) hb) (Kd.N_below (by (with_reducible repeat (first | apply Kd.N_alloc | apply Kd.N_drewN | apply Kd.N_drew)); exact HO_14.out) hb) (V_below (vU_ HL504_0.out) hb) (R_below (rU_ HO508.out) hb) (blk_below (kU_ BK485.out) hb) (C_below (cU_ HR504_0.out) hb) (below_step sU_ hb) ?_; clear HO_4 HO_14 HL504_0 HO508 BK485 HR504_0 HB; intro HO_4 HO_14 HL504_0 HO508 BK485 HR504_0 HB; clear hb) | ((with_reducible refine gate_dst (N := 20) rfl ?_); (try (refine gate_guard (by rfl) ?_; dsimp only)); refine bx_ 20 24 #[.int .i64 0, .int .i64 0, .int .u64 0] ?_; intro gb514 hg w63 hbox hb; refine nx15_ (R_below (rU_ HO_4.out) hb) (Kd.N_below (Kd.N_elderB (by (with_reducible repeat (first | apply Kd.N_alloc | apply Kd.N_drewN | apply Kd.N_drew)); exact HO_14.out) gb514 (Nat.le_of_eq hg.symm)) hb) (V_below (V_elderB (vU_ HL504_0.out) gb514 (Nat.le_of_eq hg.symm)) hb) (R_below (rU_ HO508.out) hb) (blk_below (kU_ BK485.out) hb) (C_below (cU_ HR504_0.out) hb) (C_below (cU_ HR504_0.out) (Below.refl _ w62)) (hb) (Nat.le_of_eq hg.symm) (below_step sU_ hb) (hbox) ((hs_ hg (below_size sU_) : w.heap.size ≤ gb514)) ((hs_ hg (below_size sU_) : w.heap.size ≤ gb514)) ((hl_ hg (kU_ BK485.out))) ((hm_ hg (kU_ BK485.out))) ?_; clear HO_4 HO_14 HL504_0 HO508 BK485 HR504_0 HB; intro HO_4 HO_14 HL504_0 HO508 BK485 HR504_0 OCHR504_0_514 OB514 OG514 HB BK514 GW514 GE514 NB485_514 NB514_485; clear hb hbox hg; have hnb64 := NB514_485.out; have hnc64 := NB485_514.out; have hcz65_0 := bc0_ BK514.out; have hcz65_1 := bc1_ BK514.out; have hcz65_2 := bc2_ BK514.out; have hfz65_0 := blk_frozen BK514.out 0; have hfz65_1 := blk_frozen BK514.out 1; have hfz65_2 := blk_frozen BK514.out 2) | ((with_reducible refine gate_store (t := 24) (p := 20) rfl ?_); refine store_event (t := 24) (p := 20) (v := ?vo_w66) (w1 := (((w63.setCell ⟨gb514, 0, none⟩ (.int .i64 t510)).setCell ⟨gb514, 1, none⟩ (.int .i64 t511)).setCell ⟨gb514, 2, none⟩ (.int .u64 t512))) ?hg ?ho ?hn ?hr ?_; (case ho => rfl); (case hg => rfl); (case hn => rfl); (case hr => first | (go_simp; done) | (go_simp; rfl)); intro w66 hw; have n0_ : Aside0 (Kd.R (Kd.int .u64) 22 w66 w.heap.size (fun k_ => some k_ ≠ (v507 : Value).ownBlock) (.slice (some ad505) t491.length co28) t491) := ⟨(by rw [hw]; exact (by (with_reducible repeat (first | apply Kd.R_alloc | apply Kd.R_drewN | apply R_drew)); exact R_mono (R_far (p := ⟨gb514, 2, none⟩) (R_far (p := ⟨gb514, 1, none⟩) (R_far (p := ⟨gb514, 0, none⟩) (R_types HO_4.out BK514.out (by decide)) (fun _ hk => hk.2) (.int .i64 t510)) (fun _ hk => hk.2) (.int .i64 t511)) (fun _ hk => hk.2) (.int .u64 t512)) (fun _ hk => hk.1.2)))⟩; have n1_ : Aside0 (Kd.N (Kd.slice 22 (Kd.int .u64)) 33 w66 w.heap.size (fun k_ => some k_ ≠ (.slice (some ad505) t491.length co28 : Value).ownBlock ∧ some k_ ≠ (v507 : Value).ownBlock ∧ k_ ≠ gb485 ∧ k_ ≠ gb514) (.slice (some ad498) t494.length co30) t494) := ⟨(by rw [hw]; exact (by (with_reducible repeat (first | apply Kd.N_alloc | apply Kd.N_drewN | apply Kd.N_drew)); exact Kd.N_mono (Kd.N_far (p := ⟨gb514, 2, none⟩) (Kd.N_far (p := ⟨gb514, 1, none⟩) (Kd.N_far (p := ⟨gb514, 0, none⟩) (Kd.N_mono HO_14.out (fun k_ hk => (⟨hk, hk.2⟩ : _ ∧ k_ ≠ gb514))) (fun _ hk => hk.2) (.int .i64 t510)) (fun _ hk => hk.2) (.int .i64 t511)) (fun _ hk => hk.2) (.int .u64 t512)) (fun _ hk => ⟨hk.1.1.1.1, ⟨hk.1.1.2, ⟨hk.1.1.1.2, hk.1.2⟩⟩⟩)))⟩; have n2_ : Aside0 (Kd.V (Kd.int .u64) 22 w66 w.heap.size (fun k_ => some k_ ≠ (.slice (some ad505) t491.length co28 : Value).ownBlock ∧ some k_ ≠ (.slice (some ad498) t494.length co30 : Value).ownBlock ∧ some k_ ≠ (v507 : Value).ownBlock ∧ k_ ≠ gb485 ∧ k_ ≠ gb514) (.slice A504_0 (rd_L1 t494 x17_3).length c504_0) (rd_L1 t494 x17_3)) := ⟨(by rw [hw]; exact (by (with_reducible repeat (first | apply Kd.V_alloc | apply Kd.V_drewN | apply V_drew)); exact V_mono (V_far (p := ⟨gb514, 2, none⟩) (V_far (p := ⟨gb514, 1, none⟩) (V_far (p := ⟨gb514, 0, none⟩) (V_mono HL504_0.out (fun k_ hk => (⟨hk, hk.2⟩ : _ ∧ k_ ≠ gb514))) (fun _ hk => hk.2) (.int .i64 t510)) (fun _ hk => hk.2) (.int .i64 t511)) (fun _ hk => hk.2) (.int .u64 t512)) (fun _ hk => ⟨hk.1.1.1.1.1, ⟨hk.1.1.1.2, ⟨hk.1.1.2, ⟨hk.1.1.1.1.2, hk.1.2⟩⟩⟩⟩)))⟩; have n3_ : Aside0 (Kd.R (Kd.int .u64) 22 w66 w.heap.size (fun k_ => some k_ ≠ (.slice (some ad505) t491.length co28 : Value).ownBlock) v507 t506) := ⟨(by rw [hw]; exact (by (with_reducible repeat (first | apply Kd.R_alloc | apply Kd.R_drewN | apply R_drew)); exact R_mono (R_far (p := ⟨gb514, 2, none⟩) (R_far (p := ⟨gb514, 1, none⟩) (R_far (p := ⟨gb514, 0, none⟩) (R_types HO508.out BK514.out (by decide)) (fun _ hk => hk.2) (.int .i64 t510)) (fun _ hk => hk.2) (.int .i64 t511)) (fun _ hk => hk.2) (.int .u64 t512)) (fun _ hk => hk.1.2)))⟩; have n4_ : Aside0 (w66.heap[gb485]? = some (.cells #[.int .i64 x486000_3, .int .i64 x486001_3, .int .u64 x486002_3] 24 (0, 0))) := ⟨(by rw [hw]; exact kp_)⟩; have n5_ : Aside0 (w66.heap[gb514]? = some (.cells #[.int .i64 t510, .int .i64 t511, .int .u64 t512] 24 (0, 0))) := ⟨(by rw [hw]; exact kp_)⟩; have n6_ : Aside0 (Below w.heap.size w w66) := ⟨(by rw [hw]; exact sU_)⟩; have n7_ : Aside0 (Kd.C (Kd.int .u64) w66 A504_0 (rd_L1 t494 x17_3).length (rd_L1 t494 x17_3)) := ⟨(by rw [hw]; exact (C_below OCHR504_0_514.out (below_set (below_set (below_set (OB514.out) OG514.out) OG514.out) OG514.out)))⟩; clear hw; clear HO_4; clear HO_14; clear HL504_0; clear HO508; clear BK485; clear BK514; clear HB; clear HR504_0; have HO_4 := n0_; have HO_14 := n1_; have HL504_0 := n2_; have HO508 := n3_; have BK485 := n4_; have BK514 := n5_; have HB := n6_; have HR504_0 := n7_; clear n0_ n1_ n2_ n3_ n4_ n5_ n6_ n7_; have p515 : 0 ≤ ((ji52) : Int) := od_; have q515 : (ji52) < (t494.length : Int) := od_; obtain ⟨ad515, A515_0, c515_0, e515, hx515_0, hl515_0, hi515_0⟩ := at_L1 (Kd.N_reads' HO_14.out).2.2 (ji52) p515 q515; obtain rfl : ad498 = ad515 := (by injection e515); obtain ⟨ce515, hce515, hMe515, hcc515⟩ := Kd.N_get HO_14.out [] (ji52) p515 (by first | exact q515 | exact od_ | (have e_ := (Kd.N_reads' HO_14.out).1; omega)); obtain ⟨ua515_0, uc515_0, rfl, ul515_0, ge515_0⟩ := Kd.FK_slice_open hMe515; have hv515_0 := hcc515 0 _ rfl; rw [Nat.add_zero, show ((Kd.slice 22 (Kd.int .u64))).sz = 1 from rfl, Nat.mul_one] at hv515_0; replace hv515_0 := Option.some.inj (hv515_0.symm.trans hx515_0); injection hv515_0 with hva_ hvn_ hvc_; rw [hva_] at ge515_0; rw [hvc_] at ul515_0; have HL515_0 := ak (show Kd.V (Kd.int .u64) 22 _ w.heap.size _ _ (rd_L1 t494 (ji52)) from V_mk ul515_0 ge515_0); clear hva_ hvn_ hvc_ ge515_0 ul515_0; clear hcc515 hce515; have HR515_0 := ak hi515_0; have HC515_0 := ak hl515_0; clear hi515_0 hl515_0; replace p515 := eq_true p515; replace q515 := eq_true q515; obtain ⟨Ao67, co67, eo67⟩ := R_slice HO508.out; subst eo67) | (go_at_call 21; (with_reducible refine (attestorlaw09_same.calls kj40 _ _ t506 _ _ (rd_L1 t494 (ji52)) true _ ?side1 ?side2 ?side3 ?side4 A55.out).mono ?_); (case side1 => exact cU_ ((R_reads' HO508.out).2.2)); (case side2 => exact (R_reads' HO508.out).2.1); (case side3 => repeat (first | exact (by repeat (first | (with_reducible exact HR515_0.out) | (with_reducible refine Kd.C_alloc ?_ _) | (with_reducible refine Kd.C_drewN ?_ _) | (with_reducible refine Kd.C_drew ?_) | exact HR515_0.out)) | (with_reducible refine Kd.C_alloc ?_ _) | (with_reducible refine Kd.C_drewN ?_ _) | (with_reducible refine Kd.C_drew ?_))); (case side4 => exact HC515_0.out); rintro e w' ⟨rfl, ⟨nd, rfl⟩⟩; have hcz68_0 := bc0_ BK514.out; have hcz68_1 := bc1_ BK514.out; have hcz68_2 := bc2_ BK514.out; have hfz68_0 := blk_frozen BK514.out 0; have hfz68_1 := blk_frozen BK514.out 1; have hfz68_2 := blk_frozen BK514.out 2) | (go_at_call 33; (with_reducible refine (code_Size.calls t510 t511 t512 t517 _ ?side1 A57.out).mono ?_); (case side1 => repeat (first | with_reducible exact HG.out | with_reducible exact (Fld.below HG.out HB.out) | exact (Fld.below HG.out sU_) | (with_reducible refine Fld.alloc ?_ _) | (with_reducible refine Fld.drewN ?_ _) | (with_reducible refine Fld.drew ?_))); rintro e w69 ⟨rfl, hb⟩; refine nx10_ (R_below (rU_ HO_4.out) hb) (Kd.N_below (by (with_reducible repeat (first | apply Kd.N_alloc | apply Kd.N_drewN | apply Kd.N_drew)); exact HO_14.out) hb) (V_below (vU_ HL504_0.out) hb) (R_below (rU_ HO508.out) hb) (V_below (vU_ HL515_0.out) hb) (blk_below (kU_ BK485.out) hb) (C_below (cU_ HR504_0.out) hb) (blk_below (kU_ BK514.out) hb) (C_below (cU_ HR515_0.out) hb) (below_step sU_ hb) ?_; clear HO_4 HO_14 HL504_0 HO508 HL515_0 BK485 HR504_0 BK514 HR515_0 HB; intro HO_4 HO_14 HL504_0 HO508 HL515_0 BK485 HR504_0 BK514 HR515_0 HB; clear hb))
          (try simp only [Act.put, s1_, s2_, s3_])
          go_cut [] (fun wc => ∃ (kq : Nat), Aside0 (attestorlaw09_FoldSteps.j4 kq t491 t494 x17_3 t506 x486000_3 x486001_3 x486002_3 t510 t511 t512 = some r) ∧ Aside0 (kq ≤ kj40) ∧ Aside0 (Kd.R (Kd.int .u64) 22 wc w.heap.size (fun k_ => some k_ ≠ ((.slice Ao67 t506.length co67) : Value).ownBlock) (.slice (some ad505) t491.length co28) t491) ∧ Aside0 (Kd.N (Kd.slice 22 (Kd.int .u64)) 33 wc w.heap.size (fun k_ => some k_ ≠ ((.slice (some ad505) t491.length co28) : Value).ownBlock ∧ some k_ ≠ ((.slice Ao67 t506.length co67) : Value).ownBlock ∧ k_ ≠ gb485 ∧ k_ ≠ gb514) (.slice (some ad498) t494.length co30) t494) ∧ Aside0 (Kd.R (Kd.int .u64) 22 wc w.heap.size (fun k_ => some k_ ≠ ((.slice (some ad505) t491.length co28) : Value).ownBlock) (.slice Ao67 t506.length co67) t506) ∧ Aside0 (wc.heap[gb485]? = some (.cells #[.int .i64 x486000_3, .int .i64 x486001_3, .int .u64 x486002_3] 24 (0, 0))) ∧ Aside0 (wc.heap[gb514]? = some (.cells #[.int .i64 t510, .int .i64 t511, .int .u64 t512] 24 (0, 0))) ∧ Aside0 (Below w.heap.size w wc))
          case first =>
           have H := HC58.out
           clear HC58
           obtain ⟨c70, H⟩ : ((t506.length : Int) = t517) ∧ _ := it_ H
           have c70b0 := beq_iff_eq.mpr c70
           have c70b1 := bne_eq_false_iff_eq.mpr c70
           clear c70
           (first | rw [c70b0] | (simp only [i64_w, i32_w]; rw [c70b0]) | rw [c70b1] | skip)
           have H' := ak H
           clear H
           go_wp2
           go_meet
           case rel => exact ⟨_, H', ⟨by have := HJ16.out; have := HK2.out; have := HK3.out; have := HJ40.out; first | omega | exact Nat.le_refl _⟩, ⟨by (try simp only [hl13_16]); (with_reducible repeat (first | apply Kd.R_alloc | apply Kd.R_drewN | apply R_drew)); exact HO_4.out⟩, ⟨by (try simp only [hl13_16]); (with_reducible repeat (first | apply Kd.N_alloc | apply Kd.N_drewN | apply Kd.N_drew)); exact HO_14.out⟩, ⟨by (try simp only [hl13_16]); (with_reducible repeat (first | apply Kd.R_alloc | apply Kd.R_drewN | apply R_drew)); exact HO508.out⟩, ⟨by (try simp only [hl13_16]); (with_reducible repeat (first | refine blk_drewN ?_ _ | refine blk_drew ?_ | refine blk_alloc ?_ _)); exact BK485.out⟩, ⟨by (try simp only [hl13_16]); (with_reducible repeat (first | refine blk_drewN ?_ _ | refine blk_drew ?_ | refine blk_alloc ?_ _)); exact BK514.out⟩, ⟨sU_⟩⟩
          case rest =>
           clear HC58
           (try clear c1); (try clear c2); (try clear p2); (try clear c3); (try clear c4); (try clear p4); (try clear q4); (try clear hx4); (try clear qi4); (try clear c5); (try clear p5); (try clear q5); (try clear hx5); (try clear c6); (try clear p6); (try clear c7); (try clear c8); (try clear c8b0); (try clear c8b1); (try clear c10); (try clear c10b0); (try clear c10b1); (try clear c11); (try clear c11b0); (try clear c11b1); (try clear c14); (try clear c14b0); (try clear c14b1); (try clear c15); (try clear c15b0); (try clear c15b1); (try clear c16); (try clear c16b0); (try clear c16b1); (try clear c17); (try clear c20); (try clear c22); (try clear c25); (try clear c27); (try clear c31); (try clear c31b0); (try clear c31b1); (try clear c32); (try clear c32b0); (try clear c33); (try clear c33b0); (try clear c33b1); (try clear c34); (try clear c34b0); (try clear c35); (try clear c35b0); (try clear c36); (try clear c36b0); (try clear c38); (try clear c38b0); (try clear c38b1); (try clear c42); (try clear c42b0); (try clear c42b1); (try clear c45); (try clear c45b0); (try clear c46); (try clear c46b0); (try clear c47); (try clear c47b0); (try clear p49); (try clear q49); (try clear hx49); (try clear c50); (try clear c50b0); (try clear c50b1); (try clear p50); (try clear q50); (try clear hx50); (try clear c51); (try clear c51b0); (try clear c51b1); (try clear p51); (try clear q51); (try clear hx51); (try clear c53); (try clear c53b0); (try clear c54); (try clear c54b0); (try clear c56); (try clear c64); (try clear p64); (try clear c70); (try clear c70b0); (try clear c70b1); (try clear hcz20_0); (try clear hcz20_1); (try clear hcz20_2); (try clear hcz25_0); (try clear hcz25_1); (try clear hcz25_2); (try clear hcz27_0); (try clear hcz27_1); (try clear hcz27_2); (try clear hcz61_0); (try clear hcz61_1); (try clear hcz61_2); (try clear hcz65_0); (try clear hcz65_1); (try clear hcz65_2); (try clear hcz68_0); (try clear hcz68_1); (try clear hcz68_2); (try clear hfz20_0); (try clear hfz20_1); (try clear hfz20_2); (try clear hfz25_0); (try clear hfz25_1); (try clear hfz25_2); (try clear hfz27_0); (try clear hfz27_1); (try clear hfz27_2); (try clear hfz61_0); (try clear hfz61_1); (try clear hfz61_2); (try clear hfz65_0); (try clear hfz65_1); (try clear hfz65_2); (try clear hfz68_0); (try clear hfz68_1); (try clear hfz68_2); (try clear hx498_0); (try clear hx499_0); (try clear hx500_0); (try clear hx501_0); (try clear hx504_0); (try clear hx505_0); (try clear hx515_0); (try clear p498); (try clear p499); (try clear p500); (try clear p501); (try clear p504); (try clear p505); (try clear p515); (try clear q498); (try clear q499); (try clear q500); (try clear q501); (try clear q504); (try clear q505); (try clear q515)
           obtain ⟨kq, HA, HJ57, HO_4, HO_14, HO_18, BK485, BK514, HB⟩ := hcut
           cases kq with
           | zero => exact absurd HA.out (by simp [attestorlaw09_FoldSteps.j4])
           | succ kj57 =>
            have H := HA.out
            clear HA
            simp only [attestorlaw09_FoldSteps.j4] at H
            have H' := ak H
            clear H
            go_wp2
            go_loopg [22] kj57 (fun kq v22 w' => ∃ (x22_6 : Int), v22 = .int .i64 x22_6 ∧ Aside0 (attestorlaw09_FoldSteps.l2 kq t491 t494 x17_3 t506 x22_6 x486000_3 x486001_3 x486002_3 t510 t511 t512 = some r) ∧ Aside0 (kq ≤ kj57) ∧ Aside0 (Kd.R (Kd.int .u64) 22 w' w.heap.size (fun k_ => some k_ ≠ ((.slice Ao67 t506.length co67) : Value).ownBlock) (.slice (some ad505) t491.length co28) t491) ∧ Aside0 (Kd.N (Kd.slice 22 (Kd.int .u64)) 33 w' w.heap.size (fun k_ => some k_ ≠ ((.slice (some ad505) t491.length co28) : Value).ownBlock ∧ some k_ ≠ ((.slice Ao67 t506.length co67) : Value).ownBlock ∧ k_ ≠ gb485 ∧ k_ ≠ gb514) (.slice (some ad498) t494.length co30) t494) ∧ Aside0 (Kd.R (Kd.int .u64) 22 w' w.heap.size (fun k_ => some k_ ≠ ((.slice (some ad505) t491.length co28) : Value).ownBlock) (.slice Ao67 t506.length co67) t506) ∧ Aside0 (w'.heap[gb485]? = some (.cells #[.int .i64 x486000_3, .int .i64 x486001_3, .int .u64 x486002_3] 24 (0, 0))) ∧ Aside0 (w'.heap[gb514]? = some (.cells #[.int .i64 t510, .int .i64 t511, .int .u64 t512] 24 (0, 0))) ∧ Aside0 (Below w.heap.size w w'))
            case atStart => exact ⟨(0), gb_, H', ⟨Nat.le_refl _⟩, ⟨by (try simp only [hl13_16]); (with_reducible repeat (first | apply Kd.R_alloc | apply Kd.R_drewN | apply R_drew)); exact HO_4.out⟩, ⟨by (try simp only [hl13_16]); (with_reducible repeat (first | apply Kd.N_alloc | apply Kd.N_drewN | apply Kd.N_drew)); exact HO_14.out⟩, ⟨by (try simp only [hl13_16]); (with_reducible repeat (first | apply Kd.R_alloc | apply Kd.R_drewN | apply R_drew)); exact HO_18.out⟩, ⟨by (try simp only [hl13_16]); (with_reducible repeat (first | refine blk_drewN ?_ _ | refine blk_drew ?_ | refine blk_alloc ?_ _)); exact BK485.out⟩, ⟨by (try simp only [hl13_16]); (with_reducible repeat (first | refine blk_drewN ?_ _ | refine blk_drew ?_ | refine blk_alloc ?_ _)); exact BK514.out⟩, ⟨sU_⟩⟩
            case round =>
             clear H'
             (try clear c1); (try clear c2); (try clear p2); (try clear c3); (try clear c4); (try clear p4); (try clear q4); (try clear hx4); (try clear qi4); (try clear c5); (try clear p5); (try clear q5); (try clear hx5); (try clear c6); (try clear p6); (try clear c7); (try clear c8); (try clear c8b0); (try clear c8b1); (try clear c10); (try clear c10b0); (try clear c10b1); (try clear c11); (try clear c11b0); (try clear c11b1); (try clear c14); (try clear c14b0); (try clear c14b1); (try clear c15); (try clear c15b0); (try clear c15b1); (try clear c16); (try clear c16b0); (try clear c16b1); (try clear c17); (try clear c20); (try clear c22); (try clear c25); (try clear c27); (try clear c31); (try clear c31b0); (try clear c31b1); (try clear c32); (try clear c32b0); (try clear c33); (try clear c33b0); (try clear c33b1); (try clear c34); (try clear c34b0); (try clear c35); (try clear c35b0); (try clear c36); (try clear c36b0); (try clear c38); (try clear c38b0); (try clear c38b1); (try clear c42); (try clear c42b0); (try clear c42b1); (try clear c45); (try clear c45b0); (try clear c46); (try clear c46b0); (try clear c47); (try clear c47b0); (try clear p49); (try clear q49); (try clear hx49); (try clear c50); (try clear c50b0); (try clear c50b1); (try clear p50); (try clear q50); (try clear hx50); (try clear c51); (try clear c51b0); (try clear c51b1); (try clear p51); (try clear q51); (try clear hx51); (try clear c53); (try clear c53b0); (try clear c54); (try clear c54b0); (try clear c56); (try clear c64); (try clear p64); (try clear c70); (try clear c70b0); (try clear c70b1); (try clear hcz20_0); (try clear hcz20_1); (try clear hcz20_2); (try clear hcz25_0); (try clear hcz25_1); (try clear hcz25_2); (try clear hcz27_0); (try clear hcz27_1); (try clear hcz27_2); (try clear hcz61_0); (try clear hcz61_1); (try clear hcz61_2); (try clear hcz65_0); (try clear hcz65_1); (try clear hcz65_2); (try clear hcz68_0); (try clear hcz68_1); (try clear hcz68_2); (try clear hfz20_0); (try clear hfz20_1); (try clear hfz20_2); (try clear hfz25_0); (try clear hfz25_1); (try clear hfz25_2); (try clear hfz27_0); (try clear hfz27_1); (try clear hfz27_2); (try clear hfz61_0); (try clear hfz61_1); (try clear hfz61_2); (try clear hfz65_0); (try clear hfz65_1); (try clear hfz65_2); (try clear hfz68_0); (try clear hfz68_1); (try clear hfz68_2); (try clear hx498_0); (try clear hx499_0); (try clear hx500_0); (try clear hx501_0); (try clear hx504_0); (try clear hx505_0); (try clear hx515_0); (try clear p498); (try clear p499); (try clear p500); (try clear p501); (try clear p504); (try clear p505); (try clear p515); (try clear q498); (try clear q499); (try clear q500); (try clear q501); (try clear q504); (try clear q505); (try clear q515)
             obtain ⟨x22_6, rfl, HA, HK6, HO_4, HO_14, HO_18, BK485, BK514, HB⟩ := hrel
             cases gk with
             | zero => exact absurd HA.out (by simp [attestorlaw09_FoldSteps.l2])
             | succ k6 =>
              have H := HA.out
              clear HA
              simp only [attestorlaw09_FoldSteps.l2] at H
              have HC71 := ak H
              clear H
              go_upto_if 135 with (fail)
              go_cut [] (fun wc => ∃ (kq : Nat), Aside0 (attestorlaw09_FoldSteps.j6 kq t491 t494 x17_3 t506 x22_6 x486000_3 x486001_3 x486002_3 t510 t511 t512 = some r) ∧ Aside0 (kq ≤ k6) ∧ Aside0 (Kd.R (Kd.int .u64) 22 wc w.heap.size (fun k_ => some k_ ≠ ((.slice Ao67 t506.length co67) : Value).ownBlock) (.slice (some ad505) t491.length co28) t491) ∧ Aside0 (Kd.N (Kd.slice 22 (Kd.int .u64)) 33 wc w.heap.size (fun k_ => some k_ ≠ ((.slice (some ad505) t491.length co28) : Value).ownBlock ∧ some k_ ≠ ((.slice Ao67 t506.length co67) : Value).ownBlock ∧ k_ ≠ gb485 ∧ k_ ≠ gb514) (.slice (some ad498) t494.length co30) t494) ∧ Aside0 (Kd.R (Kd.int .u64) 22 wc w.heap.size (fun k_ => some k_ ≠ ((.slice (some ad505) t491.length co28) : Value).ownBlock) (.slice Ao67 t506.length co67) t506) ∧ Aside0 (wc.heap[gb485]? = some (.cells #[.int .i64 x486000_3, .int .i64 x486001_3, .int .u64 x486002_3] 24 (0, 0))) ∧ Aside0 (wc.heap[gb514]? = some (.cells #[.int .i64 t510, .int .i64 t511, .int .u64 t512] 24 (0, 0))) ∧ Aside0 (Below w.heap.size w wc))
              case first =>
               have H := HC71.out
               clear HC71
               by_cases c72 : x22_6 < (t506.length : Int)
               ·rw [if_pos c72] at H
                have c72b0 := decide_eq_true c72
                clear c72
                (first | rw [c72b0] | (simp only [i64_w, i32_w]; rw [c72b0]) | rw [c72b1] | skip)
                have H' := ak H
                clear H
                go_wp2
                go_meet
                case rel => exact ⟨_, H', ⟨by have := HJ16.out; have := HK2.out; have := HK3.out; have := HJ40.out; have := HJ57.out; have := HK6.out; first | omega | exact Nat.le_refl _⟩, ⟨by (try simp only [hl13_16]); (with_reducible repeat (first | apply Kd.R_alloc | apply Kd.R_drewN | apply R_drew)); exact HO_4.out⟩, ⟨by (try simp only [hl13_16]); (with_reducible repeat (first | apply Kd.N_alloc | apply Kd.N_drewN | apply Kd.N_drew)); exact HO_14.out⟩, ⟨by (try simp only [hl13_16]); (with_reducible repeat (first | apply Kd.R_alloc | apply Kd.R_drewN | apply R_drew)); exact HO_18.out⟩, ⟨by (try simp only [hl13_16]); (with_reducible repeat (first | refine blk_drewN ?_ _ | refine blk_drew ?_ | refine blk_alloc ?_ _)); exact BK485.out⟩, ⟨by (try simp only [hl13_16]); (with_reducible repeat (first | refine blk_drewN ?_ _ | refine blk_drew ?_ | refine blk_alloc ?_ _)); exact BK514.out⟩, ⟨sU_⟩⟩
               rw [if_neg c72] at H
               have c72b0 := decide_eq_false c72
               clear c72
               (first | rw [c72b0] | (simp only [i64_w, i32_w]; rw [c72b0]) | rw [c72b1] | skip)
               have H' := ak H
               clear H
               have hnb73 := NB514_485.out
               have hnc73 := NB485_514.out
               have hcz74_0 := bc0_ BK514.out
               have hcz74_1 := bc1_ BK514.out
               have hcz74_2 := bc2_ BK514.out
               have hfz74_0 := blk_frozen BK514.out 0
               have hfz74_1 := blk_frozen BK514.out 1
               have hfz74_2 := blk_frozen BK514.out 2
               have hcz75_0 := bc0_ BK485.out
               have hcz75_1 := bc1_ BK485.out
               have hcz75_2 := bc2_ BK485.out
               have hfz75_0 := blk_frozen BK485.out 0
               have hfz75_1 := blk_frozen BK485.out 1
               have hfz75_2 := blk_frozen BK485.out 2
               go_wp2
               go_roundg k6
               case measure => have := HJ16.out; have := HK2.out; have := HK3.out; have := HJ40.out; have := HJ57.out; have := HK6.out; omega
               case rel => exact ⟨(wrap64 (x17_3 + 1)), (t510), (t511), (t512), gb_, H', ⟨by have := HJ16.out; have := HK2.out; have := HK3.out; have := HJ40.out; have := HJ57.out; have := HK6.out; omega⟩, ⟨by (try simp only [hl13_16]); (with_reducible repeat (first | apply Kd.R_alloc | apply Kd.R_drewN | apply R_drew)); exact R_mono (R_far (p := ⟨gb485, 2, none⟩) (R_far (p := ⟨gb485, 1, none⟩) (R_far (p := ⟨gb485, 0, none⟩) (R_types HO_4.out BK485.out (by decide)) (fun _ hk => hk.2) (.int .i64 t510)) (fun _ hk => hk.2) (.int .i64 t511)) (fun _ hk => hk.2) (.int .u64 t512)) (fun _ hk => trivial)⟩, ⟨by (try simp only [hl13_16]); (with_reducible repeat (first | apply Kd.N_alloc | apply Kd.N_drewN | apply Kd.N_drew)); exact Kd.N_mono (Kd.N_far (p := ⟨gb485, 2, none⟩) (Kd.N_far (p := ⟨gb485, 1, none⟩) (Kd.N_far (p := ⟨gb485, 0, none⟩) (Kd.N_mono HO_14.out (fun k_ hk => (⟨hk, hk.2.2.1⟩ : _ ∧ k_ ≠ gb485))) (fun _ hk => hk.2) (.int .i64 t510)) (fun _ hk => hk.2) (.int .i64 t511)) (fun _ hk => hk.2) (.int .u64 t512)) (fun _ hk => ⟨hk.1.1, hk.1.2.2.1⟩)⟩, ⟨by (try simp only [hl13_16]); (with_reducible repeat (first | refine blk_drewN ?_ _ | refine blk_drew ?_ | refine blk_alloc ?_ _)); refine blk_put (cs := #[.int .i64 t510, .int .i64 t511, .int .u64 x486002_3]) ?_ 2 _ rfl; (with_reducible repeat (first | refine blk_drewN ?_ _ | refine blk_drew ?_ | refine blk_alloc ?_ _)); refine blk_put (cs := #[.int .i64 t510, .int .i64 x486001_3, .int .u64 x486002_3]) ?_ 1 _ rfl; (with_reducible repeat (first | refine blk_drewN ?_ _ | refine blk_drew ?_ | refine blk_alloc ?_ _)); refine blk_put (cs := #[.int .i64 x486000_3, .int .i64 x486001_3, .int .u64 x486002_3]) ?_ 0 _ rfl; (with_reducible repeat (first | refine blk_drewN ?_ _ | refine blk_drew ?_ | refine blk_alloc ?_ _)); exact BK485.out⟩, ⟨sU_⟩⟩
              case rest =>
               clear HC71
               (try clear c1); (try clear c2); (try clear p2); (try clear c3); (try clear c4); (try clear p4); (try clear q4); (try clear hx4); (try clear qi4); (try clear c5); (try clear p5); (try clear q5); (try clear hx5); (try clear c6); (try clear p6); (try clear c7); (try clear c8); (try clear c8b0); (try clear c8b1); (try clear c10); (try clear c10b0); (try clear c10b1); (try clear c11); (try clear c11b0); (try clear c11b1); (try clear c14); (try clear c14b0); (try clear c14b1); (try clear c15); (try clear c15b0); (try clear c15b1); (try clear c16); (try clear c16b0); (try clear c16b1); (try clear c17); (try clear c20); (try clear c22); (try clear c25); (try clear c27); (try clear c31); (try clear c31b0); (try clear c31b1); (try clear c32); (try clear c32b0); (try clear c33); (try clear c33b0); (try clear c33b1); (try clear c34); (try clear c34b0); (try clear c35); (try clear c35b0); (try clear c36); (try clear c36b0); (try clear c38); (try clear c38b0); (try clear c38b1); (try clear c42); (try clear c42b0); (try clear c42b1); (try clear c45); (try clear c45b0); (try clear c46); (try clear c46b0); (try clear c47); (try clear c47b0); (try clear p49); (try clear q49); (try clear hx49); (try clear c50); (try clear c50b0); (try clear c50b1); (try clear p50); (try clear q50); (try clear hx50); (try clear c51); (try clear c51b0); (try clear c51b1); (try clear p51); (try clear q51); (try clear hx51); (try clear c53); (try clear c53b0); (try clear c54); (try clear c54b0); (try clear c56); (try clear c64); (try clear p64); (try clear c70); (try clear c70b0); (try clear c70b1); (try clear c72); (try clear c72b0); (try clear c72b1); (try clear c73); (try clear hcz20_0); (try clear hcz20_1); (try clear hcz20_2); (try clear hcz25_0); (try clear hcz25_1); (try clear hcz25_2); (try clear hcz27_0); (try clear hcz27_1); (try clear hcz27_2); (try clear hcz61_0); (try clear hcz61_1); (try clear hcz61_2); (try clear hcz65_0); (try clear hcz65_1); (try clear hcz65_2); (try clear hcz68_0); (try clear hcz68_1); (try clear hcz68_2); (try clear hcz74_0); (try clear hcz74_1); (try clear hcz74_2); (try clear hcz75_0); (try clear hcz75_1); (try clear hcz75_2); (try clear hfz20_0); (try clear hfz20_1); (try clear hfz20_2); (try clear hfz25_0); (try clear hfz25_1); (try clear hfz25_2); (try clear hfz27_0); (try clear hfz27_1); (try clear hfz27_2); (try clear hfz61_0); (try clear hfz61_1); (try clear hfz61_2); (try clear hfz65_0); (try clear hfz65_1); (try clear hfz65_2); (try clear hfz68_0); (try clear hfz68_1); (try clear hfz68_2); (try clear hfz74_0); (try clear hfz74_1); (try clear hfz74_2); (try clear hfz75_0); (try clear hfz75_1); (try clear hfz75_2); (try clear hx498_0); (try clear hx499_0); (try clear hx500_0); (try clear hx501_0); (try clear hx504_0); (try clear hx505_0); (try clear hx515_0); (try clear p498); (try clear p499); (try clear p500); (try clear p501); (try clear p504); (try clear p505); (try clear p515); (try clear q498); (try clear q499); (try clear q500); (try clear q501); (try clear q504); (try clear q505); (try clear q515)
               obtain ⟨kq, HA, HJ70, HO_4, HO_14, HO_18, BK485, BK514, HB⟩ := hcut
               cases kq with
               | zero => exact absurd HA.out (by simp [attestorlaw09_FoldSteps.j6])
               | succ kj70 =>
                have H := HA.out
                clear HA
                simp only [attestorlaw09_FoldSteps.j6] at H
                obtain ⟨c76, H⟩ : (0 ≤ x22_6) ∧ _ := it_ H
                have c76b0 := decide_eq_true c76
                clear c76
                obtain ⟨c77, H⟩ : (x22_6 < (t506.length : Int)) ∧ _ := it_ H
                have c77b0 := decide_eq_true c77
                clear c77
                revert H
                refine bd_ fun t519 A78 H => ?_
                obtain ⟨c79, H⟩ : (0 ≤ x17_3) ∧ _ := it_ H
                have c79b0 := decide_eq_true c79
                clear c79
                obtain ⟨c80, H⟩ : (x17_3 < (t494.length : Int)) ∧ _ := it_ H
                have c80b0 := decide_eq_true c80
                clear c80
                revert H
                refine bd_ fun t521 A81 H => ?_
                obtain ⟨c82, H⟩ : (x17_3 < (t491.length : Int)) ∧ _ := it_ H
                have c82b0 := decide_eq_true c82
                clear c82
                revert H
                refine bd_ fun t523 A83 H => ?_
                obtain ⟨c84, H⟩ : ((rd t506 x22_6) = t523) ∧ _ := it_ H
                have c84b0 := beq_iff_eq.mpr c84
                have c84b1 := bne_eq_false_iff_eq.mpr c84
                clear c84
                have H' := ak H
                clear H
                try go_wp2
                refine nx6_ (R_drew HO_4.out) (Kd.N_drew HO_14.out) (R_drew HO_18.out) (blk_drew BK485.out) (blk_drew BK514.out) (below_drew1 HB.out) ?_
                clear HO_4 HO_14 HO_18 BK485 BK514 HB
                intro HO_4 HO_14 HO_18 BK485 BK514 HB
                have p518 : 0 ≤ (x22_6 : Int) := od_
                have q518 : x22_6 < (t506.length : Int) := od_
                obtain ⟨ad518, e518, hx518_0⟩ := Kd.at_int (R_reads' HO_18.out).2.2 x22_6 p518 q518
                cases e518
                replace p518 := eq_true p518
                replace q518 := eq_true q518
                have p520 : 0 ≤ (x17_3 : Int) := od_
                have q520 : x17_3 < (t494.length : Int) := od_
                obtain ⟨ad520, A520_0, c520_0, e520, hx520_0, hl520_0, hi520_0⟩ := at_L1 (Kd.N_reads' HO_14.out).2.2 x17_3 p520 q520
                obtain rfl : ad498 = ad520 := (by injection e520)
                obtain ⟨ce520, hce520, hMe520, hcc520⟩ := Kd.N_get HO_14.out [] x17_3 p520 (by first | exact q520 | exact od_ | (have e_ := (Kd.N_reads' HO_14.out).1; omega))
                obtain ⟨ua520_0, uc520_0, rfl, ul520_0, ge520_0⟩ := Kd.FK_slice_open hMe520
                have hv520_0 := hcc520 0 _ rfl
                rw [Nat.add_zero, show ((Kd.slice 22 (Kd.int .u64))).sz = 1 from rfl, Nat.mul_one] at hv520_0
                replace hv520_0 := Option.some.inj (hv520_0.symm.trans hx520_0)
                injection hv520_0 with hva_ hvn_ hvc_
                rw [hva_] at ge520_0
                rw [hvc_] at ul520_0
                have HL520_0 := ak (show Kd.V (Kd.int .u64) 22 _ w.heap.size _ _ (rd_L1 t494 x17_3) from V_mk ul520_0 ge520_0)
                clear hva_ hvn_ hvc_ ge520_0 ul520_0
                clear hcc520 hce520
                have HR520_0 := ak hi520_0
                have HC520_0 := ak hl520_0
                clear hi520_0 hl520_0
                replace p520 := eq_true p520
                replace q520 := eq_true q520
                have p522 : 0 ≤ (x17_3 : Int) := od_
                have q522 : x17_3 < (t491.length : Int) := od_
                obtain ⟨ad522, e522, hx522_0⟩ := Kd.at_int (R_reads' HO_4.out).2.2 x17_3 p522 q522
                obtain rfl : ad505 = ad522 := (by injection e522)
                replace p522 := eq_true p522
                replace q522 := eq_true q522
                refine start_ (n := 22) (S := fun w' => w'.cell? ⟨gb485, 0, none⟩ = some (.int .i64 x486000_3) ∧ w'.cell? ⟨gb485, 1, none⟩ = some (.int .i64 x486001_3) ∧ w'.cell? ⟨gb485, 2, none⟩ = some (.int .u64 x486002_3) ∧ w'.cell? (ad518.add (x22_6).toNat) = some (.int .u64 (rd t506 x22_6)) ∧ w'.cell? (ad498.add (x17_3).toNat) = some (.slice A520_0 (rd_L1 t494 x17_3).length c520_0) ∧ w'.cell? (ad505.add (x17_3).toNat) = some (.int .u64 (rd t491 x17_3))) (ds := []) (bv 22 0) (by kernel_rfl) rfl rfl ⟨bc0_ BK485.out, bc1_ BK485.out, bc2_ BK485.out, hx518_0, hx520_0, hx522_0⟩ (fun hHeld => ?_); refine with_tabW attestorlaw09_FoldSteps.tab24 attestorlaw09_FoldSteps.bits24 (fun HT_ HW_ => ?_)
                generalize wc.drew = w85 at HO_4 HO_14 HO_18 BK485 BK514 HB HL520_0 HR520_0 hx518_0 hx520_0 hx522_0 hHeld ⊢
                refine pq_ 0 138 22 1 HT_.out ?_
                refine pq_ 1 139 22 3 HT_.out ?_
                refine pq_ 2 140 22 7 HT_.out ?_
                refine pq_ 4 142 22 23 HT_.out ?_
                refine pq_ 7 145 22 151 HT_.out ?_
                refine pq_ 10 148 22 1175 HT_.out ?_
                refine pq_ 11 149 22 3223 HT_.out ?_
                refine pq_ 12 150 22 7319 HT_.out ?_
                refine pq_ 14 152 22 23703 HT_.out ?_
                refine pq_ 16 154 22 89239 HT_.out ?_
                refine pq_ 17 155 22 220311 HT_.out ?_
                refine pq_ 18 156 22 482455 HT_.out ?_
                refine tq_ 3 141 22 482463 HT_.out HW_.out hHeld ?_
                refine tq_ 5 143 22 482495 HT_.out HW_.out hHeld ?_
                refine tq_ 6 144 22 482559 HT_.out HW_.out hHeld ?_
                refine tq_ 9 147 22 483071 HT_.out HW_.out hHeld ?_
                refine tq_ 13 151 22 491263 HT_.out HW_.out hHeld ?_
                refine tq_ 19 157 22 1015551 HT_.out HW_.out hHeld ?_
                refine oq_ 8 146 22 1015807 HT_.out fun K hK => ?_
                refine gs_ Tryd.func34 #[.agg #[.int .i64 x486000_3, .int .i64 x486001_3, .int .u64 x486002_3], .int .i64 x22_6] ?_
                with_reducible refine (code_Point.calls kj70 x486000_3 x486001_3 x486002_3 x22_6 t519 _ ?side1 A78.out).mono ?_
                (case side1 => repeat (first | with_reducible exact HG.out | with_reducible exact (Fld.below HG.out HB.out) | exact (Fld.below HG.out sU_) | (with_reducible refine Fld.alloc ?_ _) | (with_reducible refine Fld.drewN ?_ _) | (with_reducible refine Fld.drew ?_)))
                rintro e w86 ⟨rfl, hb⟩
                have HS3_ := (hb.cell (World.block_lt_of_cell? _ _ (hHeld.2.2.2.1))).trans (hHeld.2.2.2.1)
                have HS4_ := (hb.cell (World.block_lt_of_cell? _ _ (hHeld.2.2.2.2.1))).trans (hHeld.2.2.2.2.1)
                have HS5_ := (hb.cell (World.block_lt_of_cell? _ _ (hHeld.2.2.2.2.2))).trans (hHeld.2.2.2.2.2)
                refine ⟨_, rfl, ?_⟩
                refine nx8_ (R_below (rU_ HO_4.out) hb) (Kd.N_below (by (with_reducible repeat (first | apply Kd.N_alloc | apply Kd.N_drewN | apply Kd.N_drew)); exact HO_14.out) hb) (R_below (rU_ HO_18.out) hb) (V_below (vU_ HL520_0.out) hb) (blk_below (kU_ BK485.out) hb) (blk_below (kU_ BK514.out) hb) (C_below (cU_ HR520_0.out) hb) (below_step sU_ hb) ?_
                clear HO_4 HO_14 HO_18 HL520_0 BK485 BK514 HR520_0 HB
                intro HO_4 HO_14 HO_18 HL520_0 BK485 BK514 HR520_0 HB
                (try clear hb)
                (try clear hb2)
                (try clear hk)
                (try clear hi)
                refine hK.out _ _ ⟨bc0_ BK485.out, bc1_ BK485.out, bc2_ BK485.out, HS3_, HS4_, HS5_⟩ (fun hHeld => ?_)
                clear hK K
                refine norm_ (a' := ?_) ?_ ?_
                rotate_left
                ·show Act.put _ (some 146) _ = _
                 simp only [Act.put, s1_, s2_, s3_, i64_w, i32_w]
                 rfl
                refine oq_ 15 153 22 1048575 HT_.out fun K hK => ?_
                refine gs_ Tryd.func29 #[.agg #[.int .i64 x486000_3, .int .i64 x486001_3, .int .u64 x486002_3], .slice A520_0 (rd_L1 t494 x17_3).length c520_0, .int .i64 x22_6] ?_
                with_reducible refine (fold_Leaf.calls kj70 x486000_3 x486001_3 x486002_3 _ _ (rd_L1 t494 x17_3) x22_6 t521 _ ?side1 ?side2 ?side3 A81.out).mono ?_
                (case side1 => repeat (first | with_reducible exact HG.out | with_reducible exact (Fld.below HG.out HB.out) | exact (Fld.below HG.out sU_) | (with_reducible refine Fld.alloc ?_ _) | (with_reducible refine Fld.drewN ?_ _) | (with_reducible refine Fld.drew ?_)))
                (case side2 => repeat (first | exact (by repeat (first | (with_reducible exact HR520_0.out) | (with_reducible refine Kd.C_alloc ?_ _) | (with_reducible refine Kd.C_drewN ?_ _) | (with_reducible refine Kd.C_drew ?_) | exact HR520_0.out)) | (with_reducible refine Kd.C_alloc ?_ _) | (with_reducible refine Kd.C_drewN ?_ _) | (with_reducible refine Kd.C_drew ?_)))
                (case side3 => exact HC520_0.out)
                rintro e w87 ⟨rfl, hb⟩
                have HS3_ := (hb.cell (World.block_lt_of_cell? _ _ (hHeld.2.2.2.1))).trans (hHeld.2.2.2.1)
                have HS4_ := (hb.cell (World.block_lt_of_cell? _ _ (hHeld.2.2.2.2.1))).trans (hHeld.2.2.2.2.1)
                have HS5_ := (hb.cell (World.block_lt_of_cell? _ _ (hHeld.2.2.2.2.2))).trans (hHeld.2.2.2.2.2)
                refine ⟨_, rfl, ?_⟩
                refine nx8_ (R_below (rU_ HO_4.out) hb) (Kd.N_below (by (with_reducible repeat (first | apply Kd.N_alloc | apply Kd.N_drewN | apply Kd.N_drew)); exact HO_14.out) hb) (R_below (rU_ HO_18.out) hb) (V_below (vU_ HL520_0.out) hb) (blk_below (kU_ BK485.out) hb) (blk_below (kU_ BK514.out) hb) (C_below (cU_ HR520_0.out) hb) (below_step sU_ hb) ?_
                clear HO_4 HO_14 HO_18 HL520_0 BK485 BK514 HR520_0 HB
                intro HO_4 HO_14 HO_18 HL520_0 BK485 BK514 HR520_0 HB
                (try clear hb)
                (try clear hb2)
                (try clear hk)
                (try clear hi)
                refine hK.out _ _ ⟨bc0_ BK485.out, bc1_ BK485.out, bc2_ BK485.out, HS3_, HS4_, HS5_⟩ (fun hHeld => ?_)
                clear hK K
                refine norm_ (a' := ?_) ?_ ?_
                rotate_left
                ·show Act.put _ (some 153) _ = _
                 simp only [Act.put, s1_, s2_, s3_, i64_w, i32_w]
                 rfl
                refine oq_ 20 158 22 2097151 HT_.out fun K hK => ?_
                refine gs_ Tryd.func14 #[.int .i64 x486000_3, .int .u64 t519, .agg #[.int .u64 (bco t521 0), .int .u64 (bco t521 1), .int .u64 (bco t521 2), .int .u64 (bco t521 3), .int .u64 (bco t521 4), .int .u64 (bco t521 5), .int .u64 (bco t521 6), .int .u64 (bco t521 7)], .int .u64 (rd t491 x17_3)] ?_
                with_reducible refine (fold_At.calls kj70 x486000_3 t519 t521 (rd t491 x17_3) t523 _ ?side1 A83.out).mono ?_
                (case side1 => repeat (first | with_reducible exact HG.out | with_reducible exact (Fld.below HG.out HB.out) | exact (Fld.below HG.out sU_) | (with_reducible refine Fld.alloc ?_ _) | (with_reducible refine Fld.drewN ?_ _) | (with_reducible refine Fld.drew ?_)))
                rintro e w88 ⟨rfl, hb⟩
                have HS3_ := (hb.cell (World.block_lt_of_cell? _ _ (hHeld.2.2.2.1))).trans (hHeld.2.2.2.1)
                have HS4_ := (hb.cell (World.block_lt_of_cell? _ _ (hHeld.2.2.2.2.1))).trans (hHeld.2.2.2.2.1)
                have HS5_ := (hb.cell (World.block_lt_of_cell? _ _ (hHeld.2.2.2.2.2))).trans (hHeld.2.2.2.2.2)
                refine ⟨_, rfl, ?_⟩
                refine nx8_ (R_below (rU_ HO_4.out) hb) (Kd.N_below (by (with_reducible repeat (first | apply Kd.N_alloc | apply Kd.N_drewN | apply Kd.N_drew)); exact HO_14.out) hb) (R_below (rU_ HO_18.out) hb) (V_below (vU_ HL520_0.out) hb) (blk_below (kU_ BK485.out) hb) (blk_below (kU_ BK514.out) hb) (C_below (cU_ HR520_0.out) hb) (below_step sU_ hb) ?_
                clear HO_4 HO_14 HO_18 HL520_0 BK485 BK514 HR520_0 HB
                intro HO_4 HO_14 HO_18 HL520_0 BK485 BK514 HR520_0 HB
                (try clear hb)
                (try clear hb2)
                (try clear hk)
                (try clear hi)
                refine hK.out _ _ ⟨bc0_ BK485.out, bc1_ BK485.out, bc2_ BK485.out, HS3_, HS4_, HS5_⟩ (fun hHeld => ?_)
                clear hK K
                refine norm_ (a' := ?_) ?_ ?_
                rotate_left
                ·show Act.put _ (some 158) _ = _
                 simp only [Act.put, s1_, s2_, s3_, i64_w, i32_w]
                 rfl
                refine pq_ 21 159 22 4194303 HT_.out ?_
                refine done_ (done_of HT_.out (by kernel_rfl)) ?_
                try go_wp2
                go_roundg kj70
                case measure => have := HJ16.out; have := HK2.out; have := HK3.out; have := HJ40.out; have := HJ57.out; have := HK6.out; have := HJ70.out; omega
                case rel => exact ⟨(wrap64 (x22_6 + 1)), gb_, H', ⟨by have := HJ16.out; have := HK2.out; have := HK3.out; have := HJ40.out; have := HJ57.out; have := HK6.out; have := HJ70.out; omega⟩, ⟨by (try simp only [hl13_16]); (with_reducible repeat (first | apply Kd.R_alloc | apply Kd.R_drewN | apply R_drew)); exact HO_4.out⟩, ⟨by (try simp only [hl13_16]); (with_reducible repeat (first | apply Kd.N_alloc | apply Kd.N_drewN | apply Kd.N_drew)); exact HO_14.out⟩, ⟨by (try simp only [hl13_16]); (with_reducible repeat (first | apply Kd.R_alloc | apply Kd.R_drewN | apply R_drew)); exact HO_18.out⟩, ⟨by (try simp only [hl13_16]); (with_reducible repeat (first | refine blk_drewN ?_ _ | refine blk_drew ?_ | refine blk_alloc ?_ _)); exact BK485.out⟩, ⟨by (try simp only [hl13_16]); (with_reducible repeat (first | refine blk_drewN ?_ _ | refine blk_drew ?_ | refine blk_alloc ?_ _)); exact BK514.out⟩, ⟨sU_⟩⟩
         replace c56 := Bool.eq_false_iff.mpr c56
         subst c56
         rw [if_neg (show ¬ (false = true) by decide)] at H
         exact absurd H (by simp)

def attestorlaw09_FoldSteps.Pure : Prop := ∀ (a0 : Int) (a1 : Int) (a2 : Int) (l3 : List Int) (l4 : List Int), (Lit.int .u8 a0).wf = true → (Lit.int .u8 a1).wf = true → (Lit.int .u64 a2).wf = true → l3.length ≤ maxLen → l3.length * 8 ≤ 140737488351232 → (∀ x ∈ l3, (Lit.int .u64 x).wf = true) → l4.length ≤ maxLen → l4.length * 8 ≤ 140737488351232 → (∀ x ∈ l4, (Lit.int .u64 x).wf = true) → ∃ k, attestorlaw09_FoldSteps.f k a0 a1 a2 l3 l4 = some true
theorem attestorlaw09_FoldSteps.walk (P : attestorlaw09_FoldSteps.Pure) (a0 : Int) (a1 : Int) (a2 : Int) (a3 : Option Addr) (len3 cap3 : Nat) (z3 : List Int) (a4 : Option Addr) (len4 cap4 : Nat) (z4 : List Int) (w : World) (hG : Fld w) (w0 : (Lit.int .u8 a0).wf = true) (w1 : (Lit.int .u8 a1).wf = true) (w2 : (Lit.int .u64 a2).wf = true) (w3 : (a3 = none ∧ len3 = 0 ∧ cap3 = 0 ∧ z3 = []) ∨ ∃ x, a3 = some x ∧ len3 ≤ cap3 ∧ cap3 ≤ maxLen ∧ z3.length = cap3 ∧ (∀ i, i < z3.length → w.cell? (x.add i) = some (.int .u64 (z3.getD i 0))) ∧ ∀ n ∈ z3, (Lit.int .u64 n).wf = true) (y3 : len3 * 8 ≤ 140737488351232) (w4 : (a4 = none ∧ len4 = 0 ∧ cap4 = 0 ∧ z4 = []) ∨ ∃ x, a4 = some x ∧ len4 ≤ cap4 ∧ cap4 ≤ maxLen ∧ z4.length = cap4 ∧ (∀ i, i < z4.length → w.cell? (x.add i) = some (.int .u64 (z4.getD i 0))) ∧ ∀ n ∈ z4, (Lit.int .u64 n).wf = true) (y4 : len4 * 8 ≤ 140737488351232) :
  Calls Tryd.prog 7 #[.int .u8 a0, .int .u8 a1, .int .u64 a2, .slice a3 len3 cap3, .slice a4 len4 cap4] w fun e w' => e = .returned (.bool true) ∧ Below w.heap.size w w' := by
 obtain ⟨l3, rfl, hr3, hm3, hw3, hc3⟩ := ReadsInt.ofRowC w3
 obtain ⟨l4, rfl, hr4, hm4, hw4, hc4⟩ := ReadsInt.ofRowC w4
 obtain ⟨k, h⟩ := P a0 a1 a2 l3 l4 w0 w1 w2 hm3 y3 hw3 hm4 y4 hw4
 refine (attestorlaw09_FoldSteps.calls k a0 a1 a2 _ _ l3 _ _ l4 true w hG (C_of_reads (d := (0 : Int)) (h1 := fun _ => rfl) hr3) hc3 (C_of_reads (d := (0 : Int)) (h1 := fun _ => rfl) hr4) hc4 h).mono ?_
 rintro e w' ⟨rfl, hd⟩
 exact ⟨rfl, hd⟩

end Go.Proofs.YthinfmfjpaikiaaDoor.Q

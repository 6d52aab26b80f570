import Derived.Test.YtjjjoepnlhpjdaaDoorQ0
import Derived.Test.YtjjjoepnlhpjdaaDoorQ2
import Derived.Test.YtjjjoepnlhpjdaaDoorQ3
import Derived.Test.YtjjjoepnlhpjdaaDoorQ4
import Derived.Test.YtjjjoepnlhpjdaaDoorQ12
import Derived.Test.YtjjjoepnlhpjdaaDoorQ13
import Derived.Test.YtjjjoepnlhpjdaaDoorQ16
import Derived.Test.YtjjjoepnlhpjdaaDoorQ22
import Derived.Test.YtjjjoepnlhpjdaaDoorQ23
import Derived.Test.YtjjjoepnlhpjdaaDoorQ25
namespace Go.Proofs.YtjjjoepnlhpjdaaDoor.Q
open Go.RowKit Go.Proofs.YtjjjoepnlhpjdaaDoorW.PrintWords Go.Proofs.YtjjjoepnlhpjdaaDoorW.PrintLast Go.Proofs.YtjjjoepnlhpjdaaDoorW.PrintMore
open Kd (R_below R_mono R_far R_types R_lower R_new' R_elder' R_base R_lt R_slice R_reads' V_below V_mono V_lower V_elderB V_slice V_reads' C_below fresh' freshB R_drew V_drew)
attribute [local go_sem] max2_int min2_int max_two min_two max_three min_three max_four min_four   -- for this text's walks alone
set_option linter.unusedVariables false
set_option linter.unusedSimpArgs false

mutual
def attestorlaw02_RatioFractions.j0 : Nat → Int → List Int → List Int → List Int → List Int → Option (Bool)
 | 0, _, _, _, _, _ => none
 | k + 1, x2, x1391000, x1391001, x1392000, x1392001 => (ratio_New.f k x1391000 x1392001).bind fun bt1410 => ((attestorref02_New.f k x1391000 x1392001).bind fun bt1418 => (if bt1410.2.2 = bt1418.2.2 then ((attestorref02_Same.f k bt1410.1 bt1410.2.1 bt1418.1 bt1418.2.1).bind fun t1426 => (if t1426 = true then (attestorlaw02_RatioFractions.j1 k x2 x1391000 x1391001 x1392000 x1392001) else (none))) else (none)))
def attestorlaw02_RatioFractions.j1 : Nat → Int → List Int → List Int → List Int → List Int → Option (Bool)
 | 0, _, _, _, _, _ => none
 | k + 1, x2, x1391000, x1391001, x1392000, x1392001 => (ratio_Add.f k x1391000 x1391001 x1392000 x1392001).bind fun bt1427 => ((attestorref02_Add.f k x1391000 x1391001 x1392000 x1392001).bind fun bt1434 => (if bt1427.2.2 = bt1434.2.2 then ((attestorref02_Same.f k bt1427.1 bt1427.2.1 bt1434.1 bt1434.2.1).bind fun t1441 => (if t1441 = true then (attestorlaw02_RatioFractions.j2 k x2 x1391000 x1391001 x1392000 x1392001) else (none))) else (none)))
def attestorlaw02_RatioFractions.j2 : Nat → Int → List Int → List Int → List Int → List Int → Option (Bool)
 | 0, _, _, _, _, _ => none
 | k + 1, x2, x1391000, x1391001, x1392000, x1392001 => (ratio_Mul.f k x1391000 x1391001 x1392000 x1392001).bind fun bt1442 => ((attestorref02_Mul.f k x1391000 x1391001 x1392000 x1392001).bind fun bt1449 => (if bt1442.2.2 = bt1449.2.2 then ((attestorref02_Same.f k bt1442.1 bt1442.2.1 bt1449.1 bt1449.2.1).bind fun t1456 => (if t1456 = true then (attestorlaw02_RatioFractions.j3 k x2 x1391000 x1391001) else (none))) else (none)))
def attestorlaw02_RatioFractions.j3 : Nat → Int → List Int → List Int → Option (Bool)
 | 0, _, _, _ => none
 | k + 1, x2, x1391000, x1391001 => (ratio_Power.f k x1391000 x1391001 x2).bind fun bt1457 => ((attestorref02_Power.f k x1391000 x1391001 x2).bind fun bt1464 => (if bt1457.2.2 = bt1464.2.2 then ((attestorref02_Same.f k bt1457.1 bt1457.2.1 bt1464.1 bt1464.2.1).bind fun t1471 => (if t1471 = true then ((attestorlaw02_works.f k).bind fun t1472 => (some t1472)) else (none))) else (none)))
end
def attestorlaw02_RatioFractions.f (k : Nat) (l0_0 : List Int) (l0_1 : List Int) (l1_0 : List Int) (l1_1 : List Int) (a2 : Int) : Option (Bool) := (attestorlaw02_own.f l0_0).bind fun t1392 => ((attestorlaw02_own.f l0_1).bind fun t1395 => ((attestorlaw02_own.f l1_0).bind fun t1398 => ((attestorlaw02_own.f l1_1).bind fun t1401 => ((ratio_Valid.f k t1392 t1395).bind fun t1404 => ((attestorref02_Valid.f k t1392 t1395).bind fun t1405 => (if (t1404 != t1405) = true then (none) else ((ratio_Order.f k t1392 t1395 t1398 t1401).bind fun t1406 => ((attestorref02_Order.f k t1392 t1395 t1398 t1401).bind fun t1407 => (if t1406 = t1407 then ((ratio_Show.f k t1392 t1395).bind fun t1408 => ((attestorref02_Show.f k t1392 t1395).bind fun t1409 => (if t1408.toList = t1409.toList then (attestorlaw02_RatioFractions.j0 k a2 t1392 t1395 t1398 t1401) else (none)))) else (none))))))))))
def attestorlaw02_RatioFractions.T1 : Bool × List (List Nat × List Nat) := (true, [([], []), ([0], [0]), ([1], [1]), ([], []), ([3], [3]), ([4, 2], [4]), ([2, 5], [2, 5]), ([], []), ([7], [7]), ([8, 5], [8]), ([], []), ([10], [10]), ([11, 9], [11]), ([9, 12], [9, 12]), ([6, 12, 0, 1, 2, 3, 4, 5, 6], [6]), ([13, 14, 0, 1, 2, 3, 4, 5, 6, 7, 8, 9, 10, 11, 12, 13, 14], [13])])
def attestorlaw02_RatioFractions.B1 : List Nat := [0, 1, 3, 0, 8, 31, 63, 0, 128, 447, 0, 1024, 4031, 8127, 8191, 32767]
theorem attestorlaw02_RatioFractions.tab1 : rtab .any (opsOf Tryd.f8 1) = attestorlaw02_RatioFractions.T1 := by kernel_rfl
theorem attestorlaw02_RatioFractions.bits1 : waitsOk attestorlaw02_RatioFractions.T1.2 attestorlaw02_RatioFractions.B1 = true := by kernel_rfl
def attestorlaw02_RatioFractions.T2 : Bool × List (List Nat × List Nat) := (true, [([], []), ([0], [0]), ([], []), ([2, 1], [2]), ([1, 3], [1, 3]), ([4, 3], [4]), ([5], [5]), ([5], [5]), ([6, 7, 5, 5], [5, 6, 7]), ([5], [5]), ([5], [5]), ([9, 10, 8, 5], [5, 9, 10]), ([8, 11, 5], [5, 8, 11]), ([5, 12], [5, 12]), ([13, 11], [13]), ([14], [14]), ([15, 14, 14], [14, 15]), ([14], [14]), ([17, 16, 14], [14, 17]), ([16, 18, 14], [14, 16, 18]), ([14, 19], [14, 19])])
def attestorlaw02_RatioFractions.B2 : List Nat := [0, 1, 0, 7, 15, 31, 63, 63, 255, 63, 63, 2047, 4095, 8191, 16383, 32767, 65535, 32767, 262143, 524287, 1048575]
theorem attestorlaw02_RatioFractions.tab2 : rtab .any (opsOf Tryd.f8 2) = attestorlaw02_RatioFractions.T2 := by kernel_rfl
theorem attestorlaw02_RatioFractions.bits2 : waitsOk attestorlaw02_RatioFractions.T2.2 attestorlaw02_RatioFractions.B2 = true := by kernel_rfl
set_option maxHeartbeats 8000000 in
set_option maxRecDepth 100000 in
theorem attestorlaw02_RatioFractions.calls (k : Nat) (A0_0 : Option Addr) (c0_0 : Nat) (l0_0 : List Int) (A0_1 : Option Addr) (c0_1 : Nat) (l0_1 : List Int) (A1_0 : Option Addr) (c1_0 : Nat) (l1_0 : List Int) (A1_1 : Option Addr) (c1_1 : Nat) (l1_1 : List Int) (a2 : Int) (r : Bool) (w : World) (hr0_0 : Kd.C (Kd.int .u32) w A0_0 l0_0.length l0_0) (hc0_0 : l0_0.length ≤ c0_0) (hr0_1 : Kd.C (Kd.int .u32) w A0_1 l0_1.length l0_1) (hc0_1 : l0_1.length ≤ c0_1) (hr1_0 : Kd.C (Kd.int .u32) w A1_0 l1_0.length l1_0) (hc1_0 : l1_0.length ≤ c1_0) (hr1_1 : Kd.C (Kd.int .u32) w A1_1 l1_1.length l1_1) (hc1_1 : l1_1.length ≤ c1_1) (h : attestorlaw02_RatioFractions.f k l0_0 l0_1 l1_0 l1_1 a2 = some r) :
  Calls Tryd.prog 8 #[.agg #[.slice A0_0 l0_0.length c0_0, .slice A0_1 l0_1.length c0_1], .agg #[.slice A1_0 l1_0.length c1_0, .slice A1_1 l1_1.length c1_1], .int .i64 a2] w fun e w' => e = .returned (.bool r) ∧ Below w.heap.size w w' := by
 have hu29 := Tryd.underlying29
 have HR0_0 := ak hr0_0
 have HC0_0 := ak hc0_0
 clear hr0_0 hc0_0
 have HR0_1 := ak hr0_1
 have HC0_1 := ak hc0_1
 clear hr0_1 hc0_1
 have HR1_0 := ak hr1_0
 have HC1_0 := ak hc1_0
 clear hr1_0 hc1_0
 have HR1_1 := ak hr1_1
 have HC1_1 := ak hc1_1
 clear hr1_1 hc1_1
 have HB := ak (Below.refl w.heap.size w)
 have H := h
 clear h
 unfold attestorlaw02_RatioFractions.f at H
 revert H
 refine bd_ fun t1392 A4 H => ?_
 revert H
 refine bd_ fun t1395 A5 H => ?_
 revert H
 refine bd_ fun t1398 A6 H => ?_
 revert H
 refine bd_ fun t1401 A7 H => ?_
 revert H
 refine bd_ fun t1404 A8 H => ?_
 revert H
 refine bd_ fun t1405 A9 H => ?_
 by_cases c10 : (t1404 != t1405) = true
 ·rw [if_pos c10] at H
  exact absurd H (by simp)
 ·rw [if_neg c10] at H
  have c10b0 : (t1404 != t1405) = false := by simpa using c10
  (try (have c10b1 : decide (t1404 = t1405) = true := by simpa using c10))
  (try (have c10b2 : (t1404 == t1405) = true := by simpa using c10))
  clear c10
  revert H
  refine bd_ fun t1406 A11 H => ?_
  revert H
  refine bd_ fun t1407 A12 H => ?_
  obtain ⟨c13, H⟩ : (t1406 = t1407) ∧ _ := it_ H
  have c13b0 := beq_iff_eq.mpr c13
  have c13b1 := bne_eq_false_iff_eq.mpr c13
  clear c13
  revert H
  refine bd_ fun t1408 A14 H => ?_
  revert H
  refine bd_ fun t1409 A15 H => ?_
  have HC16 := ak H
  clear H
  go_enter Tryd.func8, Tryd.ntmps8
  try go_wp2_with (first | ((with_reducible refine gate_dst (N := 3) rfl ?_); refine bx_ 3 29 #[.slice A0_0 l0_0.length c0_0, .slice A0_1 l0_1.length c0_1] ?_; intro gb1390 hg w17 hbox hb; refine nx4_ (below_step (bU_ HB.out) hb) (hbox) ((hs_ hg (below_size (bU_ HB.out)))) ((hs_ hg (below_size (bU_ HB.out)))) ?_; clear HB; intro HB BK1390 GW1390 GE1390; clear hb hbox hg) | ((with_reducible refine gate_dst (N := 4) rfl ?_); refine bx_ 4 29 #[.slice A1_0 l1_0.length c1_0, .slice A1_1 l1_1.length c1_1] ?_; intro gb1391 hg w18 hbox hb; refine nx7_ (blk_below (kU_ BK1390.out) hb) (below_step sU_ hb) (hbox) ((hs_ hg (below_size sU_) : w.heap.size ≤ gb1391)) ((hs_ hg (below_size sU_) : w.heap.size ≤ gb1391)) ((hl_ hg (kU_ BK1390.out))) ((hm_ hg (kU_ BK1390.out))) ?_; clear BK1390 HB; intro BK1390 HB BK1391 GW1391 GE1391 NB1390_1391 NB1391_1390; clear hb hbox hg))
  refine nx3_ (blk_drew BK1390.out) (blk_drew BK1391.out) (below_drew1 HB.out) ?_
  clear BK1390 BK1391 HB
  intro BK1390 BK1391 HB
  refine start_ (n := 16) (S := fun w' => w'.cell? ⟨gb1390, 0, none⟩ = some (.slice A0_0 l0_0.length c0_0) ∧ w'.cell? ⟨gb1390, 1, none⟩ = some (.slice A0_1 l0_1.length c0_1) ∧ w'.cell? ⟨gb1391, 0, none⟩ = some (.slice A1_0 l1_0.length c1_0) ∧ w'.cell? ⟨gb1391, 1, none⟩ = some (.slice A1_1 l1_1.length c1_1)) (ds := [14, 15]) (bv 16 0) (by kernel_rfl) rfl rfl ⟨bc0_ BK1390.out, bc1_ BK1390.out, bc0_ BK1391.out, bc1_ BK1391.out⟩ (fun hHeld => ?_); refine with_tabW attestorlaw02_RatioFractions.tab1 attestorlaw02_RatioFractions.bits1 (fun HT_ HW_ => ?_)
  generalize w18.drew = w19 at BK1390 BK1391 HB hHeld ⊢
  refine pq_ 0 11 16 1 HT_.out ?_
  refine pq_ 3 14 16 9 HT_.out ?_
  refine pq_ 7 18 16 137 HT_.out ?_
  refine pq_ 10 21 16 1161 HT_.out ?_
  refine tq_ 1 12 16 1163 HT_.out HW_.out hHeld ?_
  refine tq_ 4 15 16 1179 HT_.out HW_.out hHeld ?_
  refine tq_ 8 19 16 1435 HT_.out HW_.out hHeld ?_
  refine tq_ 11 22 16 3483 HT_.out HW_.out hHeld ?_
  refine oq_ 2 13 16 3487 HT_.out fun K hK => ?_
  refine goes_ Tryd.func37 (by kernel_rfl) rfl #[.slice A0_0 l0_0.length c0_0] (by rfl) rfl rfl ga_ ?_
  with_reducible refine (attestorlaw02_own.calls _ _ l0_0 t1392 _ ?side1 ?side2 A4.out).mono ?_
  (case side1 => exact cU_ (C_below HR0_0.out HB.out))
  (case side2 => exact HC0_0.out)
  rintro e w20 ⟨v1393, rfl, ho0, hb⟩
  refine ⟨_, rfl, ?_⟩
  refine nx4_ (R_lower ho0 (below_size sU_)) (blk_below (kU_ BK1390.out) hb) (blk_below (kU_ BK1391.out) hb) (below_step sU_ hb) ?_
  clear BK1390 BK1391 HB
  intro HO1394 BK1390 BK1391 HB
  (try clear hb)
  (try clear hb2)
  (try clear hk)
  (try clear hi)
  (try clear ho0)
  refine hK.out _ _ ⟨bc0_ BK1390.out, bc1_ BK1390.out, bc0_ BK1391.out, bc1_ BK1391.out⟩ (fun hHeld => ?_)
  clear hK K
  refine norm_ (a' := ?_) ?_ ?_
  rotate_left
  ·show Act.put _ (some 13) _ = _
   simp only [Act.put, s1_, s2_, s3_, i64_w, i32_w]
   rfl
  refine oq_ 5 16 16 3519 HT_.out fun K hK => ?_
  refine goes_ Tryd.func37 (by kernel_rfl) rfl #[.slice A0_1 l0_1.length c0_1] (by rfl) rfl rfl ga_ ?_
  with_reducible refine (attestorlaw02_own.calls _ _ l0_1 t1395 _ ?side1 ?side2 A5.out).mono ?_
  (case side1 => exact cU_ (C_below HR0_1.out HB.out))
  (case side2 => exact HC0_1.out)
  rintro e w21 ⟨v1396, rfl, ho0, hb⟩
  refine ⟨_, rfl, ?_⟩
  refine nx5_ (R_elder' (rU_ HO1394.out) (R_base ho0) hb) (R_lower (R_new' ho0 (R_lt (rU_ HO1394.out))) (below_size sU_)) (blk_below (kU_ BK1390.out) hb) (blk_below (kU_ BK1391.out) hb) (below_step sU_ hb) ?_
  clear HO1394 BK1390 BK1391 HB
  intro HO1394 HO1397 BK1390 BK1391 HB
  (try clear hb)
  (try clear hb2)
  (try clear hk)
  (try clear hi)
  (try clear ho0)
  obtain ⟨Ao22, co22, eo22⟩ := R_slice HO1397.out
  (first | subst eo22 | (injection eo22 with f1_ f2_ f3_; have f4_ := f1_.symm; have f5_ := f3_.symm; clear f1_ f2_ f3_; subst f4_; subst f5_))
  obtain ⟨Ao23, co23, eo23⟩ := R_slice HO1394.out
  (first | subst eo23 | (injection eo23 with f1_ f2_ f3_; have f4_ := f1_.symm; have f5_ := f3_.symm; clear f1_ f2_ f3_; subst f4_; subst f5_))
  refine hK.out _ _ ⟨bc0_ BK1390.out, bc1_ BK1390.out, bc0_ BK1391.out, bc1_ BK1391.out⟩ (fun hHeld => ?_)
  clear hK K
  refine norm_ (a' := ?_) ?_ ?_
  rotate_left
  ·show Act.put _ (some 16) _ = _
   simp only [Act.put, s1_, s2_, s3_, i64_w, i32_w]
   rfl
  refine pq_ 6 17 16 3583 HT_.out ?_
  refine oq_ 9 20 16 4095 HT_.out fun K hK => ?_
  refine goes_ Tryd.func37 (by kernel_rfl) rfl #[.slice A1_0 l1_0.length c1_0] (by rfl) rfl rfl ga_ ?_
  with_reducible refine (attestorlaw02_own.calls _ _ l1_0 t1398 _ ?side1 ?side2 A6.out).mono ?_
  (case side1 => exact cU_ (C_below HR1_0.out HB.out))
  (case side2 => exact HC1_0.out)
  rintro e w24 ⟨v1399, rfl, ho0, hb⟩
  refine ⟨_, rfl, ?_⟩
  refine nx6_ (R_elder' (rU_ HO1394.out) (R_base ho0) hb) (R_elder' (rU_ HO1397.out) (R_base ho0) hb) (R_lower (R_new' (R_new' ho0 (R_lt (rU_ HO1394.out))) (R_lt (rU_ HO1397.out))) (below_size sU_)) (blk_below (kU_ BK1390.out) hb) (blk_below (kU_ BK1391.out) hb) (below_step sU_ hb) ?_
  clear HO1394 HO1397 BK1390 BK1391 HB
  intro HO1394 HO1397 HO1400 BK1390 BK1391 HB
  (try clear hb)
  (try clear hb2)
  (try clear hk)
  (try clear hi)
  (try clear ho0)
  refine hK.out _ _ ⟨bc0_ BK1390.out, bc1_ BK1390.out, bc0_ BK1391.out, bc1_ BK1391.out⟩ (fun hHeld => ?_)
  clear hK K
  refine norm_ (a' := ?_) ?_ ?_
  rotate_left
  ·show Act.put _ (some 20) _ = _
   simp only [Act.put, s1_, s2_, s3_, i64_w, i32_w]
   rfl
  refine oq_ 12 23 16 8191 HT_.out fun K hK => ?_
  refine goes_ Tryd.func37 (by kernel_rfl) rfl #[.slice A1_1 l1_1.length c1_1] (by rfl) rfl rfl ga_ ?_
  with_reducible refine (attestorlaw02_own.calls _ _ l1_1 t1401 _ ?side1 ?side2 A7.out).mono ?_
  (case side1 => exact cU_ (C_below HR1_1.out HB.out))
  (case side2 => exact HC1_1.out)
  rintro e w25 ⟨v1402, rfl, ho0, hb⟩
  refine ⟨_, rfl, ?_⟩
  refine nx7_ (R_elder' (rU_ HO1394.out) (R_base ho0) hb) (R_elder' (rU_ HO1397.out) (R_base ho0) hb) (R_elder' (rU_ HO1400.out) (R_base ho0) hb) (R_lower (R_new' (R_new' (R_new' ho0 (R_lt (rU_ HO1394.out))) (R_lt (rU_ HO1397.out))) (R_lt (rU_ HO1400.out))) (below_size sU_)) (blk_below (kU_ BK1390.out) hb) (blk_below (kU_ BK1391.out) hb) (below_step sU_ hb) ?_
  clear HO1394 HO1397 HO1400 BK1390 BK1391 HB
  intro HO1394 HO1397 HO1400 HO1403 BK1390 BK1391 HB
  (try clear hb)
  (try clear hb2)
  (try clear hk)
  (try clear hi)
  (try clear ho0)
  obtain ⟨Ao26, co26, eo26⟩ := R_slice HO1403.out
  (first | subst eo26 | (injection eo26 with f1_ f2_ f3_; have f4_ := f1_.symm; have f5_ := f3_.symm; clear f1_ f2_ f3_; subst f4_; subst f5_))
  obtain ⟨Ao27, co27, eo27⟩ := R_slice HO1400.out
  (first | subst eo27 | (injection eo27 with f1_ f2_ f3_; have f4_ := f1_.symm; have f5_ := f3_.symm; clear f1_ f2_ f3_; subst f4_; subst f5_))
  refine hK.out _ _ ⟨bc0_ BK1390.out, bc1_ BK1390.out, bc0_ BK1391.out, bc1_ BK1391.out⟩ (fun hHeld => ?_)
  clear hK K
  refine norm_ (a' := ?_) ?_ ?_
  rotate_left
  ·show Act.put _ (some 23) _ = _
   simp only [Act.put, s1_, s2_, s3_, i64_w, i32_w]
   rfl
  refine pq_ 13 24 16 16383 HT_.out ?_
  refine last_ (i := 14) (N := none) #[true, true, true, true, true, true, true, true, true, true, true, true, true, true, true, false] rfl rfl (one_of HT_.out (by kernel_rfl)) (by decide) (fun K hK => ?_)
  have hs28 : w25.cell? ⟨gb1390, 0, none⟩ = some (.slice A0_0 l0_0.length c0_0) := bc0_ BK1390.out
  have hfs28 := blk_frozen BK1390.out 0
  have hns28_1 := NB1391_1390.out
  have hms28_1 := NB1390_1391.out
  have hs29 : w25.cell? ⟨gb1390, 1, none⟩ = some (.slice A0_1 l0_1.length c0_1) := bc1_ BK1390.out
  have hfs29 := blk_frozen BK1390.out 1
  have hns29_1 := NB1391_1390.out
  have hms29_1 := NB1390_1391.out
  refine skip_ (w1 := ?_) (by rfl) rfl ?_ ?_
  rotate_left
  ·go_simp
   rfl
  refine hK.out _ _ ?_
  clear hK K
  refine last_ (i := 15) (N := none) #[true, true, true, true, true, true, true, true, true, true, true, true, true, true, true, true] rfl rfl (one_of HT_.out (by kernel_rfl)) (by decide) (fun K hK => ?_)
  have hs30 : w25.cell? ⟨gb1391, 0, none⟩ = some (.slice A1_0 l1_0.length c1_0) := bc0_ BK1391.out
  have hfs30 := blk_frozen BK1391.out 0
  have hns30_0 := NB1390_1391.out
  have hms30_0 := NB1391_1390.out
  have hs31 : w25.cell? ⟨gb1391, 1, none⟩ = some (.slice A1_1 l1_1.length c1_1) := bc1_ BK1391.out
  have hfs31 := blk_frozen BK1391.out 1
  have hns31_0 := NB1390_1391.out
  have hms31_0 := NB1391_1390.out
  refine skip_ (w1 := ?_) (by rfl) rfl ?_ ?_
  rotate_left
  ·go_simp
   rfl
  refine hK.out _ _ ?_
  clear hK K
  refine done_ (done_of HT_.out (by kernel_rfl)) ?_
  try go_wp2
  have n0_ : Aside0 (Kd.R (Kd.int .u32) 44 ((((w25.setCell ⟨gb1390, 0, none⟩ (.slice Ao23 t1392.length co23)).setCell ⟨gb1390, 1, none⟩ (.slice Ao22 t1395.length co22)).setCell ⟨gb1391, 0, none⟩ (.slice Ao27 t1398.length co27)).setCell ⟨gb1391, 1, none⟩ (.slice Ao26 t1401.length co26)) w.heap.size (fun k_ => some k_ ≠ (.slice Ao22 t1395.length co22 : Value).ownBlock ∧ some k_ ≠ (.slice Ao27 t1398.length co27 : Value).ownBlock ∧ some k_ ≠ (.slice Ao26 t1401.length co26 : Value).ownBlock) (.slice Ao23 t1392.length co23) t1392) := ⟨by (with_reducible repeat (first | apply Kd.R_alloc | apply Kd.R_drewN | apply R_drew)); exact R_mono (R_far (p := ⟨gb1391, 1, none⟩) (R_far (p := ⟨gb1391, 0, none⟩) (R_far (p := ⟨gb1390, 1, none⟩) (R_far (p := ⟨gb1390, 0, none⟩) (R_types (R_types HO1394.out BK1390.out (by decide)) BK1391.out (by decide)) (fun _ hk => hk.1.2) (.slice Ao23 t1392.length co23)) (fun _ hk => hk.1.2) (.slice Ao22 t1395.length co22)) (fun _ hk => hk.2) (.slice Ao27 t1398.length co27)) (fun _ hk => hk.2) (.slice Ao26 t1401.length co26)) (fun _ hk => ⟨hk.1.1.1.1.2, ⟨hk.1.1.1.2, hk.1.1.2⟩⟩)⟩
  have n1_ : Aside0 (Kd.R (Kd.int .u32) 44 ((((w25.setCell ⟨gb1390, 0, none⟩ (.slice Ao23 t1392.length co23)).setCell ⟨gb1390, 1, none⟩ (.slice Ao22 t1395.length co22)).setCell ⟨gb1391, 0, none⟩ (.slice Ao27 t1398.length co27)).setCell ⟨gb1391, 1, none⟩ (.slice Ao26 t1401.length co26)) w.heap.size (fun k_ => some k_ ≠ (.slice Ao23 t1392.length co23 : Value).ownBlock ∧ some k_ ≠ (.slice Ao27 t1398.length co27 : Value).ownBlock ∧ some k_ ≠ (.slice Ao26 t1401.length co26 : Value).ownBlock) (.slice Ao22 t1395.length co22) t1395) := ⟨by (with_reducible repeat (first | apply Kd.R_alloc | apply Kd.R_drewN | apply R_drew)); exact R_mono (R_far (p := ⟨gb1391, 1, none⟩) (R_far (p := ⟨gb1391, 0, none⟩) (R_far (p := ⟨gb1390, 1, none⟩) (R_far (p := ⟨gb1390, 0, none⟩) (R_types (R_types HO1397.out BK1390.out (by decide)) BK1391.out (by decide)) (fun _ hk => hk.1.2) (.slice Ao23 t1392.length co23)) (fun _ hk => hk.1.2) (.slice Ao22 t1395.length co22)) (fun _ hk => hk.2) (.slice Ao27 t1398.length co27)) (fun _ hk => hk.2) (.slice Ao26 t1401.length co26)) (fun _ hk => ⟨hk.1.1.1.1.2, ⟨hk.1.1.1.2, hk.1.1.2⟩⟩)⟩
  have n2_ : Aside0 (Kd.R (Kd.int .u32) 44 ((((w25.setCell ⟨gb1390, 0, none⟩ (.slice Ao23 t1392.length co23)).setCell ⟨gb1390, 1, none⟩ (.slice Ao22 t1395.length co22)).setCell ⟨gb1391, 0, none⟩ (.slice Ao27 t1398.length co27)).setCell ⟨gb1391, 1, none⟩ (.slice Ao26 t1401.length co26)) w.heap.size (fun k_ => some k_ ≠ (.slice Ao23 t1392.length co23 : Value).ownBlock ∧ some k_ ≠ (.slice Ao22 t1395.length co22 : Value).ownBlock ∧ some k_ ≠ (.slice Ao26 t1401.length co26 : Value).ownBlock) (.slice Ao27 t1398.length co27) t1398) := ⟨by (with_reducible repeat (first | apply Kd.R_alloc | apply Kd.R_drewN | apply R_drew)); exact R_mono (R_far (p := ⟨gb1391, 1, none⟩) (R_far (p := ⟨gb1391, 0, none⟩) (R_far (p := ⟨gb1390, 1, none⟩) (R_far (p := ⟨gb1390, 0, none⟩) (R_types (R_types HO1400.out BK1390.out (by decide)) BK1391.out (by decide)) (fun _ hk => hk.1.2) (.slice Ao23 t1392.length co23)) (fun _ hk => hk.1.2) (.slice Ao22 t1395.length co22)) (fun _ hk => hk.2) (.slice Ao27 t1398.length co27)) (fun _ hk => hk.2) (.slice Ao26 t1401.length co26)) (fun _ hk => ⟨hk.1.1.1.1.2, ⟨hk.1.1.1.2, hk.1.1.2⟩⟩)⟩
  have n3_ : Aside0 (Kd.R (Kd.int .u32) 44 ((((w25.setCell ⟨gb1390, 0, none⟩ (.slice Ao23 t1392.length co23)).setCell ⟨gb1390, 1, none⟩ (.slice Ao22 t1395.length co22)).setCell ⟨gb1391, 0, none⟩ (.slice Ao27 t1398.length co27)).setCell ⟨gb1391, 1, none⟩ (.slice Ao26 t1401.length co26)) w.heap.size (fun k_ => some k_ ≠ (.slice Ao23 t1392.length co23 : Value).ownBlock ∧ some k_ ≠ (.slice Ao22 t1395.length co22 : Value).ownBlock ∧ some k_ ≠ (.slice Ao27 t1398.length co27 : Value).ownBlock) (.slice Ao26 t1401.length co26) t1401) := ⟨by (with_reducible repeat (first | apply Kd.R_alloc | apply Kd.R_drewN | apply R_drew)); exact R_mono (R_far (p := ⟨gb1391, 1, none⟩) (R_far (p := ⟨gb1391, 0, none⟩) (R_far (p := ⟨gb1390, 1, none⟩) (R_far (p := ⟨gb1390, 0, none⟩) (R_types (R_types HO1403.out BK1390.out (by decide)) BK1391.out (by decide)) (fun _ hk => hk.1.2) (.slice Ao23 t1392.length co23)) (fun _ hk => hk.1.2) (.slice Ao22 t1395.length co22)) (fun _ hk => hk.2) (.slice Ao27 t1398.length co27)) (fun _ hk => hk.2) (.slice Ao26 t1401.length co26)) (fun _ hk => ⟨hk.1.1.1.1.2, ⟨hk.1.1.1.2, hk.1.1.2⟩⟩)⟩
  have n4_ : Aside0 (((((w25.setCell ⟨gb1390, 0, none⟩ (.slice Ao23 t1392.length co23)).setCell ⟨gb1390, 1, none⟩ (.slice Ao22 t1395.length co22)).setCell ⟨gb1391, 0, none⟩ (.slice Ao27 t1398.length co27)).setCell ⟨gb1391, 1, none⟩ (.slice Ao26 t1401.length co26)).heap[gb1390]? = some (.cells #[.slice Ao23 t1392.length co23, .slice Ao22 t1395.length co22] 29 (0, 0))) := ⟨by (with_reducible repeat (first | refine blk_drewN ?_ _ | refine blk_drew ?_ | refine blk_alloc ?_ _)); refine blk_far ?_ NB1390_1391.out _; (with_reducible repeat (first | refine blk_drewN ?_ _ | refine blk_drew ?_ | refine blk_alloc ?_ _)); refine blk_far ?_ NB1390_1391.out _; (with_reducible repeat (first | refine blk_drewN ?_ _ | refine blk_drew ?_ | refine blk_alloc ?_ _)); refine blk_put (cs := #[.slice Ao23 t1392.length co23, .slice A0_1 l0_1.length c0_1]) ?_ 1 _ rfl; (with_reducible repeat (first | refine blk_drewN ?_ _ | refine blk_drew ?_ | refine blk_alloc ?_ _)); refine blk_put (cs := #[.slice A0_0 l0_0.length c0_0, .slice A0_1 l0_1.length c0_1]) ?_ 0 _ rfl; (with_reducible repeat (first | refine blk_drewN ?_ _ | refine blk_drew ?_ | refine blk_alloc ?_ _)); exact BK1390.out⟩
  have n5_ : Aside0 (((((w25.setCell ⟨gb1390, 0, none⟩ (.slice Ao23 t1392.length co23)).setCell ⟨gb1390, 1, none⟩ (.slice Ao22 t1395.length co22)).setCell ⟨gb1391, 0, none⟩ (.slice Ao27 t1398.length co27)).setCell ⟨gb1391, 1, none⟩ (.slice Ao26 t1401.length co26)).heap[gb1391]? = some (.cells #[.slice Ao27 t1398.length co27, .slice Ao26 t1401.length co26] 29 (0, 0))) := ⟨by (with_reducible repeat (first | refine blk_drewN ?_ _ | refine blk_drew ?_ | refine blk_alloc ?_ _)); refine blk_put (cs := #[.slice Ao27 t1398.length co27, .slice A1_1 l1_1.length c1_1]) ?_ 1 _ rfl; (with_reducible repeat (first | refine blk_drewN ?_ _ | refine blk_drew ?_ | refine blk_alloc ?_ _)); refine blk_put (cs := #[.slice A1_0 l1_0.length c1_0, .slice A1_1 l1_1.length c1_1]) ?_ 0 _ rfl; (with_reducible repeat (first | refine blk_drewN ?_ _ | refine blk_drew ?_ | refine blk_alloc ?_ _)); refine blk_far ?_ NB1391_1390.out _; (with_reducible repeat (first | refine blk_drewN ?_ _ | refine blk_drew ?_ | refine blk_alloc ?_ _)); refine blk_far ?_ NB1391_1390.out _; (with_reducible repeat (first | refine blk_drewN ?_ _ | refine blk_drew ?_ | refine blk_alloc ?_ _)); exact BK1391.out⟩
  have n6_ : Aside0 (Below w.heap.size w ((((w25.setCell ⟨gb1390, 0, none⟩ (.slice Ao23 t1392.length co23)).setCell ⟨gb1390, 1, none⟩ (.slice Ao22 t1395.length co22)).setCell ⟨gb1391, 0, none⟩ (.slice Ao27 t1398.length co27)).setCell ⟨gb1391, 1, none⟩ (.slice Ao26 t1401.length co26))) := ⟨sU_⟩
  (try clear HO1394)
  (try clear HO1397)
  (try clear HO1400)
  (try clear HO1403)
  (try clear BK1390)
  (try clear BK1391)
  (try clear HB)
  generalize ((((w25.setCell ⟨gb1390, 0, none⟩ (.slice Ao23 t1392.length co23)).setCell ⟨gb1390, 1, none⟩ (.slice Ao22 t1395.length co22)).setCell ⟨gb1391, 0, none⟩ (.slice Ao27 t1398.length co27)).setCell ⟨gb1391, 1, none⟩ (.slice Ao26 t1401.length co26)) = w32 at n0_ n1_ n2_ n3_ n4_ n5_ n6_ ⊢
  have HO1394 := n0_
  have HO1397 := n1_
  have HO1400 := n2_
  have HO1403 := n3_
  have BK1390 := n4_
  have BK1391 := n5_
  have HB := n6_
  clear n0_ n1_ n2_ n3_ n4_ n5_ n6_
  refine nx7_ (R_drew HO1394.out) (R_drew HO1397.out) (R_drew HO1400.out) (R_drew HO1403.out) (blk_drew BK1390.out) (blk_drew BK1391.out) (below_drew1 HB.out) ?_
  clear HO1394 HO1397 HO1400 HO1403 BK1390 BK1391 HB
  intro HO1394 HO1397 HO1400 HO1403 BK1390 BK1391 HB
  refine start_ (n := 21) (S := fun w' => w'.cell? ⟨gb1390, 0, none⟩ = some (.slice Ao23 t1392.length co23) ∧ w'.cell? ⟨gb1390, 1, none⟩ = some (.slice Ao22 t1395.length co22) ∧ w'.cell? ⟨gb1391, 0, none⟩ = some (.slice Ao27 t1398.length co27) ∧ w'.cell? ⟨gb1391, 1, none⟩ = some (.slice Ao26 t1401.length co26)) (ds := []) (bv 21 0) (by kernel_rfl) rfl rfl ⟨bc0_ BK1390.out, bc1_ BK1390.out, bc0_ BK1391.out, bc1_ BK1391.out⟩ (fun hHeld => ?_); refine with_tabW attestorlaw02_RatioFractions.tab2 attestorlaw02_RatioFractions.bits2 (fun HT_ HW_ => ?_)
  generalize w32.drew = w33 at HO1394 HO1397 HO1400 HO1403 BK1390 BK1391 HB hHeld ⊢
  refine tq_ 0 25 21 1 HT_.out HW_.out hHeld ?_
  refine tq_ 2 27 21 5 HT_.out HW_.out hHeld ?_
  refine oq_ 1 26 21 7 HT_.out fun K hK => ?_
  refine goes_ Tryd.func30 (by kernel_rfl) rfl #[.agg #[.slice Ao23 t1392.length co23, .slice Ao22 t1395.length co22]] (by rfl) rfl rfl ga_ ?_
  with_reducible refine (ratio_Valid.calls k _ _ t1392 _ _ t1395 t1404 _ ?side1 ?side2 ?side3 ?side4 A8.out).mono ?_
  (case side1 => exact cU_ ((R_reads' HO1394.out).2.2))
  (case side2 => exact (R_reads' HO1394.out).2.1)
  (case side3 => exact cU_ ((R_reads' HO1397.out).2.2))
  (case side4 => exact (R_reads' HO1397.out).2.1)
  rintro e w34 ⟨rfl, hb⟩
  refine ⟨_, rfl, ?_⟩
  refine nx7_ (R_below (rU_ HO1394.out) hb) (R_below (rU_ HO1397.out) hb) (R_below (rU_ HO1400.out) hb) (R_below (rU_ HO1403.out) hb) (blk_below (kU_ BK1390.out) hb) (blk_below (kU_ BK1391.out) hb) (below_step sU_ hb) ?_
  clear HO1394 HO1397 HO1400 HO1403 BK1390 BK1391 HB
  intro HO1394 HO1397 HO1400 HO1403 BK1390 BK1391 HB
  (try clear hb)
  (try clear hb2)
  (try clear hk)
  (try clear hi)
  refine hK.out _ _ ⟨bc0_ BK1390.out, bc1_ BK1390.out, bc0_ BK1391.out, bc1_ BK1391.out⟩ (fun hHeld => ?_)
  clear hK K
  refine norm_ (a' := ?_) ?_ ?_
  rotate_left
  ·show Act.put _ (some 26) _ = _
   simp only [Act.put, s1_, s2_, s3_, i64_w, i32_w]
   rfl
  refine oq_ 3 28 21 15 HT_.out fun K hK => ?_
  refine goes_ Tryd.func38 (by kernel_rfl) rfl #[.agg #[.slice Ao23 t1392.length co23, .slice Ao22 t1395.length co22]] (by rfl) rfl rfl ga_ ?_
  with_reducible refine (attestorref02_Valid.calls k _ _ t1392 _ _ t1395 t1405 _ ?side1 ?side2 ?side3 ?side4 A9.out).mono ?_
  (case side1 => exact cU_ ((R_reads' HO1394.out).2.2))
  (case side2 => exact (R_reads' HO1394.out).2.1)
  (case side3 => exact cU_ ((R_reads' HO1397.out).2.2))
  (case side4 => exact (R_reads' HO1397.out).2.1)
  rintro e w35 ⟨rfl, hb⟩
  refine ⟨_, rfl, ?_⟩
  refine nx7_ (R_below (rU_ HO1394.out) hb) (R_below (rU_ HO1397.out) hb) (R_below (rU_ HO1400.out) hb) (R_below (rU_ HO1403.out) hb) (blk_below (kU_ BK1390.out) hb) (blk_below (kU_ BK1391.out) hb) (below_step sU_ hb) ?_
  clear HO1394 HO1397 HO1400 HO1403 BK1390 BK1391 HB
  intro HO1394 HO1397 HO1400 HO1403 BK1390 BK1391 HB
  (try clear hb)
  (try clear hb2)
  (try clear hk)
  (try clear hi)
  refine hK.out _ _ ⟨bc0_ BK1390.out, bc1_ BK1390.out, bc0_ BK1391.out, bc1_ BK1391.out⟩ (fun hHeld => ?_)
  clear hK K
  refine norm_ (a' := ?_) ?_ ?_
  rotate_left
  ·show Act.put _ (some 28) _ = _
   simp only [Act.put, s1_, s2_, s3_, i64_w, i32_w]
   rfl
  refine pq_ 4 29 21 31 HT_.out ?_
  refine pq_ 5 30 21 63 HT_.out ?_
  refine tq_ 6 31 21 127 HT_.out HW_.out hHeld ?_
  refine tq_ 7 32 21 255 HT_.out HW_.out hHeld ?_
  refine tq_ 9 34 21 767 HT_.out HW_.out hHeld ?_
  refine tq_ 10 35 21 1791 HT_.out HW_.out hHeld ?_
  refine oq_ 8 33 21 2047 HT_.out fun K hK => ?_
  refine goes_ Tryd.func35 (by kernel_rfl) rfl #[.agg #[.slice Ao23 t1392.length co23, .slice Ao22 t1395.length co22], .agg #[.slice Ao27 t1398.length co27, .slice Ao26 t1401.length co26]] (by rfl) rfl rfl ga_ ?_
  with_reducible refine (ratio_Order.calls k _ _ t1392 _ _ t1395 _ _ t1398 _ _ t1401 t1406 _ ?side1 ?side2 ?side3 ?side4 ?side5 ?side6 ?side7 ?side8 A11.out).mono ?_
  (case side1 => exact cU_ ((R_reads' HO1394.out).2.2))
  (case side2 => exact (R_reads' HO1394.out).2.1)
  (case side3 => exact cU_ ((R_reads' HO1397.out).2.2))
  (case side4 => exact (R_reads' HO1397.out).2.1)
  (case side5 => exact cU_ ((R_reads' HO1400.out).2.2))
  (case side6 => exact (R_reads' HO1400.out).2.1)
  (case side7 => exact cU_ ((R_reads' HO1403.out).2.2))
  (case side8 => exact (R_reads' HO1403.out).2.1)
  rintro e w36 ⟨rfl, hb⟩
  refine ⟨_, rfl, ?_⟩
  refine nx7_ (R_below (rU_ HO1394.out) hb) (R_below (rU_ HO1397.out) hb) (R_below (rU_ HO1400.out) hb) (R_below (rU_ HO1403.out) hb) (blk_below (kU_ BK1390.out) hb) (blk_below (kU_ BK1391.out) hb) (below_step sU_ hb) ?_
  clear HO1394 HO1397 HO1400 HO1403 BK1390 BK1391 HB
  intro HO1394 HO1397 HO1400 HO1403 BK1390 BK1391 HB
  (try clear hb)
  (try clear hb2)
  (try clear hk)
  (try clear hi)
  refine hK.out _ _ ⟨bc0_ BK1390.out, bc1_ BK1390.out, bc0_ BK1391.out, bc1_ BK1391.out⟩ (fun hHeld => ?_)
  clear hK K
  refine norm_ (a' := ?_) ?_ ?_
  rotate_left
  ·show Act.put _ (some 33) _ = _
   simp only [Act.put, s1_, s2_, s3_, i64_w, i32_w]
   rfl
  refine oq_ 11 36 21 4095 HT_.out fun K hK => ?_
  refine goes_ Tryd.func39 (by kernel_rfl) rfl #[.agg #[.slice Ao23 t1392.length co23, .slice Ao22 t1395.length co22], .agg #[.slice Ao27 t1398.length co27, .slice Ao26 t1401.length co26]] (by rfl) rfl rfl ga_ ?_
  with_reducible refine (attestorref02_Order.calls k _ _ t1392 _ _ t1395 _ _ t1398 _ _ t1401 t1407 _ ?side1 ?side2 ?side3 ?side4 ?side5 ?side6 ?side7 ?side8 A12.out).mono ?_
  (case side1 => exact cU_ ((R_reads' HO1394.out).2.2))
  (case side2 => exact (R_reads' HO1394.out).2.1)
  (case side3 => exact cU_ ((R_reads' HO1397.out).2.2))
  (case side4 => exact (R_reads' HO1397.out).2.1)
  (case side5 => exact cU_ ((R_reads' HO1400.out).2.2))
  (case side6 => exact (R_reads' HO1400.out).2.1)
  (case side7 => exact cU_ ((R_reads' HO1403.out).2.2))
  (case side8 => exact (R_reads' HO1403.out).2.1)
  rintro e w37 ⟨rfl, hb⟩
  refine ⟨_, rfl, ?_⟩
  refine nx7_ (R_below (rU_ HO1394.out) hb) (R_below (rU_ HO1397.out) hb) (R_below (rU_ HO1400.out) hb) (R_below (rU_ HO1403.out) hb) (blk_below (kU_ BK1390.out) hb) (blk_below (kU_ BK1391.out) hb) (below_step sU_ hb) ?_
  clear HO1394 HO1397 HO1400 HO1403 BK1390 BK1391 HB
  intro HO1394 HO1397 HO1400 HO1403 BK1390 BK1391 HB
  (try clear hb)
  (try clear hb2)
  (try clear hk)
  (try clear hi)
  refine hK.out _ _ ⟨bc0_ BK1390.out, bc1_ BK1390.out, bc0_ BK1391.out, bc1_ BK1391.out⟩ (fun hHeld => ?_)
  clear hK K
  refine norm_ (a' := ?_) ?_ ?_
  rotate_left
  ·show Act.put _ (some 36) _ = _
   simp only [Act.put, s1_, s2_, s3_, i64_w, i32_w]
   rfl
  refine pq_ 12 37 21 8191 HT_.out ?_
  refine pq_ 13 38 21 16383 HT_.out ?_
  refine pq_ 14 39 21 32767 HT_.out ?_
  refine tq_ 15 40 21 65535 HT_.out HW_.out hHeld ?_
  refine tq_ 17 42 21 196607 HT_.out HW_.out hHeld ?_
  refine oq_ 16 41 21 262143 HT_.out fun K hK => ?_
  refine goes_ Tryd.func24 (by kernel_rfl) rfl #[.agg #[.slice Ao23 t1392.length co23, .slice Ao22 t1395.length co22]] (by rfl) rfl rfl ga_ ?_
  with_reducible refine (ratio_Show.calls k _ _ t1392 _ _ t1395 t1408 _ ?side1 ?side2 ?side3 ?side4 A14.out).mono ?_
  (case side1 => exact cU_ ((R_reads' HO1394.out).2.2))
  (case side2 => exact (R_reads' HO1394.out).2.1)
  (case side3 => exact cU_ ((R_reads' HO1397.out).2.2))
  (case side4 => exact (R_reads' HO1397.out).2.1)
  rintro e w38 ⟨rfl, hb⟩
  refine ⟨_, rfl, ?_⟩
  refine nx7_ (R_below (rU_ HO1394.out) hb) (R_below (rU_ HO1397.out) hb) (R_below (rU_ HO1400.out) hb) (R_below (rU_ HO1403.out) hb) (blk_below (kU_ BK1390.out) hb) (blk_below (kU_ BK1391.out) hb) (below_step sU_ hb) ?_
  clear HO1394 HO1397 HO1400 HO1403 BK1390 BK1391 HB
  intro HO1394 HO1397 HO1400 HO1403 BK1390 BK1391 HB
  (try clear hb)
  (try clear hb2)
  (try clear hk)
  (try clear hi)
  refine hK.out _ _ ⟨bc0_ BK1390.out, bc1_ BK1390.out, bc0_ BK1391.out, bc1_ BK1391.out⟩ (fun hHeld => ?_)
  clear hK K
  refine norm_ (a' := ?_) ?_ ?_
  rotate_left
  ·show Act.put _ (some 41) _ = _
   simp only [Act.put, s1_, s2_, s3_, i64_w, i32_w]
   rfl
  refine oq_ 18 43 21 524287 HT_.out fun K hK => ?_
  refine goes_ Tryd.func40 (by kernel_rfl) rfl #[.agg #[.slice Ao23 t1392.length co23, .slice Ao22 t1395.length co22]] (by rfl) rfl rfl ga_ ?_
  with_reducible refine (attestorref02_Show.calls k _ _ t1392 _ _ t1395 t1409 _ ?side1 ?side2 ?side3 ?side4 A15.out).mono ?_
  (case side1 => exact cU_ ((R_reads' HO1394.out).2.2))
  (case side2 => exact (R_reads' HO1394.out).2.1)
  (case side3 => exact cU_ ((R_reads' HO1397.out).2.2))
  (case side4 => exact (R_reads' HO1397.out).2.1)
  rintro e w39 ⟨rfl, hb⟩
  refine ⟨_, rfl, ?_⟩
  refine nx7_ (R_below (rU_ HO1394.out) hb) (R_below (rU_ HO1397.out) hb) (R_below (rU_ HO1400.out) hb) (R_below (rU_ HO1403.out) hb) (blk_below (kU_ BK1390.out) hb) (blk_below (kU_ BK1391.out) hb) (below_step sU_ hb) ?_
  clear HO1394 HO1397 HO1400 HO1403 BK1390 BK1391 HB
  intro HO1394 HO1397 HO1400 HO1403 BK1390 BK1391 HB
  (try clear hb)
  (try clear hb2)
  (try clear hk)
  (try clear hi)
  refine hK.out _ _ ⟨bc0_ BK1390.out, bc1_ BK1390.out, bc0_ BK1391.out, bc1_ BK1391.out⟩ (fun hHeld => ?_)
  clear hK K
  refine norm_ (a' := ?_) ?_ ?_
  rotate_left
  ·show Act.put _ (some 43) _ = _
   simp only [Act.put, s1_, s2_, s3_, i64_w, i32_w]
   rfl
  refine pq_ 19 44 21 1048575 HT_.out ?_
  refine pq_ 20 45 21 2097151 HT_.out ?_
  refine done_ (done_of HT_.out (by kernel_rfl)) ?_
  go_upto_if 45 with (fail)
  go_cut [] (fun wc => ∃ (kq : Nat), Aside0 (attestorlaw02_RatioFractions.j0 kq a2 t1392 t1395 t1398 t1401 = some r) ∧ Aside0 (kq ≤ k) ∧ Aside0 (Kd.R (Kd.int .u32) 44 wc w.heap.size (fun k_ => some k_ ≠ ((.slice Ao22 t1395.length co22) : Value).ownBlock ∧ some k_ ≠ ((.slice Ao27 t1398.length co27) : Value).ownBlock ∧ some k_ ≠ ((.slice Ao26 t1401.length co26) : Value).ownBlock) (.slice Ao23 t1392.length co23) t1392) ∧ Aside0 (Kd.R (Kd.int .u32) 44 wc w.heap.size (fun k_ => some k_ ≠ ((.slice Ao23 t1392.length co23) : Value).ownBlock ∧ some k_ ≠ ((.slice Ao27 t1398.length co27) : Value).ownBlock ∧ some k_ ≠ ((.slice Ao26 t1401.length co26) : Value).ownBlock) (.slice Ao22 t1395.length co22) t1395) ∧ Aside0 (Kd.R (Kd.int .u32) 44 wc w.heap.size (fun k_ => some k_ ≠ ((.slice Ao23 t1392.length co23) : Value).ownBlock ∧ some k_ ≠ ((.slice Ao22 t1395.length co22) : Value).ownBlock ∧ some k_ ≠ ((.slice Ao26 t1401.length co26) : Value).ownBlock) (.slice Ao27 t1398.length co27) t1398) ∧ Aside0 (Kd.R (Kd.int .u32) 44 wc w.heap.size (fun k_ => some k_ ≠ ((.slice Ao23 t1392.length co23) : Value).ownBlock ∧ some k_ ≠ ((.slice Ao22 t1395.length co22) : Value).ownBlock ∧ some k_ ≠ ((.slice Ao27 t1398.length co27) : Value).ownBlock) (.slice Ao26 t1401.length co26) t1401) ∧ Aside0 (wc.heap[gb1390]? = some (.cells #[(.slice Ao23 t1392.length co23), (.slice Ao22 t1395.length co22)] 29 (0, 0))) ∧ Aside0 (wc.heap[gb1391]? = some (.cells #[(.slice Ao27 t1398.length co27), (.slice Ao26 t1401.length co26)] 29 (0, 0))) ∧ Aside0 (Below w.heap.size w wc))
  case first =>
   have H := HC16.out
   clear HC16
   obtain ⟨c40, H⟩ : (t1408.toList = t1409.toList) ∧ _ := it_ H
   have c40b0 := beq_iff_eq.mpr c40
   have c40b1 := bne_eq_false_iff_eq.mpr c40
   clear c40
   (first | rw [c40b0] | (simp only [i64_w, i32_w]; rw [c40b0]) | rw [c40b1] | skip)
   have H' := ak H
   clear H
   go_wp2
   go_meet
   case rel => exact ⟨_, H', ⟨by first | omega | exact Nat.le_refl _⟩, ⟨rU_ HO1394.out⟩, ⟨rU_ HO1397.out⟩, ⟨rU_ HO1400.out⟩, ⟨rU_ HO1403.out⟩, ⟨by (with_reducible repeat (first | refine blk_drewN ?_ _ | refine blk_drew ?_ | refine blk_alloc ?_ _)); exact BK1390.out⟩, ⟨by (with_reducible repeat (first | refine blk_drewN ?_ _ | refine blk_drew ?_ | refine blk_alloc ?_ _)); exact BK1391.out⟩, ⟨sU_⟩⟩
  case rest =>
   clear HC16
   (try clear c1); (try clear c2); (try clear p2); (try clear c3); (try clear c4); (try clear c24); (try clear c30); (try clear c35); (try clear c37); (try clear c38); (try clear c39); (try clear c40); (try clear c40b0); (try clear c40b1)
   obtain ⟨kq, HA, HJ15, HO_1391000, HO_1391001, HO_1392000, HO_1392001, BK1390, BK1391, HB⟩ := hcut
   cases kq with
   | zero => exact absurd HA.out (by simp [attestorlaw02_RatioFractions.j0])
   | succ kj15 =>
    have H := HA.out
    clear HA
    simp only [attestorlaw02_RatioFractions.j0] at H
    revert H
    refine bd3_ fun t1410 t1413 t1416 A41 H => ?_
    try dsimp only at H
    revert H
    refine bd3_ fun t1418 t1421 t1424 A42 H => ?_
    try dsimp only at H
    obtain ⟨c43, H⟩ : (t1416 = t1424) ∧ _ := it_ H
    have c43b0 := beq_iff_eq.mpr c43
    have c43b1 := bne_eq_false_iff_eq.mpr c43
    clear c43
    revert H
    refine bd_ fun t1426 A44 H => ?_
    have HC45 := ak H
    clear H
    have hnb46 := NB1390_1391.out
    have hnc46 := NB1391_1390.out
    have hcz47_0 := bc0_ BK1390.out
    have hcz47_1 := bc1_ BK1390.out
    have hfz47_0 := blk_frozen BK1390.out 0
    have hfz47_1 := blk_frozen BK1390.out 1
    have hcz48_0 := bc0_ BK1391.out
    have hcz48_1 := bc1_ BK1391.out
    have hfz48_0 := blk_frozen BK1391.out 0
    have hfz48_1 := blk_frozen BK1391.out 1
    go_upto_if 70 with (first | ((with_reducible refine gate_callee (f := 32) rfl ?_); refine gl_ (some 51) Tryd.func32 #[.slice Ao23 t1392.length co23, .slice Ao26 t1401.length co26] ?_; (with_reducible refine (ratio_New.calls kj15 _ _ t1392 _ _ t1401 t1410 t1413 t1416 _ ?side1 ?side2 ?side3 ?side4 A41.out).mono ?_); (case side1 => exact cU_ ((R_reads' HO_1391000.out).2.2)); (case side2 => exact (R_reads' HO_1391000.out).2.1); (case side3 => exact cU_ ((R_reads' HO_1392001.out).2.2)); (case side4 => exact (R_reads' HO_1392001.out).2.1); rintro e w49 ⟨v1411, v1414, rfl, ho0, ho1, hb⟩; refine ⟨_, rfl, ?_⟩; refine nx9_ (R_below (rU_ HO_1391000.out) hb) (R_below (rU_ HO_1391001.out) hb) (R_below (rU_ HO_1392000.out) hb) (R_below (rU_ HO_1392001.out) hb) (V_lower (V_mono (ok' := fun k_ => some k_ ≠ (.slice Ao23 t1392.length co23 : Value).ownBlock ∧ some k_ ≠ (.slice Ao22 t1395.length co22 : Value).ownBlock ∧ some k_ ≠ (.slice Ao27 t1398.length co27 : Value).ownBlock ∧ some k_ ≠ (.slice Ao26 t1401.length co26 : Value).ownBlock ∧ k_ ≠ gb1390 ∧ k_ ≠ gb1391) ho0 (fun k_ hk_ => ⟨(fresh' (R_lt (rU_ HO_1391000.out)) k_ hk_), (fresh' (R_lt (rU_ HO_1391001.out)) k_ hk_), (fresh' (R_lt (rU_ HO_1392000.out)) k_ hk_), (fresh' (R_lt (rU_ HO_1392001.out)) k_ hk_), (freshB (kU_ BK1390.out) k_ hk_), (freshB (kU_ BK1391.out) k_ hk_)⟩)) (below_size sU_)) (V_lower (V_mono (ok' := fun k_ => some k_ ≠ (.slice Ao23 t1392.length co23 : Value).ownBlock ∧ some k_ ≠ (.slice Ao22 t1395.length co22 : Value).ownBlock ∧ some k_ ≠ (.slice Ao27 t1398.length co27 : Value).ownBlock ∧ some k_ ≠ (.slice Ao26 t1401.length co26 : Value).ownBlock ∧ k_ ≠ gb1390 ∧ k_ ≠ gb1391) ho1 (fun k_ hk_ => ⟨(fresh' (R_lt (rU_ HO_1391000.out)) k_ hk_), (fresh' (R_lt (rU_ HO_1391001.out)) k_ hk_), (fresh' (R_lt (rU_ HO_1392000.out)) k_ hk_), (fresh' (R_lt (rU_ HO_1392001.out)) k_ hk_), (freshB (kU_ BK1390.out) k_ hk_), (freshB (kU_ BK1391.out) k_ hk_)⟩)) (below_size sU_)) (blk_below (kU_ BK1390.out) hb) (blk_below (kU_ BK1391.out) hb) (below_step sU_ hb) ?_; clear HO_1391000 HO_1391001 HO_1392000 HO_1392001 BK1390 BK1391 HB; intro HO_1391000 HO_1391001 HO_1392000 HO_1392001 HO1412 HO1415 BK1390 BK1391 HB; clear hb ho0 ho1) | ((with_reducible refine gate_dst (N := 7) rfl ?_); refine bx_ 7 29 #[.slice none 0 0, .slice none 0 0] ?_; intro gb1417 hg w50 hbox hb; refine nx16_ (R_below (rU_ HO_1391000.out) hb) (R_below (rU_ HO_1391001.out) hb) (R_below (rU_ HO_1392000.out) hb) (R_below (rU_ HO_1392001.out) hb) (V_below (V_elderB (vU_ HO1412.out) gb1417 (Nat.le_of_eq hg.symm)) hb) (V_below (V_elderB (vU_ HO1415.out) gb1417 (Nat.le_of_eq hg.symm)) hb) (blk_below (kU_ BK1390.out) hb) (blk_below (kU_ BK1391.out) hb) (below_step sU_ hb) (hbox) ((hs_ hg (below_size sU_) : w.heap.size ≤ gb1417)) ((hs_ hg (below_size sU_) : w.heap.size ≤ gb1417)) ((hl_ hg (kU_ BK1390.out))) ((hm_ hg (kU_ BK1390.out))) ((hl_ hg (kU_ BK1391.out))) ((hm_ hg (kU_ BK1391.out))) ?_; clear HO_1391000 HO_1391001 HO_1392000 HO_1392001 HO1412 HO1415 BK1390 BK1391 HB; intro HO_1391000 HO_1391001 HO_1392000 HO_1392001 HO1412 HO1415 BK1390 BK1391 HB BK1417 GW1417 GE1417 NB1390_1417 NB1417_1390 NB1391_1417 NB1417_1391; clear hb hbox hg; obtain ⟨Ao51, co51, eo51⟩ := V_slice HO1412.out; subst eo51; have hnb52 := NB1417_1390.out; have hnc52 := NB1390_1417.out; have hnb53 := NB1417_1391.out; have hnc53 := NB1391_1417.out; have hcz54_0 := bc0_ BK1417.out; have hcz54_1 := bc1_ BK1417.out; have hfz54_0 := blk_frozen BK1417.out 0; have hfz54_1 := blk_frozen BK1417.out 1; obtain ⟨Ao55, co55, eo55⟩ := V_slice HO1415.out; subst eo55; have hcz56_0 := bc0_ BK1390.out; have hcz56_1 := bc1_ BK1390.out; have hfz56_0 := blk_frozen BK1390.out 0; have hfz56_1 := blk_frozen BK1390.out 1; have hcz57_0 := bc0_ BK1391.out; have hcz57_1 := bc1_ BK1391.out; have hfz57_0 := blk_frozen BK1391.out 0; have hfz57_1 := blk_frozen BK1391.out 1) | ((with_reducible refine gate_callee (f := 41) rfl ?_); refine gl_ (some 59) Tryd.func41 #[.slice Ao23 t1392.length co23, .slice Ao26 t1401.length co26] ?_; (with_reducible refine (attestorref02_New.calls kj15 _ _ t1392 _ _ t1401 t1418 t1421 t1424 _ ?side1 ?side2 ?side3 ?side4 A42.out).mono ?_); (case side1 => refine (R_reads' (e := 44) (base := w.heap.size) (ok := fun k_ => (some k_ ≠ (.slice Ao22 t1395.length co22 : Value).ownBlock ∧ (some k_ ≠ (.slice Ao27 t1398.length co27 : Value).ownBlock ∧ some k_ ≠ (.slice Ao26 t1401.length co26 : Value).ownBlock))) (n := t1392.length) (c := co23) ?_).2.2; exact (rL_ (rf_ HO_1391000.out BK1417.out))); (case side2 => exact (R_reads' HO_1391000.out).2.1); (case side3 => refine (R_reads' (e := 44) (base := w.heap.size) (ok := fun k_ => (some k_ ≠ (.slice Ao23 t1392.length co23 : Value).ownBlock ∧ (some k_ ≠ (.slice Ao22 t1395.length co22 : Value).ownBlock ∧ some k_ ≠ (.slice Ao27 t1398.length co27 : Value).ownBlock))) (n := t1401.length) (c := co26) ?_).2.2; exact (rL_ (rf_ HO_1392001.out BK1417.out))); (case side4 => exact (R_reads' HO_1392001.out).2.1); rintro e w58 ⟨v1419, v1422, rfl, ho0, ho1, hb⟩; refine ⟨_, rfl, ?_⟩; refine nx12_ (R_mono (Kd.R_told (Kd.R_told (Kd.R_old (rL_ (rf_ HO_1391000.out BK1417.out)) hb) (R_base ho0)) (R_base ho1)) (fun _ h_ => h_.1)) (R_mono (Kd.R_told (Kd.R_told (Kd.R_old (rL_ (rf_ HO_1391001.out BK1417.out)) hb) (R_base ho0)) (R_base ho1)) (fun _ h_ => h_.1)) (R_mono (Kd.R_told (Kd.R_told (Kd.R_old (rL_ (rf_ HO_1392000.out BK1417.out)) hb) (R_base ho0)) (R_base ho1)) (fun _ h_ => h_.1)) (R_mono (Kd.R_told (Kd.R_told (Kd.R_old (rL_ (rf_ HO_1392001.out BK1417.out)) hb) (R_base ho0)) (R_base ho1)) (fun _ h_ => h_.1)) (V_mono (Kd.V_told (Kd.V_told (Kd.V_old (vL_ (vf_ gb1417 HO1412.out fun _ hk => hk.2)) hb) (R_base ho0)) (R_base ho1)) (fun _ h_ => h_.1)) (V_mono (Kd.V_told (Kd.V_told (Kd.V_old (vL_ (vf_ gb1417 HO1415.out fun _ hk => hk.2)) hb) (R_base ho0)) (R_base ho1)) (fun _ h_ => h_.1)) (R_lower (R_new' (R_new' (R_new' (R_new' ho0 (R_lt (rL_ (rf_ HO_1391000.out BK1417.out)))) (R_lt (rL_ (rf_ HO_1391001.out BK1417.out)))) (R_lt (rL_ (rf_ HO_1392000.out BK1417.out)))) (R_lt (rL_ (rf_ HO_1392001.out BK1417.out)))) (below_size sU_)) (R_lower (R_new' (R_new' (R_new' (R_new' ho1 (R_lt (rL_ (rf_ HO_1391000.out BK1417.out)))) (R_lt (rL_ (rf_ HO_1391001.out BK1417.out)))) (R_lt (rL_ (rf_ HO_1392000.out BK1417.out)))) (R_lt (rL_ (rf_ HO_1392001.out BK1417.out)))) (below_size sU_)) (blk_below (g := gb1390) (o := .cells #[.slice Ao23 t1392.length co23, .slice Ao22 t1395.length co22] 29 (0, 0)) kp_ hb) (blk_below (g := gb1391) (o := .cells #[.slice Ao27 t1398.length co27, .slice Ao26 t1401.length co26] 29 (0, 0)) kp_ hb) (blk_below (g := gb1417) (o := .cells #[.slice Ao51 t1410.length co51, .slice Ao55 t1413.length co55] 29 (0, 0)) kp_ hb) (below_step sU_ hb) ?_; clear HO_1391000 HO_1391001 HO_1392000 HO_1392001 HO1412 HO1415 BK1390 BK1391 BK1417 HB; intro HO_1391000 HO_1391001 HO_1392000 HO_1392001 HO1412 HO1415 HO1420 HO1423 BK1390 BK1391 BK1417 HB; clear hb ho0 ho1) | ((with_reducible refine gate_dst (N := 9) rfl ?_); refine bx_ 9 29 #[.slice none 0 0, .slice none 0 0] ?_; intro gb1425 hg w59 hbox hb; refine nx21_ (R_below (rU_ HO_1391000.out) hb) (R_below (rU_ HO_1391001.out) hb) (R_below (rU_ HO_1392000.out) hb) (R_below (rU_ HO_1392001.out) hb) (V_below (V_elderB (vU_ HO1412.out) gb1425 (Nat.le_of_eq hg.symm)) hb) (V_below (V_elderB (vU_ HO1415.out) gb1425 (Nat.le_of_eq hg.symm)) hb) (R_below (rU_ HO1420.out) hb) (R_below (rU_ HO1423.out) hb) (blk_below (kU_ BK1390.out) hb) (blk_below (kU_ BK1391.out) hb) (blk_below (kU_ BK1417.out) hb) (below_step sU_ hb) (hbox) ((hs_ hg (below_size sU_) : w.heap.size ≤ gb1425)) ((hs_ hg (below_size sU_) : w.heap.size ≤ gb1425)) ((hl_ hg (kU_ BK1390.out))) ((hm_ hg (kU_ BK1390.out))) ((hl_ hg (kU_ BK1391.out))) ((hm_ hg (kU_ BK1391.out))) ((hl_ hg (kU_ BK1417.out))) ((hm_ hg (kU_ BK1417.out))) ?_; clear HO_1391000 HO_1391001 HO_1392000 HO_1392001 HO1412 HO1415 HO1420 HO1423 BK1390 BK1391 BK1417 HB; intro HO_1391000 HO_1391001 HO_1392000 HO_1392001 HO1412 HO1415 HO1420 HO1423 BK1390 BK1391 BK1417 HB BK1425 GW1425 GE1425 NB1390_1425 NB1425_1390 NB1391_1425 NB1425_1391 NB1417_1425 NB1425_1417; clear hb hbox hg; obtain ⟨Ao60, co60, eo60⟩ := R_slice HO1420.out; subst eo60; have hnb61 := NB1425_1390.out; have hnc61 := NB1390_1425.out; have hnb62 := NB1425_1391.out; have hnc62 := NB1391_1425.out; have hnb63 := NB1425_1417.out; have hnc63 := NB1417_1425.out; have hcz64_0 := bc0_ BK1425.out; have hcz64_1 := bc1_ BK1425.out; have hfz64_0 := blk_frozen BK1425.out 0; have hfz64_1 := blk_frozen BK1425.out 1; obtain ⟨Ao65, co65, eo65⟩ := R_slice HO1423.out; subst eo65; have hcz66_0 := bc0_ BK1417.out; have hcz66_1 := bc1_ BK1417.out; have hfz66_0 := blk_frozen BK1417.out 0; have hfz66_1 := blk_frozen BK1417.out 1) | (go_at_call 18; (with_reducible refine (attestorref02_Same.calls kj15 _ _ t1410 _ _ t1413 _ _ t1418 _ _ t1421 t1426 _ ?side1 ?side2 ?side3 ?side4 ?side5 ?side6 ?side7 ?side8 A44.out).mono ?_); (case side1 => refine (V_reads' (e := 44) (base := w.heap.size) (ok := fun k_ => (((((some k_ ≠ (.slice Ao23 t1392.length co23 : Value).ownBlock ∧ (some k_ ≠ (.slice Ao22 t1395.length co22 : Value).ownBlock ∧ (some k_ ≠ (.slice Ao27 t1398.length co27 : Value).ownBlock ∧ (some k_ ≠ (.slice Ao26 t1401.length co26 : Value).ownBlock ∧ (k_ ≠ gb1390 ∧ k_ ≠ gb1391))))) ∧ k_ ≠ gb1417) ∧ some k_ ≠ (.slice Ao60 t1418.length co60 : Value).ownBlock) ∧ some k_ ≠ (.slice Ao65 t1421.length co65 : Value).ownBlock) ∧ k_ ≠ gb1425)) (n := t1410.length) (c := co51) ?_).2.2; exact (vL_ (vf_ gb1425 HO1412.out fun _ hk => hk.2))); (case side2 => exact (V_reads' HO1412.out).2.1); (case side3 => refine (V_reads' (e := 44) (base := w.heap.size) (ok := fun k_ => (((((some k_ ≠ (.slice Ao23 t1392.length co23 : Value).ownBlock ∧ (some k_ ≠ (.slice Ao22 t1395.length co22 : Value).ownBlock ∧ (some k_ ≠ (.slice Ao27 t1398.length co27 : Value).ownBlock ∧ (some k_ ≠ (.slice Ao26 t1401.length co26 : Value).ownBlock ∧ (k_ ≠ gb1390 ∧ k_ ≠ gb1391))))) ∧ k_ ≠ gb1417) ∧ some k_ ≠ (.slice Ao60 t1418.length co60 : Value).ownBlock) ∧ some k_ ≠ (.slice Ao65 t1421.length co65 : Value).ownBlock) ∧ k_ ≠ gb1425)) (n := t1413.length) (c := co55) ?_).2.2; exact (vL_ (vf_ gb1425 HO1415.out fun _ hk => hk.2))); (case side4 => exact (V_reads' HO1415.out).2.1); (case side5 => refine (R_reads' (e := 44) (base := w.heap.size) (ok := fun k_ => ((((some k_ ≠ (.slice Ao65 t1421.length co65 : Value).ownBlock ∧ some k_ ≠ (.slice Ao23 t1392.length co23 : Value).ownBlock) ∧ some k_ ≠ (.slice Ao22 t1395.length co22 : Value).ownBlock) ∧ some k_ ≠ (.slice Ao27 t1398.length co27 : Value).ownBlock) ∧ some k_ ≠ (.slice Ao26 t1401.length co26 : Value).ownBlock)) (n := t1418.length) (c := co60) ?_).2.2; exact (rL_ (rf_ HO1420.out BK1425.out))); (case side6 => exact (R_reads' HO1420.out).2.1); (case side7 => refine (R_reads' (e := 44) (base := w.heap.size) (ok := fun k_ => ((((some k_ ≠ (.slice Ao60 t1418.length co60 : Value).ownBlock ∧ some k_ ≠ (.slice Ao23 t1392.length co23 : Value).ownBlock) ∧ some k_ ≠ (.slice Ao22 t1395.length co22 : Value).ownBlock) ∧ some k_ ≠ (.slice Ao27 t1398.length co27 : Value).ownBlock) ∧ some k_ ≠ (.slice Ao26 t1401.length co26 : Value).ownBlock)) (n := t1421.length) (c := co65) ?_).2.2; exact (rL_ (rf_ HO1423.out BK1425.out))); (case side8 => exact (R_reads' HO1423.out).2.1); rintro e w67 ⟨rfl, hb⟩; refine nx13_ (R_below (rL_ (rf_ HO_1391000.out BK1425.out)) hb) (R_below (rL_ (rf_ HO_1391001.out BK1425.out)) hb) (R_below (rL_ (rf_ HO_1392000.out BK1425.out)) hb) (R_below (rL_ (rf_ HO_1392001.out BK1425.out)) hb) (V_below (vL_ (vf_ gb1425 HO1412.out fun _ hk => hk.2)) hb) (V_below (vL_ (vf_ gb1425 HO1415.out fun _ hk => hk.2)) hb) (R_below (rL_ (rf_ HO1420.out BK1425.out)) hb) (R_below (rL_ (rf_ HO1423.out BK1425.out)) hb) (blk_below (g := gb1390) (o := .cells #[.slice Ao23 t1392.length co23, .slice Ao22 t1395.length co22] 29 (0, 0)) kp_ hb) (blk_below (g := gb1391) (o := .cells #[.slice Ao27 t1398.length co27, .slice Ao26 t1401.length co26] 29 (0, 0)) kp_ hb) (blk_below (g := gb1417) (o := .cells #[.slice Ao51 t1410.length co51, .slice Ao55 t1413.length co55] 29 (0, 0)) kp_ hb) (blk_below (g := gb1425) (o := .cells #[.slice Ao60 t1418.length co60, .slice Ao65 t1421.length co65] 29 (0, 0)) kp_ hb) (below_step sU_ hb) ?_; clear HO_1391000 HO_1391001 HO_1392000 HO_1392001 HO1412 HO1415 HO1420 HO1423 BK1390 BK1391 BK1417 BK1425 HB; intro HO_1391000 HO_1391001 HO_1392000 HO_1392001 HO1412 HO1415 HO1420 HO1423 BK1390 BK1391 BK1417 BK1425 HB; clear hb))
    (try simp only [Act.put, s1_, s2_, s3_])
    go_cut [] (fun wc => ∃ (kq : Nat), Aside0 (attestorlaw02_RatioFractions.j1 kq a2 t1392 t1395 t1398 t1401 = some r) ∧ Aside0 (kq ≤ kj15) ∧ Aside0 (Kd.R (Kd.int .u32) 44 wc w.heap.size (fun k_ => some k_ ≠ ((.slice Ao22 t1395.length co22) : Value).ownBlock ∧ some k_ ≠ ((.slice Ao27 t1398.length co27) : Value).ownBlock ∧ some k_ ≠ ((.slice Ao26 t1401.length co26) : Value).ownBlock ∧ some k_ ≠ ((.slice Ao60 t1418.length co60) : Value).ownBlock ∧ some k_ ≠ ((.slice Ao65 t1421.length co65) : Value).ownBlock) (.slice Ao23 t1392.length co23) t1392) ∧ Aside0 (Kd.R (Kd.int .u32) 44 wc w.heap.size (fun k_ => some k_ ≠ ((.slice Ao23 t1392.length co23) : Value).ownBlock ∧ some k_ ≠ ((.slice Ao27 t1398.length co27) : Value).ownBlock ∧ some k_ ≠ ((.slice Ao26 t1401.length co26) : Value).ownBlock ∧ some k_ ≠ ((.slice Ao60 t1418.length co60) : Value).ownBlock ∧ some k_ ≠ ((.slice Ao65 t1421.length co65) : Value).ownBlock) (.slice Ao22 t1395.length co22) t1395) ∧ Aside0 (Kd.R (Kd.int .u32) 44 wc w.heap.size (fun k_ => some k_ ≠ ((.slice Ao23 t1392.length co23) : Value).ownBlock ∧ some k_ ≠ ((.slice Ao22 t1395.length co22) : Value).ownBlock ∧ some k_ ≠ ((.slice Ao26 t1401.length co26) : Value).ownBlock ∧ some k_ ≠ ((.slice Ao60 t1418.length co60) : Value).ownBlock ∧ some k_ ≠ ((.slice Ao65 t1421.length co65) : Value).ownBlock) (.slice Ao27 t1398.length co27) t1398) ∧ Aside0 (Kd.R (Kd.int .u32) 44 wc w.heap.size (fun k_ => some k_ ≠ ((.slice Ao23 t1392.length co23) : Value).ownBlock ∧ some k_ ≠ ((.slice Ao22 t1395.length co22) : Value).ownBlock ∧ some k_ ≠ ((.slice Ao27 t1398.length co27) : Value).ownBlock ∧ some k_ ≠ ((.slice Ao60 t1418.length co60) : Value).ownBlock ∧ some k_ ≠ ((.slice Ao65 t1421.length co65) : Value).ownBlock) (.slice Ao26 t1401.length co26) t1401) ∧ Aside0 (Kd.V (Kd.int .u32) 44 wc w.heap.size (fun k_ => some k_ ≠ ((.slice Ao23 t1392.length co23) : Value).ownBlock ∧ some k_ ≠ ((.slice Ao22 t1395.length co22) : Value).ownBlock ∧ some k_ ≠ ((.slice Ao27 t1398.length co27) : Value).ownBlock ∧ some k_ ≠ ((.slice Ao26 t1401.length co26) : Value).ownBlock ∧ some k_ ≠ ((.slice Ao60 t1418.length co60) : Value).ownBlock ∧ some k_ ≠ ((.slice Ao65 t1421.length co65) : Value).ownBlock ∧ k_ ≠ gb1390 ∧ k_ ≠ gb1391 ∧ k_ ≠ gb1417 ∧ k_ ≠ gb1425) (.slice Ao51 t1410.length co51) t1410) ∧ Aside0 (Kd.V (Kd.int .u32) 44 wc w.heap.size (fun k_ => some k_ ≠ ((.slice Ao23 t1392.length co23) : Value).ownBlock ∧ some k_ ≠ ((.slice Ao22 t1395.length co22) : Value).ownBlock ∧ some k_ ≠ ((.slice Ao27 t1398.length co27) : Value).ownBlock ∧ some k_ ≠ ((.slice Ao26 t1401.length co26) : Value).ownBlock ∧ some k_ ≠ ((.slice Ao60 t1418.length co60) : Value).ownBlock ∧ some k_ ≠ ((.slice Ao65 t1421.length co65) : Value).ownBlock ∧ k_ ≠ gb1390 ∧ k_ ≠ gb1391 ∧ k_ ≠ gb1417 ∧ k_ ≠ gb1425) (.slice Ao55 t1413.length co55) t1413) ∧ Aside0 (Kd.R (Kd.int .u32) 44 wc w.heap.size (fun k_ => some k_ ≠ ((.slice Ao23 t1392.length co23) : Value).ownBlock ∧ some k_ ≠ ((.slice Ao22 t1395.length co22) : Value).ownBlock ∧ some k_ ≠ ((.slice Ao27 t1398.length co27) : Value).ownBlock ∧ some k_ ≠ ((.slice Ao26 t1401.length co26) : Value).ownBlock ∧ some k_ ≠ ((.slice Ao65 t1421.length co65) : Value).ownBlock) (.slice Ao60 t1418.length co60) t1418) ∧ Aside0 (Kd.R (Kd.int .u32) 44 wc w.heap.size (fun k_ => some k_ ≠ ((.slice Ao23 t1392.length co23) : Value).ownBlock ∧ some k_ ≠ ((.slice Ao22 t1395.length co22) : Value).ownBlock ∧ some k_ ≠ ((.slice Ao27 t1398.length co27) : Value).ownBlock ∧ some k_ ≠ ((.slice Ao26 t1401.length co26) : Value).ownBlock ∧ some k_ ≠ ((.slice Ao60 t1418.length co60) : Value).ownBlock) (.slice Ao65 t1421.length co65) t1421) ∧ Aside0 (wc.heap[gb1390]? = some (.cells #[(.slice Ao23 t1392.length co23), (.slice Ao22 t1395.length co22)] 29 (0, 0))) ∧ Aside0 (wc.heap[gb1391]? = some (.cells #[(.slice Ao27 t1398.length co27), (.slice Ao26 t1401.length co26)] 29 (0, 0))) ∧ Aside0 (wc.heap[gb1417]? = some (.cells #[(.slice Ao51 t1410.length co51), (.slice Ao55 t1413.length co55)] 29 (0, 0))) ∧ Aside0 (wc.heap[gb1425]? = some (.cells #[(.slice Ao60 t1418.length co60), (.slice Ao65 t1421.length co65)] 29 (0, 0))) ∧ Aside0 (Below w.heap.size w wc))
    case first =>
     have H := HC45.out
     clear HC45
     by_cases c68 : t1426 = true
     ·subst c68
      rw [if_pos rfl] at H
      have H' := ak H
      clear H
      go_wp2
      go_meet
      case rel => exact ⟨_, H', ⟨by have := HJ15.out; first | omega | exact Nat.le_refl _⟩, ⟨R_mono (rU_ HO_1391000.out) (fun _ hk => ⟨hk.1.1.1, ⟨hk.1.1.2.1, ⟨hk.1.1.2.2, ⟨hk.1.2, hk.2⟩⟩⟩⟩)⟩, ⟨R_mono (rU_ HO_1391001.out) (fun _ hk => ⟨hk.1.1.1, ⟨hk.1.1.2.1, ⟨hk.1.1.2.2, ⟨hk.1.2, hk.2⟩⟩⟩⟩)⟩, ⟨R_mono (rU_ HO_1392000.out) (fun _ hk => ⟨hk.1.1.1, ⟨hk.1.1.2.1, ⟨hk.1.1.2.2, ⟨hk.1.2, hk.2⟩⟩⟩⟩)⟩, ⟨R_mono (rU_ HO_1392001.out) (fun _ hk => ⟨hk.1.1.1, ⟨hk.1.1.2.1, ⟨hk.1.1.2.2, ⟨hk.1.2, hk.2⟩⟩⟩⟩)⟩, ⟨by (with_reducible repeat (first | apply Kd.V_alloc | apply Kd.V_drewN | apply V_drew)); exact V_mono HO1412.out (fun _ hk => ⟨hk.1.1.1.1.1, ⟨hk.1.1.1.1.2.1, ⟨hk.1.1.1.1.2.2.1, ⟨hk.1.1.1.1.2.2.2.1, ⟨hk.1.1.2, ⟨hk.1.2, ⟨hk.1.1.1.1.2.2.2.2.1, ⟨hk.1.1.1.1.2.2.2.2.2, ⟨hk.1.1.1.2, hk.2⟩⟩⟩⟩⟩⟩⟩⟩⟩)⟩, ⟨by (with_reducible repeat (first | apply Kd.V_alloc | apply Kd.V_drewN | apply V_drew)); exact V_mono HO1415.out (fun _ hk => ⟨hk.1.1.1.1.1, ⟨hk.1.1.1.1.2.1, ⟨hk.1.1.1.1.2.2.1, ⟨hk.1.1.1.1.2.2.2.1, ⟨hk.1.1.2, ⟨hk.1.2, ⟨hk.1.1.1.1.2.2.2.2.1, ⟨hk.1.1.1.1.2.2.2.2.2, ⟨hk.1.1.1.2, hk.2⟩⟩⟩⟩⟩⟩⟩⟩⟩)⟩, ⟨R_mono (rU_ HO1420.out) (fun _ hk => ⟨hk.1.1.1.2, ⟨hk.1.1.2, ⟨hk.1.2, ⟨hk.2, hk.1.1.1.1⟩⟩⟩⟩)⟩, ⟨R_mono (rU_ HO1423.out) (fun _ hk => ⟨hk.1.1.1.2, ⟨hk.1.1.2, ⟨hk.1.2, ⟨hk.2, hk.1.1.1.1⟩⟩⟩⟩)⟩, ⟨by (with_reducible repeat (first | refine blk_drewN ?_ _ | refine blk_drew ?_ | refine blk_alloc ?_ _)); exact BK1390.out⟩, ⟨by (with_reducible repeat (first | refine blk_drewN ?_ _ | refine blk_drew ?_ | refine blk_alloc ?_ _)); exact BK1391.out⟩, ⟨by (with_reducible repeat (first | refine blk_drewN ?_ _ | refine blk_drew ?_ | refine blk_alloc ?_ _)); exact BK1417.out⟩, ⟨by (with_reducible repeat (first | refine blk_drewN ?_ _ | refine blk_drew ?_ | refine blk_alloc ?_ _)); exact BK1425.out⟩, ⟨sU_⟩⟩
     ·replace c68 := Bool.eq_false_iff.mpr c68
      subst c68
      rw [if_neg (show ¬ (false = true) by decide)] at H
      exact absurd H (by simp)
    case rest =>
     clear HC45
     (try clear c1); (try clear c2); (try clear p2); (try clear c3); (try clear c4); (try clear c5); (try clear c6); (try clear c24); (try clear c30); (try clear c32); (try clear c35); (try clear c37); (try clear c38); (try clear c39); (try clear c40); (try clear c40b0); (try clear c40b1); (try clear c41); (try clear c43); (try clear c43b0); (try clear c43b1); (try clear c46); (try clear c52); (try clear c53); (try clear c61); (try clear c62); (try clear c63); (try clear c68); (try clear hcz47_0); (try clear hcz47_1); (try clear hcz48_0); (try clear hcz48_1); (try clear hcz54_0); (try clear hcz54_1); (try clear hcz56_0); (try clear hcz56_1); (try clear hcz57_0); (try clear hcz57_1); (try clear hcz64_0); (try clear hcz64_1); (try clear hcz66_0); (try clear hcz66_1); (try clear hfz47_0); (try clear hfz47_1); (try clear hfz48_0); (try clear hfz48_1); (try clear hfz54_0); (try clear hfz54_1); (try clear hfz56_0); (try clear hfz56_1); (try clear hfz57_0); (try clear hfz57_1); (try clear hfz64_0); (try clear hfz64_1); (try clear hfz66_0); (try clear hfz66_1)
     obtain ⟨kq, HA, HJ44, HO_1391000, HO_1391001, HO_1392000, HO_1392001, HO_1418000, HO_1418001, HO_1426000, HO_1426001, BK1390, BK1391, BK1417, BK1425, HB⟩ := hcut
     cases kq with
     | zero => exact absurd HA.out (by simp [attestorlaw02_RatioFractions.j1])
     | succ kj44 =>
      have H := HA.out
      clear HA
      simp only [attestorlaw02_RatioFractions.j1] at H
      revert H
      refine bd3_ fun t1427 t1430 t1433 A69 H => ?_
      try dsimp only at H
      revert H
      refine bd3_ fun t1434 t1437 t1440 A70 H => ?_
      try dsimp only at H
      obtain ⟨c71, H⟩ : (t1433 = t1440) ∧ _ := it_ H
      have c71b0 := beq_iff_eq.mpr c71
      have c71b1 := bne_eq_false_iff_eq.mpr c71
      clear c71
      revert H
      refine bd_ fun t1441 A72 H => ?_
      have HC73 := ak H
      clear H
      have hnb74 := NB1390_1391.out
      have hnc74 := NB1391_1390.out
      have hnb75 := NB1390_1417.out
      have hnc75 := NB1417_1390.out
      have hnb76 := NB1390_1425.out
      have hnc76 := NB1425_1390.out
      have hcz77_0 := bc0_ BK1390.out
      have hcz77_1 := bc1_ BK1390.out
      have hfz77_0 := blk_frozen BK1390.out 0
      have hfz77_1 := blk_frozen BK1390.out 1
      have hnb78 := NB1391_1417.out
      have hnc78 := NB1417_1391.out
      have hnb79 := NB1391_1425.out
      have hnc79 := NB1425_1391.out
      have hcz80_0 := bc0_ BK1391.out
      have hcz80_1 := bc1_ BK1391.out
      have hfz80_0 := blk_frozen BK1391.out 0
      have hfz80_1 := blk_frozen BK1391.out 1
      go_upto_if 91 with (first | ((with_reducible refine gate_callee (f := 33) rfl ?_); refine gl_ (some 74) Tryd.func33 #[.agg #[.slice Ao23 t1392.length co23, .slice Ao22 t1395.length co22], .agg #[.slice Ao27 t1398.length co27, .slice Ao26 t1401.length co26]] ?_; (with_reducible refine (ratio_Add.calls kj44 _ _ t1392 _ _ t1395 _ _ t1398 _ _ t1401 t1427 t1430 t1433 _ ?side1 ?side2 ?side3 ?side4 ?side5 ?side6 ?side7 ?side8 A69.out).mono ?_); (case side1 => exact cU_ ((R_reads' HO_1391000.out).2.2)); (case side2 => exact (R_reads' HO_1391000.out).2.1); (case side3 => exact cU_ ((R_reads' HO_1391001.out).2.2)); (case side4 => exact (R_reads' HO_1391001.out).2.1); (case side5 => exact cU_ ((R_reads' HO_1392000.out).2.2)); (case side6 => exact (R_reads' HO_1392000.out).2.1); (case side7 => exact cU_ ((R_reads' HO_1392001.out).2.2)); (case side8 => exact (R_reads' HO_1392001.out).2.1); rintro e w81 ⟨v1428, v1431, rfl, ho0, ho1, hb⟩; refine ⟨_, rfl, ?_⟩; refine nx15_ (R_below (rU_ HO_1391000.out) hb) (R_below (rU_ HO_1391001.out) hb) (R_below (rU_ HO_1392000.out) hb) (R_below (rU_ HO_1392001.out) hb) (V_below (vU_ HO_1418000.out) hb) (V_below (vU_ HO_1418001.out) hb) (R_below (rU_ HO_1426000.out) hb) (R_below (rU_ HO_1426001.out) hb) (V_lower (V_mono (ok' := fun k_ => some k_ ≠ (.slice Ao23 t1392.length co23 : Value).ownBlock ∧ some k_ ≠ (.slice Ao22 t1395.length co22 : Value).ownBlock ∧ some k_ ≠ (.slice Ao27 t1398.length co27 : Value).ownBlock ∧ some k_ ≠ (.slice Ao26 t1401.length co26 : Value).ownBlock ∧ some k_ ≠ (.slice Ao60 t1418.length co60 : Value).ownBlock ∧ some k_ ≠ (.slice Ao65 t1421.length co65 : Value).ownBlock ∧ k_ ≠ gb1390 ∧ k_ ≠ gb1391 ∧ k_ ≠ gb1417 ∧ k_ ≠ gb1425) ho0 (fun k_ hk_ => ⟨(fresh' (R_lt (rU_ HO_1391000.out)) k_ hk_), (fresh' (R_lt (rU_ HO_1391001.out)) k_ hk_), (fresh' (R_lt (rU_ HO_1392000.out)) k_ hk_), (fresh' (R_lt (rU_ HO_1392001.out)) k_ hk_), (fresh' (R_lt (rU_ HO_1426000.out)) k_ hk_), (fresh' (R_lt (rU_ HO_1426001.out)) k_ hk_), (freshB (kU_ BK1390.out) k_ hk_), (freshB (kU_ BK1391.out) k_ hk_), (freshB (kU_ BK1417.out) k_ hk_), (freshB (kU_ BK1425.out) k_ hk_)⟩)) (below_size sU_)) (V_lower (V_mono (ok' := fun k_ => some k_ ≠ (.slice Ao23 t1392.length co23 : Value).ownBlock ∧ some k_ ≠ (.slice Ao22 t1395.length co22 : Value).ownBlock ∧ some k_ ≠ (.slice Ao27 t1398.length co27 : Value).ownBlock ∧ some k_ ≠ (.slice Ao26 t1401.length co26 : Value).ownBlock ∧ some k_ ≠ (.slice Ao60 t1418.length co60 : Value).ownBlock ∧ some k_ ≠ (.slice Ao65 t1421.length co65 : Value).ownBlock ∧ k_ ≠ gb1390 ∧ k_ ≠ gb1391 ∧ k_ ≠ gb1417 ∧ k_ ≠ gb1425) ho1 (fun k_ hk_ => ⟨(fresh' (R_lt (rU_ HO_1391000.out)) k_ hk_), (fresh' (R_lt (rU_ HO_1391001.out)) k_ hk_), (fresh' (R_lt (rU_ HO_1392000.out)) k_ hk_), (fresh' (R_lt (rU_ HO_1392001.out)) k_ hk_), (fresh' (R_lt (rU_ HO_1426000.out)) k_ hk_), (fresh' (R_lt (rU_ HO_1426001.out)) k_ hk_), (freshB (kU_ BK1390.out) k_ hk_), (freshB (kU_ BK1391.out) k_ hk_), (freshB (kU_ BK1417.out) k_ hk_), (freshB (kU_ BK1425.out) k_ hk_)⟩)) (below_size sU_)) (blk_below (kU_ BK1390.out) hb) (blk_below (kU_ BK1391.out) hb) (blk_below (kU_ BK1417.out) hb) (blk_below (kU_ BK1425.out) hb) (below_step sU_ hb) ?_; clear HO_1391000 HO_1391001 HO_1392000 HO_1392001 HO_1418000 HO_1418001 HO_1426000 HO_1426001 BK1390 BK1391 BK1417 BK1425 HB; intro HO_1391000 HO_1391001 HO_1392000 HO_1392001 HO_1418000 HO_1418001 HO_1426000 HO_1426001 HO1429 HO1432 BK1390 BK1391 BK1417 BK1425 HB; clear hb ho0 ho1; obtain ⟨Ao82, co82, eo82⟩ := V_slice HO1429.out; subst eo82; have hnb83 := NB1417_1425.out; have hnc83 := NB1425_1417.out; have hcz84_0 := bc0_ BK1417.out; have hcz84_1 := bc1_ BK1417.out; have hfz84_0 := blk_frozen BK1417.out 0; have hfz84_1 := blk_frozen BK1417.out 1; obtain ⟨Ao85, co85, eo85⟩ := V_slice HO1432.out; subst eo85; have hcz86_0 := bc0_ BK1390.out; have hcz86_1 := bc1_ BK1390.out; have hfz86_0 := blk_frozen BK1390.out 0; have hfz86_1 := blk_frozen BK1390.out 1; have hcz87_0 := bc0_ BK1391.out; have hcz87_1 := bc1_ BK1391.out; have hfz87_0 := blk_frozen BK1391.out 0; have hfz87_1 := blk_frozen BK1391.out 1) | ((with_reducible refine gate_callee (f := 42) rfl ?_); refine gl_ (some 80) Tryd.func42 #[.agg #[.slice Ao23 t1392.length co23, .slice Ao22 t1395.length co22], .agg #[.slice Ao27 t1398.length co27, .slice Ao26 t1401.length co26]] ?_; (with_reducible refine (attestorref02_Add.calls kj44 _ _ t1392 _ _ t1395 _ _ t1398 _ _ t1401 t1434 t1437 t1440 _ ?side1 ?side2 ?side3 ?side4 ?side5 ?side6 ?side7 ?side8 A70.out).mono ?_); (case side1 => refine (R_reads' (e := 44) (base := w.heap.size) (ok := fun k_ => (some k_ ≠ (.slice Ao22 t1395.length co22 : Value).ownBlock ∧ (some k_ ≠ (.slice Ao27 t1398.length co27 : Value).ownBlock ∧ (some k_ ≠ (.slice Ao26 t1401.length co26 : Value).ownBlock ∧ (some k_ ≠ (.slice Ao60 t1418.length co60 : Value).ownBlock ∧ some k_ ≠ (.slice Ao65 t1421.length co65 : Value).ownBlock))))) (n := t1392.length) (c := co23) ?_).2.2; exact (rL_ (rf_ HO_1391000.out BK1417.out))); (case side2 => exact (R_reads' HO_1391000.out).2.1); (case side3 => refine (R_reads' (e := 44) (base := w.heap.size) (ok := fun k_ => (some k_ ≠ (.slice Ao23 t1392.length co23 : Value).ownBlock ∧ (some k_ ≠ (.slice Ao27 t1398.length co27 : Value).ownBlock ∧ (some k_ ≠ (.slice Ao26 t1401.length co26 : Value).ownBlock ∧ (some k_ ≠ (.slice Ao60 t1418.length co60 : Value).ownBlock ∧ some k_ ≠ (.slice Ao65 t1421.length co65 : Value).ownBlock))))) (n := t1395.length) (c := co22) ?_).2.2; exact (rL_ (rf_ HO_1391001.out BK1417.out))); (case side4 => exact (R_reads' HO_1391001.out).2.1); (case side5 => refine (R_reads' (e := 44) (base := w.heap.size) (ok := fun k_ => (some k_ ≠ (.slice Ao23 t1392.length co23 : Value).ownBlock ∧ (some k_ ≠ (.slice Ao22 t1395.length co22 : Value).ownBlock ∧ (some k_ ≠ (.slice Ao26 t1401.length co26 : Value).ownBlock ∧ (some k_ ≠ (.slice Ao60 t1418.length co60 : Value).ownBlock ∧ some k_ ≠ (.slice Ao65 t1421.length co65 : Value).ownBlock))))) (n := t1398.length) (c := co27) ?_).2.2; exact (rL_ (rf_ HO_1392000.out BK1417.out))); (case side6 => exact (R_reads' HO_1392000.out).2.1); (case side7 => refine (R_reads' (e := 44) (base := w.heap.size) (ok := fun k_ => (some k_ ≠ (.slice Ao23 t1392.length co23 : Value).ownBlock ∧ (some k_ ≠ (.slice Ao22 t1395.length co22 : Value).ownBlock ∧ (some k_ ≠ (.slice Ao27 t1398.length co27 : Value).ownBlock ∧ (some k_ ≠ (.slice Ao60 t1418.length co60 : Value).ownBlock ∧ some k_ ≠ (.slice Ao65 t1421.length co65 : Value).ownBlock))))) (n := t1401.length) (c := co26) ?_).2.2; exact (rL_ (rf_ HO_1392001.out BK1417.out))); (case side8 => exact (R_reads' HO_1392001.out).2.1); rintro e w88 ⟨v1435, v1438, rfl, ho0, ho1, hb⟩; refine ⟨_, rfl, ?_⟩; refine nx17_ (R_mono (Kd.R_told (Kd.R_told (Kd.R_old (rL_ (rf_ HO_1391000.out BK1417.out)) hb) (R_base ho0)) (R_base ho1)) (fun _ h_ => h_.1)) (R_mono (Kd.R_told (Kd.R_told (Kd.R_old (rL_ (rf_ HO_1391001.out BK1417.out)) hb) (R_base ho0)) (R_base ho1)) (fun _ h_ => h_.1)) (R_mono (Kd.R_told (Kd.R_told (Kd.R_old (rL_ (rf_ HO_1392000.out BK1417.out)) hb) (R_base ho0)) (R_base ho1)) (fun _ h_ => h_.1)) (R_mono (Kd.R_told (Kd.R_told (Kd.R_old (rL_ (rf_ HO_1392001.out BK1417.out)) hb) (R_base ho0)) (R_base ho1)) (fun _ h_ => h_.1)) (V_mono (Kd.V_told (Kd.V_told (Kd.V_old (vL_ (vf_ gb1417 HO_1418000.out fun _ hk => hk.2.2.2.2.2.2.2.2.1)) hb) (R_base ho0)) (R_base ho1)) (fun _ h_ => h_.1)) (V_mono (Kd.V_told (Kd.V_told (Kd.V_old (vL_ (vf_ gb1417 HO_1418001.out fun _ hk => hk.2.2.2.2.2.2.2.2.1)) hb) (R_base ho0)) (R_base ho1)) (fun _ h_ => h_.1)) (R_mono (Kd.R_told (Kd.R_told (Kd.R_old (rL_ (rf_ HO_1426000.out BK1417.out)) hb) (R_base ho0)) (R_base ho1)) (fun _ h_ => h_.1)) (R_mono (Kd.R_told (Kd.R_told (Kd.R_old (rL_ (rf_ HO_1426001.out BK1417.out)) hb) (R_base ho0)) (R_base ho1)) (fun _ h_ => h_.1)) (V_mono (Kd.V_told (Kd.V_told (Kd.V_old (vL_ (vf_ gb1417 HO1429.out fun _ hk => hk.2.2.2.2.2.2.2.2.1)) hb) (R_base ho0)) (R_base ho1)) (fun _ h_ => h_.1)) (V_mono (Kd.V_told (Kd.V_told (Kd.V_old (vL_ (vf_ gb1417 HO1432.out fun _ hk => hk.2.2.2.2.2.2.2.2.1)) hb) (R_base ho0)) (R_base ho1)) (fun _ h_ => h_.1)) (R_lower (R_new' (R_new' (R_new' (R_new' (R_new' (R_new' ho0 (R_lt (rL_ (rf_ HO_1391000.out BK1417.out)))) (R_lt (rL_ (rf_ HO_1391001.out BK1417.out)))) (R_lt (rL_ (rf_ HO_1392000.out BK1417.out)))) (R_lt (rL_ (rf_ HO_1392001.out BK1417.out)))) (R_lt (rL_ (rf_ HO_1426000.out BK1417.out)))) (R_lt (rL_ (rf_ HO_1426001.out BK1417.out)))) (below_size sU_)) (R_lower (R_new' (R_new' (R_new' (R_new' (R_new' (R_new' ho1 (R_lt (rL_ (rf_ HO_1391000.out BK1417.out)))) (R_lt (rL_ (rf_ HO_1391001.out BK1417.out)))) (R_lt (rL_ (rf_ HO_1392000.out BK1417.out)))) (R_lt (rL_ (rf_ HO_1392001.out BK1417.out)))) (R_lt (rL_ (rf_ HO_1426000.out BK1417.out)))) (R_lt (rL_ (rf_ HO_1426001.out BK1417.out)))) (below_size sU_)) (blk_below (g := gb1390) (o := .cells #[.slice Ao23 t1392.length co23, .slice Ao22 t1395.length co22] 29 (0, 0)) kp_ hb) (blk_below (g := gb1391) (o := .cells #[.slice Ao27 t1398.length co27, .slice Ao26 t1401.length co26] 29 (0, 0)) kp_ hb) (blk_below (g := gb1417) (o := .cells #[.slice Ao82 t1427.length co82, .slice Ao85 t1430.length co85] 29 (0, 0)) kp_ hb) (blk_below (g := gb1425) (o := .cells #[.slice Ao60 t1418.length co60, .slice Ao65 t1421.length co65] 29 (0, 0)) kp_ hb) (below_step sU_ hb) ?_; clear HO_1391000 HO_1391001 HO_1392000 HO_1392001 HO_1418000 HO_1418001 HO_1426000 HO_1426001 HO1429 HO1432 BK1390 BK1391 BK1417 BK1425 HB; intro HO_1391000 HO_1391001 HO_1392000 HO_1392001 HO_1418000 HO_1418001 HO_1426000 HO_1426001 HO1429 HO1432 HO1436 HO1439 BK1390 BK1391 BK1417 BK1425 HB; clear hb ho0 ho1; obtain ⟨Ao89, co89, eo89⟩ := R_slice HO1436.out; subst eo89; have hcz90_0 := bc0_ BK1425.out; have hcz90_1 := bc1_ BK1425.out; have hfz90_0 := blk_frozen BK1425.out 0; have hfz90_1 := blk_frozen BK1425.out 1; obtain ⟨Ao91, co91, eo91⟩ := R_slice HO1439.out; subst eo91; have hcz92_0 := bc0_ BK1417.out; have hcz92_1 := bc1_ BK1417.out; have hfz92_0 := blk_frozen BK1417.out 0; have hfz92_1 := blk_frozen BK1417.out 1) | (go_at_call 18; (with_reducible refine (attestorref02_Same.calls kj44 _ _ t1427 _ _ t1430 _ _ t1434 _ _ t1437 t1441 _ ?side1 ?side2 ?side3 ?side4 ?side5 ?side6 ?side7 ?side8 A72.out).mono ?_); (case side1 => refine (V_reads' (e := 44) (base := w.heap.size) (ok := fun k_ => (((some k_ ≠ (.slice Ao23 t1392.length co23 : Value).ownBlock ∧ (some k_ ≠ (.slice Ao22 t1395.length co22 : Value).ownBlock ∧ (some k_ ≠ (.slice Ao27 t1398.length co27 : Value).ownBlock ∧ (some k_ ≠ (.slice Ao26 t1401.length co26 : Value).ownBlock ∧ (some k_ ≠ (.slice Ao60 t1418.length co60 : Value).ownBlock ∧ (some k_ ≠ (.slice Ao65 t1421.length co65 : Value).ownBlock ∧ (k_ ≠ gb1390 ∧ (k_ ≠ gb1391 ∧ (k_ ≠ gb1417 ∧ k_ ≠ gb1425))))))))) ∧ some k_ ≠ (.slice Ao89 t1434.length co89 : Value).ownBlock) ∧ some k_ ≠ (.slice Ao91 t1437.length co91 : Value).ownBlock)) (n := t1427.length) (c := co82) ?_).2.2; exact (vL_ (vf_ gb1425 HO1429.out fun _ hk => hk.1.1.2.2.2.2.2.2.2.2.2))); (case side2 => exact (V_reads' HO1429.out).2.1); (case side3 => refine (V_reads' (e := 44) (base := w.heap.size) (ok := fun k_ => (((some k_ ≠ (.slice Ao23 t1392.length co23 : Value).ownBlock ∧ (some k_ ≠ (.slice Ao22 t1395.length co22 : Value).ownBlock ∧ (some k_ ≠ (.slice Ao27 t1398.length co27 : Value).ownBlock ∧ (some k_ ≠ (.slice Ao26 t1401.length co26 : Value).ownBlock ∧ (some k_ ≠ (.slice Ao60 t1418.length co60 : Value).ownBlock ∧ (some k_ ≠ (.slice Ao65 t1421.length co65 : Value).ownBlock ∧ (k_ ≠ gb1390 ∧ (k_ ≠ gb1391 ∧ (k_ ≠ gb1417 ∧ k_ ≠ gb1425))))))))) ∧ some k_ ≠ (.slice Ao89 t1434.length co89 : Value).ownBlock) ∧ some k_ ≠ (.slice Ao91 t1437.length co91 : Value).ownBlock)) (n := t1430.length) (c := co85) ?_).2.2; exact (vL_ (vf_ gb1425 HO1432.out fun _ hk => hk.1.1.2.2.2.2.2.2.2.2.2))); (case side4 => exact (V_reads' HO1432.out).2.1); (case side5 => refine (R_reads' (e := 44) (base := w.heap.size) (ok := fun k_ => ((((((some k_ ≠ (.slice Ao91 t1437.length co91 : Value).ownBlock ∧ some k_ ≠ (.slice Ao23 t1392.length co23 : Value).ownBlock) ∧ some k_ ≠ (.slice Ao22 t1395.length co22 : Value).ownBlock) ∧ some k_ ≠ (.slice Ao27 t1398.length co27 : Value).ownBlock) ∧ some k_ ≠ (.slice Ao26 t1401.length co26 : Value).ownBlock) ∧ some k_ ≠ (.slice Ao60 t1418.length co60 : Value).ownBlock) ∧ some k_ ≠ (.slice Ao65 t1421.length co65 : Value).ownBlock)) (n := t1434.length) (c := co89) ?_).2.2; exact (rL_ (rf_ HO1436.out BK1425.out))); (case side6 => exact (R_reads' HO1436.out).2.1); (case side7 => refine (R_reads' (e := 44) (base := w.heap.size) (ok := fun k_ => ((((((some k_ ≠ (.slice Ao89 t1434.length co89 : Value).ownBlock ∧ some k_ ≠ (.slice Ao23 t1392.length co23 : Value).ownBlock) ∧ some k_ ≠ (.slice Ao22 t1395.length co22 : Value).ownBlock) ∧ some k_ ≠ (.slice Ao27 t1398.length co27 : Value).ownBlock) ∧ some k_ ≠ (.slice Ao26 t1401.length co26 : Value).ownBlock) ∧ some k_ ≠ (.slice Ao60 t1418.length co60 : Value).ownBlock) ∧ some k_ ≠ (.slice Ao65 t1421.length co65 : Value).ownBlock)) (n := t1437.length) (c := co91) ?_).2.2; exact (rL_ (rf_ HO1439.out BK1425.out))); (case side8 => exact (R_reads' HO1439.out).2.1); rintro e w93 ⟨rfl, hb⟩; refine nx17_ (R_below (rL_ (rf_ HO_1391000.out BK1425.out)) hb) (R_below (rL_ (rf_ HO_1391001.out BK1425.out)) hb) (R_below (rL_ (rf_ HO_1392000.out BK1425.out)) hb) (R_below (rL_ (rf_ HO_1392001.out BK1425.out)) hb) (V_below (vL_ (vf_ gb1425 HO_1418000.out fun _ hk => hk.1.1.2.2.2.2.2.2.2.2.2)) hb) (V_below (vL_ (vf_ gb1425 HO_1418001.out fun _ hk => hk.1.1.2.2.2.2.2.2.2.2.2)) hb) (R_below (rL_ (rf_ HO_1426000.out BK1425.out)) hb) (R_below (rL_ (rf_ HO_1426001.out BK1425.out)) hb) (V_below (vL_ (vf_ gb1425 HO1429.out fun _ hk => hk.1.1.2.2.2.2.2.2.2.2.2)) hb) (V_below (vL_ (vf_ gb1425 HO1432.out fun _ hk => hk.1.1.2.2.2.2.2.2.2.2.2)) hb) (R_below (rL_ (rf_ HO1436.out BK1425.out)) hb) (R_below (rL_ (rf_ HO1439.out BK1425.out)) hb) (blk_below (g := gb1390) (o := .cells #[.slice Ao23 t1392.length co23, .slice Ao22 t1395.length co22] 29 (0, 0)) kp_ hb) (blk_below (g := gb1391) (o := .cells #[.slice Ao27 t1398.length co27, .slice Ao26 t1401.length co26] 29 (0, 0)) kp_ hb) (blk_below (g := gb1417) (o := .cells #[.slice Ao82 t1427.length co82, .slice Ao85 t1430.length co85] 29 (0, 0)) kp_ hb) (blk_below (g := gb1425) (o := .cells #[.slice Ao89 t1434.length co89, .slice Ao91 t1437.length co91] 29 (0, 0)) kp_ hb) (below_step sU_ hb) ?_; clear HO_1391000 HO_1391001 HO_1392000 HO_1392001 HO_1418000 HO_1418001 HO_1426000 HO_1426001 HO1429 HO1432 HO1436 HO1439 BK1390 BK1391 BK1417 BK1425 HB; intro HO_1391000 HO_1391001 HO_1392000 HO_1392001 HO_1418000 HO_1418001 HO_1426000 HO_1426001 HO1429 HO1432 HO1436 HO1439 BK1390 BK1391 BK1417 BK1425 HB; clear hb))
      (try simp only [Act.put, s1_, s2_, s3_])
      go_cut [] (fun wc => ∃ (kq : Nat), Aside0 (attestorlaw02_RatioFractions.j2 kq a2 t1392 t1395 t1398 t1401 = some r) ∧ Aside0 (kq ≤ kj44) ∧ Aside0 (Kd.R (Kd.int .u32) 44 wc w.heap.size (fun k_ => some k_ ≠ ((.slice Ao22 t1395.length co22) : Value).ownBlock ∧ some k_ ≠ ((.slice Ao27 t1398.length co27) : Value).ownBlock ∧ some k_ ≠ ((.slice Ao26 t1401.length co26) : Value).ownBlock ∧ some k_ ≠ ((.slice Ao89 t1434.length co89) : Value).ownBlock ∧ some k_ ≠ ((.slice Ao91 t1437.length co91) : Value).ownBlock) (.slice Ao23 t1392.length co23) t1392) ∧ Aside0 (Kd.R (Kd.int .u32) 44 wc w.heap.size (fun k_ => some k_ ≠ ((.slice Ao23 t1392.length co23) : Value).ownBlock ∧ some k_ ≠ ((.slice Ao27 t1398.length co27) : Value).ownBlock ∧ some k_ ≠ ((.slice Ao26 t1401.length co26) : Value).ownBlock ∧ some k_ ≠ ((.slice Ao89 t1434.length co89) : Value).ownBlock ∧ some k_ ≠ ((.slice Ao91 t1437.length co91) : Value).ownBlock) (.slice Ao22 t1395.length co22) t1395) ∧ Aside0 (Kd.R (Kd.int .u32) 44 wc w.heap.size (fun k_ => some k_ ≠ ((.slice Ao23 t1392.length co23) : Value).ownBlock ∧ some k_ ≠ ((.slice Ao22 t1395.length co22) : Value).ownBlock ∧ some k_ ≠ ((.slice Ao26 t1401.length co26) : Value).ownBlock ∧ some k_ ≠ ((.slice Ao89 t1434.length co89) : Value).ownBlock ∧ some k_ ≠ ((.slice Ao91 t1437.length co91) : Value).ownBlock) (.slice Ao27 t1398.length co27) t1398) ∧ Aside0 (Kd.R (Kd.int .u32) 44 wc w.heap.size (fun k_ => some k_ ≠ ((.slice Ao23 t1392.length co23) : Value).ownBlock ∧ some k_ ≠ ((.slice Ao22 t1395.length co22) : Value).ownBlock ∧ some k_ ≠ ((.slice Ao27 t1398.length co27) : Value).ownBlock ∧ some k_ ≠ ((.slice Ao89 t1434.length co89) : Value).ownBlock ∧ some k_ ≠ ((.slice Ao91 t1437.length co91) : Value).ownBlock) (.slice Ao26 t1401.length co26) t1401) ∧ Aside0 (Kd.V (Kd.int .u32) 44 wc w.heap.size (fun k_ => some k_ ≠ ((.slice Ao23 t1392.length co23) : Value).ownBlock ∧ some k_ ≠ ((.slice Ao22 t1395.length co22) : Value).ownBlock ∧ some k_ ≠ ((.slice Ao27 t1398.length co27) : Value).ownBlock ∧ some k_ ≠ ((.slice Ao26 t1401.length co26) : Value).ownBlock ∧ some k_ ≠ ((.slice Ao89 t1434.length co89) : Value).ownBlock ∧ some k_ ≠ ((.slice Ao91 t1437.length co91) : Value).ownBlock ∧ k_ ≠ gb1390 ∧ k_ ≠ gb1391 ∧ k_ ≠ gb1417 ∧ k_ ≠ gb1425) (.slice Ao82 t1427.length co82) t1427) ∧ Aside0 (Kd.V (Kd.int .u32) 44 wc w.heap.size (fun k_ => some k_ ≠ ((.slice Ao23 t1392.length co23) : Value).ownBlock ∧ some k_ ≠ ((.slice Ao22 t1395.length co22) : Value).ownBlock ∧ some k_ ≠ ((.slice Ao27 t1398.length co27) : Value).ownBlock ∧ some k_ ≠ ((.slice Ao26 t1401.length co26) : Value).ownBlock ∧ some k_ ≠ ((.slice Ao89 t1434.length co89) : Value).ownBlock ∧ some k_ ≠ ((.slice Ao91 t1437.length co91) : Value).ownBlock ∧ k_ ≠ gb1390 ∧ k_ ≠ gb1391 ∧ k_ ≠ gb1417 ∧ k_ ≠ gb1425) (.slice Ao85 t1430.length co85) t1430) ∧ Aside0 (Kd.R (Kd.int .u32) 44 wc w.heap.size (fun k_ => some k_ ≠ ((.slice Ao23 t1392.length co23) : Value).ownBlock ∧ some k_ ≠ ((.slice Ao22 t1395.length co22) : Value).ownBlock ∧ some k_ ≠ ((.slice Ao27 t1398.length co27) : Value).ownBlock ∧ some k_ ≠ ((.slice Ao26 t1401.length co26) : Value).ownBlock ∧ some k_ ≠ ((.slice Ao91 t1437.length co91) : Value).ownBlock) (.slice Ao89 t1434.length co89) t1434) ∧ Aside0 (Kd.R (Kd.int .u32) 44 wc w.heap.size (fun k_ => some k_ ≠ ((.slice Ao23 t1392.length co23) : Value).ownBlock ∧ some k_ ≠ ((.slice Ao22 t1395.length co22) : Value).ownBlock ∧ some k_ ≠ ((.slice Ao27 t1398.length co27) : Value).ownBlock ∧ some k_ ≠ ((.slice Ao26 t1401.length co26) : Value).ownBlock ∧ some k_ ≠ ((.slice Ao89 t1434.length co89) : Value).ownBlock) (.slice Ao91 t1437.length co91) t1437) ∧ Aside0 (wc.heap[gb1390]? = some (.cells #[(.slice Ao23 t1392.length co23), (.slice Ao22 t1395.length co22)] 29 (0, 0))) ∧ Aside0 (wc.heap[gb1391]? = some (.cells #[(.slice Ao27 t1398.length co27), (.slice Ao26 t1401.length co26)] 29 (0, 0))) ∧ Aside0 (wc.heap[gb1417]? = some (.cells #[(.slice Ao82 t1427.length co82), (.slice Ao85 t1430.length co85)] 29 (0, 0))) ∧ Aside0 (wc.heap[gb1425]? = some (.cells #[(.slice Ao89 t1434.length co89), (.slice Ao91 t1437.length co91)] 29 (0, 0))) ∧ Aside0 (Below w.heap.size w wc))
      case first =>
       have H := HC73.out
       clear HC73
       by_cases c94 : t1441 = true
       ·subst c94
        rw [if_pos rfl] at H
        have H' := ak H
        clear H
        go_wp2
        go_meet
        case rel => exact ⟨_, H', ⟨by have := HJ15.out; have := HJ44.out; first | omega | exact Nat.le_refl _⟩, ⟨R_mono (rU_ HO_1391000.out) (fun _ hk => ⟨hk.1.1.1, ⟨hk.1.1.2.1, ⟨hk.1.1.2.2.1, ⟨hk.1.2, hk.2⟩⟩⟩⟩)⟩, ⟨R_mono (rU_ HO_1391001.out) (fun _ hk => ⟨hk.1.1.1, ⟨hk.1.1.2.1, ⟨hk.1.1.2.2.1, ⟨hk.1.2, hk.2⟩⟩⟩⟩)⟩, ⟨R_mono (rU_ HO_1392000.out) (fun _ hk => ⟨hk.1.1.1, ⟨hk.1.1.2.1, ⟨hk.1.1.2.2.1, ⟨hk.1.2, hk.2⟩⟩⟩⟩)⟩, ⟨R_mono (rU_ HO_1392001.out) (fun _ hk => ⟨hk.1.1.1, ⟨hk.1.1.2.1, ⟨hk.1.1.2.2.1, ⟨hk.1.2, hk.2⟩⟩⟩⟩)⟩, ⟨by (with_reducible repeat (first | apply Kd.V_alloc | apply Kd.V_drewN | apply V_drew)); exact V_mono HO1429.out (fun _ hk => ⟨hk.1.1.1, ⟨hk.1.1.2.1, ⟨hk.1.1.2.2.1, ⟨hk.1.1.2.2.2.1, ⟨hk.1.2, ⟨hk.2, ⟨hk.1.1.2.2.2.2.2.2.1, ⟨hk.1.1.2.2.2.2.2.2.2.1, ⟨hk.1.1.2.2.2.2.2.2.2.2.1, hk.1.1.2.2.2.2.2.2.2.2.2⟩⟩⟩⟩⟩⟩⟩⟩⟩)⟩, ⟨by (with_reducible repeat (first | apply Kd.V_alloc | apply Kd.V_drewN | apply V_drew)); exact V_mono HO1432.out (fun _ hk => ⟨hk.1.1.1, ⟨hk.1.1.2.1, ⟨hk.1.1.2.2.1, ⟨hk.1.1.2.2.2.1, ⟨hk.1.2, ⟨hk.2, ⟨hk.1.1.2.2.2.2.2.2.1, ⟨hk.1.1.2.2.2.2.2.2.2.1, ⟨hk.1.1.2.2.2.2.2.2.2.2.1, hk.1.1.2.2.2.2.2.2.2.2.2⟩⟩⟩⟩⟩⟩⟩⟩⟩)⟩, ⟨R_mono (rU_ HO1436.out) (fun _ hk => ⟨hk.1.1.1.1.1.2, ⟨hk.1.1.1.1.2, ⟨hk.1.1.1.2, ⟨hk.1.1.2, hk.1.1.1.1.1.1⟩⟩⟩⟩)⟩, ⟨R_mono (rU_ HO1439.out) (fun _ hk => ⟨hk.1.1.1.1.1.2, ⟨hk.1.1.1.1.2, ⟨hk.1.1.1.2, ⟨hk.1.1.2, hk.1.1.1.1.1.1⟩⟩⟩⟩)⟩, ⟨by (with_reducible repeat (first | refine blk_drewN ?_ _ | refine blk_drew ?_ | refine blk_alloc ?_ _)); exact BK1390.out⟩, ⟨by (with_reducible repeat (first | refine blk_drewN ?_ _ | refine blk_drew ?_ | refine blk_alloc ?_ _)); exact BK1391.out⟩, ⟨by (with_reducible repeat (first | refine blk_drewN ?_ _ | refine blk_drew ?_ | refine blk_alloc ?_ _)); exact BK1417.out⟩, ⟨by (with_reducible repeat (first | refine blk_drewN ?_ _ | refine blk_drew ?_ | refine blk_alloc ?_ _)); exact BK1425.out⟩, ⟨sU_⟩⟩
       ·replace c94 := Bool.eq_false_iff.mpr c94
        subst c94
        rw [if_neg (show ¬ (false = true) by decide)] at H
        exact absurd H (by simp)
      case rest =>
       clear HC73
       (try clear c1); (try clear c2); (try clear p2); (try clear c3); (try clear c4); (try clear c5); (try clear c6); (try clear c7); (try clear c8); (try clear c9); (try clear c24); (try clear c30); (try clear c32); (try clear c33); (try clear c35); (try clear c37); (try clear c38); (try clear c39); (try clear c40); (try clear c40b0); (try clear c40b1); (try clear c41); (try clear c42); (try clear c43); (try clear c43b0); (try clear c43b1); (try clear c46); (try clear c52); (try clear c53); (try clear c61); (try clear c62); (try clear c63); (try clear c68); (try clear c71); (try clear c71b0); (try clear c71b1); (try clear c74); (try clear c75); (try clear c76); (try clear c78); (try clear c79); (try clear c83); (try clear c94); (try clear hcz47_0); (try clear hcz47_1); (try clear hcz48_0); (try clear hcz48_1); (try clear hcz54_0); (try clear hcz54_1); (try clear hcz56_0); (try clear hcz56_1); (try clear hcz57_0); (try clear hcz57_1); (try clear hcz64_0); (try clear hcz64_1); (try clear hcz66_0); (try clear hcz66_1); (try clear hcz77_0); (try clear hcz77_1); (try clear hcz80_0); (try clear hcz80_1); (try clear hcz84_0); (try clear hcz84_1); (try clear hcz86_0); (try clear hcz86_1); (try clear hcz87_0); (try clear hcz87_1); (try clear hcz90_0); (try clear hcz90_1); (try clear hcz92_0); (try clear hcz92_1); (try clear hfz47_0); (try clear hfz47_1); (try clear hfz48_0); (try clear hfz48_1); (try clear hfz54_0); (try clear hfz54_1); (try clear hfz56_0); (try clear hfz56_1); (try clear hfz57_0); (try clear hfz57_1); (try clear hfz64_0); (try clear hfz64_1); (try clear hfz66_0); (try clear hfz66_1); (try clear hfz77_0); (try clear hfz77_1); (try clear hfz80_0); (try clear hfz80_1); (try clear hfz84_0); (try clear hfz84_1); (try clear hfz86_0); (try clear hfz86_1); (try clear hfz87_0); (try clear hfz87_1); (try clear hfz90_0); (try clear hfz90_1); (try clear hfz92_0); (try clear hfz92_1)
       obtain ⟨kq, HA, HJ72, HO_1391000, HO_1391001, HO_1392000, HO_1392001, HO_1418000, HO_1418001, HO_1426000, HO_1426001, BK1390, BK1391, BK1417, BK1425, HB⟩ := hcut
       cases kq with
       | zero => exact absurd HA.out (by simp [attestorlaw02_RatioFractions.j2])
       | succ kj72 =>
        have H := HA.out
        clear HA
        simp only [attestorlaw02_RatioFractions.j2] at H
        revert H
        refine bd3_ fun t1442 t1445 t1448 A95 H => ?_
        try dsimp only at H
        revert H
        refine bd3_ fun t1449 t1452 t1455 A96 H => ?_
        try dsimp only at H
        obtain ⟨c97, H⟩ : (t1448 = t1455) ∧ _ := it_ H
        have c97b0 := beq_iff_eq.mpr c97
        have c97b1 := bne_eq_false_iff_eq.mpr c97
        clear c97
        revert H
        refine bd_ fun t1456 A98 H => ?_
        have HC99 := ak H
        clear H
        have hnb100 := NB1390_1391.out
        have hnc100 := NB1391_1390.out
        have hnb101 := NB1390_1417.out
        have hnc101 := NB1417_1390.out
        have hnb102 := NB1390_1425.out
        have hnc102 := NB1425_1390.out
        have hcz103_0 := bc0_ BK1390.out
        have hcz103_1 := bc1_ BK1390.out
        have hfz103_0 := blk_frozen BK1390.out 0
        have hfz103_1 := blk_frozen BK1390.out 1
        have hnb104 := NB1391_1417.out
        have hnc104 := NB1417_1391.out
        have hnb105 := NB1391_1425.out
        have hnc105 := NB1425_1391.out
        have hcz106_0 := bc0_ BK1391.out
        have hcz106_1 := bc1_ BK1391.out
        have hfz106_0 := blk_frozen BK1391.out 0
        have hfz106_1 := blk_frozen BK1391.out 1
        go_upto_if 112 with (first | ((with_reducible refine gate_callee (f := 34) rfl ?_); refine gl_ (some 95) Tryd.func34 #[.agg #[.slice Ao23 t1392.length co23, .slice Ao22 t1395.length co22], .agg #[.slice Ao27 t1398.length co27, .slice Ao26 t1401.length co26]] ?_; (with_reducible refine (ratio_Mul.calls kj72 _ _ t1392 _ _ t1395 _ _ t1398 _ _ t1401 t1442 t1445 t1448 _ ?side1 ?side2 ?side3 ?side4 ?side5 ?side6 ?side7 ?side8 A95.out).mono ?_); (case side1 => exact cU_ ((R_reads' HO_1391000.out).2.2)); (case side2 => exact (R_reads' HO_1391000.out).2.1); (case side3 => exact cU_ ((R_reads' HO_1391001.out).2.2)); (case side4 => exact (R_reads' HO_1391001.out).2.1); (case side5 => exact cU_ ((R_reads' HO_1392000.out).2.2)); (case side6 => exact (R_reads' HO_1392000.out).2.1); (case side7 => exact cU_ ((R_reads' HO_1392001.out).2.2)); (case side8 => exact (R_reads' HO_1392001.out).2.1); rintro e w107 ⟨v1443, v1446, rfl, ho0, ho1, hb⟩; refine ⟨_, rfl, ?_⟩; refine nx15_ (R_below (rU_ HO_1391000.out) hb) (R_below (rU_ HO_1391001.out) hb) (R_below (rU_ HO_1392000.out) hb) (R_below (rU_ HO_1392001.out) hb) (V_below (vU_ HO_1418000.out) hb) (V_below (vU_ HO_1418001.out) hb) (R_below (rU_ HO_1426000.out) hb) (R_below (rU_ HO_1426001.out) hb) (V_lower (V_mono (ok' := fun k_ => some k_ ≠ (.slice Ao23 t1392.length co23 : Value).ownBlock ∧ some k_ ≠ (.slice Ao22 t1395.length co22 : Value).ownBlock ∧ some k_ ≠ (.slice Ao27 t1398.length co27 : Value).ownBlock ∧ some k_ ≠ (.slice Ao26 t1401.length co26 : Value).ownBlock ∧ some k_ ≠ (.slice Ao89 t1434.length co89 : Value).ownBlock ∧ some k_ ≠ (.slice Ao91 t1437.length co91 : Value).ownBlock ∧ k_ ≠ gb1390 ∧ k_ ≠ gb1391 ∧ k_ ≠ gb1417 ∧ k_ ≠ gb1425) ho0 (fun k_ hk_ => ⟨(fresh' (R_lt (rU_ HO_1391000.out)) k_ hk_), (fresh' (R_lt (rU_ HO_1391001.out)) k_ hk_), (fresh' (R_lt (rU_ HO_1392000.out)) k_ hk_), (fresh' (R_lt (rU_ HO_1392001.out)) k_ hk_), (fresh' (R_lt (rU_ HO_1426000.out)) k_ hk_), (fresh' (R_lt (rU_ HO_1426001.out)) k_ hk_), (freshB (kU_ BK1390.out) k_ hk_), (freshB (kU_ BK1391.out) k_ hk_), (freshB (kU_ BK1417.out) k_ hk_), (freshB (kU_ BK1425.out) k_ hk_)⟩)) (below_size sU_)) (V_lower (V_mono (ok' := fun k_ => some k_ ≠ (.slice Ao23 t1392.length co23 : Value).ownBlock ∧ some k_ ≠ (.slice Ao22 t1395.length co22 : Value).ownBlock ∧ some k_ ≠ (.slice Ao27 t1398.length co27 : Value).ownBlock ∧ some k_ ≠ (.slice Ao26 t1401.length co26 : Value).ownBlock ∧ some k_ ≠ (.slice Ao89 t1434.length co89 : Value).ownBlock ∧ some k_ ≠ (.slice Ao91 t1437.length co91 : Value).ownBlock ∧ k_ ≠ gb1390 ∧ k_ ≠ gb1391 ∧ k_ ≠ gb1417 ∧ k_ ≠ gb1425) ho1 (fun k_ hk_ => ⟨(fresh' (R_lt (rU_ HO_1391000.out)) k_ hk_), (fresh' (R_lt (rU_ HO_1391001.out)) k_ hk_), (fresh' (R_lt (rU_ HO_1392000.out)) k_ hk_), (fresh' (R_lt (rU_ HO_1392001.out)) k_ hk_), (fresh' (R_lt (rU_ HO_1426000.out)) k_ hk_), (fresh' (R_lt (rU_ HO_1426001.out)) k_ hk_), (freshB (kU_ BK1390.out) k_ hk_), (freshB (kU_ BK1391.out) k_ hk_), (freshB (kU_ BK1417.out) k_ hk_), (freshB (kU_ BK1425.out) k_ hk_)⟩)) (below_size sU_)) (blk_below (kU_ BK1390.out) hb) (blk_below (kU_ BK1391.out) hb) (blk_below (kU_ BK1417.out) hb) (blk_below (kU_ BK1425.out) hb) (below_step sU_ hb) ?_; clear HO_1391000 HO_1391001 HO_1392000 HO_1392001 HO_1418000 HO_1418001 HO_1426000 HO_1426001 BK1390 BK1391 BK1417 BK1425 HB; intro HO_1391000 HO_1391001 HO_1392000 HO_1392001 HO_1418000 HO_1418001 HO_1426000 HO_1426001 HO1444 HO1447 BK1390 BK1391 BK1417 BK1425 HB; clear hb ho0 ho1; obtain ⟨Ao108, co108, eo108⟩ := V_slice HO1444.out; subst eo108; have hnb109 := NB1417_1425.out; have hnc109 := NB1425_1417.out; have hcz110_0 := bc0_ BK1417.out; have hcz110_1 := bc1_ BK1417.out; have hfz110_0 := blk_frozen BK1417.out 0; have hfz110_1 := blk_frozen BK1417.out 1; obtain ⟨Ao111, co111, eo111⟩ := V_slice HO1447.out; subst eo111; have hcz112_0 := bc0_ BK1390.out; have hcz112_1 := bc1_ BK1390.out; have hfz112_0 := blk_frozen BK1390.out 0; have hfz112_1 := blk_frozen BK1390.out 1; have hcz113_0 := bc0_ BK1391.out; have hcz113_1 := bc1_ BK1391.out; have hfz113_0 := blk_frozen BK1391.out 0; have hfz113_1 := blk_frozen BK1391.out 1) | ((with_reducible refine gate_callee (f := 43) rfl ?_); refine gl_ (some 101) Tryd.func43 #[.agg #[.slice Ao23 t1392.length co23, .slice Ao22 t1395.length co22], .agg #[.slice Ao27 t1398.length co27, .slice Ao26 t1401.length co26]] ?_; (with_reducible refine (attestorref02_Mul.calls kj72 _ _ t1392 _ _ t1395 _ _ t1398 _ _ t1401 t1449 t1452 t1455 _ ?side1 ?side2 ?side3 ?side4 ?side5 ?side6 ?side7 ?side8 A96.out).mono ?_); (case side1 => refine (R_reads' (e := 44) (base := w.heap.size) (ok := fun k_ => (some k_ ≠ (.slice Ao22 t1395.length co22 : Value).ownBlock ∧ (some k_ ≠ (.slice Ao27 t1398.length co27 : Value).ownBlock ∧ (some k_ ≠ (.slice Ao26 t1401.length co26 : Value).ownBlock ∧ (some k_ ≠ (.slice Ao89 t1434.length co89 : Value).ownBlock ∧ some k_ ≠ (.slice Ao91 t1437.length co91 : Value).ownBlock))))) (n := t1392.length) (c := co23) ?_).2.2; exact (rL_ (rf_ HO_1391000.out BK1417.out))); (case side2 => exact (R_reads' HO_1391000.out).2.1); (case side3 => refine (R_reads' (e := 44) (base := w.heap.size) (ok := fun k_ => (some k_ ≠ (.slice Ao23 t1392.length co23 : Value).ownBlock ∧ (some k_ ≠ (.slice Ao27 t1398.length co27 : Value).ownBlock ∧ (some k_ ≠ (.slice Ao26 t1401.length co26 : Value).ownBlock ∧ (some k_ ≠ (.slice Ao89 t1434.length co89 : Value).ownBlock ∧ some k_ ≠ (.slice Ao91 t1437.length co91 : Value).ownBlock))))) (n := t1395.length) (c := co22) ?_).2.2; exact (rL_ (rf_ HO_1391001.out BK1417.out))); (case side4 => exact (R_reads' HO_1391001.out).2.1); (case side5 => refine (R_reads' (e := 44) (base := w.heap.size) (ok := fun k_ => (some k_ ≠ (.slice Ao23 t1392.length co23 : Value).ownBlock ∧ (some k_ ≠ (.slice Ao22 t1395.length co22 : Value).ownBlock ∧ (some k_ ≠ (.slice Ao26 t1401.length co26 : Value).ownBlock ∧ (some k_ ≠ (.slice Ao89 t1434.length co89 : Value).ownBlock ∧ some k_ ≠ (.slice Ao91 t1437.length co91 : Value).ownBlock))))) (n := t1398.length) (c := co27) ?_).2.2; exact (rL_ (rf_ HO_1392000.out BK1417.out))); (case side6 => exact (R_reads' HO_1392000.out).2.1); (case side7 => refine (R_reads' (e := 44) (base := w.heap.size) (ok := fun k_ => (some k_ ≠ (.slice Ao23 t1392.length co23 : Value).ownBlock ∧ (some k_ ≠ (.slice Ao22 t1395.length co22 : Value).ownBlock ∧ (some k_ ≠ (.slice Ao27 t1398.length co27 : Value).ownBlock ∧ (some k_ ≠ (.slice Ao89 t1434.length co89 : Value).ownBlock ∧ some k_ ≠ (.slice Ao91 t1437.length co91 : Value).ownBlock))))) (n := t1401.length) (c := co26) ?_).2.2; exact (rL_ (rf_ HO_1392001.out BK1417.out))); (case side8 => exact (R_reads' HO_1392001.out).2.1); rintro e w114 ⟨v1450, v1453, rfl, ho0, ho1, hb⟩; refine ⟨_, rfl, ?_⟩; refine nx17_ (R_mono (Kd.R_told (Kd.R_told (Kd.R_old (rL_ (rf_ HO_1391000.out BK1417.out)) hb) (R_base ho0)) (R_base ho1)) (fun _ h_ => h_.1)) (R_mono (Kd.R_told (Kd.R_told (Kd.R_old (rL_ (rf_ HO_1391001.out BK1417.out)) hb) (R_base ho0)) (R_base ho1)) (fun _ h_ => h_.1)) (R_mono (Kd.R_told (Kd.R_told (Kd.R_old (rL_ (rf_ HO_1392000.out BK1417.out)) hb) (R_base ho0)) (R_base ho1)) (fun _ h_ => h_.1)) (R_mono (Kd.R_told (Kd.R_told (Kd.R_old (rL_ (rf_ HO_1392001.out BK1417.out)) hb) (R_base ho0)) (R_base ho1)) (fun _ h_ => h_.1)) (V_mono (Kd.V_told (Kd.V_told (Kd.V_old (vL_ (vf_ gb1417 HO_1418000.out fun _ hk => hk.2.2.2.2.2.2.2.2.1)) hb) (R_base ho0)) (R_base ho1)) (fun _ h_ => h_.1)) (V_mono (Kd.V_told (Kd.V_told (Kd.V_old (vL_ (vf_ gb1417 HO_1418001.out fun _ hk => hk.2.2.2.2.2.2.2.2.1)) hb) (R_base ho0)) (R_base ho1)) (fun _ h_ => h_.1)) (R_mono (Kd.R_told (Kd.R_told (Kd.R_old (rL_ (rf_ HO_1426000.out BK1417.out)) hb) (R_base ho0)) (R_base ho1)) (fun _ h_ => h_.1)) (R_mono (Kd.R_told (Kd.R_told (Kd.R_old (rL_ (rf_ HO_1426001.out BK1417.out)) hb) (R_base ho0)) (R_base ho1)) (fun _ h_ => h_.1)) (V_mono (Kd.V_told (Kd.V_told (Kd.V_old (vL_ (vf_ gb1417 HO1444.out fun _ hk => hk.2.2.2.2.2.2.2.2.1)) hb) (R_base ho0)) (R_base ho1)) (fun _ h_ => h_.1)) (V_mono (Kd.V_told (Kd.V_told (Kd.V_old (vL_ (vf_ gb1417 HO1447.out fun _ hk => hk.2.2.2.2.2.2.2.2.1)) hb) (R_base ho0)) (R_base ho1)) (fun _ h_ => h_.1)) (R_lower (R_new' (R_new' (R_new' (R_new' (R_new' (R_new' ho0 (R_lt (rL_ (rf_ HO_1391000.out BK1417.out)))) (R_lt (rL_ (rf_ HO_1391001.out BK1417.out)))) (R_lt (rL_ (rf_ HO_1392000.out BK1417.out)))) (R_lt (rL_ (rf_ HO_1392001.out BK1417.out)))) (R_lt (rL_ (rf_ HO_1426000.out BK1417.out)))) (R_lt (rL_ (rf_ HO_1426001.out BK1417.out)))) (below_size sU_)) (R_lower (R_new' (R_new' (R_new' (R_new' (R_new' (R_new' ho1 (R_lt (rL_ (rf_ HO_1391000.out BK1417.out)))) (R_lt (rL_ (rf_ HO_1391001.out BK1417.out)))) (R_lt (rL_ (rf_ HO_1392000.out BK1417.out)))) (R_lt (rL_ (rf_ HO_1392001.out BK1417.out)))) (R_lt (rL_ (rf_ HO_1426000.out BK1417.out)))) (R_lt (rL_ (rf_ HO_1426001.out BK1417.out)))) (below_size sU_)) (blk_below (g := gb1390) (o := .cells #[.slice Ao23 t1392.length co23, .slice Ao22 t1395.length co22] 29 (0, 0)) kp_ hb) (blk_below (g := gb1391) (o := .cells #[.slice Ao27 t1398.length co27, .slice Ao26 t1401.length co26] 29 (0, 0)) kp_ hb) (blk_below (g := gb1417) (o := .cells #[.slice Ao108 t1442.length co108, .slice Ao111 t1445.length co111] 29 (0, 0)) kp_ hb) (blk_below (g := gb1425) (o := .cells #[.slice Ao89 t1434.length co89, .slice Ao91 t1437.length co91] 29 (0, 0)) kp_ hb) (below_step sU_ hb) ?_; clear HO_1391000 HO_1391001 HO_1392000 HO_1392001 HO_1418000 HO_1418001 HO_1426000 HO_1426001 HO1444 HO1447 BK1390 BK1391 BK1417 BK1425 HB; intro HO_1391000 HO_1391001 HO_1392000 HO_1392001 HO_1418000 HO_1418001 HO_1426000 HO_1426001 HO1444 HO1447 HO1451 HO1454 BK1390 BK1391 BK1417 BK1425 HB; clear hb ho0 ho1; obtain ⟨Ao115, co115, eo115⟩ := R_slice HO1451.out; subst eo115; have hcz116_0 := bc0_ BK1425.out; have hcz116_1 := bc1_ BK1425.out; have hfz116_0 := blk_frozen BK1425.out 0; have hfz116_1 := blk_frozen BK1425.out 1; obtain ⟨Ao117, co117, eo117⟩ := R_slice HO1454.out; subst eo117; have hcz118_0 := bc0_ BK1417.out; have hcz118_1 := bc1_ BK1417.out; have hfz118_0 := blk_frozen BK1417.out 0; have hfz118_1 := blk_frozen BK1417.out 1) | (go_at_call 18; (with_reducible refine (attestorref02_Same.calls kj72 _ _ t1442 _ _ t1445 _ _ t1449 _ _ t1452 t1456 _ ?side1 ?side2 ?side3 ?side4 ?side5 ?side6 ?side7 ?side8 A98.out).mono ?_); (case side1 => refine (V_reads' (e := 44) (base := w.heap.size) (ok := fun k_ => (((some k_ ≠ (.slice Ao23 t1392.length co23 : Value).ownBlock ∧ (some k_ ≠ (.slice Ao22 t1395.length co22 : Value).ownBlock ∧ (some k_ ≠ (.slice Ao27 t1398.length co27 : Value).ownBlock ∧ (some k_ ≠ (.slice Ao26 t1401.length co26 : Value).ownBlock ∧ (some k_ ≠ (.slice Ao89 t1434.length co89 : Value).ownBlock ∧ (some k_ ≠ (.slice Ao91 t1437.length co91 : Value).ownBlock ∧ (k_ ≠ gb1390 ∧ (k_ ≠ gb1391 ∧ (k_ ≠ gb1417 ∧ k_ ≠ gb1425))))))))) ∧ some k_ ≠ (.slice Ao115 t1449.length co115 : Value).ownBlock) ∧ some k_ ≠ (.slice Ao117 t1452.length co117 : Value).ownBlock)) (n := t1442.length) (c := co108) ?_).2.2; exact (vL_ (vf_ gb1425 HO1444.out fun _ hk => hk.1.1.2.2.2.2.2.2.2.2.2))); (case side2 => exact (V_reads' HO1444.out).2.1); (case side3 => refine (V_reads' (e := 44) (base := w.heap.size) (ok := fun k_ => (((some k_ ≠ (.slice Ao23 t1392.length co23 : Value).ownBlock ∧ (some k_ ≠ (.slice Ao22 t1395.length co22 : Value).ownBlock ∧ (some k_ ≠ (.slice Ao27 t1398.length co27 : Value).ownBlock ∧ (some k_ ≠ (.slice Ao26 t1401.length co26 : Value).ownBlock ∧ (some k_ ≠ (.slice Ao89 t1434.length co89 : Value).ownBlock ∧ (some k_ ≠ (.slice Ao91 t1437.length co91 : Value).ownBlock ∧ (k_ ≠ gb1390 ∧ (k_ ≠ gb1391 ∧ (k_ ≠ gb1417 ∧ k_ ≠ gb1425))))))))) ∧ some k_ ≠ (.slice Ao115 t1449.length co115 : Value).ownBlock) ∧ some k_ ≠ (.slice Ao117 t1452.length co117 : Value).ownBlock)) (n := t1445.length) (c := co111) ?_).2.2; exact (vL_ (vf_ gb1425 HO1447.out fun _ hk => hk.1.1.2.2.2.2.2.2.2.2.2))); (case side4 => exact (V_reads' HO1447.out).2.1); (case side5 => refine (R_reads' (e := 44) (base := w.heap.size) (ok := fun k_ => ((((((some k_ ≠ (.slice Ao117 t1452.length co117 : Value).ownBlock ∧ some k_ ≠ (.slice Ao23 t1392.length co23 : Value).ownBlock) ∧ some k_ ≠ (.slice Ao22 t1395.length co22 : Value).ownBlock) ∧ some k_ ≠ (.slice Ao27 t1398.length co27 : Value).ownBlock) ∧ some k_ ≠ (.slice Ao26 t1401.length co26 : Value).ownBlock) ∧ some k_ ≠ (.slice Ao89 t1434.length co89 : Value).ownBlock) ∧ some k_ ≠ (.slice Ao91 t1437.length co91 : Value).ownBlock)) (n := t1449.length) (c := co115) ?_).2.2; exact (rL_ (rf_ HO1451.out BK1425.out))); (case side6 => exact (R_reads' HO1451.out).2.1); (case side7 => refine (R_reads' (e := 44) (base := w.heap.size) (ok := fun k_ => ((((((some k_ ≠ (.slice Ao115 t1449.length co115 : Value).ownBlock ∧ some k_ ≠ (.slice Ao23 t1392.length co23 : Value).ownBlock) ∧ some k_ ≠ (.slice Ao22 t1395.length co22 : Value).ownBlock) ∧ some k_ ≠ (.slice Ao27 t1398.length co27 : Value).ownBlock) ∧ some k_ ≠ (.slice Ao26 t1401.length co26 : Value).ownBlock) ∧ some k_ ≠ (.slice Ao89 t1434.length co89 : Value).ownBlock) ∧ some k_ ≠ (.slice Ao91 t1437.length co91 : Value).ownBlock)) (n := t1452.length) (c := co117) ?_).2.2; exact (rL_ (rf_ HO1454.out BK1425.out))); (case side8 => exact (R_reads' HO1454.out).2.1); rintro e w119 ⟨rfl, hb⟩; refine nx17_ (R_below (rL_ (rf_ HO_1391000.out BK1425.out)) hb) (R_below (rL_ (rf_ HO_1391001.out BK1425.out)) hb) (R_below (rL_ (rf_ HO_1392000.out BK1425.out)) hb) (R_below (rL_ (rf_ HO_1392001.out BK1425.out)) hb) (V_below (vL_ (vf_ gb1425 HO_1418000.out fun _ hk => hk.1.1.2.2.2.2.2.2.2.2.2)) hb) (V_below (vL_ (vf_ gb1425 HO_1418001.out fun _ hk => hk.1.1.2.2.2.2.2.2.2.2.2)) hb) (R_below (rL_ (rf_ HO_1426000.out BK1425.out)) hb) (R_below (rL_ (rf_ HO_1426001.out BK1425.out)) hb) (V_below (vL_ (vf_ gb1425 HO1444.out fun _ hk => hk.1.1.2.2.2.2.2.2.2.2.2)) hb) (V_below (vL_ (vf_ gb1425 HO1447.out fun _ hk => hk.1.1.2.2.2.2.2.2.2.2.2)) hb) (R_below (rL_ (rf_ HO1451.out BK1425.out)) hb) (R_below (rL_ (rf_ HO1454.out BK1425.out)) hb) (blk_below (g := gb1390) (o := .cells #[.slice Ao23 t1392.length co23, .slice Ao22 t1395.length co22] 29 (0, 0)) kp_ hb) (blk_below (g := gb1391) (o := .cells #[.slice Ao27 t1398.length co27, .slice Ao26 t1401.length co26] 29 (0, 0)) kp_ hb) (blk_below (g := gb1417) (o := .cells #[.slice Ao108 t1442.length co108, .slice Ao111 t1445.length co111] 29 (0, 0)) kp_ hb) (blk_below (g := gb1425) (o := .cells #[.slice Ao115 t1449.length co115, .slice Ao117 t1452.length co117] 29 (0, 0)) kp_ hb) (below_step sU_ hb) ?_; clear HO_1391000 HO_1391001 HO_1392000 HO_1392001 HO_1418000 HO_1418001 HO_1426000 HO_1426001 HO1444 HO1447 HO1451 HO1454 BK1390 BK1391 BK1417 BK1425 HB; intro HO_1391000 HO_1391001 HO_1392000 HO_1392001 HO_1418000 HO_1418001 HO_1426000 HO_1426001 HO1444 HO1447 HO1451 HO1454 BK1390 BK1391 BK1417 BK1425 HB; clear hb))
        (try simp only [Act.put, s1_, s2_, s3_])
        go_cut [] (fun wc => ∃ (kq : Nat), Aside0 (attestorlaw02_RatioFractions.j3 kq a2 t1392 t1395 = some r) ∧ Aside0 (kq ≤ kj72) ∧ Aside0 (Kd.R (Kd.int .u32) 44 wc w.heap.size (fun k_ => some k_ ≠ ((.slice Ao22 t1395.length co22) : Value).ownBlock ∧ some k_ ≠ ((.slice Ao27 t1398.length co27) : Value).ownBlock ∧ some k_ ≠ ((.slice Ao26 t1401.length co26) : Value).ownBlock ∧ some k_ ≠ ((.slice Ao115 t1449.length co115) : Value).ownBlock ∧ some k_ ≠ ((.slice Ao117 t1452.length co117) : Value).ownBlock) (.slice Ao23 t1392.length co23) t1392) ∧ Aside0 (Kd.R (Kd.int .u32) 44 wc w.heap.size (fun k_ => some k_ ≠ ((.slice Ao23 t1392.length co23) : Value).ownBlock ∧ some k_ ≠ ((.slice Ao27 t1398.length co27) : Value).ownBlock ∧ some k_ ≠ ((.slice Ao26 t1401.length co26) : Value).ownBlock ∧ some k_ ≠ ((.slice Ao115 t1449.length co115) : Value).ownBlock ∧ some k_ ≠ ((.slice Ao117 t1452.length co117) : Value).ownBlock) (.slice Ao22 t1395.length co22) t1395) ∧ Aside0 (Kd.R (Kd.int .u32) 44 wc w.heap.size (fun k_ => some k_ ≠ ((.slice Ao23 t1392.length co23) : Value).ownBlock ∧ some k_ ≠ ((.slice Ao22 t1395.length co22) : Value).ownBlock ∧ some k_ ≠ ((.slice Ao26 t1401.length co26) : Value).ownBlock ∧ some k_ ≠ ((.slice Ao115 t1449.length co115) : Value).ownBlock ∧ some k_ ≠ ((.slice Ao117 t1452.length co117) : Value).ownBlock) (.slice Ao27 t1398.length co27) t1398) ∧ Aside0 (Kd.R (Kd.int .u32) 44 wc w.heap.size (fun k_ => some k_ ≠ ((.slice Ao23 t1392.length co23) : Value).ownBlock ∧ some k_ ≠ ((.slice Ao22 t1395.length co22) : Value).ownBlock ∧ some k_ ≠ ((.slice Ao27 t1398.length co27) : Value).ownBlock ∧ some k_ ≠ ((.slice Ao115 t1449.length co115) : Value).ownBlock ∧ some k_ ≠ ((.slice Ao117 t1452.length co117) : Value).ownBlock) (.slice Ao26 t1401.length co26) t1401) ∧ Aside0 (Kd.V (Kd.int .u32) 44 wc w.heap.size (fun k_ => some k_ ≠ ((.slice Ao23 t1392.length co23) : Value).ownBlock ∧ some k_ ≠ ((.slice Ao22 t1395.length co22) : Value).ownBlock ∧ some k_ ≠ ((.slice Ao27 t1398.length co27) : Value).ownBlock ∧ some k_ ≠ ((.slice Ao26 t1401.length co26) : Value).ownBlock ∧ some k_ ≠ ((.slice Ao115 t1449.length co115) : Value).ownBlock ∧ some k_ ≠ ((.slice Ao117 t1452.length co117) : Value).ownBlock ∧ k_ ≠ gb1390 ∧ k_ ≠ gb1391 ∧ k_ ≠ gb1417 ∧ k_ ≠ gb1425) (.slice Ao108 t1442.length co108) t1442) ∧ Aside0 (Kd.V (Kd.int .u32) 44 wc w.heap.size (fun k_ => some k_ ≠ ((.slice Ao23 t1392.length co23) : Value).ownBlock ∧ some k_ ≠ ((.slice Ao22 t1395.length co22) : Value).ownBlock ∧ some k_ ≠ ((.slice Ao27 t1398.length co27) : Value).ownBlock ∧ some k_ ≠ ((.slice Ao26 t1401.length co26) : Value).ownBlock ∧ some k_ ≠ ((.slice Ao115 t1449.length co115) : Value).ownBlock ∧ some k_ ≠ ((.slice Ao117 t1452.length co117) : Value).ownBlock ∧ k_ ≠ gb1390 ∧ k_ ≠ gb1391 ∧ k_ ≠ gb1417 ∧ k_ ≠ gb1425) (.slice Ao111 t1445.length co111) t1445) ∧ Aside0 (Kd.R (Kd.int .u32) 44 wc w.heap.size (fun k_ => some k_ ≠ ((.slice Ao23 t1392.length co23) : Value).ownBlock ∧ some k_ ≠ ((.slice Ao22 t1395.length co22) : Value).ownBlock ∧ some k_ ≠ ((.slice Ao27 t1398.length co27) : Value).ownBlock ∧ some k_ ≠ ((.slice Ao26 t1401.length co26) : Value).ownBlock ∧ some k_ ≠ ((.slice Ao117 t1452.length co117) : Value).ownBlock) (.slice Ao115 t1449.length co115) t1449) ∧ Aside0 (Kd.R (Kd.int .u32) 44 wc w.heap.size (fun k_ => some k_ ≠ ((.slice Ao23 t1392.length co23) : Value).ownBlock ∧ some k_ ≠ ((.slice Ao22 t1395.length co22) : Value).ownBlock ∧ some k_ ≠ ((.slice Ao27 t1398.length co27) : Value).ownBlock ∧ some k_ ≠ ((.slice Ao26 t1401.length co26) : Value).ownBlock ∧ some k_ ≠ ((.slice Ao115 t1449.length co115) : Value).ownBlock) (.slice Ao117 t1452.length co117) t1452) ∧ Aside0 (wc.heap[gb1390]? = some (.cells #[(.slice Ao23 t1392.length co23), (.slice Ao22 t1395.length co22)] 29 (0, 0))) ∧ Aside0 (wc.heap[gb1391]? = some (.cells #[(.slice Ao27 t1398.length co27), (.slice Ao26 t1401.length co26)] 29 (0, 0))) ∧ Aside0 (wc.heap[gb1417]? = some (.cells #[(.slice Ao108 t1442.length co108), (.slice Ao111 t1445.length co111)] 29 (0, 0))) ∧ Aside0 (wc.heap[gb1425]? = some (.cells #[(.slice Ao115 t1449.length co115), (.slice Ao117 t1452.length co117)] 29 (0, 0))) ∧ Aside0 (Below w.heap.size w wc))
        case first =>
         have H := HC99.out
         clear HC99
         by_cases c120 : t1456 = true
         ·subst c120
          rw [if_pos rfl] at H
          have H' := ak H
          clear H
          go_wp2
          go_meet
          case rel => exact ⟨_, H', ⟨by have := HJ15.out; have := HJ44.out; have := HJ72.out; first | omega | exact Nat.le_refl _⟩, ⟨R_mono (rU_ HO_1391000.out) (fun _ hk => ⟨hk.1.1.1, ⟨hk.1.1.2.1, ⟨hk.1.1.2.2.1, ⟨hk.1.2, hk.2⟩⟩⟩⟩)⟩, ⟨R_mono (rU_ HO_1391001.out) (fun _ hk => ⟨hk.1.1.1, ⟨hk.1.1.2.1, ⟨hk.1.1.2.2.1, ⟨hk.1.2, hk.2⟩⟩⟩⟩)⟩, ⟨R_mono (rU_ HO_1392000.out) (fun _ hk => ⟨hk.1.1.1, ⟨hk.1.1.2.1, ⟨hk.1.1.2.2.1, ⟨hk.1.2, hk.2⟩⟩⟩⟩)⟩, ⟨R_mono (rU_ HO_1392001.out) (fun _ hk => ⟨hk.1.1.1, ⟨hk.1.1.2.1, ⟨hk.1.1.2.2.1, ⟨hk.1.2, hk.2⟩⟩⟩⟩)⟩, ⟨by (with_reducible repeat (first | apply Kd.V_alloc | apply Kd.V_drewN | apply V_drew)); exact V_mono HO1444.out (fun _ hk => ⟨hk.1.1.1, ⟨hk.1.1.2.1, ⟨hk.1.1.2.2.1, ⟨hk.1.1.2.2.2.1, ⟨hk.1.2, ⟨hk.2, ⟨hk.1.1.2.2.2.2.2.2.1, ⟨hk.1.1.2.2.2.2.2.2.2.1, ⟨hk.1.1.2.2.2.2.2.2.2.2.1, hk.1.1.2.2.2.2.2.2.2.2.2⟩⟩⟩⟩⟩⟩⟩⟩⟩)⟩, ⟨by (with_reducible repeat (first | apply Kd.V_alloc | apply Kd.V_drewN | apply V_drew)); exact V_mono HO1447.out (fun _ hk => ⟨hk.1.1.1, ⟨hk.1.1.2.1, ⟨hk.1.1.2.2.1, ⟨hk.1.1.2.2.2.1, ⟨hk.1.2, ⟨hk.2, ⟨hk.1.1.2.2.2.2.2.2.1, ⟨hk.1.1.2.2.2.2.2.2.2.1, ⟨hk.1.1.2.2.2.2.2.2.2.2.1, hk.1.1.2.2.2.2.2.2.2.2.2⟩⟩⟩⟩⟩⟩⟩⟩⟩)⟩, ⟨R_mono (rU_ HO1451.out) (fun _ hk => ⟨hk.1.1.1.1.1.2, ⟨hk.1.1.1.1.2, ⟨hk.1.1.1.2, ⟨hk.1.1.2, hk.1.1.1.1.1.1⟩⟩⟩⟩)⟩, ⟨R_mono (rU_ HO1454.out) (fun _ hk => ⟨hk.1.1.1.1.1.2, ⟨hk.1.1.1.1.2, ⟨hk.1.1.1.2, ⟨hk.1.1.2, hk.1.1.1.1.1.1⟩⟩⟩⟩)⟩, ⟨by (with_reducible repeat (first | refine blk_drewN ?_ _ | refine blk_drew ?_ | refine blk_alloc ?_ _)); exact BK1390.out⟩, ⟨by (with_reducible repeat (first | refine blk_drewN ?_ _ | refine blk_drew ?_ | refine blk_alloc ?_ _)); exact BK1391.out⟩, ⟨by (with_reducible repeat (first | refine blk_drewN ?_ _ | refine blk_drew ?_ | refine blk_alloc ?_ _)); exact BK1417.out⟩, ⟨by (with_reducible repeat (first | refine blk_drewN ?_ _ | refine blk_drew ?_ | refine blk_alloc ?_ _)); exact BK1425.out⟩, ⟨sU_⟩⟩
         ·replace c120 := Bool.eq_false_iff.mpr c120
          subst c120
          rw [if_neg (show ¬ (false = true) by decide)] at H
          exact absurd H (by simp)
        case rest =>
         clear HC99
         (try clear c1); (try clear c2); (try clear p2); (try clear c3); (try clear c4); (try clear c5); (try clear c6); (try clear c7); (try clear c8); (try clear c9); (try clear c10); (try clear c12); (try clear c24); (try clear c30); (try clear c32); (try clear c33); (try clear c34); (try clear c35); (try clear c37); (try clear c38); (try clear c39); (try clear c40); (try clear c40b0); (try clear c40b1); (try clear c41); (try clear c42); (try clear c43); (try clear c43b0); (try clear c43b1); (try clear c46); (try clear c52); (try clear c53); (try clear c61); (try clear c62); (try clear c63); (try clear c68); (try clear c71); (try clear c71b0); (try clear c71b1); (try clear c74); (try clear c75); (try clear c76); (try clear c78); (try clear c79); (try clear c83); (try clear c94); (try clear c97); (try clear c97b0); (try clear c97b1); (try clear c100); (try clear c101); (try clear c102); (try clear c104); (try clear c105); (try clear c109); (try clear c120); (try clear hcz103_0); (try clear hcz103_1); (try clear hcz106_0); (try clear hcz106_1); (try clear hcz110_0); (try clear hcz110_1); (try clear hcz112_0); (try clear hcz112_1); (try clear hcz113_0); (try clear hcz113_1); (try clear hcz116_0); (try clear hcz116_1); (try clear hcz118_0); (try clear hcz118_1); (try clear hcz47_0); (try clear hcz47_1); (try clear hcz48_0); (try clear hcz48_1); (try clear hcz54_0); (try clear hcz54_1); (try clear hcz56_0); (try clear hcz56_1); (try clear hcz57_0); (try clear hcz57_1); (try clear hcz64_0); (try clear hcz64_1); (try clear hcz66_0); (try clear hcz66_1); (try clear hcz77_0); (try clear hcz77_1); (try clear hcz80_0); (try clear hcz80_1); (try clear hcz84_0); (try clear hcz84_1); (try clear hcz86_0); (try clear hcz86_1); (try clear hcz87_0); (try clear hcz87_1); (try clear hcz90_0); (try clear hcz90_1); (try clear hcz92_0); (try clear hcz92_1); (try clear hfz103_0); (try clear hfz103_1); (try clear hfz106_0); (try clear hfz106_1); (try clear hfz110_0); (try clear hfz110_1); (try clear hfz112_0); (try clear hfz112_1); (try clear hfz113_0); (try clear hfz113_1); (try clear hfz116_0); (try clear hfz116_1); (try clear hfz118_0); (try clear hfz118_1); (try clear hfz47_0); (try clear hfz47_1); (try clear hfz48_0); (try clear hfz48_1); (try clear hfz54_0); (try clear hfz54_1); (try clear hfz56_0); (try clear hfz56_1); (try clear hfz57_0); (try clear hfz57_1); (try clear hfz64_0); (try clear hfz64_1); (try clear hfz66_0); (try clear hfz66_1); (try clear hfz77_0); (try clear hfz77_1); (try clear hfz80_0); (try clear hfz80_1); (try clear hfz84_0); (try clear hfz84_1); (try clear hfz86_0); (try clear hfz86_1); (try clear hfz87_0); (try clear hfz87_1); (try clear hfz90_0); (try clear hfz90_1); (try clear hfz92_0); (try clear hfz92_1)
         obtain ⟨kq, HA, HJ98, HO_1391000, HO_1391001, HO_1392000, HO_1392001, HO_1418000, HO_1418001, HO_1426000, HO_1426001, BK1390, BK1391, BK1417, BK1425, HB⟩ := hcut
         cases kq with
         | zero => exact absurd HA.out (by simp [attestorlaw02_RatioFractions.j3])
         | succ kj98 =>
          have H := HA.out
          clear HA
          simp only [attestorlaw02_RatioFractions.j3] at H
          revert H
          refine bd3_ fun t1457 t1460 t1463 A121 H => ?_
          try dsimp only at H
          revert H
          refine bd3_ fun t1464 t1467 t1470 A122 H => ?_
          try dsimp only at H
          obtain ⟨c123, H⟩ : (t1463 = t1470) ∧ _ := it_ H
          have c123b0 := beq_iff_eq.mpr c123
          have c123b1 := bne_eq_false_iff_eq.mpr c123
          clear c123
          revert H
          refine bd_ fun t1471 A124 H => ?_
          by_cases c125 : t1471 = true
          ·subst c125
           rw [if_pos rfl] at H
           revert H
           refine bd_ fun t1472 A126 H => ?_
           obtain rfl := Option.some.inj H
           have hnb127 := NB1390_1391.out
           have hnc127 := NB1391_1390.out
           have hnb128 := NB1390_1417.out
           have hnc128 := NB1417_1390.out
           have hnb129 := NB1390_1425.out
           have hnc129 := NB1425_1390.out
           have hcz130_0 := bc0_ BK1390.out
           have hcz130_1 := bc1_ BK1390.out
           have hfz130_0 := blk_frozen BK1390.out 0
           have hfz130_1 := blk_frozen BK1390.out 1
           go_wp2_with (first | ((with_reducible refine gate_callee (f := 44) rfl ?_); refine gl_ (some 116) Tryd.func44 #[.agg #[.slice Ao23 t1392.length co23, .slice Ao22 t1395.length co22], .int .i64 a2] ?_; (with_reducible refine (ratio_Power.calls kj98 _ _ t1392 _ _ t1395 a2 t1457 t1460 t1463 _ ?side1 ?side2 ?side3 ?side4 A121.out).mono ?_); (case side1 => exact cU_ ((R_reads' HO_1391000.out).2.2)); (case side2 => exact (R_reads' HO_1391000.out).2.1); (case side3 => exact cU_ ((R_reads' HO_1391001.out).2.2)); (case side4 => exact (R_reads' HO_1391001.out).2.1); rintro e w131 ⟨v1458, v1461, rfl, ho0, ho1, hb⟩; refine ⟨_, rfl, ?_⟩; refine nx15_ (R_below (rU_ HO_1391000.out) hb) (R_below (rU_ HO_1391001.out) hb) (R_below (rU_ HO_1392000.out) hb) (R_below (rU_ HO_1392001.out) hb) (V_below (vU_ HO_1418000.out) hb) (V_below (vU_ HO_1418001.out) hb) (R_below (rU_ HO_1426000.out) hb) (R_below (rU_ HO_1426001.out) hb) (V_lower (V_mono (ok' := fun k_ => some k_ ≠ (.slice Ao23 t1392.length co23 : Value).ownBlock ∧ some k_ ≠ (.slice Ao22 t1395.length co22 : Value).ownBlock ∧ some k_ ≠ (.slice Ao27 t1398.length co27 : Value).ownBlock ∧ some k_ ≠ (.slice Ao26 t1401.length co26 : Value).ownBlock ∧ some k_ ≠ (.slice Ao115 t1449.length co115 : Value).ownBlock ∧ some k_ ≠ (.slice Ao117 t1452.length co117 : Value).ownBlock ∧ k_ ≠ gb1390 ∧ k_ ≠ gb1391 ∧ k_ ≠ gb1417 ∧ k_ ≠ gb1425) ho0 (fun k_ hk_ => ⟨(fresh' (R_lt (rU_ HO_1391000.out)) k_ hk_), (fresh' (R_lt (rU_ HO_1391001.out)) k_ hk_), (fresh' (R_lt (rU_ HO_1392000.out)) k_ hk_), (fresh' (R_lt (rU_ HO_1392001.out)) k_ hk_), (fresh' (R_lt (rU_ HO_1426000.out)) k_ hk_), (fresh' (R_lt (rU_ HO_1426001.out)) k_ hk_), (freshB (kU_ BK1390.out) k_ hk_), (freshB (kU_ BK1391.out) k_ hk_), (freshB (kU_ BK1417.out) k_ hk_), (freshB (kU_ BK1425.out) k_ hk_)⟩)) (below_size sU_)) (V_lower (V_mono (ok' := fun k_ => some k_ ≠ (.slice Ao23 t1392.length co23 : Value).ownBlock ∧ some k_ ≠ (.slice Ao22 t1395.length co22 : Value).ownBlock ∧ some k_ ≠ (.slice Ao27 t1398.length co27 : Value).ownBlock ∧ some k_ ≠ (.slice Ao26 t1401.length co26 : Value).ownBlock ∧ some k_ ≠ (.slice Ao115 t1449.length co115 : Value).ownBlock ∧ some k_ ≠ (.slice Ao117 t1452.length co117 : Value).ownBlock ∧ k_ ≠ gb1390 ∧ k_ ≠ gb1391 ∧ k_ ≠ gb1417 ∧ k_ ≠ gb1425) ho1 (fun k_ hk_ => ⟨(fresh' (R_lt (rU_ HO_1391000.out)) k_ hk_), (fresh' (R_lt (rU_ HO_1391001.out)) k_ hk_), (fresh' (R_lt (rU_ HO_1392000.out)) k_ hk_), (fresh' (R_lt (rU_ HO_1392001.out)) k_ hk_), (fresh' (R_lt (rU_ HO_1426000.out)) k_ hk_), (fresh' (R_lt (rU_ HO_1426001.out)) k_ hk_), (freshB (kU_ BK1390.out) k_ hk_), (freshB (kU_ BK1391.out) k_ hk_), (freshB (kU_ BK1417.out) k_ hk_), (freshB (kU_ BK1425.out) k_ hk_)⟩)) (below_size sU_)) (blk_below (kU_ BK1390.out) hb) (blk_below (kU_ BK1391.out) hb) (blk_below (kU_ BK1417.out) hb) (blk_below (kU_ BK1425.out) hb) (below_step sU_ hb) ?_; clear HO_1391000 HO_1391001 HO_1392000 HO_1392001 HO_1418000 HO_1418001 HO_1426000 HO_1426001 BK1390 BK1391 BK1417 BK1425 HB; intro HO_1391000 HO_1391001 HO_1392000 HO_1392001 HO_1418000 HO_1418001 HO_1426000 HO_1426001 HO1459 HO1462 BK1390 BK1391 BK1417 BK1425 HB; clear hb ho0 ho1; obtain ⟨Ao132, co132, eo132⟩ := V_slice HO1459.out; subst eo132; have hnb133 := NB1417_1391.out; have hnc133 := NB1391_1417.out; have hnb134 := NB1417_1425.out; have hnc134 := NB1425_1417.out; have hcz135_0 := bc0_ BK1417.out; have hcz135_1 := bc1_ BK1417.out; have hfz135_0 := blk_frozen BK1417.out 0; have hfz135_1 := blk_frozen BK1417.out 1; obtain ⟨Ao136, co136, eo136⟩ := V_slice HO1462.out; subst eo136; have hcz137_0 := bc0_ BK1390.out; have hcz137_1 := bc1_ BK1390.out; have hfz137_0 := blk_frozen BK1390.out 0; have hfz137_1 := blk_frozen BK1390.out 1) | ((with_reducible refine gate_callee (f := 45) rfl ?_); refine gl_ (some 122) Tryd.func45 #[.agg #[.slice Ao23 t1392.length co23, .slice Ao22 t1395.length co22], .int .i64 a2] ?_; (with_reducible refine (attestorref02_Power.calls kj98 _ _ t1392 _ _ t1395 a2 t1464 t1467 t1470 _ ?side1 ?side2 ?side3 ?side4 A122.out).mono ?_); (case side1 => refine (R_reads' (e := 44) (base := w.heap.size) (ok := fun k_ => (some k_ ≠ (.slice Ao22 t1395.length co22 : Value).ownBlock ∧ (some k_ ≠ (.slice Ao27 t1398.length co27 : Value).ownBlock ∧ (some k_ ≠ (.slice Ao26 t1401.length co26 : Value).ownBlock ∧ (some k_ ≠ (.slice Ao115 t1449.length co115 : Value).ownBlock ∧ some k_ ≠ (.slice Ao117 t1452.length co117 : Value).ownBlock))))) (n := t1392.length) (c := co23) ?_).2.2; exact (rL_ (rf_ HO_1391000.out BK1417.out))); (case side2 => exact (R_reads' HO_1391000.out).2.1); (case side3 => refine (R_reads' (e := 44) (base := w.heap.size) (ok := fun k_ => (some k_ ≠ (.slice Ao23 t1392.length co23 : Value).ownBlock ∧ (some k_ ≠ (.slice Ao27 t1398.length co27 : Value).ownBlock ∧ (some k_ ≠ (.slice Ao26 t1401.length co26 : Value).ownBlock ∧ (some k_ ≠ (.slice Ao115 t1449.length co115 : Value).ownBlock ∧ some k_ ≠ (.slice Ao117 t1452.length co117 : Value).ownBlock))))) (n := t1395.length) (c := co22) ?_).2.2; exact (rL_ (rf_ HO_1391001.out BK1417.out))); (case side4 => exact (R_reads' HO_1391001.out).2.1); rintro e w138 ⟨v1465, v1468, rfl, ho0, ho1, hb⟩; refine ⟨_, rfl, ?_⟩; refine nx17_ (R_mono (Kd.R_told (Kd.R_told (Kd.R_old (rL_ (rf_ HO_1391000.out BK1417.out)) hb) (R_base ho0)) (R_base ho1)) (fun _ h_ => h_.1)) (R_mono (Kd.R_told (Kd.R_told (Kd.R_old (rL_ (rf_ HO_1391001.out BK1417.out)) hb) (R_base ho0)) (R_base ho1)) (fun _ h_ => h_.1)) (R_mono (Kd.R_told (Kd.R_told (Kd.R_old (rL_ (rf_ HO_1392000.out BK1417.out)) hb) (R_base ho0)) (R_base ho1)) (fun _ h_ => h_.1)) (R_mono (Kd.R_told (Kd.R_told (Kd.R_old (rL_ (rf_ HO_1392001.out BK1417.out)) hb) (R_base ho0)) (R_base ho1)) (fun _ h_ => h_.1)) (V_mono (Kd.V_told (Kd.V_told (Kd.V_old (vL_ (vf_ gb1417 HO_1418000.out fun _ hk => hk.2.2.2.2.2.2.2.2.1)) hb) (R_base ho0)) (R_base ho1)) (fun _ h_ => h_.1)) (V_mono (Kd.V_told (Kd.V_told (Kd.V_old (vL_ (vf_ gb1417 HO_1418001.out fun _ hk => hk.2.2.2.2.2.2.2.2.1)) hb) (R_base ho0)) (R_base ho1)) (fun _ h_ => h_.1)) (R_mono (Kd.R_told (Kd.R_told (Kd.R_old (rL_ (rf_ HO_1426000.out BK1417.out)) hb) (R_base ho0)) (R_base ho1)) (fun _ h_ => h_.1)) (R_mono (Kd.R_told (Kd.R_told (Kd.R_old (rL_ (rf_ HO_1426001.out BK1417.out)) hb) (R_base ho0)) (R_base ho1)) (fun _ h_ => h_.1)) (V_mono (Kd.V_told (Kd.V_told (Kd.V_old (vL_ (vf_ gb1417 HO1459.out fun _ hk => hk.2.2.2.2.2.2.2.2.1)) hb) (R_base ho0)) (R_base ho1)) (fun _ h_ => h_.1)) (V_mono (Kd.V_told (Kd.V_told (Kd.V_old (vL_ (vf_ gb1417 HO1462.out fun _ hk => hk.2.2.2.2.2.2.2.2.1)) hb) (R_base ho0)) (R_base ho1)) (fun _ h_ => h_.1)) (R_lower (R_new' (R_new' (R_new' (R_new' (R_new' (R_new' ho0 (R_lt (rL_ (rf_ HO_1391000.out BK1417.out)))) (R_lt (rL_ (rf_ HO_1391001.out BK1417.out)))) (R_lt (rL_ (rf_ HO_1392000.out BK1417.out)))) (R_lt (rL_ (rf_ HO_1392001.out BK1417.out)))) (R_lt (rL_ (rf_ HO_1426000.out BK1417.out)))) (R_lt (rL_ (rf_ HO_1426001.out BK1417.out)))) (below_size sU_)) (R_lower (R_new' (R_new' (R_new' (R_new' (R_new' (R_new' ho1 (R_lt (rL_ (rf_ HO_1391000.out BK1417.out)))) (R_lt (rL_ (rf_ HO_1391001.out BK1417.out)))) (R_lt (rL_ (rf_ HO_1392000.out BK1417.out)))) (R_lt (rL_ (rf_ HO_1392001.out BK1417.out)))) (R_lt (rL_ (rf_ HO_1426000.out BK1417.out)))) (R_lt (rL_ (rf_ HO_1426001.out BK1417.out)))) (below_size sU_)) (blk_below (g := gb1390) (o := .cells #[.slice Ao23 t1392.length co23, .slice Ao22 t1395.length co22] 29 (0, 0)) kp_ hb) (blk_below (g := gb1391) (o := .cells #[.slice Ao27 t1398.length co27, .slice Ao26 t1401.length co26] 29 (0, 0)) kp_ hb) (blk_below (g := gb1417) (o := .cells #[.slice Ao132 t1457.length co132, .slice Ao136 t1460.length co136] 29 (0, 0)) kp_ hb) (blk_below (g := gb1425) (o := .cells #[.slice Ao115 t1449.length co115, .slice Ao117 t1452.length co117] 29 (0, 0)) kp_ hb) (below_step sU_ hb) ?_; clear HO_1391000 HO_1391001 HO_1392000 HO_1392001 HO_1418000 HO_1418001 HO_1426000 HO_1426001 HO1459 HO1462 BK1390 BK1391 BK1417 BK1425 HB; intro HO_1391000 HO_1391001 HO_1392000 HO_1392001 HO_1418000 HO_1418001 HO_1426000 HO_1426001 HO1459 HO1462 HO1466 HO1469 BK1390 BK1391 BK1417 BK1425 HB; clear hb ho0 ho1; obtain ⟨Ao139, co139, eo139⟩ := R_slice HO1466.out; subst eo139; have hnb140 := NB1425_1391.out; have hnc140 := NB1391_1425.out; have hcz141_0 := bc0_ BK1425.out; have hcz141_1 := bc1_ BK1425.out; have hfz141_0 := blk_frozen BK1425.out 0; have hfz141_1 := blk_frozen BK1425.out 1; obtain ⟨Ao142, co142, eo142⟩ := R_slice HO1469.out; subst eo142; have hcz143_0 := bc0_ BK1417.out; have hcz143_1 := bc1_ BK1417.out; have hfz143_0 := blk_frozen BK1417.out 0; have hfz143_1 := blk_frozen BK1417.out 1) | (go_at_call 18; (with_reducible refine (attestorref02_Same.calls kj98 _ _ t1457 _ _ t1460 _ _ t1464 _ _ t1467 true _ ?side1 ?side2 ?side3 ?side4 ?side5 ?side6 ?side7 ?side8 A124.out).mono ?_); (case side1 => refine (V_reads' (e := 44) (base := w.heap.size) (ok := fun k_ => (((some k_ ≠ (.slice Ao23 t1392.length co23 : Value).ownBlock ∧ (some k_ ≠ (.slice Ao22 t1395.length co22 : Value).ownBlock ∧ (some k_ ≠ (.slice Ao27 t1398.length co27 : Value).ownBlock ∧ (some k_ ≠ (.slice Ao26 t1401.length co26 : Value).ownBlock ∧ (some k_ ≠ (.slice Ao115 t1449.length co115 : Value).ownBlock ∧ (some k_ ≠ (.slice Ao117 t1452.length co117 : Value).ownBlock ∧ (k_ ≠ gb1390 ∧ (k_ ≠ gb1391 ∧ (k_ ≠ gb1417 ∧ k_ ≠ gb1425))))))))) ∧ some k_ ≠ (.slice Ao139 t1464.length co139 : Value).ownBlock) ∧ some k_ ≠ (.slice Ao142 t1467.length co142 : Value).ownBlock)) (n := t1457.length) (c := co132) ?_).2.2; exact (vL_ (vf_ gb1425 HO1459.out fun _ hk => hk.1.1.2.2.2.2.2.2.2.2.2))); (case side2 => exact (V_reads' HO1459.out).2.1); (case side3 => refine (V_reads' (e := 44) (base := w.heap.size) (ok := fun k_ => (((some k_ ≠ (.slice Ao23 t1392.length co23 : Value).ownBlock ∧ (some k_ ≠ (.slice Ao22 t1395.length co22 : Value).ownBlock ∧ (some k_ ≠ (.slice Ao27 t1398.length co27 : Value).ownBlock ∧ (some k_ ≠ (.slice Ao26 t1401.length co26 : Value).ownBlock ∧ (some k_ ≠ (.slice Ao115 t1449.length co115 : Value).ownBlock ∧ (some k_ ≠ (.slice Ao117 t1452.length co117 : Value).ownBlock ∧ (k_ ≠ gb1390 ∧ (k_ ≠ gb1391 ∧ (k_ ≠ gb1417 ∧ k_ ≠ gb1425))))))))) ∧ some k_ ≠ (.slice Ao139 t1464.length co139 : Value).ownBlock) ∧ some k_ ≠ (.slice Ao142 t1467.length co142 : Value).ownBlock)) (n := t1460.length) (c := co136) ?_).2.2; exact (vL_ (vf_ gb1425 HO1462.out fun _ hk => hk.1.1.2.2.2.2.2.2.2.2.2))); (case side4 => exact (V_reads' HO1462.out).2.1); (case side5 => refine (R_reads' (e := 44) (base := w.heap.size) (ok := fun k_ => ((((((some k_ ≠ (.slice Ao142 t1467.length co142 : Value).ownBlock ∧ some k_ ≠ (.slice Ao23 t1392.length co23 : Value).ownBlock) ∧ some k_ ≠ (.slice Ao22 t1395.length co22 : Value).ownBlock) ∧ some k_ ≠ (.slice Ao27 t1398.length co27 : Value).ownBlock) ∧ some k_ ≠ (.slice Ao26 t1401.length co26 : Value).ownBlock) ∧ some k_ ≠ (.slice Ao115 t1449.length co115 : Value).ownBlock) ∧ some k_ ≠ (.slice Ao117 t1452.length co117 : Value).ownBlock)) (n := t1464.length) (c := co139) ?_).2.2; exact (rL_ (rf_ HO1466.out BK1425.out))); (case side6 => exact (R_reads' HO1466.out).2.1); (case side7 => refine (R_reads' (e := 44) (base := w.heap.size) (ok := fun k_ => ((((((some k_ ≠ (.slice Ao139 t1464.length co139 : Value).ownBlock ∧ some k_ ≠ (.slice Ao23 t1392.length co23 : Value).ownBlock) ∧ some k_ ≠ (.slice Ao22 t1395.length co22 : Value).ownBlock) ∧ some k_ ≠ (.slice Ao27 t1398.length co27 : Value).ownBlock) ∧ some k_ ≠ (.slice Ao26 t1401.length co26 : Value).ownBlock) ∧ some k_ ≠ (.slice Ao115 t1449.length co115 : Value).ownBlock) ∧ some k_ ≠ (.slice Ao117 t1452.length co117 : Value).ownBlock)) (n := t1467.length) (c := co142) ?_).2.2; exact (rL_ (rf_ HO1469.out BK1425.out))); (case side8 => exact (R_reads' HO1469.out).2.1); rintro e w144 ⟨rfl, hb⟩; refine nx17_ (R_below (rL_ (rf_ HO_1391000.out BK1425.out)) hb) (R_below (rL_ (rf_ HO_1391001.out BK1425.out)) hb) (R_below (rL_ (rf_ HO_1392000.out BK1425.out)) hb) (R_below (rL_ (rf_ HO_1392001.out BK1425.out)) hb) (V_below (vL_ (vf_ gb1425 HO_1418000.out fun _ hk => hk.1.1.2.2.2.2.2.2.2.2.2)) hb) (V_below (vL_ (vf_ gb1425 HO_1418001.out fun _ hk => hk.1.1.2.2.2.2.2.2.2.2.2)) hb) (R_below (rL_ (rf_ HO_1426000.out BK1425.out)) hb) (R_below (rL_ (rf_ HO_1426001.out BK1425.out)) hb) (V_below (vL_ (vf_ gb1425 HO1459.out fun _ hk => hk.1.1.2.2.2.2.2.2.2.2.2)) hb) (V_below (vL_ (vf_ gb1425 HO1462.out fun _ hk => hk.1.1.2.2.2.2.2.2.2.2.2)) hb) (R_below (rL_ (rf_ HO1466.out BK1425.out)) hb) (R_below (rL_ (rf_ HO1469.out BK1425.out)) hb) (blk_below (g := gb1390) (o := .cells #[.slice Ao23 t1392.length co23, .slice Ao22 t1395.length co22] 29 (0, 0)) kp_ hb) (blk_below (g := gb1391) (o := .cells #[.slice Ao27 t1398.length co27, .slice Ao26 t1401.length co26] 29 (0, 0)) kp_ hb) (blk_below (g := gb1417) (o := .cells #[.slice Ao132 t1457.length co132, .slice Ao136 t1460.length co136] 29 (0, 0)) kp_ hb) (blk_below (g := gb1425) (o := .cells #[.slice Ao139 t1464.length co139, .slice Ao142 t1467.length co142] 29 (0, 0)) kp_ hb) (below_step sU_ hb) ?_; clear HO_1391000 HO_1391001 HO_1392000 HO_1392001 HO_1418000 HO_1418001 HO_1426000 HO_1426001 HO1459 HO1462 HO1466 HO1469 BK1390 BK1391 BK1417 BK1425 HB; intro HO_1391000 HO_1391001 HO_1392000 HO_1392001 HO_1418000 HO_1418001 HO_1426000 HO_1426001 HO1459 HO1462 HO1466 HO1469 BK1390 BK1391 BK1417 BK1425 HB; clear hb) | (go_at_call 19; (with_reducible refine (attestorlaw02_works.calls kj98  t1472 _ A126.out).mono ?_); rintro e w145 ⟨rfl, hb⟩; refine nx17_ (R_below (rU_ HO_1391000.out) hb) (R_below (rU_ HO_1391001.out) hb) (R_below (rU_ HO_1392000.out) hb) (R_below (rU_ HO_1392001.out) hb) (V_below (vU_ HO_1418000.out) hb) (V_below (vU_ HO_1418001.out) hb) (R_below (rU_ HO_1426000.out) hb) (R_below (rU_ HO_1426001.out) hb) (V_below (vU_ HO1459.out) hb) (V_below (vU_ HO1462.out) hb) (R_below (rU_ HO1466.out) hb) (R_below (rU_ HO1469.out) hb) (blk_below (kU_ BK1390.out) hb) (blk_below (kU_ BK1391.out) hb) (blk_below (kU_ BK1417.out) hb) (blk_below (kU_ BK1425.out) hb) (below_step sU_ hb) ?_; clear HO_1391000 HO_1391001 HO_1392000 HO_1392001 HO_1418000 HO_1418001 HO_1426000 HO_1426001 HO1459 HO1462 HO1466 HO1469 BK1390 BK1391 BK1417 BK1425 HB; intro HO_1391000 HO_1391001 HO_1392000 HO_1392001 HO_1418000 HO_1418001 HO_1426000 HO_1426001 HO1459 HO1462 HO1466 HO1469 BK1390 BK1391 BK1417 BK1425 HB; clear hb))
           go_ret
           exact ⟨eW_, sU_⟩
          ·replace c125 := Bool.eq_false_iff.mpr c125
           subst c125
           rw [if_neg (show ¬ (false = true) by decide)] at H
           exact absurd H (by simp)

end Go.Proofs.YtjjjoepnlhpjdaaDoor.Q

-- Written by prx.py (this session's driver of the kit's print) out of the translation. Not trusted: Lean checks it.
import Derived.Test.YtdjjdlkglinlgaaDoorQ0
import Derived.Test.YtdjjdlkglinlgaaDoorQ3
import Derived.Test.YtdjjdlkglinlgaaDoorQ4
import Derived.Test.YtdjjdlkglinlgaaDoorQ9
namespace Go.Proofs.YtdjjdlkglinlgaaDoor.Q
open Go.RowKit Go.Proofs.YtdjjdlkglinlgaaDoorW.PrintWords Go.Proofs.YtdjjdlkglinlgaaDoorW.PrintLast Go.Proofs.YtdjjdlkglinlgaaDoorW.PrintMore
attribute [local go_sem] max2_int min2_int max_two min_two max_three min_three max_four min_four   -- for this text's walks alone
set_option linter.unusedVariables false
set_option linter.unusedSimpArgs false

/-! ### poly_Eval: function 25 -/
def poly_Eval.l0 : Nat → Int → List Int → Int → Int → Int → Int → Option (Int)
 | 0, _, _, _, _, _, _ => none
 | k + 1, x0, x1, x2, x7, x10, x11 => if x11 < x10 then ((field_Mul.f x0 x7 x2).bind fun t671 => (if 0 ≤ (wrap64 ((wrap64 ((x1.length : Int) - 1)) - x11)) then (if (wrap64 ((wrap64 ((x1.length : Int) - 1)) - x11)) < (x1.length : Int) then ((field_Add.f x0 t671 (rd x1 (wrap64 ((wrap64 ((x1.length : Int) - 1)) - x11)))).bind fun t673 => (poly_Eval.l0 k x0 x1 x2 t673 x10 (wrap64 (x11 + 1)))) else (none)) else (none))) else (some x7)
def poly_Eval.f (k : Nat) (a0 : Int) (l1 : List Int) (a2 : Int) : Option (Int) := poly_Eval.l0 k a0 l1 a2 0 (l1.length : Int) 0
def poly_Eval.T5 : Bool × List (List Nat × List Nat) := (true, [([], []), ([], []), ([], []), ([], []), ([1, 2, 3], [1, 2, 3]), ([], []), ([], []), ([6], [6]), ([7], [7]), ([], []), ([8, 9], [8, 9]), ([5, 10], [5, 10]), ([11], [11]), ([0, 4, 12, 4], [0, 4, 12]), ([13, 13, 0, 1, 2, 3, 4, 5, 6, 7, 8, 9, 10, 11, 12, 13], [2, 13])])
def poly_Eval.B5 : List Nat := [0, 0, 0, 0, 14, 0, 0, 64, 192, 0, 960, 2016, 4064, 8191, 16383]
theorem poly_Eval.tab5 : rtab .any (opsOf Tryd.f25 5) = poly_Eval.T5 := by kernel_rfl
theorem poly_Eval.bits5 : waitsOk poly_Eval.T5.2 poly_Eval.B5 = true := by kernel_rfl
set_option maxHeartbeats 8000000 in
set_option maxRecDepth 100000 in
theorem poly_Eval.calls (k : Nat) (a0 : Int) (A1 : Option Addr) (c1 : Nat) (l1 : List Int) (a2 : Int) (r : Int) (w : World) (hG : Fld w) (hr1 : Kd.C (Kd.int .u64) w A1 l1.length l1) (hc1 : l1.length ≤ c1) (h : poly_Eval.f k a0 l1 a2 = some r) :
  Calls Tryd.prog 25 #[.int .i64 a0, .slice A1 l1.length c1, .int .u64 a2] w fun e w' => e = .returned (.int .u64 r) ∧ Below w.heap.size w w' := by
 have HG := ak hG
 clear hG
 have HR1 := ak hr1
 have HC1 := ak hc1
 clear hr1 hc1
 have HB := ak (Below.refl w.heap.size w)
 have H : (poly_Eval.l0 k a0 l1 a2 0 (l1.length : Int) 0) = some r := h
 clear h
 have H' := ak H
 clear H
 go_enter Tryd.func25, Tryd.ntmps25
 go_wp2
 go_loopg [7, 11] k (fun kq v7 v11 w' => ∃ (x7_1 : Int) (x11_1 : Int), v7 = .int .u64 x7_1 ∧ v11 = .int .i64 x11_1 ∧ Aside0 (poly_Eval.l0 kq a0 l1 a2 x7_1 (l1.length : Int) x11_1 = some r) ∧ Aside0 (kq ≤ k) ∧ Aside0 (Below w.heap.size w w'))
 case atStart => exact ⟨(0), (0), gb_, gb_, H', ⟨Nat.le_refl _⟩, ⟨bU_ HB.out⟩⟩
 case round =>
  clear H'
  (try clear c1); (try clear c2); (try clear p2)
  obtain ⟨x7_1, x11_1, rfl, rfl, HA, HK1, HB⟩ := hrel
  cases gk with
  | zero => exact absurd HA.out (by simp [poly_Eval.l0])
  | succ k1 =>
   have H := HA.out
   clear HA
   simp only [poly_Eval.l0] at H
   by_cases c4 : x11_1 < (l1.length : Int)
   ·rw [if_pos c4] at H
    have c4b0 := decide_eq_true c4
    clear c4
    revert H
    refine bd_ fun t671 A5 H => ?_
    obtain ⟨ji6, hji6⟩ : ∃ j_ : Int, (wrap64 ((wrap64 ((l1.length : Int) - 1)) - x11_1)) = j_ := ⟨_, rfl⟩
    first | rw [hji6] at H | simp only [hji6] at H
    (try rw [hji6] at A5)
    have hji6w : (IntKind.i64.wrap ((wrap64 ((l1.length : Int) - 1)) - x11_1)) = ji6 := (i64_w _).trans hji6
    obtain ⟨c7, H⟩ : (0 ≤ (ji6)) ∧ _ := it_ H
    have c7b0 := decide_eq_true c7
    clear c7
    obtain ⟨c8, H⟩ : ((ji6) < (l1.length : Int)) ∧ _ := it_ H
    have c8b0 := decide_eq_true c8
    clear c8
    revert H
    refine bd_ fun t673 A9 H => ?_
    have H' := ak H
    clear H
    try go_wp2
    refine nx1_ (below_drew1 HB.out) ?_
    clear HB
    intro HB
    have p672 : 0 ≤ ((ji6) : Int) := od_
    have q672 : (ji6) < (l1.length : Int) := od_
    obtain ⟨ad672, e672, hx672_0⟩ := Kd.at_int HR1.out (ji6) p672 q672
    have hw672_0 := hx672_0
    cases e672
    replace hx672_0 := (HB.out.cell (World.block_lt_of_cell? w _ hx672_0)).trans hx672_0
    replace p672 := eq_true p672
    replace q672 := eq_true q672
    refine start_ (n := 15) (S := fun w' => w'.cell? (ad672.add ((ji6)).toNat) = some (.int .u64 (rd l1 (ji6)))) (ds := []) (bv 15 0) (by kernel_rfl) rfl rfl (((HB.out.cell (World.block_lt_of_cell? w _ hw672_0)).trans hw672_0)) (fun hHeld => ?_); refine with_tabW poly_Eval.tab5 poly_Eval.bits5 (fun HT_ HW_ => ?_)
    generalize wr.drew = w10 at HB hx672_0 hHeld ⊢
    refine pr_ (i := 0) (N := some 14) (v := ?_) (a' := ?_) (bv 15 1) HT_.out ?_ ?_ ?_; rotate_left 2; (intro w'; go_simp; with_reducible rfl); (simp only [Act.put, s1_, s2_, s3_, i64_w, i32_w]; rfl)
    refine pr_ (i := 1) (N := some 15) (v := ?_) (a' := ?_) (bv 15 3) HT_.out ?_ ?_ ?_; rotate_left 2; (intro w'; go_simp; with_reducible rfl); (simp only [Act.put, s1_, s2_, s3_, i64_w, i32_w]; rfl)
    refine pr_ (i := 2) (N := some 16) (v := ?_) (a' := ?_) (bv 15 7) HT_.out ?_ ?_ ?_; rotate_left 2; (intro w'; go_simp; with_reducible rfl); (simp only [Act.put, s1_, s2_, s3_, i64_w, i32_w]; rfl)
    refine pr_ (i := 3) (N := some 17) (v := ?_) (a' := ?_) (bv 15 15) HT_.out ?_ ?_ ?_; rotate_left 2; (intro w'; go_simp; with_reducible rfl); (simp only [Act.put, s1_, s2_, s3_, i64_w, i32_w]; rfl)
    refine pr_ (i := 5) (N := some 19) (v := ?_) (a' := ?_) (bv 15 47) HT_.out ?_ ?_ ?_; rotate_left 2; (intro w'; go_simp; with_reducible rfl); (simp only [Act.put, s1_, s2_, s3_, i64_w, i32_w]; rfl)
    refine pr_ (i := 6) (N := some 20) (v := ?_) (a' := ?_) (bv 15 111) HT_.out ?_ ?_ ?_; rotate_left 2; (intro w'; go_simp; with_reducible rfl); (simp only [Act.put, s1_, s2_, s3_, i64_w, i32_w]; rfl)
    refine pr_ (i := 7) (N := some 21) (v := ?_) (a' := ?_) (bv 15 239) HT_.out ?_ ?_ ?_; rotate_left 2; (intro w'; go_simp; with_reducible rfl); (simp only [Act.put, s1_, s2_, s3_, i64_w, i32_w]; rfl)
    refine pr_ (i := 8) (N := some 22) (v := ?_) (a' := ?_) (bv 15 495) HT_.out ?_ ?_ ?_; rotate_left 2; (intro w'; go_simp; with_reducible rfl); (simp only [Act.put, s1_, s2_, s3_, i64_w, i32_w]; rfl)
    refine pr_ (i := 9) (N := some 23) (v := ?_) (a' := ?_) (bv 15 1007) HT_.out ?_ ?_ ?_; rotate_left 2; (intro w'; go_simp; with_reducible rfl); (simp only [Act.put, s1_, s2_, s3_, i64_w, i32_w]; rfl)
    refine pr_ (i := 10) (N := some 24) (v := ?_) (a' := ?_) (bv 15 2031) HT_.out ?_ ?_ ?_; rotate_left 2; (intro w'; go_simp; with_reducible rfl); (simp only [Act.put, s1_, s2_, s3_, i64_w, i32_w]; rfl)
    refine pr_ (i := 11) (N := some 25) (v := ?_) (a' := ?_) (bv 15 4079) HT_.out ?_ ?_ ?_; rotate_left 2; (intro w'; go_simp; with_reducible rfl); (simp only [Act.put, s1_, s2_, s3_, i64_w, i32_w]; rfl)
    refine take_ (i := 12) (N := some 26) (v := ?_) (a' := ?_) (bv 15 8175) rfl rfl (take_ofW HT_.out HW_.out (by kernel_rfl)) (fun _ _ _ h => h) (Or.inl ⟨by rfl, ?_⟩) hHeld ?_ ?_
    rotate_left
    ·intro w' s0
     go_simp
     with_reducible rfl
    rotate_left
    ·simp only [Act.put, s1_, s2_, s3_, i64_w, i32_w]
     rfl
    refine one_ (i := 4) (N := some 18) (bv 15 8191) rfl rfl (one_of HT_.out (by kernel_rfl)) (by decide) (fun K hK => ?_)
    refine goes_ Tryd.func26 (by kernel_rfl) rfl #[.int .i64 a0, .int .u64 x7_1, .int .u64 a2] (by rfl) rfl rfl ga_ ?_
    with_reducible refine (field_Mul.calls a0 x7_1 a2 t671 _ ?side1 A5.out).mono ?_
    (case side1 => exact fU_ HG.out HB.out)
    rintro e w11 ⟨rfl, hb⟩
    refine ⟨_, rfl, ?_⟩
    refine nx1_ (below_step (bU_ HB.out) hb) ?_
    clear HB
    intro HB
    (try clear hb)
    (try clear hb2)
    (try clear hk)
    (try clear hi)
    refine hK.out _ _ (((HB.out.cell (World.block_lt_of_cell? w _ hw672_0)).trans hw672_0)) (fun hHeld => ?_)
    clear hK K
    refine norm_ (a' := ?_) ?_ ?_
    rotate_left
    ·show Act.put _ (some 18) _ = _
     simp only [Act.put, s1_, s2_, s3_, i64_w, i32_w]
     rfl
    refine one_ (i := 13) (N := some 27) (bv 15 16383) rfl rfl (one_of HT_.out (by kernel_rfl)) (by decide) (fun K hK => ?_)
    refine goes_ Tryd.func33 (by kernel_rfl) rfl #[.int .i64 a0, .int .u64 t671, .int .u64 (rd l1 (ji6))] (by rfl) rfl rfl (by (try simp only [List.map_toArray, List.map_cons, List.map_nil]); first | done | (simp only [hji6]; rfl) | rfl | (simp only [List.length_drop, List.length_take]; rfl)) ?_
    with_reducible refine (field_Add.calls a0 t671 (rd l1 (ji6)) t673 _ ?side1 A9.out).mono ?_
    (case side1 => exact fU_ HG.out HB.out)
    rintro e w12 ⟨rfl, hb⟩
    refine ⟨_, rfl, ?_⟩
    refine nx1_ (below_step (bU_ HB.out) hb) ?_
    clear HB
    intro HB
    (try clear hb)
    (try clear hb2)
    (try clear hk)
    (try clear hi)
    refine hK.out _ _ (((HB.out.cell (World.block_lt_of_cell? w _ hw672_0)).trans hw672_0)) (fun hHeld => ?_)
    clear hK K
    refine norm_ (a' := ?_) ?_ ?_
    rotate_left
    ·show Act.put _ (some 27) _ = _
     simp only [Act.put, s1_, s2_, s3_, i64_w, i32_w]
     rfl
    refine pr_ (i := 14) (N := some 7) (v := ?_) (a' := ?_) (bv 15 32767) HT_.out ?_ ?_ ?_; rotate_left 2; (intro w'; go_simp; with_reducible rfl); (simp only [Act.put, s1_, s2_, s3_, i64_w, i32_w]; rfl)
    refine done_ (done_of HT_.out (by kernel_rfl)) ?_
    try go_wp2
    go_roundg k1
    case measure => have := HK1.out; omega
    case rel => exact ⟨(t673), (wrap64 (x11_1 + 1)), gb_, gb_, H', ⟨by have := HK1.out; omega⟩, ⟨bU_ HB.out⟩⟩
   ·rw [if_neg c4] at H
    have c4b0 := decide_eq_false c4
    clear c4
    obtain rfl := Option.some.inj H
    go_wp2
    go_ret
    exact ⟨by first | rfl | (simp [errW_none, errW_some] <;> rfl) | (simp [*, errW_none, errW_some] <;> rfl), bU_ HB.out⟩

/-! ### attestorlaw04_TransformMeans: function 8 -/
mutual
def attestorlaw04_TransformMeans.j0 : Nat → Int → Int → Int → Int → List Int → List Int → Option (Bool)
 | 0, _, _, _, _, _, _ => none
 | k + 1, x4, x11, x12, x13, x14, x15 => if (x15.length : Int) = 0 then (none) else (if 0 ≤ (Int.tmod (wrap64 (x4)) (x15.length : Int)) then (if (Int.tmod (wrap64 (x4)) (x15.length : Int)) < (x15.length : Int) then ((field_Root.f k x11 x12).bind fun t685 => ((field_Pow.f k x11 t685 (IntKind.u64.wrap (Int.tmod (wrap64 (x4)) (x15.length : Int)))).bind fun t686 => ((field_Mul.f x11 x13 t686).bind fun t687 => ((poly_Eval.f k x11 x14 t687).bind fun t688 => (if (rd x15 (Int.tmod (wrap64 (x4)) (x15.length : Int))) = t688 then (attestorlaw04_TransformMeans.j1 k x4 x11 x12 x14) else (none)))))) else (none)) else (none))
def attestorlaw04_TransformMeans.j1 : Nat → Int → Int → Int → List Int → Option (Bool)
 | 0, _, _, _, _ => none
 | k + 1, x4, x11, x12, x14 => if x12 < 5 then (attestorlaw04_TransformMeans.j2 k x4 x11 x12 x14 (mn 2 (wrap64 (5 - x12)))) else (attestorlaw04_TransformMeans.j2 k x4 x11 x12 x14 0)
def attestorlaw04_TransformMeans.j2 : Nat → Int → Int → Int → List Int → Int → Option (Bool)
 | 0, _, _, _, _, _ => none
 | k + 1, x4, x11, x12, x14, x18 => (transform_Coefficients.f k x11 1 x14).bind fun bt689 => ((transform_Widen.f k x11 x14 x18).bind fun bt693 => (if bt689.2 = 0 then (if bt693.2 = 0 then (if 0 ≤ (IntKind.u64.wrap (x18)) then (if (bt693.1.length : Int) = (shl .i64 (x14.length : Int) (IntKind.u64.wrap (x18))) then (attestorlaw04_TransformMeans.j3 k x4 x11 x12 x18 bt689.1 bt693.1) else (none)) else (none)) else (none)) else (none)))
def attestorlaw04_TransformMeans.j3 : Nat → Int → Int → Int → Int → List Int → List Int → Option (Bool)
 | 0, _, _, _, _, _, _ => none
 | k + 1, x4, x11, x12, x18, x19, x20 => if (x20.length : Int) = 0 then (none) else (if 0 ≤ (Int.tmod (wrap64 (x4)) (x20.length : Int)) then (if (Int.tmod (wrap64 (x4)) (x20.length : Int)) < (x20.length : Int) then ((field_Generator.f x11).bind fun t698 => ((field_Root.f k x11 (wrap64 (x12 + x18))).bind fun t699 => ((field_Pow.f k x11 t699 (IntKind.u64.wrap (Int.tmod (wrap64 (x4)) (x20.length : Int)))).bind fun t700 => ((field_Mul.f x11 t698 t700).bind fun t701 => ((poly_Eval.f k x11 x19 t701).bind fun t702 => (if (rd x20 (Int.tmod (wrap64 (x4)) (x20.length : Int))) = t702 then ((attestorlaw04_works.f k).bind fun t703 => (some t703)) else (none))))))) else (none)) else (none))
end
def attestorlaw04_TransformMeans.f (k : Nat) (a0 : Int) (a1 : Int) (a2 : Int) (l3 : List Int) (a4 : Int) : Option (Bool) := (attestorlaw04_sized.f a0 a1 a2 l3).bind fun bt674 => ((transform_Values.f k bt674.1 bt674.2.1 bt674.2.2.1 bt674.2.2.2).bind fun bt680 => (if bt680.2 = 0 then (if (bt680.1.length : Int) = (bt674.2.2.2.length : Int) then (attestorlaw04_TransformMeans.j0 k a4 bt674.1 bt674.2.1 bt674.2.2.1 bt674.2.2.2 bt680.1) else (none)) else (none)))
def attestorlaw04_TransformMeans.T6 : Bool × List (List Nat × List Nat) := (true, [([], []), ([], []), ([0, 1], [0, 1]), ([2], [2]), ([], []), ([], []), ([], []), ([], []), ([], []), ([], []), ([], []), ([9, 10], [9, 10]), ([], []), ([12], [12]), ([8, 11, 13, 11], [8, 11, 13]), ([6, 7, 14, 14], [6, 7, 14]), ([4, 5, 15, 15], [4, 5, 15]), ([3, 16], [3, 16])])
def attestorlaw04_TransformMeans.B6 : List Nat := [0, 0, 3, 7, 0, 0, 0, 0, 0, 0, 0, 1536, 0, 4096, 16128, 32704, 65520, 131071]
theorem attestorlaw04_TransformMeans.tab6 : rtab .any (opsOf Tryd.f8 6) = attestorlaw04_TransformMeans.T6 := by kernel_rfl
theorem attestorlaw04_TransformMeans.bits6 : waitsOk attestorlaw04_TransformMeans.T6.2 attestorlaw04_TransformMeans.B6 = true := by kernel_rfl
def attestorlaw04_TransformMeans.T16 : Bool × List (List Nat × List Nat) := (true, [([], []), ([], []), ([0, 1], [0, 1]), ([2], [2]), ([], []), ([], []), ([], []), ([], []), ([7], [7]), ([], []), ([], []), ([], []), ([], []), ([11, 12], [11, 12]), ([10, 13, 8], [10, 13]), ([], []), ([15], [15]), ([9, 14, 16, 14], [9, 14, 16]), ([6, 8, 17, 17], [6, 8, 17]), ([4, 5, 18, 18], [4, 5, 18]), ([3, 19], [3, 19]), ([20, 19], [20]), ([21, 21], [21]), ([21, 22], [21, 22]), ([23, 22, 0, 1, 2, 3, 4, 5, 6, 7, 8, 9, 10, 11, 12, 13, 14, 15, 16, 17, 18, 19, 20, 21, 22, 23], [23])])
def attestorlaw04_TransformMeans.B16 : List Nat := [0, 0, 3, 7, 0, 0, 0, 0, 128, 0, 0, 0, 0, 6144, 15744, 0, 32768, 130944, 262080, 524272, 1048575, 2097151, 4194303, 8388607, 16777215]
theorem attestorlaw04_TransformMeans.tab16 : rtab .any (opsOf Tryd.f8 16) = attestorlaw04_TransformMeans.T16 := by kernel_rfl
theorem attestorlaw04_TransformMeans.bits16 : waitsOk attestorlaw04_TransformMeans.T16.2 attestorlaw04_TransformMeans.B16 = true := by kernel_rfl
set_option maxHeartbeats 8000000 in
set_option maxRecDepth 100000 in
theorem attestorlaw04_TransformMeans.calls (k : Nat) (a0 : Int) (a1 : Int) (a2 : Int) (A3 : Option Addr) (c3 : Nat) (l3 : List Int) (a4 : Int) (r : Bool) (w : World) (hG : Fld w) (hr3 : Kd.C (Kd.int .u64) w A3 l3.length l3) (hc3 : l3.length ≤ c3) (h : attestorlaw04_TransformMeans.f k a0 a1 a2 l3 a4 = some r) :
  Calls Tryd.prog 8 #[.int .u8 a0, .int .u8 a1, .int .u64 a2, .slice A3 l3.length c3, .int .u16 a4] w fun e w' => e = .returned (.bool r) ∧ Below w.heap.size w w' := by
 have HG := ak hG
 clear hG
 have HR3 := ak hr3
 have HC3 := ak hc3
 clear hr3 hc3
 have HB := ak (Below.refl w.heap.size w)
 have H : ((attestorlaw04_sized.f a0 a1 a2 l3).bind fun bt674 => ((transform_Values.f k bt674.1 bt674.2.1 bt674.2.2.1 bt674.2.2.2).bind fun bt680 => (if bt680.2 = 0 then (if (bt680.1.length : Int) = (bt674.2.2.2.length : Int) then (attestorlaw04_TransformMeans.j0 k a4 bt674.1 bt674.2.1 bt674.2.2.1 bt674.2.2.2 bt680.1) else (none)) else (none)))) = some r := h
 clear h
 revert H
 refine bd4_ fun t674 t675 t676 t677 A6 H => ?_
 try dsimp only at H
 revert H
 refine bd2_ fun t680 t681 A7 H => ?_
 try dsimp only at H
 obtain ⟨c8, H⟩ : (t681 = 0) ∧ _ := it_ H
 have c8b0 := beq_iff_eq.mpr c8
 have c8b1 := bne_eq_false_iff_eq.mpr c8
 clear c8
 have HC9 := ak H
 clear H
 go_enter Tryd.func8, Tryd.ntmps8
 go_upto_if 49 with (first | ((with_reducible refine gate_callee (f := 22) rfl ?_); refine gl_ (some 28) Tryd.func22 #[.int .u8 a0, .int .u8 a1, .int .u64 a2, .slice A3 l3.length c3] ?_; (with_reducible refine (attestorlaw04_sized.calls a0 a1 a2 _ _ l3 t674 t675 t676 t677 _ ?side1 ?side2 ?side3 A6.out).mono ?_); (case side1 => exact fU_ HG.out HB.out); (case side2 => exact cU_ HR3.out); (case side3 => exact HC3.out); rintro e w10 ⟨v678, rfl, ho0, hb⟩; refine ⟨_, rfl, ?_⟩; refine nx2_ (Kd.R_lower ho0 (below_size (bU_ HB.out))) (below_step (bU_ HB.out) hb) ?_; clear HB; intro HO679 HB; clear hb ho0; obtain ⟨Ao11, co11, eo11⟩ := Kd.R_slice HO679.out; subst eo11) | ((with_reducible refine gate_callee (f := 12) rfl ?_); refine gl_ (some 38) Tryd.func12 #[.int .i64 t674, .int .i64 t675, .int .u64 t676, .slice Ao11 t677.length co11] ?_; (with_reducible refine (transform_Values.calls k t674 t675 t676 _ _ t677 t680 t681 _ ?side1 ?side2 ?side3 A7.out).mono ?_); (case side1 => exact fU_ HG.out HB.out); (case side2 => exact cU_ ((Kd.R_reads' HO679.out).2.2)); (case side3 => exact (Kd.R_reads' HO679.out).2.1); rintro e w12 ⟨v682, rfl, ho0, hb⟩; refine ⟨_, rfl, ?_⟩; refine nx3_ (Kd.R_elder' (rU_ HO679.out) (Kd.R_base ho0) hb) (Kd.R_lower (Kd.R_new' ho0 (Kd.R_lt (rU_ HO679.out))) (below_size (bU_ HB.out))) (below_step (bU_ HB.out) hb) ?_; clear HO679 HB; intro HO679 HO683 HB; clear hb ho0; obtain ⟨Ao13, co13, eo13⟩ := Kd.R_slice HO683.out; subst eo13))
 (try simp only [Act.put, s1_, s2_, s3_])
 go_cut [] (fun wc => ∃ (kq : Nat), Aside0 (attestorlaw04_TransformMeans.j0 kq a4 t674 t675 t676 t677 t680 = some r) ∧ Aside0 (kq ≤ k) ∧ Aside0 (Kd.R (Kd.int .u64) 22 wc w.heap.size (fun k_ => some k_ ≠ ((.slice Ao13 t680.length co13) : Value).ownBlock) (.slice Ao11 t677.length co11) t677) ∧ Aside0 (Kd.R (Kd.int .u64) 22 wc w.heap.size (fun k_ => some k_ ≠ ((.slice Ao11 t677.length co11) : Value).ownBlock) (.slice Ao13 t680.length co13) t680) ∧ Aside0 (Below w.heap.size w wc))
 case first =>
  have H := HC9.out
  clear HC9
  obtain ⟨c14, H⟩ : ((t680.length : Int) = (t677.length : Int)) ∧ _ := it_ H
  have c14b0 := beq_iff_eq.mpr c14
  have c14b1 := bne_eq_false_iff_eq.mpr c14
  have c14b2 : (t680.length == t677.length) = true := by first | simpa using c14 | (simp at c14 ⊢; omega)
  clear c14
  (first | rw [c14b0] | (simp only [i64_w, i32_w]; rw [c14b0]) | rw [c14b1] | skip)
  have H' := ak H
  clear H
  go_wp2
  go_meet
  case rel => exact ⟨_, H', ⟨by first | omega | exact Nat.le_refl _⟩, ⟨Kd.R_mono (rU_ HO679.out) (fun _ hk => hk.2)⟩, ⟨Kd.R_mono (rU_ HO683.out) (fun _ hk => hk.2)⟩, ⟨bU_ HB.out⟩⟩
 case rest =>
  clear HC9
  (try clear c1); (try clear c2); (try clear p2); (try clear c3); (try clear c8); (try clear c8b0); (try clear c8b1); (try clear c12); (try clear c14); (try clear c14b0); (try clear c14b1); (try clear c14b2)
  obtain ⟨kq, HA, HJ8, HO_14, HO_15, HB⟩ := hcut
  cases kq with
  | zero => exact absurd HA.out (by simp [attestorlaw04_TransformMeans.j0])
  | succ kj8 =>
   have H := HA.out
   clear HA
   simp only [attestorlaw04_TransformMeans.j0] at H
   by_cases c15 : (t680.length : Int) = 0
   ·rw [if_pos c15] at H
    exact absurd H (by simp)
   ·rw [if_neg c15] at H
    have c15b0 := beq_eq_false_iff_ne.mpr c15
    have c15b1 := bne_iff_ne.mpr c15
    have c15b2 : ¬ (t680 = []) := fun h_ => c15 (by rw [h_]; rfl)
    obtain ⟨ji16, hji16⟩ : ∃ j_ : Int, (Int.tmod (wrap64 (a4)) (t680.length : Int)) = j_ := ⟨_, rfl⟩
    first | rw [hji16] at H | simp only [hji16] at H
    obtain ⟨c17, H⟩ : (0 ≤ (ji16)) ∧ _ := it_ H
    have c17b0 := decide_eq_true c17
    clear c17
    obtain ⟨c18, H⟩ : ((ji16) < (t680.length : Int)) ∧ _ := it_ H
    have c18b0 := decide_eq_true c18
    clear c18
    revert H
    refine bd_ fun t685 A19 H => ?_
    revert H
    refine bd_ fun t686 A20 H => ?_
    revert H
    refine bd_ fun t687 A21 H => ?_
    revert H
    refine bd_ fun t688 A22 H => ?_
    have HC23 := ak H
    clear H
    try go_wp2
    refine nx3_ (Kd.R_drew HO_14.out) (Kd.R_drew HO_15.out) (below_drew1 HB.out) ?_
    clear HO_14 HO_15 HB
    intro HO_14 HO_15 HB
    have p684 : 0 ≤ ((ji16) : Int) := od_
    have q684 : (ji16) < (t680.length : Int) := od_
    obtain ⟨ad684, e684, hx684_0⟩ := Kd.at_int (Kd.R_reads' HO_15.out).2.2 (ji16) p684 q684
    cases e684
    replace p684 := eq_true p684
    replace q684 := eq_true q684
    refine start_ (n := 18) (S := fun w' => w'.cell? (ad684.add ((ji16)).toNat) = some (.int .u64 (rd t680 (ji16)))) (ds := []) (bv 18 0) (by kernel_rfl) rfl rfl (hx684_0) (fun hHeld => ?_); refine with_tabW attestorlaw04_TransformMeans.tab6 attestorlaw04_TransformMeans.bits6 (fun HT_ HW_ => ?_)
    generalize wc.drew = w24 at HO_14 HO_15 HB hx684_0 hHeld ⊢
    refine pr_ (i := 0) (N := some 55) (v := ?_) (a' := ?_) (bv 18 1) HT_.out ?_ ?_ ?_; rotate_left 2; (intro w'; go_simp; with_reducible rfl); (simp only [Act.put, s1_, s2_, s3_, i64_w, i32_w]; rfl)
    refine pr_ (i := 1) (N := some 56) (v := ?_) (a' := ?_) (bv 18 3) HT_.out ?_ ?_ ?_; rotate_left 2; (intro w'; go_simp; with_reducible rfl); (simp only [Act.put, s1_, s2_, s3_, i64_w, i32_w]; rfl)
    refine pr_ (i := 2) (N := some 57) (v := ?_) (a' := ?_) (bv 18 7) HT_.out ?_ ?_ ?_; rotate_left 2; (intro w'; go_simp; with_reducible rfl); (simp only [Act.put, s1_, s2_, s3_, i64_w, i32_w]; rfl)
    refine pr_ (i := 4) (N := some 59) (v := ?_) (a' := ?_) (bv 18 23) HT_.out ?_ ?_ ?_; rotate_left 2; (intro w'; go_simp; with_reducible rfl); (simp only [Act.put, s1_, s2_, s3_, i64_w, i32_w]; rfl)
    refine pr_ (i := 5) (N := some 60) (v := ?_) (a' := ?_) (bv 18 55) HT_.out ?_ ?_ ?_; rotate_left 2; (intro w'; go_simp; with_reducible rfl); (simp only [Act.put, s1_, s2_, s3_, i64_w, i32_w]; rfl)
    refine pr_ (i := 6) (N := some 61) (v := ?_) (a' := ?_) (bv 18 119) HT_.out ?_ ?_ ?_; rotate_left 2; (intro w'; go_simp; with_reducible rfl); (simp only [Act.put, s1_, s2_, s3_, i64_w, i32_w]; rfl)
    refine pr_ (i := 7) (N := some 62) (v := ?_) (a' := ?_) (bv 18 247) HT_.out ?_ ?_ ?_; rotate_left 2; (intro w'; go_simp; with_reducible rfl); (simp only [Act.put, s1_, s2_, s3_, i64_w, i32_w]; rfl)
    refine pr_ (i := 8) (N := some 63) (v := ?_) (a' := ?_) (bv 18 503) HT_.out ?_ ?_ ?_; rotate_left 2; (intro w'; go_simp; with_reducible rfl); (simp only [Act.put, s1_, s2_, s3_, i64_w, i32_w]; rfl)
    refine pr_ (i := 9) (N := some 64) (v := ?_) (a' := ?_) (bv 18 1015) HT_.out ?_ ?_ ?_; rotate_left 2; (intro w'; go_simp; with_reducible rfl); (simp only [Act.put, s1_, s2_, s3_, i64_w, i32_w]; rfl)
    refine pr_ (i := 10) (N := some 65) (v := ?_) (a' := ?_) (bv 18 2039) HT_.out ?_ ?_ ?_; rotate_left 2; (intro w'; go_simp; with_reducible rfl); (simp only [Act.put, s1_, s2_, s3_, i64_w, i32_w]; rfl)
    refine pr_ (i := 12) (N := some 67) (v := ?_) (a' := ?_) (bv 18 6135) HT_.out ?_ ?_ ?_; rotate_left 2; (intro w'; go_simp; with_reducible rfl); (simp only [Act.put, s1_, s2_, s3_, i64_w, i32_w]; rfl)
    refine pr_ (i := 13) (N := some 68) (v := ?_) (a' := ?_) (bv 18 14327) HT_.out ?_ ?_ ?_; rotate_left 2; (intro w'; go_simp; with_reducible rfl); (simp only [Act.put, s1_, s2_, s3_, i64_w, i32_w]; rfl)
    refine take_ (i := 3) (N := some 58) (v := ?_) (a' := ?_) (bv 18 14335) rfl rfl (take_ofW HT_.out HW_.out (by kernel_rfl)) (fun _ _ _ h => h) (Or.inl ⟨by rfl, ?_⟩) hHeld ?_ ?_
    rotate_left
    ·intro w' s0
     go_simp
     with_reducible rfl
    rotate_left
    ·simp only [Act.put, s1_, s2_, s3_, i64_w, i32_w]
     rfl
    refine one_ (i := 11) (N := some 66) (bv 18 16383) rfl rfl (one_of HT_.out (by kernel_rfl)) (by decide) (fun K hK => ?_)
    refine goes_ Tryd.func28 (by kernel_rfl) rfl #[.int .i64 t674, .int .i64 t675] (by rfl) rfl rfl ga_ ?_
    with_reducible refine (field_Root.calls kj8 t674 t675 t685 _ ?side1 A19.out).mono ?_
    (case side1 => exact fU_ HG.out HB.out)
    rintro e w25 ⟨rfl, hb⟩
    have HS0_ := (hb.cell (World.block_lt_of_cell? _ _ (hHeld))).trans (hHeld)
    refine ⟨_, rfl, ?_⟩
    refine nx3_ (Kd.R_below (rU_ HO_14.out) hb) (Kd.R_below (rU_ HO_15.out) hb) (below_step (bU_ HB.out) hb) ?_
    clear HO_14 HO_15 HB
    intro HO_14 HO_15 HB
    (try clear hb)
    (try clear hb2)
    (try clear hk)
    (try clear hi)
    refine hK.out _ _ (HS0_) (fun hHeld => ?_)
    clear hK K
    refine norm_ (a' := ?_) ?_ ?_
    rotate_left
    ·show Act.put _ (some 66) _ = _
     simp only [Act.put, s1_, s2_, s3_, i64_w, i32_w]
     rfl
    refine one_ (i := 14) (N := some 69) (bv 18 32767) rfl rfl (one_of HT_.out (by kernel_rfl)) (by decide) (fun K hK => ?_)
    refine goes_ Tryd.func27 (by kernel_rfl) rfl #[.int .i64 t674, .int .u64 t685, .int .u64 (IntKind.u64.wrap (ji16))] (by rfl) rfl rfl (by (try simp only [List.map_toArray, List.map_cons, List.map_nil]); first | done | (simp only [hji16]; rfl) | rfl | (simp only [List.length_drop, List.length_take]; rfl)) ?_
    with_reducible refine (field_Pow.calls kj8 t674 t685 (IntKind.u64.wrap (ji16)) t686 _ ?side1 A20.out).mono ?_
    (case side1 => exact fU_ HG.out HB.out)
    rintro e w26 ⟨rfl, hb⟩
    have HS0_ := (hb.cell (World.block_lt_of_cell? _ _ (hHeld))).trans (hHeld)
    refine ⟨_, rfl, ?_⟩
    refine nx3_ (Kd.R_below (rU_ HO_14.out) hb) (Kd.R_below (rU_ HO_15.out) hb) (below_step (bU_ HB.out) hb) ?_
    clear HO_14 HO_15 HB
    intro HO_14 HO_15 HB
    (try clear hb)
    (try clear hb2)
    (try clear hk)
    (try clear hi)
    refine hK.out _ _ (HS0_) (fun hHeld => ?_)
    clear hK K
    refine norm_ (a' := ?_) ?_ ?_
    rotate_left
    ·show Act.put _ (some 69) _ = _
     simp only [Act.put, s1_, s2_, s3_, i64_w, i32_w]
     rfl
    refine one_ (i := 15) (N := some 70) (bv 18 65535) rfl rfl (one_of HT_.out (by kernel_rfl)) (by decide) (fun K hK => ?_)
    refine goes_ Tryd.func26 (by kernel_rfl) rfl #[.int .i64 t674, .int .u64 t676, .int .u64 t686] (by rfl) rfl rfl ga_ ?_
    with_reducible refine (field_Mul.calls t674 t676 t686 t687 _ ?side1 A21.out).mono ?_
    (case side1 => exact fU_ HG.out HB.out)
    rintro e w27 ⟨rfl, hb⟩
    have HS0_ := (hb.cell (World.block_lt_of_cell? _ _ (hHeld))).trans (hHeld)
    refine ⟨_, rfl, ?_⟩
    refine nx3_ (Kd.R_below (rU_ HO_14.out) hb) (Kd.R_below (rU_ HO_15.out) hb) (below_step (bU_ HB.out) hb) ?_
    clear HO_14 HO_15 HB
    intro HO_14 HO_15 HB
    (try clear hb)
    (try clear hb2)
    (try clear hk)
    (try clear hi)
    refine hK.out _ _ (HS0_) (fun hHeld => ?_)
    clear hK K
    refine norm_ (a' := ?_) ?_ ?_
    rotate_left
    ·show Act.put _ (some 70) _ = _
     simp only [Act.put, s1_, s2_, s3_, i64_w, i32_w]
     rfl
    refine one_ (i := 16) (N := some 71) (bv 18 131071) rfl rfl (one_of HT_.out (by kernel_rfl)) (by decide) (fun K hK => ?_)
    refine goes_ Tryd.func25 (by kernel_rfl) rfl #[.int .i64 t674, .slice Ao11 t677.length co11, .int .u64 t687] (by rfl) rfl rfl ga_ ?_
    with_reducible refine (poly_Eval.calls kj8 t674 _ _ t677 t687 t688 _ ?side1 ?side2 ?side3 A22.out).mono ?_
    (case side1 => exact fU_ HG.out HB.out)
    (case side2 => exact cU_ ((Kd.R_reads' HO_14.out).2.2))
    (case side3 => exact (Kd.R_reads' HO_14.out).2.1)
    rintro e w28 ⟨rfl, hb⟩
    have HS0_ := (hb.cell (World.block_lt_of_cell? _ _ (hHeld))).trans (hHeld)
    refine ⟨_, rfl, ?_⟩
    refine nx3_ (Kd.R_below (rU_ HO_14.out) hb) (Kd.R_below (rU_ HO_15.out) hb) (below_step (bU_ HB.out) hb) ?_
    clear HO_14 HO_15 HB
    intro HO_14 HO_15 HB
    (try clear hb)
    (try clear hb2)
    (try clear hk)
    (try clear hi)
    refine hK.out _ _ (HS0_) (fun hHeld => ?_)
    clear hK K
    refine norm_ (a' := ?_) ?_ ?_
    rotate_left
    ·show Act.put _ (some 71) _ = _
     simp only [Act.put, s1_, s2_, s3_, i64_w, i32_w]
     rfl
    refine pr_ (i := 17) (N := some 72) (v := ?_) (a' := ?_) (bv 18 262143) HT_.out ?_ ?_ ?_; rotate_left 2; (intro w'; go_simp; with_reducible rfl); (simp only [Act.put, s1_, s2_, s3_, i64_w, i32_w]; rfl)
    refine done_ (done_of HT_.out (by kernel_rfl)) ?_
    go_upto_if 72 with (fail)
    go_cut [] (fun wc => ∃ (kq : Nat), Aside0 (attestorlaw04_TransformMeans.j1 kq a4 t674 t675 t677 = some r) ∧ Aside0 (kq ≤ kj8) ∧ Aside0 (Kd.R (Kd.int .u64) 22 wc w.heap.size (fun _ => True) (.slice Ao11 t677.length co11) t677) ∧ Aside0 (Below w.heap.size w wc))
    case first =>
     have H := HC23.out
     clear HC23
     obtain ⟨c29, H⟩ : ((rd t680 (ji16)) = t688) ∧ _ := it_ H
     have c29b0 := beq_iff_eq.mpr c29
     have c29b1 := bne_eq_false_iff_eq.mpr c29
     clear c29
     (first | rw [c29b0] | (simp only [i64_w, i32_w]; rw [c29b0]) | rw [c29b1] | skip)
     have H' := ak H
     clear H
     go_wp2
     go_meet
     case rel => exact ⟨_, H', ⟨by have := HJ8.out; first | omega | exact Nat.le_refl _⟩, ⟨Kd.R_mono (rU_ HO_14.out) (fun _ hk => trivial)⟩, ⟨bU_ HB.out⟩⟩
    case rest =>
     clear HC23
     (try clear c1); (try clear c2); (try clear p2); (try clear c3); (try clear p6); (try clear q6); (try clear hx6); (try clear c8); (try clear c8b0); (try clear c8b1); (try clear c12); (try clear c14); (try clear c14b0); (try clear c14b1); (try clear c14b2); (try clear c15); (try clear c15b0); (try clear c15b1); (try clear c15b2); (try clear c17); (try clear c17b0); (try clear c18); (try clear c18b0); (try clear c22); (try clear c25); (try clear c26); (try clear c27); (try clear c28); (try clear c29); (try clear c29b0); (try clear c29b1); (try clear hx684_0); (try clear p684); (try clear q684)
     obtain ⟨kq, HA, HJ22, HO_14, HB⟩ := hcut
     cases kq with
     | zero => exact absurd HA.out (by simp [attestorlaw04_TransformMeans.j1])
     | succ kj22 =>
      have H := HA.out
      clear HA
      simp only [attestorlaw04_TransformMeans.j1] at H
      have HC30 := ak H
      clear H
      go_upto_if 74 with (fail)
      go_cut [18] (fun v18 wc => ∃ (kq : Nat) (x18_29 : Int), v18 = .int .i64 x18_29 ∧ Aside0 (attestorlaw04_TransformMeans.j2 kq a4 t674 t675 t677 x18_29 = some r) ∧ Aside0 (kq ≤ kj22) ∧ Aside0 (Kd.R (Kd.int .u64) 22 wc w.heap.size (fun _ => True) (.slice Ao11 t677.length co11) t677) ∧ Aside0 (Below w.heap.size w wc))
      case first =>
       have H := HC30.out
       clear HC30
       by_cases c31 : t675 < 5
       ·rw [if_pos c31] at H
        have c31b0 := decide_eq_true c31
        clear c31
        (first | rw [c31b0] | (simp only [i64_w, i32_w]; rw [c31b0]) | rw [c31b1] | skip)
        obtain ⟨ji32, hji32⟩ : ∃ j_ : Int, (mn 2 (wrap64 (5 - t675))) = j_ := ⟨_, rfl⟩
        first | rw [hji32] at H | simp only [hji32] at H
        have hji32_ : (if (wrap64 (5 - t675)) < 2 then (wrap64 (5 - t675)) else 2) = ji32 := hji32
        have H' := ak H
        clear H
        go_wp2
        go_meet
        case rel => exact ⟨_, (ji32), (by first | rfl | (simp; done) | (simp only [← hji32] <;> (first | rfl | simp)) | (simp [*]; done)), H', ⟨by have := HJ8.out; have := HJ22.out; first | omega | exact Nat.le_refl _⟩, ⟨rU_ HO_14.out⟩, ⟨bU_ HB.out⟩⟩
       ·rw [if_neg c31] at H
        have c31b0 := decide_eq_false c31
        clear c31
        (first | rw [c31b0] | (simp only [i64_w, i32_w]; rw [c31b0]) | rw [c31b1] | skip)
        have H' := ak H
        clear H
        go_wp2
        go_meet
        case rel => exact ⟨_, (0), gb_, H', ⟨by have := HJ8.out; have := HJ22.out; first | omega | exact Nat.le_refl _⟩, ⟨rU_ HO_14.out⟩, ⟨bU_ HB.out⟩⟩
      case rest =>
       clear HC30
       (try clear c1); (try clear c2); (try clear p2); (try clear c3); (try clear p6); (try clear q6); (try clear hx6); (try clear c8); (try clear c8b0); (try clear c8b1); (try clear c12); (try clear c14); (try clear c14b0); (try clear c14b1); (try clear c14b2); (try clear c15); (try clear c15b0); (try clear c15b1); (try clear c15b2); (try clear c17); (try clear c17b0); (try clear c18); (try clear c18b0); (try clear c22); (try clear c25); (try clear c26); (try clear c27); (try clear c28); (try clear c29); (try clear c29b0); (try clear c29b1); (try clear c31); (try clear c31b0); (try clear c31b1); (try clear hx684_0); (try clear p684); (try clear q684)
       obtain ⟨kq, x18_29, rfl, HA, HJ29, HO_14, HB⟩ := hcut
       cases kq with
       | zero => exact absurd HA.out (by simp [attestorlaw04_TransformMeans.j2])
       | succ kj29 =>
        have H := HA.out
        clear HA
        simp only [attestorlaw04_TransformMeans.j2] at H
        revert H
        refine bd2_ fun t689 t690 A33 H => ?_
        try dsimp only at H
        revert H
        refine bd2_ fun t693 t694 A34 H => ?_
        try dsimp only at H
        obtain ⟨c35, H⟩ : (t690 = 0) ∧ _ := it_ H
        have c35b0 := beq_iff_eq.mpr c35
        have c35b1 := bne_eq_false_iff_eq.mpr c35
        clear c35
        obtain ⟨c36, H⟩ : (t694 = 0) ∧ _ := it_ H
        have c36b0 := beq_iff_eq.mpr c36
        have c36b1 := bne_eq_false_iff_eq.mpr c36
        clear c36
        obtain ⟨ji37, hji37⟩ : ∃ j_ : Int, (IntKind.u64.wrap (x18_29)) = j_ := ⟨_, rfl⟩
        first | rw [hji37] at H | simp only [hji37] at H
        (try rw [hji37] at A33)
        (try rw [hji37] at A34)
        obtain ⟨c38, H⟩ : (0 ≤ (ji37)) ∧ _ := it_ H
        have c38b0 := eq_true c38
        have c38b1 := decide_eq_true c38
        clear c38
        obtain ⟨ji39, hji39⟩ : ∃ j_ : Int, (shl .i64 (t677.length : Int) (ji37)) = j_ := ⟨_, rfl⟩
        first | rw [hji39] at H | simp only [hji39] at H
        (try rw [hji39] at A33)
        (try rw [hji39] at A34)
        have hji39_ : (IntKind.i64.wrap ((t677.length : Int) * 2 ^ min (ji37).toNat 64)) = ji39 := hji39
        have hji39z : (ji37) ≤ 64 → (IntKind.i64.wrap ((t677.length : Int) * 2 ^ (ji37).toNat)) = ji39 := shl_small hji39
        have hji39y : (wrap64 ((t677.length : Int) * 2 ^ min (ji37).toNat 64)) = ji39 := (i64_w _).symm.trans hji39_
        have hji39x : (ji37) ≤ 64 → (wrap64 ((t677.length : Int) * 2 ^ (ji37).toNat)) = ji39 := fun h_ => (i64_w _).symm.trans (hji39z h_)
        have HC40 := ak H
        clear H
        go_upto_if 106 with (first | ((with_reducible refine gate_callee (f := 16) rfl ?_); refine gl_ (some 81) Tryd.func16 #[.int .i64 t674, .int .u64 1, .slice Ao11 t677.length co11] ?_; (with_reducible refine (transform_Coefficients.calls kj29 t674 1 _ _ t677 t689 t690 _ ?side1 ?side2 ?side3 A33.out).mono ?_); (case side1 => exact fU_ HG.out HB.out); (case side2 => exact cU_ ((Kd.R_reads' HO_14.out).2.2)); (case side3 => exact (Kd.R_reads' HO_14.out).2.1); rintro e w41 ⟨v691, rfl, ho0, hb⟩; refine ⟨_, rfl, ?_⟩; refine nx3_ (Kd.R_elder' (rU_ HO_14.out) (Kd.R_base ho0) hb) (Kd.R_lower (Kd.R_new' ho0 (Kd.R_lt (rU_ HO_14.out))) (below_size (bU_ HB.out))) (below_step (bU_ HB.out) hb) ?_; clear HO_14 HB; intro HO_14 HO692 HB; clear hb ho0) | ((with_reducible refine gate_callee (f := 18) rfl ?_); refine gl_ (some 88) Tryd.func18 #[.int .i64 t674, .slice Ao11 t677.length co11, .int .i64 x18_29] ?_; (with_reducible refine (transform_Widen.calls kj29 t674 _ _ t677 x18_29 t693 t694 _ ?side1 ?side2 ?side3 A34.out).mono ?_); (case side1 => exact fU_ HG.out HB.out); (case side2 => exact cU_ ((Kd.R_reads' HO_14.out).2.2)); (case side3 => exact (Kd.R_reads' HO_14.out).2.1); rintro e w42 ⟨v695, rfl, ho0, hb⟩; refine ⟨_, rfl, ?_⟩; refine nx4_ (Kd.R_elder' (rU_ HO_14.out) (Kd.R_base ho0) hb) (Kd.R_elder' (rU_ HO692.out) (Kd.R_base ho0) hb) (Kd.R_lower (Kd.R_new' (Kd.R_new' ho0 (Kd.R_lt (rU_ HO_14.out))) (Kd.R_lt (rU_ HO692.out))) (below_size (bU_ HB.out))) (below_step (bU_ HB.out) hb) ?_; clear HO_14 HO692 HB; intro HO_14 HO692 HO696 HB; clear hb ho0; obtain ⟨Ao43, co43, eo43⟩ := Kd.R_slice HO696.out; subst eo43))
        (try simp only [Act.put, s1_, s2_, s3_])
        go_cut [] (fun wc => ∃ (kq : Nat), Aside0 (attestorlaw04_TransformMeans.j3 kq a4 t674 t675 x18_29 t689 t693 = some r) ∧ Aside0 (kq ≤ kj29) ∧ Aside0 (Kd.R (Kd.int .u64) 22 wc w.heap.size (fun k_ => some k_ ≠ ((.slice Ao43 t693.length co43) : Value).ownBlock) v691 t689) ∧ Aside0 (Kd.R (Kd.int .u64) 22 wc w.heap.size (fun k_ => some k_ ≠ (v691 : Value).ownBlock) (.slice Ao43 t693.length co43) t693) ∧ Aside0 (Below w.heap.size w wc))
        case first =>
         have H := HC40.out
         clear HC40
         obtain ⟨c44, H⟩ : ((t693.length : Int) = (ji39)) ∧ _ := it_ H
         have c44b0 := beq_iff_eq.mpr c44
         have c44b1 := bne_eq_false_iff_eq.mpr c44
         clear c44
         (first | rw [c44b0] | (simp only [i64_w, i32_w]; rw [c44b0]) | rw [c44b1] | skip)
         have H' := ak H
         clear H
         go_wp2
         go_meet
         case rel => exact ⟨_, H', ⟨by have := HJ8.out; have := HJ22.out; have := HJ29.out; first | omega | exact Nat.le_refl _⟩, ⟨Kd.R_mono (rU_ HO692.out) (fun _ hk => hk.2)⟩, ⟨Kd.R_mono (rU_ HO696.out) (fun _ hk => hk.2)⟩, ⟨bU_ HB.out⟩⟩
        case rest =>
         clear HC40
         (try clear c1); (try clear c2); (try clear p2); (try clear c3); (try clear c4); (try clear p6); (try clear q6); (try clear hx6); (try clear c8); (try clear c8b0); (try clear c8b1); (try clear c12); (try clear c14); (try clear c14b0); (try clear c14b1); (try clear c14b2); (try clear c15); (try clear c15b0); (try clear c15b1); (try clear c15b2); (try clear c16); (try clear c17); (try clear c17b0); (try clear c18); (try clear c18b0); (try clear c22); (try clear c25); (try clear c26); (try clear c27); (try clear c28); (try clear c29); (try clear c29b0); (try clear c29b1); (try clear c31); (try clear c31b0); (try clear c31b1); (try clear c35); (try clear c35b0); (try clear c35b1); (try clear c36); (try clear c36b0); (try clear c36b1); (try clear c38); (try clear c38b0); (try clear c38b1); (try clear c44); (try clear c44b0); (try clear c44b1); (try clear hx684_0); (try clear p684); (try clear q684)
         obtain ⟨kq, HA, HJ39, HO_19, HO_20, HB⟩ := hcut
         cases kq with
         | zero => exact absurd HA.out (by simp [attestorlaw04_TransformMeans.j3])
         | succ kj39 =>
          have H := HA.out
          clear HA
          simp only [attestorlaw04_TransformMeans.j3] at H
          by_cases c45 : (t693.length : Int) = 0
          ·rw [if_pos c45] at H
           exact absurd H (by simp)
          ·rw [if_neg c45] at H
           have c45b0 := beq_eq_false_iff_ne.mpr c45
           have c45b1 := bne_iff_ne.mpr c45
           have c45b2 : ¬ (t693 = []) := fun h_ => c45 (by rw [h_]; rfl)
           obtain ⟨ji46, hji46⟩ : ∃ j_ : Int, (Int.tmod (wrap64 (a4)) (t693.length : Int)) = j_ := ⟨_, rfl⟩
           first | rw [hji46] at H | simp only [hji46] at H
           obtain ⟨c47, H⟩ : (0 ≤ (ji46)) ∧ _ := it_ H
           have c47b0 := decide_eq_true c47
           clear c47
           obtain ⟨c48, H⟩ : ((ji46) < (t693.length : Int)) ∧ _ := it_ H
           have c48b0 := decide_eq_true c48
           clear c48
           revert H
           refine bd_ fun t698 A49 H => ?_
           revert H
           refine bd_ fun t699 A50 H => ?_
           revert H
           refine bd_ fun t700 A51 H => ?_
           revert H
           refine bd_ fun t701 A52 H => ?_
           revert H
           refine bd_ fun t702 A53 H => ?_
           obtain ⟨c54, H⟩ : ((rd t693 (ji46)) = t702) ∧ _ := it_ H
           have c54b0 := beq_iff_eq.mpr c54
           have c54b1 := bne_eq_false_iff_eq.mpr c54
           clear c54
           revert H
           refine bd_ fun t703 A55 H => ?_
           obtain rfl := Option.some.inj H
           try go_wp2
           refine nx3_ (Kd.R_drew HO_19.out) (Kd.R_drew HO_20.out) (below_drew1 HB.out) ?_
           clear HO_19 HO_20 HB
           intro HO_19 HO_20 HB
           have p697 : 0 ≤ ((ji46) : Int) := od_
           have q697 : (ji46) < (t693.length : Int) := od_
           obtain ⟨ad697, e697, hx697_0⟩ := Kd.at_int (Kd.R_reads' HO_20.out).2.2 (ji46) p697 q697
           cases e697
           replace p697 := eq_true p697
           replace q697 := eq_true q697
           refine start_ (n := 25) (S := fun w' => w'.cell? (ad697.add ((ji46)).toNat) = some (.int .u64 (rd t693 (ji46)))) (ds := []) (bv 25 0) (by kernel_rfl) rfl rfl (hx697_0) (fun hHeld => ?_); refine with_tabW attestorlaw04_TransformMeans.tab16 attestorlaw04_TransformMeans.bits16 (fun HT_ HW_ => ?_)
           generalize wc.drew = w56 at HO_19 HO_20 HB hx697_0 hHeld ⊢
           refine pr_ (i := 0) (N := some 112) (v := ?_) (a' := ?_) (bv 25 1) HT_.out ?_ ?_ ?_; rotate_left 2; (intro w'; go_simp; with_reducible rfl); (simp only [Act.put, s1_, s2_, s3_, i64_w, i32_w]; rfl)
           refine pr_ (i := 1) (N := some 113) (v := ?_) (a' := ?_) (bv 25 3) HT_.out ?_ ?_ ?_; rotate_left 2; (intro w'; go_simp; with_reducible rfl); (simp only [Act.put, s1_, s2_, s3_, i64_w, i32_w]; rfl)
           refine pr_ (i := 2) (N := some 114) (v := ?_) (a' := ?_) (bv 25 7) HT_.out ?_ ?_ ?_; rotate_left 2; (intro w'; go_simp; with_reducible rfl); (simp only [Act.put, s1_, s2_, s3_, i64_w, i32_w]; rfl)
           refine pr_ (i := 4) (N := some 116) (v := ?_) (a' := ?_) (bv 25 23) HT_.out ?_ ?_ ?_; rotate_left 2; (intro w'; go_simp; with_reducible rfl); (simp only [Act.put, s1_, s2_, s3_, i64_w, i32_w]; rfl)
           refine pr_ (i := 5) (N := some 117) (v := ?_) (a' := ?_) (bv 25 55) HT_.out ?_ ?_ ?_; rotate_left 2; (intro w'; go_simp; with_reducible rfl); (simp only [Act.put, s1_, s2_, s3_, i64_w, i32_w]; rfl)
           refine pr_ (i := 6) (N := some 118) (v := ?_) (a' := ?_) (bv 25 119) HT_.out ?_ ?_ ?_; rotate_left 2; (intro w'; go_simp; with_reducible rfl); (simp only [Act.put, s1_, s2_, s3_, i64_w, i32_w]; rfl)
           refine pr_ (i := 7) (N := some 119) (v := ?_) (a' := ?_) (bv 25 247) HT_.out ?_ ?_ ?_; rotate_left 2; (intro w'; go_simp; with_reducible rfl); (simp only [Act.put, s1_, s2_, s3_, i64_w, i32_w]; rfl)
           refine pr_ (i := 9) (N := some 121) (v := ?_) (a' := ?_) (bv 25 759) HT_.out ?_ ?_ ?_; rotate_left 2; (intro w'; go_simp; with_reducible rfl); (simp only [Act.put, s1_, s2_, s3_, i64_w, i32_w]; rfl)
           refine pr_ (i := 10) (N := some 122) (v := ?_) (a' := ?_) (bv 25 1783) HT_.out ?_ ?_ ?_; rotate_left 2; (intro w'; go_simp; with_reducible rfl); (simp only [Act.put, s1_, s2_, s3_, i64_w, i32_w]; rfl)
           refine pr_ (i := 11) (N := some 123) (v := ?_) (a' := ?_) (bv 25 3831) HT_.out ?_ ?_ ?_; rotate_left 2; (intro w'; go_simp; with_reducible rfl); (simp only [Act.put, s1_, s2_, s3_, i64_w, i32_w]; rfl)
           refine pr_ (i := 12) (N := some 124) (v := ?_) (a' := ?_) (bv 25 7927) HT_.out ?_ ?_ ?_; rotate_left 2; (intro w'; go_simp; with_reducible rfl); (simp only [Act.put, s1_, s2_, s3_, i64_w, i32_w]; rfl)
           refine pr_ (i := 13) (N := some 125) (v := ?_) (a' := ?_) (bv 25 16119) HT_.out ?_ ?_ ?_; rotate_left 2; (intro w'; go_simp; with_reducible rfl); (simp only [Act.put, s1_, s2_, s3_, i64_w, i32_w]; rfl)
           refine pr_ (i := 15) (N := some 127) (v := ?_) (a' := ?_) (bv 25 48887) HT_.out ?_ ?_ ?_; rotate_left 2; (intro w'; go_simp; with_reducible rfl); (simp only [Act.put, s1_, s2_, s3_, i64_w, i32_w]; rfl)
           refine pr_ (i := 16) (N := some 128) (v := ?_) (a' := ?_) (bv 25 114423) HT_.out ?_ ?_ ?_; rotate_left 2; (intro w'; go_simp; with_reducible rfl); (simp only [Act.put, s1_, s2_, s3_, i64_w, i32_w]; rfl)
           refine take_ (i := 3) (N := some 115) (v := ?_) (a' := ?_) (bv 25 114431) rfl rfl (take_ofW HT_.out HW_.out (by kernel_rfl)) (fun _ _ _ h => h) (Or.inl ⟨by rfl, ?_⟩) hHeld ?_ ?_
           rotate_left
           ·intro w' s0
            go_simp
            with_reducible rfl
           rotate_left
           ·simp only [Act.put, s1_, s2_, s3_, i64_w, i32_w]
            rfl
           refine one_ (i := 8) (N := some 120) (bv 25 114687) rfl rfl (one_of HT_.out (by kernel_rfl)) (by decide) (fun K hK => ?_)
           refine goes_ Tryd.func29 (by kernel_rfl) rfl #[.int .i64 t674] (by rfl) rfl rfl ga_ ?_
           with_reducible refine (field_Generator.calls t674 t698 _ ?side1 A49.out).mono ?_
           (case side1 => exact fU_ HG.out HB.out)
           rintro e w57 ⟨rfl, hb⟩
           have HS0_ := (hb.cell (World.block_lt_of_cell? _ _ (hHeld))).trans (hHeld)
           refine ⟨_, rfl, ?_⟩
           refine nx3_ (Kd.R_below (rU_ HO_19.out) hb) (Kd.R_below (rU_ HO_20.out) hb) (below_step (bU_ HB.out) hb) ?_
           clear HO_19 HO_20 HB
           intro HO_19 HO_20 HB
           (try clear hb)
           (try clear hb2)
           (try clear hk)
           (try clear hi)
           refine hK.out _ _ (HS0_) (fun hHeld => ?_)
           clear hK K
           refine norm_ (a' := ?_) ?_ ?_
           rotate_left
           ·show Act.put _ (some 120) _ = _
            simp only [Act.put, s1_, s2_, s3_, i64_w, i32_w]
            rfl
           refine one_ (i := 14) (N := some 126) (bv 25 131071) rfl rfl (one_of HT_.out (by kernel_rfl)) (by decide) (fun K hK => ?_)
           refine goes_ Tryd.func28 (by kernel_rfl) rfl #[.int .i64 t674, .int .i64 (wrap64 (t675 + x18_29))] (by rfl) rfl rfl ga_ ?_
           with_reducible refine (field_Root.calls kj39 t674 (wrap64 (t675 + x18_29)) t699 _ ?side1 A50.out).mono ?_
           (case side1 => exact fU_ HG.out HB.out)
           rintro e w58 ⟨rfl, hb⟩
           have HS0_ := (hb.cell (World.block_lt_of_cell? _ _ (hHeld))).trans (hHeld)
           refine ⟨_, rfl, ?_⟩
           refine nx3_ (Kd.R_below (rU_ HO_19.out) hb) (Kd.R_below (rU_ HO_20.out) hb) (below_step (bU_ HB.out) hb) ?_
           clear HO_19 HO_20 HB
           intro HO_19 HO_20 HB
           (try clear hb)
           (try clear hb2)
           (try clear hk)
           (try clear hi)
           refine hK.out _ _ (HS0_) (fun hHeld => ?_)
           clear hK K
           refine norm_ (a' := ?_) ?_ ?_
           rotate_left
           ·show Act.put _ (some 126) _ = _
            simp only [Act.put, s1_, s2_, s3_, i64_w, i32_w]
            rfl
           refine one_ (i := 17) (N := some 129) (bv 25 262143) rfl rfl (one_of HT_.out (by kernel_rfl)) (by decide) (fun K hK => ?_)
           refine goes_ Tryd.func27 (by kernel_rfl) rfl #[.int .i64 t674, .int .u64 t699, .int .u64 (IntKind.u64.wrap (ji46))] (by rfl) rfl rfl (by (try simp only [List.map_toArray, List.map_cons, List.map_nil]); first | done | (simp only [hji46]; rfl) | rfl | (simp only [List.length_drop, List.length_take]; rfl)) ?_
           with_reducible refine (field_Pow.calls kj39 t674 t699 (IntKind.u64.wrap (ji46)) t700 _ ?side1 A51.out).mono ?_
           (case side1 => exact fU_ HG.out HB.out)
           rintro e w59 ⟨rfl, hb⟩
           have HS0_ := (hb.cell (World.block_lt_of_cell? _ _ (hHeld))).trans (hHeld)
           refine ⟨_, rfl, ?_⟩
           refine nx3_ (Kd.R_below (rU_ HO_19.out) hb) (Kd.R_below (rU_ HO_20.out) hb) (below_step (bU_ HB.out) hb) ?_
           clear HO_19 HO_20 HB
           intro HO_19 HO_20 HB
           (try clear hb)
           (try clear hb2)
           (try clear hk)
           (try clear hi)
           refine hK.out _ _ (HS0_) (fun hHeld => ?_)
           clear hK K
           refine norm_ (a' := ?_) ?_ ?_
           rotate_left
           ·show Act.put _ (some 129) _ = _
            simp only [Act.put, s1_, s2_, s3_, i64_w, i32_w]
            rfl
           refine one_ (i := 18) (N := some 130) (bv 25 524287) rfl rfl (one_of HT_.out (by kernel_rfl)) (by decide) (fun K hK => ?_)
           refine goes_ Tryd.func26 (by kernel_rfl) rfl #[.int .i64 t674, .int .u64 t698, .int .u64 t700] (by rfl) rfl rfl ga_ ?_
           with_reducible refine (field_Mul.calls t674 t698 t700 t701 _ ?side1 A52.out).mono ?_
           (case side1 => exact fU_ HG.out HB.out)
           rintro e w60 ⟨rfl, hb⟩
           have HS0_ := (hb.cell (World.block_lt_of_cell? _ _ (hHeld))).trans (hHeld)
           refine ⟨_, rfl, ?_⟩
           refine nx3_ (Kd.R_below (rU_ HO_19.out) hb) (Kd.R_below (rU_ HO_20.out) hb) (below_step (bU_ HB.out) hb) ?_
           clear HO_19 HO_20 HB
           intro HO_19 HO_20 HB
           (try clear hb)
           (try clear hb2)
           (try clear hk)
           (try clear hi)
           obtain ⟨Ao61, co61, eo61⟩ := Kd.R_slice HO_19.out
           (first | subst eo61 | (injection eo61 with f1_ f2_ f3_; have f4_ := f1_.symm; have f5_ := f3_.symm; clear f1_ f2_ f3_; subst f4_; subst f5_))
           refine hK.out _ _ (HS0_) (fun hHeld => ?_)
           clear hK K
           refine norm_ (a' := ?_) ?_ ?_
           rotate_left
           ·show Act.put _ (some 130) _ = _
            simp only [Act.put, s1_, s2_, s3_, i64_w, i32_w]
            rfl
           refine one_ (i := 19) (N := some 131) (bv 25 1048575) rfl rfl (one_of HT_.out (by kernel_rfl)) (by decide) (fun K hK => ?_)
           refine goes_ Tryd.func25 (by kernel_rfl) rfl #[.int .i64 t674, .slice Ao61 t689.length co61, .int .u64 t701] (by rfl) rfl rfl ga_ ?_
           with_reducible refine (poly_Eval.calls kj39 t674 _ _ t689 t701 t702 _ ?side1 ?side2 ?side3 A53.out).mono ?_
           (case side1 => exact fU_ HG.out HB.out)
           (case side2 => exact cU_ ((Kd.R_reads' HO_19.out).2.2))
           (case side3 => exact (Kd.R_reads' HO_19.out).2.1)
           rintro e w62 ⟨rfl, hb⟩
           have HS0_ := (hb.cell (World.block_lt_of_cell? _ _ (hHeld))).trans (hHeld)
           refine ⟨_, rfl, ?_⟩
           refine nx3_ (Kd.R_below (rU_ HO_19.out) hb) (Kd.R_below (rU_ HO_20.out) hb) (below_step (bU_ HB.out) hb) ?_
           clear HO_19 HO_20 HB
           intro HO_19 HO_20 HB
           (try clear hb)
           (try clear hb2)
           (try clear hk)
           (try clear hi)
           refine hK.out _ _ (HS0_) (fun hHeld => ?_)
           clear hK K
           refine norm_ (a' := ?_) ?_ ?_
           rotate_left
           ·show Act.put _ (some 131) _ = _
            simp only [Act.put, s1_, s2_, s3_, i64_w, i32_w]
            rfl
           refine pr_ (i := 20) (N := some 132) (v := ?_) (a' := ?_) (bv 25 2097151) HT_.out ?_ ?_ ?_; rotate_left 2; (intro w'; go_simp; with_reducible rfl); (simp only [Act.put, s1_, s2_, s3_, i64_w, i32_w]; rfl)
           refine pr_ (i := 21) (N := some 133) (v := ?_) (a' := ?_) (bv 25 4194303) HT_.out ?_ ?_ ?_; rotate_left 2; (intro w'; go_simp; with_reducible rfl); (simp only [Act.put, s1_, s2_, s3_, i64_w, i32_w]; rfl)
           refine one_ (i := 22) (N := some 134) (bv 25 8388607) rfl rfl (one_of HT_.out (by kernel_rfl)) (by decide) (fun K hK => ?_)
           refine goes_ Tryd.func15 (by kernel_rfl) rfl #[] (by rfl) rfl rfl ga_ ?_
           with_reducible refine (attestorlaw04_works.calls kj39  t703 _ ?side1 A55.out).mono ?_
           (case side1 => exact fU_ HG.out HB.out)
           rintro e w63 ⟨rfl, hb⟩
           have HS0_ := (hb.cell (World.block_lt_of_cell? _ _ (hHeld))).trans (hHeld)
           refine ⟨_, rfl, ?_⟩
           refine nx3_ (Kd.R_below (rU_ HO_19.out) hb) (Kd.R_below (rU_ HO_20.out) hb) (below_step (bU_ HB.out) hb) ?_
           clear HO_19 HO_20 HB
           intro HO_19 HO_20 HB
           (try clear hb)
           (try clear hb2)
           (try clear hk)
           (try clear hi)
           refine hK.out _ _ (HS0_) (fun hHeld => ?_)
           clear hK K
           refine norm_ (a' := ?_) ?_ ?_
           rotate_left
           ·show Act.put _ (some 134) _ = _
            simp only [Act.put, s1_, s2_, s3_, i64_w, i32_w]
            rfl
           refine pr_ (i := 23) (N := some 135) (v := ?_) (a' := ?_) (bv 25 16777215) HT_.out ?_ ?_ ?_; rotate_left 2; (intro w'; go_simp; with_reducible rfl); (simp only [Act.put, s1_, s2_, s3_, i64_w, i32_w]; rfl)
           refine pr_ (i := 24) (N := some 10) (v := ?_) (a' := ?_) (bv 25 33554431) HT_.out ?_ ?_ ?_; rotate_left 2; (intro w'; go_simp; with_reducible rfl); (simp only [Act.put, s1_, s2_, s3_, i64_w, i32_w]; rfl)
           refine done_ (done_of HT_.out (by kernel_rfl)) ?_
           try go_wp2
           go_ret
           exact ⟨by first | rfl | (simp [errW_none, errW_some] <;> rfl) | (simp only [← hji16, ← hji37, ← hji39, ← hji46]; first | rfl | (simp [errW_none, errW_some] <;> rfl)) | (simp [*, errW_none, errW_some] <;> rfl), bU_ HB.out⟩

/-- THE ONE PURE STATEMENT of attestorlaw04_TransformMeans: yours. -/
def attestorlaw04_TransformMeans.Pure : Prop := ∀ (a0 : Int) (a1 : Int) (a2 : Int) (l3 : List Int) (a4 : Int), (Lit.int .u8 a0).wf = true → (Lit.int .u8 a1).wf = true → (Lit.int .u64 a2).wf = true → l3.length ≤ maxLen → l3.length * 8 ≤ 140737488351232 → (∀ x ∈ l3, (Lit.int .u64 x).wf = true) → (Lit.int .u16 a4).wf = true → ∃ k, attestorlaw04_TransformMeans.f k a0 a1 a2 l3 a4 = some true
theorem attestorlaw04_TransformMeans.walk (P : attestorlaw04_TransformMeans.Pure) (a0 : Int) (a1 : Int) (a2 : Int) (a3 : Option Addr) (len3 cap3 : Nat) (z3 : List Int) (a4 : Int) (w : World) (hG : Fld w) (w0 : (Lit.int .u8 a0).wf = true) (w1 : (Lit.int .u8 a1).wf = true) (w2 : (Lit.int .u64 a2).wf = true) (w3 : (a3 = none ∧ len3 = 0 ∧ cap3 = 0 ∧ z3 = []) ∨ ∃ x, a3 = some x ∧ len3 ≤ cap3 ∧ cap3 ≤ maxLen ∧ z3.length = cap3 ∧ (∀ i, i < z3.length → w.cell? (x.add i) = some (.int .u64 (z3.getD i 0))) ∧ ∀ n ∈ z3, (Lit.int .u64 n).wf = true) (y3 : len3 * 8 ≤ 140737488351232) (w4 : (Lit.int .u16 a4).wf = true) :
  Calls Tryd.prog 8 #[.int .u8 a0, .int .u8 a1, .int .u64 a2, .slice a3 len3 cap3, .int .u16 a4] w fun e w' => e = .returned (.bool true) ∧ Below w.heap.size w w' := by
 obtain ⟨l3, rfl, hr3, hm3, hw3, hc3⟩ := ReadsInt.ofRowC w3
 obtain ⟨k, h⟩ := P a0 a1 a2 l3 a4 w0 w1 w2 hm3 y3 hw3 w4
 refine (attestorlaw04_TransformMeans.calls k a0 a1 a2 _ _ l3 a4 true w hG (Kd.C_of_reads (d := (0 : Int)) (h1 := fun _ => rfl) hr3) hc3 h).mono ?_
 rintro e w' ⟨rfl, hd⟩
 exact ⟨rfl, hd⟩

end Go.Proofs.YtdjjdlkglinlgaaDoor.Q

-- Written by prx.py (this session's driver of the kit's print) out of the translation. Not trusted: Lean checks it.
import Derived.Test.YtedapdagagkajaaDoorQ0
import Derived.Test.YtedapdagagkajaaDoorQ3
import Derived.Test.YtedapdagagkajaaDoorQ5
import Derived.Test.YtedapdagagkajaaDoorQ6
import Derived.Test.YtedapdagagkajaaDoorQ11
import Derived.Test.YtedapdagagkajaaDoorQ18
namespace Go.Proofs.YtedapdagagkajaaDoor.Q
open Go.RowKit Go.Proofs.YtedapdagagkajaaDoorW.PrintWords Go.Proofs.YtedapdagagkajaaDoorW.PrintLast Go.Proofs.YtedapdagagkajaaDoorW.PrintMore
attribute [local go_sem] max2_int min2_int max_two min_two max_three min_three max_four min_four   -- for this text's walks alone
set_option linter.unusedVariables false
set_option linter.unusedSimpArgs false

/-! ### attestorlaw05_CodeDistance: function 6 -/
mutual
def attestorlaw05_CodeDistance.j0 : Nat → List Int → List Int → Int → Int → List Int → List Int → Int → Int → Int → Option (Bool)
 | 0, _, _, _, _, _, _, _, _, _ => none
 | k + 1, x3, x4, x12, x13, x14, x15, x731000, x731001, x731002 => (code_Differ.f k x731000 x14 x15).bind fun t752 => ((attestorlaw05_same.f k x3 x4).bind fun t753 => (if t753 = true then (if t752 = 0 then ((attestorlaw05_works.f k).bind fun t754 => (some t754)) else (none)) else (if (wrap64 (x12 - t752)) < x13 then ((attestorlaw05_works.f k).bind fun t755 => (some t755)) else (none))))
def attestorlaw05_CodeDistance.j1 : Nat → List Int → List Int → Int → Int → List Int → List Int → Int → Int → Int → Option (Bool)
 | 0, _, _, _, _, _, _, _, _, _ => none
 | k + 1, x3, x4, x12, x13, x14, x15, x731000, x731001, x731002 => (code_Differ.f k x731000 x14 x15).bind fun t756 => ((attestorlaw05_same.f k x3 x4).bind fun t757 => (if t757 = true then (if t756 = 0 then ((attestorlaw05_works.f k).bind fun t758 => (some t758)) else (none)) else (if (wrap64 (x12 - t756)) < x13 then ((attestorlaw05_works.f k).bind fun t759 => (some t759)) else (none))))
end
def attestorlaw05_CodeDistance.f (k : Nat) (a0 : Int) (a1 : Int) (a2 : Int) (l3 : List Int) (l4 : List Int) : Option (Bool) := (attestorlaw05_domain.f a0 a1 a2 0).bind fun bt727 => (if 0 ≤ (IntKind.u64.wrap (bt727.2.1)) then ((attestorlaw05_own.f l3 (shl .i64 1 (IntKind.u64.wrap (bt727.2.1)))).bind fun t731 => ((poly_Normal.f k bt727.1 t731).bind fun t734 => ((attestorlaw05_own.f l4 (shl .i64 1 (IntKind.u64.wrap (bt727.2.1)))).bind fun t737 => ((poly_Normal.f k bt727.1 t737).bind fun t740 => ((attestorlaw05_word.f k bt727.1 bt727.2.1 bt727.2.2 t734).bind fun t743 => ((attestorlaw05_word.f k bt727.1 bt727.2.1 bt727.2.2 t740).bind fun t746 => (if (t743.length : Int) = (shl .i64 1 (IntKind.u64.wrap (bt727.2.1))) then (if (t746.length : Int) = (shl .i64 1 (IntKind.u64.wrap (bt727.2.1))) then ((code_IsWord.f k bt727.1 bt727.2.1 bt727.2.2 t743 (mx (t734.length : Int) (t740.length : Int))).bind fun t749 => (if t749 = true then ((code_IsWord.f k bt727.1 bt727.2.1 bt727.2.2 t746 (mx (t734.length : Int) (t740.length : Int))).bind fun t750 => (if t750 = true then (if (t734.length : Int) > 0 then ((code_IsWord.f k bt727.1 bt727.2.1 bt727.2.2 t743 (wrap64 ((t734.length : Int) - 1))).bind fun t751 => (if t751 = true then (none) else (attestorlaw05_CodeDistance.j0 k t734 t740 (shl .i64 1 (IntKind.u64.wrap (bt727.2.1))) (mx (t734.length : Int) (t740.length : Int)) t743 t746 bt727.1 bt727.2.1 bt727.2.2))) else (attestorlaw05_CodeDistance.j1 k t734 t740 (shl .i64 1 (IntKind.u64.wrap (bt727.2.1))) (mx (t734.length : Int) (t740.length : Int)) t743 t746 bt727.1 bt727.2.1 bt727.2.2)) else (none))) else (none))) else (none)) else (none)))))))) else (none))
def attestorlaw05_CodeDistance.T3 : Bool × List (List Nat × List Nat) := (true, [([], []), ([0], [0]), ([], []), ([], []), ([2, 3], [2, 3]), ([1, 4, 4], [1, 4]), ([], []), ([6], [6]), ([], []), ([], []), ([8, 9, 5], [8, 9]), ([7, 10, 10], [7, 10]), ([5, 11, 0, 1, 2, 3, 4, 5], [2, 5]), ([11, 12, 0, 1, 2, 3, 4, 5, 6, 7, 8, 9, 10, 11, 12], [8, 11])])
def attestorlaw05_CodeDistance.B3 : List Nat := [0, 1, 0, 0, 12, 31, 0, 64, 0, 0, 831, 2047, 4095, 8191]
theorem attestorlaw05_CodeDistance.tab3 : rtab .any (opsOf Tryd.f6 3) = attestorlaw05_CodeDistance.T3 := by kernel_rfl
theorem attestorlaw05_CodeDistance.bits3 : waitsOk attestorlaw05_CodeDistance.T3.2 attestorlaw05_CodeDistance.B3 = true := by kernel_rfl
def attestorlaw05_CodeDistance.T5 : Bool × List (List Nat × List Nat) := (true, [([], []), ([], []), ([0, 1], [0, 1]), ([], []), ([], []), ([3, 4, 2], [3, 4]), ([2, 5, 0, 1, 2], [2]), ([5, 6, 0, 1, 2, 3, 4, 5, 6], [5])])
def attestorlaw05_CodeDistance.B5 : List Nat := [0, 0, 3, 0, 0, 31, 63, 127]
theorem attestorlaw05_CodeDistance.tab5 : rtab .any (opsOf Tryd.f6 5) = attestorlaw05_CodeDistance.T5 := by kernel_rfl
theorem attestorlaw05_CodeDistance.bits5 : waitsOk attestorlaw05_CodeDistance.T5.2 attestorlaw05_CodeDistance.B5 = true := by kernel_rfl
set_option maxHeartbeats 8000000 in
set_option maxRecDepth 100000 in
theorem attestorlaw05_CodeDistance.calls (k : Nat) (a0 : Int) (a1 : Int) (a2 : Int) (A3 : Option Addr) (c3 : Nat) (l3 : List Int) (A4 : Option Addr) (c4 : Nat) (l4 : List Int) (r : Bool) (w : World) (hG : Fld w) (hr3 : Kd.C (Kd.int .u64) w A3 l3.length l3) (hc3 : l3.length ≤ c3) (hr4 : Kd.C (Kd.int .u64) w A4 l4.length l4) (hc4 : l4.length ≤ c4) (h : attestorlaw05_CodeDistance.f k a0 a1 a2 l3 l4 = some r) :
  Calls Tryd.prog 6 #[.int .u8 a0, .int .u8 a1, .int .u64 a2, .slice A3 l3.length c3, .slice A4 l4.length c4] w fun e w' => e = .returned (.bool r) ∧ Below w.heap.size w w' := by
 have hu24 := Tryd.underlying24
 have HG := ak hG
 clear hG
 have HR3 := ak hr3
 have HC3 := ak hc3
 clear hr3 hc3
 have HR4 := ak hr4
 have HC4 := ak hc4
 clear hr4 hc4
 have HB := ak (Below.refl w.heap.size w)
 have H : ((attestorlaw05_domain.f a0 a1 a2 0).bind fun bt727 => (if 0 ≤ (IntKind.u64.wrap (bt727.2.1)) then ((attestorlaw05_own.f l3 (shl .i64 1 (IntKind.u64.wrap (bt727.2.1)))).bind fun t731 => ((poly_Normal.f k bt727.1 t731).bind fun t734 => ((attestorlaw05_own.f l4 (shl .i64 1 (IntKind.u64.wrap (bt727.2.1)))).bind fun t737 => ((poly_Normal.f k bt727.1 t737).bind fun t740 => ((attestorlaw05_word.f k bt727.1 bt727.2.1 bt727.2.2 t734).bind fun t743 => ((attestorlaw05_word.f k bt727.1 bt727.2.1 bt727.2.2 t740).bind fun t746 => (if (t743.length : Int) = (shl .i64 1 (IntKind.u64.wrap (bt727.2.1))) then (if (t746.length : Int) = (shl .i64 1 (IntKind.u64.wrap (bt727.2.1))) then ((code_IsWord.f k bt727.1 bt727.2.1 bt727.2.2 t743 (mx (t734.length : Int) (t740.length : Int))).bind fun t749 => (if t749 = true then ((code_IsWord.f k bt727.1 bt727.2.1 bt727.2.2 t746 (mx (t734.length : Int) (t740.length : Int))).bind fun t750 => (if t750 = true then (if (t734.length : Int) > 0 then ((code_IsWord.f k bt727.1 bt727.2.1 bt727.2.2 t743 (wrap64 ((t734.length : Int) - 1))).bind fun t751 => (if t751 = true then (none) else (attestorlaw05_CodeDistance.j0 k t734 t740 (shl .i64 1 (IntKind.u64.wrap (bt727.2.1))) (mx (t734.length : Int) (t740.length : Int)) t743 t746 bt727.1 bt727.2.1 bt727.2.2))) else (attestorlaw05_CodeDistance.j1 k t734 t740 (shl .i64 1 (IntKind.u64.wrap (bt727.2.1))) (mx (t734.length : Int) (t740.length : Int)) t743 t746 bt727.1 bt727.2.1 bt727.2.2)) else (none))) else (none))) else (none)) else (none)))))))) else (none))) = some r := h
 clear h
 revert H
 refine bd3_ fun t727 t728 t729 A6 H => ?_
 try dsimp only at H
 obtain ⟨ji7, hji7⟩ : ∃ j_ : Int, (IntKind.u64.wrap (t728)) = j_ := ⟨_, rfl⟩
 first | rw [hji7] at H | simp only [hji7] at H
 (try rw [hji7] at A6)
 obtain ⟨c8, H⟩ : (0 ≤ (ji7)) ∧ _ := it_ H
 have c8b0 := eq_true c8
 have c8b1 := decide_eq_true c8
 clear c8
 obtain ⟨ji9, hji9⟩ : ∃ j_ : Int, (shl .i64 1 (ji7)) = j_ := ⟨_, rfl⟩
 first | rw [hji9] at H | simp only [hji9] at H
 (try rw [hji9] at A6)
 have hji9_ : (IntKind.i64.wrap (1 * 2 ^ min (ji7).toNat 64)) = ji9 := hji9
 have hji9z : (ji7) ≤ 64 → (IntKind.i64.wrap (1 * 2 ^ (ji7).toNat)) = ji9 := shl_small hji9
 have hji9u : (IntKind.i64.wrap (2 ^ min (ji7).toNat 64)) = ji9 := by have h_ := hji9_; rw [Int.one_mul] at h_; exact h_
 have hji9v : (ji7) ≤ 64 → (IntKind.i64.wrap (2 ^ (ji7).toNat)) = ji9 := fun hle_ => by have h_ := hji9z hle_; rw [Int.one_mul] at h_; exact h_
 have hji9y : (wrap64 (1 * 2 ^ min (ji7).toNat 64)) = ji9 := (i64_w _).symm.trans hji9_
 have hji9x : (ji7) ≤ 64 → (wrap64 (1 * 2 ^ (ji7).toNat)) = ji9 := fun h_ => (i64_w _).symm.trans (hji9z h_)
 revert H
 refine bd_ fun t731 A10 H => ?_
 revert H
 refine bd_ fun t734 A11 H => ?_
 revert H
 refine bd_ fun t737 A12 H => ?_
 revert H
 refine bd_ fun t740 A13 H => ?_
 obtain ⟨ji14, hji14⟩ : ∃ j_ : Int, (mx (t734.length : Int) (t740.length : Int)) = j_ := ⟨_, rfl⟩
 first | rw [hji14] at H | simp only [hji14] at H
 (try rw [hji14] at A6)
 (try rw [hji14] at A10)
 (try rw [hji14] at A11)
 (try rw [hji14] at A12)
 (try rw [hji14] at A13)
 (try (have hji14l : 0 ≤ ji14 := by (rw [← hji14]; unfold mx; (repeat' split) <;> omega)))
 (try (have hji14m : 0 ≤ ji14 := by omega))
 have hji14_ : (if (t734.length : Int) < (t740.length : Int) then (t740.length : Int) else (t734.length : Int)) = ji14 := hji14
 have hji14n : (if t734.length < t740.length then (t740.length : Int) else (t734.length : Int)) = ji14 := by rw [← hji14_]; by_cases c_ : t734.length < t740.length; exact (if_pos c_).trans (if_pos (Int.ofNat_lt.2 c_)).symm; exact (if_neg c_).trans (if_neg (fun q_ => c_ (Int.ofNat_lt.1 q_))).symm
 revert H
 refine bd_ fun t743 A15 H => ?_
 revert H
 refine bd_ fun t746 A16 H => ?_
 obtain ⟨c17, H⟩ : ((t743.length : Int) = (ji9)) ∧ _ := it_ H
 have c17b0 := beq_iff_eq.mpr c17
 have c17b1 := bne_eq_false_iff_eq.mpr c17
 clear c17
 obtain ⟨c18, H⟩ : ((t746.length : Int) = (ji9)) ∧ _ := it_ H
 have c18b0 := beq_iff_eq.mpr c18
 have c18b1 := bne_eq_false_iff_eq.mpr c18
 clear c18
 revert H
 refine bd_ fun t749 A19 H => ?_
 by_cases c20 : t749 = true
 ·subst c20
  rw [if_pos rfl] at H
  revert H
  refine bd_ fun t750 A21 H => ?_
  by_cases c22 : t750 = true
  ·subst c22
   rw [if_pos rfl] at H
   by_cases c23 : (t734.length : Int) > 0
   ·rw [if_pos c23] at H
    have c23b0 : decide (0 < (t734.length : Int)) = true := decide_eq_true c23
    have c23b1 : decide (0 < t734.length) = true := decide_eq_true (by omega)
    clear c23
    revert H
    refine bd_ fun t751 A24 H => ?_
    have HC25 := ak H
    clear H
    go_enter Tryd.func6, Tryd.ntmps6
    try go_wp2_with (first | ((with_reducible refine gate_callee (f := 33) rfl ?_); refine gl_ (some 20) Tryd.func33 #[.int .u8 a0, .int .u8 a1, .int .u64 a2, .int .i64 0] ?_; (with_reducible refine (attestorlaw05_domain.calls a0 a1 a2 0 t727 t728 t729 _ ?side1 A6.out).mono ?_); (case side1 => exact fU_ HG.out HB.out); rintro e w26 ⟨rfl, hb⟩; refine ⟨_, rfl, ?_⟩; refine nx1_ (below_step (bU_ HB.out) hb) ?_; clear HB; intro HB; clear hb) | ((with_reducible refine gate_dst (N := 11) rfl ?_); (try (refine gate_guard (by rfl) ?_; dsimp only)); refine box_event ?hg (N := 11) ?hd (cs := #[.int .i64 0, .int .i64 0, .int .u64 0]) (t := 24) ?hr ?_; (case hd => rfl); (case hg => rfl); (case hr => first | (go_simp; done) | (go_simp; rfl)); intro gb730 hg w27 hbox hb; refine nx4_ (below_step (bU_ HB.out) hb) (hbox) ((by rw [hg]; exact (below_size (bU_ HB.out)) : w.heap.size ≤ gb730)) ((by rw [hg]; exact (below_size (bU_ HB.out)) : w.heap.size ≤ gb730)) ?_; clear HB; intro HB BK730 GW730 GE730; clear hb hbox hg; have hcz28_0 : w27.cell? ⟨gb730, 0, none⟩ = some (.int .i64 0) := (blk_cell BK730.out 0).trans rfl; have hcz28_1 : w27.cell? ⟨gb730, 1, none⟩ = some (.int .i64 0) := (blk_cell BK730.out 1).trans rfl; have hcz28_2 : w27.cell? ⟨gb730, 2, none⟩ = some (.int .u64 0) := (blk_cell BK730.out 2).trans rfl; have hfz28_0 := blk_frozen BK730.out 0; have hfz28_1 := blk_frozen BK730.out 1; have hfz28_2 := blk_frozen BK730.out 2))
    have n0_ : Aside0 ((((w27.setCell ⟨gb730, 0, none⟩ (.int .i64 t727)).setCell ⟨gb730, 1, none⟩ (.int .i64 t728)).setCell ⟨gb730, 2, none⟩ (.int .u64 t729)).heap[gb730]? = some (.cells #[.int .i64 t727, .int .i64 t728, .int .u64 t729] 24 (0, 0))) := ⟨by (with_reducible repeat (first | refine blk_drewN ?_ _ | refine blk_drew ?_ | refine blk_alloc ?_ _)); refine blk_put (cs := #[.int .i64 t727, .int .i64 t728, .int .u64 0]) ?_ 2 _ rfl; (with_reducible repeat (first | refine blk_drewN ?_ _ | refine blk_drew ?_ | refine blk_alloc ?_ _)); refine blk_put (cs := #[.int .i64 t727, .int .i64 0, .int .u64 0]) ?_ 1 _ rfl; (with_reducible repeat (first | refine blk_drewN ?_ _ | refine blk_drew ?_ | refine blk_alloc ?_ _)); refine blk_put (cs := #[.int .i64 0, .int .i64 0, .int .u64 0]) ?_ 0 _ rfl; (with_reducible repeat (first | refine blk_drewN ?_ _ | refine blk_drew ?_ | refine blk_alloc ?_ _)); exact BK730.out⟩
    have n1_ : Aside0 (Below w.heap.size w (((w27.setCell ⟨gb730, 0, none⟩ (.int .i64 t727)).setCell ⟨gb730, 1, none⟩ (.int .i64 t728)).setCell ⟨gb730, 2, none⟩ (.int .u64 t729))) := ⟨by repeat (first | (with_reducible first | exact HB.out | apply below_alloc | apply pw_below_drewN | apply below_drew1 | refine below_set ?_ GE730.out) | exact HB.out)⟩
    (try clear BK730)
    (try clear HB)
    generalize (((w27.setCell ⟨gb730, 0, none⟩ (.int .i64 t727)).setCell ⟨gb730, 1, none⟩ (.int .i64 t728)).setCell ⟨gb730, 2, none⟩ (.int .u64 t729)) = w29 at n0_ n1_ ⊢
    have BK730 := n0_
    have HB := n1_
    clear n0_ n1_
    refine nx2_ (blk_drew BK730.out) (below_drew1 HB.out) ?_
    clear BK730 HB
    intro BK730 HB
    refine start_ (n := 14) (S := fun w' => w'.cell? ⟨gb730, 0, none⟩ = some (.int .i64 t727) ∧ w'.cell? ⟨gb730, 1, none⟩ = some (.int .i64 t728) ∧ w'.cell? ⟨gb730, 2, none⟩ = some (.int .u64 t729)) (ds := []) (bv 14 0) (by kernel_rfl) rfl rfl ⟨(blk_cell BK730.out 0).trans rfl, (blk_cell BK730.out 1).trans rfl, (blk_cell BK730.out 2).trans rfl⟩ (fun hHeld => ?_); refine with_tabW attestorlaw05_CodeDistance.tab3 attestorlaw05_CodeDistance.bits3 (fun HT_ HW_ => ?_)
    generalize w29.drew = w30 at BK730 HB hHeld ⊢
    refine pr_ (i := 0) (N := some 25) (v := ?_) (a' := ?_) (bv 14 1) HT_.out ?_ ?_ ?_; rotate_left 2; (intro w'; go_simp; with_reducible rfl); (simp only [Act.put, s1_, s2_, s3_, i64_w, i32_w]; rfl)
    refine pr_ (i := 2) (N := some 27) (v := ?_) (a' := ?_) (bv 14 5) HT_.out ?_ ?_ ?_; rotate_left 2; (intro w'; go_simp; with_reducible rfl); (simp only [Act.put, s1_, s2_, s3_, i64_w, i32_w]; rfl)
    refine pr_ (i := 3) (N := some 28) (v := ?_) (a' := ?_) (bv 14 13) HT_.out ?_ ?_ ?_; rotate_left 2; (intro w'; go_simp; with_reducible rfl); (simp only [Act.put, s1_, s2_, s3_, i64_w, i32_w]; rfl)
    refine pr_ (i := 6) (N := some 31) (v := ?_) (a' := ?_) (bv 14 77) HT_.out ?_ ?_ ?_; rotate_left 2; (intro w'; go_simp; with_reducible rfl); (simp only [Act.put, s1_, s2_, s3_, i64_w, i32_w]; rfl)
    refine pr_ (i := 8) (N := some 33) (v := ?_) (a' := ?_) (bv 14 333) HT_.out ?_ ?_ ?_; rotate_left 2; (intro w'; go_simp; with_reducible rfl); (simp only [Act.put, s1_, s2_, s3_, i64_w, i32_w]; rfl)
    refine pr_ (i := 9) (N := some 34) (v := ?_) (a' := ?_) (bv 14 845) HT_.out ?_ ?_ ?_; rotate_left 2; (intro w'; go_simp; with_reducible rfl); (simp only [Act.put, s1_, s2_, s3_, i64_w, i32_w]; rfl)
    refine take_ (i := 1) (N := some 26) (v := ?_) (a' := ?_) (bv 14 847) rfl rfl (take_ofW HT_.out HW_.out (by kernel_rfl)) (fun _ _ _ h => h) (Or.inl ⟨by rfl, ?_⟩) hHeld ?_ ?_
    rotate_left
    ·rintro w' ⟨s0, s1, s2⟩
     go_simp
     with_reducible rfl
    rotate_left
    ·simp only [Act.put, s1_, s2_, s3_, i64_w, i32_w]
     rfl
    refine take_ (i := 7) (N := some 32) (v := ?_) (a' := ?_) (bv 14 975) rfl rfl (take_ofW HT_.out HW_.out (by kernel_rfl)) (fun _ _ _ h => h) (Or.inl ⟨by rfl, ?_⟩) hHeld ?_ ?_
    rotate_left
    ·rintro w' ⟨s0, s1, s2⟩
     go_simp
     with_reducible rfl
    rotate_left
    ·simp only [Act.put, s1_, s2_, s3_, i64_w, i32_w]
     rfl
    refine one_ (i := 4) (N := some 29) (bv 14 991) rfl rfl (one_of HT_.out (by kernel_rfl)) (by decide) (fun K hK => ?_)
    refine goes_ Tryd.func28 (by kernel_rfl) rfl #[.slice A3 l3.length c3, .int .i64 ji9] (by rfl) rfl rfl (by (try simp only [List.map_toArray, List.map_cons, List.map_nil]); first | done | (simp only [hji9]; rfl) | rfl | (simp only [List.length_drop, List.length_take]; rfl)) ?_
    with_reducible refine (attestorlaw05_own.calls _ _ l3 ji9 t731 _ ?side1 ?side2 A10.out).mono ?_
    (case side1 => exact cU_ (Kd.C_below HR3.out HB.out))
    (case side2 => exact HC3.out)
    rintro e w31 ⟨v732, rfl, ho0, hb⟩
    refine ⟨_, rfl, ?_⟩
    refine nx3_ (Kd.R_lower ho0 (below_size (by repeat (first | (with_reducible first | exact HB.out | apply below_alloc | apply pw_below_drewN | apply below_drew1 | refine below_set ?_ GE730.out) | exact HB.out)))) (blk_below (g := gb730) (o := .cells #[.int .i64 t727, .int .i64 t728, .int .u64 t729] 24 (0, 0)) (by (with_reducible repeat (first | refine blk_drewN ?_ _ | refine blk_drew ?_ | refine blk_alloc ?_ _)); exact BK730.out) hb) (below_step (by repeat (first | (with_reducible first | exact HB.out | apply below_alloc | apply pw_below_drewN | apply below_drew1 | refine below_set ?_ GE730.out) | exact HB.out)) hb) ?_
    clear BK730 HB
    intro HO733 BK730 HB
    (try clear hb)
    (try clear hb2)
    (try clear hk)
    (try clear hi)
    (try clear ho0)
    obtain ⟨Ao32, co32, eo32⟩ := Kd.R_slice HO733.out
    (first | subst eo32 | (injection eo32 with f1_ f2_ f3_; have f4_ := f1_.symm; have f5_ := f3_.symm; clear f1_ f2_ f3_; subst f4_; subst f5_))
    refine hK.out _ _ ⟨(blk_cell BK730.out 0).trans rfl, (blk_cell BK730.out 1).trans rfl, (blk_cell BK730.out 2).trans rfl⟩ (fun hHeld => ?_)
    clear hK K
    refine norm_ (a' := ?_) ?_ ?_
    rotate_left
    ·show Act.put _ (some 29) _ = _
     simp only [Act.put, s1_, s2_, s3_, i64_w, i32_w]
     rfl
    refine one_ (i := 5) (N := some 30) (bv 14 1023) rfl rfl (one_of HT_.out (by kernel_rfl)) (by decide) (fun K hK => ?_)
    refine goes_ Tryd.func34 (by kernel_rfl) rfl #[.int .i64 t727, .slice Ao32 t731.length co32] (by rfl) rfl rfl ga_ ?_
    with_reducible refine (poly_Normal.calls k t727 _ _ t731 t734 _ ?side1 ?side2 ?side3 A11.out).mono ?_
    (case side1 => repeat (first | with_reducible exact HG.out | with_reducible exact (Fld.below HG.out HB.out) | exact (Fld.below HG.out (by repeat (first | (with_reducible first | exact HB.out | apply below_alloc | apply pw_below_drewN | apply below_drew1 | refine below_set ?_ GE730.out) | exact HB.out))) | (with_reducible refine Fld.alloc ?_ _) | (with_reducible refine Fld.drewN ?_ _) | (with_reducible refine Fld.drew ?_)))
    (case side2 => exact cU_ ((Kd.R_reads' HO733.out).2.2))
    (case side3 => exact (Kd.R_reads' HO733.out).2.1)
    rintro e w33 ⟨v735, rfl, ho0, hb⟩
    refine ⟨_, rfl, ?_⟩
    refine nx4_ (Kd.R_elder' (rU_ HO733.out) (Kd.R_base ho0) hb) (Kd.R_lower (Kd.R_new' ho0 (Kd.R_lt (rU_ HO733.out))) (below_size (by repeat (first | (with_reducible first | exact HB.out | apply below_alloc | apply pw_below_drewN | apply below_drew1 | refine below_set ?_ GE730.out) | exact HB.out)))) (blk_below (g := gb730) (o := .cells #[.int .i64 t727, .int .i64 t728, .int .u64 t729] 24 (0, 0)) (by (with_reducible repeat (first | refine blk_drewN ?_ _ | refine blk_drew ?_ | refine blk_alloc ?_ _)); exact BK730.out) hb) (below_step (by repeat (first | (with_reducible first | exact HB.out | apply below_alloc | apply pw_below_drewN | apply below_drew1 | refine below_set ?_ GE730.out) | exact HB.out)) hb) ?_
    clear HO733 BK730 HB
    intro HO733 HO736 BK730 HB
    (try clear hb)
    (try clear hb2)
    (try clear hk)
    (try clear hi)
    (try clear ho0)
    refine hK.out _ _ ⟨(blk_cell BK730.out 0).trans rfl, (blk_cell BK730.out 1).trans rfl, (blk_cell BK730.out 2).trans rfl⟩ (fun hHeld => ?_)
    clear hK K
    refine norm_ (a' := ?_) ?_ ?_
    rotate_left
    ·show Act.put _ (some 30) _ = _
     simp only [Act.put, s1_, s2_, s3_, i64_w, i32_w]
     rfl
    refine one_ (i := 10) (N := some 35) (bv 14 2047) rfl rfl (one_of HT_.out (by kernel_rfl)) (by decide) (fun K hK => ?_)
    refine goes_ Tryd.func28 (by kernel_rfl) rfl #[.slice A4 l4.length c4, .int .i64 ji9] (by rfl) rfl rfl (by (try simp only [List.map_toArray, List.map_cons, List.map_nil]); first | done | (simp only [hji9]; rfl) | rfl | (simp only [List.length_drop, List.length_take]; rfl)) ?_
    with_reducible refine (attestorlaw05_own.calls _ _ l4 ji9 t737 _ ?side1 ?side2 A12.out).mono ?_
    (case side1 => exact cU_ (Kd.C_below HR4.out HB.out))
    (case side2 => exact HC4.out)
    rintro e w34 ⟨v738, rfl, ho0, hb⟩
    refine ⟨_, rfl, ?_⟩
    refine nx5_ (Kd.R_elder' (rU_ HO733.out) (Kd.R_base ho0) hb) (Kd.R_elder' (rU_ HO736.out) (Kd.R_base ho0) hb) (Kd.R_lower (Kd.R_new' (Kd.R_new' ho0 (Kd.R_lt (rU_ HO733.out))) (Kd.R_lt (rU_ HO736.out))) (below_size (by repeat (first | (with_reducible first | exact HB.out | apply below_alloc | apply pw_below_drewN | apply below_drew1 | refine below_set ?_ GE730.out) | exact HB.out)))) (blk_below (g := gb730) (o := .cells #[.int .i64 t727, .int .i64 t728, .int .u64 t729] 24 (0, 0)) (by (with_reducible repeat (first | refine blk_drewN ?_ _ | refine blk_drew ?_ | refine blk_alloc ?_ _)); exact BK730.out) hb) (below_step (by repeat (first | (with_reducible first | exact HB.out | apply below_alloc | apply pw_below_drewN | apply below_drew1 | refine below_set ?_ GE730.out) | exact HB.out)) hb) ?_
    clear HO733 HO736 BK730 HB
    intro HO733 HO736 HO739 BK730 HB
    (try clear hb)
    (try clear hb2)
    (try clear hk)
    (try clear hi)
    (try clear ho0)
    obtain ⟨Ao35, co35, eo35⟩ := Kd.R_slice HO739.out
    (first | subst eo35 | (injection eo35 with f1_ f2_ f3_; have f4_ := f1_.symm; have f5_ := f3_.symm; clear f1_ f2_ f3_; subst f4_; subst f5_))
    refine hK.out _ _ ⟨(blk_cell BK730.out 0).trans rfl, (blk_cell BK730.out 1).trans rfl, (blk_cell BK730.out 2).trans rfl⟩ (fun hHeld => ?_)
    clear hK K
    refine norm_ (a' := ?_) ?_ ?_
    rotate_left
    ·show Act.put _ (some 35) _ = _
     simp only [Act.put, s1_, s2_, s3_, i64_w, i32_w]
     rfl
    refine one_ (i := 11) (N := some 36) (bv 14 4095) rfl rfl (one_of HT_.out (by kernel_rfl)) (by decide) (fun K hK => ?_)
    refine goes_ Tryd.func34 (by kernel_rfl) rfl #[.int .i64 t727, .slice Ao35 t737.length co35] (by rfl) rfl rfl ga_ ?_
    with_reducible refine (poly_Normal.calls k t727 _ _ t737 t740 _ ?side1 ?side2 ?side3 A13.out).mono ?_
    (case side1 => repeat (first | with_reducible exact HG.out | with_reducible exact (Fld.below HG.out HB.out) | exact (Fld.below HG.out (by repeat (first | (with_reducible first | exact HB.out | apply below_alloc | apply pw_below_drewN | apply below_drew1 | refine below_set ?_ GE730.out) | exact HB.out))) | (with_reducible refine Fld.alloc ?_ _) | (with_reducible refine Fld.drewN ?_ _) | (with_reducible refine Fld.drew ?_)))
    (case side2 => exact cU_ ((Kd.R_reads' HO739.out).2.2))
    (case side3 => exact (Kd.R_reads' HO739.out).2.1)
    rintro e w36 ⟨v741, rfl, ho0, hb⟩
    refine ⟨_, rfl, ?_⟩
    refine nx6_ (Kd.R_elder' (rU_ HO733.out) (Kd.R_base ho0) hb) (Kd.R_elder' (rU_ HO736.out) (Kd.R_base ho0) hb) (Kd.R_elder' (rU_ HO739.out) (Kd.R_base ho0) hb) (Kd.R_lower (Kd.R_new' (Kd.R_new' (Kd.R_new' ho0 (Kd.R_lt (rU_ HO733.out))) (Kd.R_lt (rU_ HO736.out))) (Kd.R_lt (rU_ HO739.out))) (below_size (by repeat (first | (with_reducible first | exact HB.out | apply below_alloc | apply pw_below_drewN | apply below_drew1 | refine below_set ?_ GE730.out) | exact HB.out)))) (blk_below (g := gb730) (o := .cells #[.int .i64 t727, .int .i64 t728, .int .u64 t729] 24 (0, 0)) (by (with_reducible repeat (first | refine blk_drewN ?_ _ | refine blk_drew ?_ | refine blk_alloc ?_ _)); exact BK730.out) hb) (below_step (by repeat (first | (with_reducible first | exact HB.out | apply below_alloc | apply pw_below_drewN | apply below_drew1 | refine below_set ?_ GE730.out) | exact HB.out)) hb) ?_
    clear HO733 HO736 HO739 BK730 HB
    intro HO733 HO736 HO739 HO742 BK730 HB
    (try clear hb)
    (try clear hb2)
    (try clear hk)
    (try clear hi)
    (try clear ho0)
    refine hK.out _ _ ⟨(blk_cell BK730.out 0).trans rfl, (blk_cell BK730.out 1).trans rfl, (blk_cell BK730.out 2).trans rfl⟩ (fun hHeld => ?_)
    clear hK K
    refine norm_ (a' := ?_) ?_ ?_
    rotate_left
    ·show Act.put _ (some 36) _ = _
     simp only [Act.put, s1_, s2_, s3_, i64_w, i32_w]
     rfl
    refine pr_ (i := 12) (N := some 3) (v := ?_) (a' := ?_) (bv 14 8191) HT_.out ?_ ?_ ?_; rotate_left 2; (intro w'; go_simp; with_reducible rfl); (simp only [Act.put, s1_, s2_, s3_, i64_w, i32_w]; rfl)
    refine pr_ (i := 13) (N := some 4) (v := ?_) (a' := ?_) (bv 14 16383) HT_.out ?_ ?_ ?_; rotate_left 2; (intro w'; go_simp; with_reducible rfl); (simp only [Act.put, s1_, s2_, s3_, i64_w, i32_w]; rfl)
    refine done_ (done_of HT_.out (by kernel_rfl)) ?_
    obtain ⟨Ao37, co37, eo37⟩ := Kd.R_slice HO736.out
    subst eo37
    obtain ⟨Ao38, co38, eo38⟩ := Kd.R_slice HO742.out
    subst eo38
    try go_wp2
    refine nx6_ (Kd.R_drew HO733.out) (Kd.R_drew HO736.out) (Kd.R_drew HO739.out) (Kd.R_drew HO742.out) (blk_drew BK730.out) (below_drew1 HB.out) ?_
    clear HO733 HO736 HO739 HO742 BK730 HB
    intro HO733 HO736 HO739 HO742 BK730 HB
    refine start_ (n := 8) (S := fun w' => w'.cell? ⟨gb730, 0, none⟩ = some (.int .i64 t727) ∧ w'.cell? ⟨gb730, 1, none⟩ = some (.int .i64 t728) ∧ w'.cell? ⟨gb730, 2, none⟩ = some (.int .u64 t729)) (ds := []) (bv 8 0) (by kernel_rfl) rfl rfl ⟨(blk_cell BK730.out 0).trans rfl, (blk_cell BK730.out 1).trans rfl, (blk_cell BK730.out 2).trans rfl⟩ (fun hHeld => ?_); refine with_tabW attestorlaw05_CodeDistance.tab5 attestorlaw05_CodeDistance.bits5 (fun HT_ HW_ => ?_)
    generalize w36.drew = w39 at HO733 HO736 HO739 HO742 BK730 HB hHeld ⊢
    refine pr_ (i := 1) (N := some 43) (v := ?_) (a' := ?_) (bv 8 2) HT_.out ?_ ?_ ?_; rotate_left 2; (intro w'; go_simp; with_reducible rfl); (simp only [Act.put, s1_, s2_, s3_, i64_w, i32_w]; rfl)
    refine pr_ (i := 4) (N := some 46) (v := ?_) (a' := ?_) (bv 8 18) HT_.out ?_ ?_ ?_; rotate_left 2; (intro w'; go_simp; with_reducible rfl); (simp only [Act.put, s1_, s2_, s3_, i64_w, i32_w]; rfl)
    refine take_ (i := 0) (N := some 42) (v := ?_) (a' := ?_) (bv 8 19) rfl rfl (take_ofW HT_.out HW_.out (by kernel_rfl)) (fun _ _ _ h => h) (Or.inl ⟨by rfl, ?_⟩) hHeld ?_ ?_
    rotate_left
    ·rintro w' ⟨s0, s1, s2⟩
     go_simp
     with_reducible rfl
    rotate_left
    ·simp only [Act.put, s1_, s2_, s3_, i64_w, i32_w]
     rfl
    refine take_ (i := 3) (N := some 45) (v := ?_) (a' := ?_) (bv 8 27) rfl rfl (take_ofW HT_.out HW_.out (by kernel_rfl)) (fun _ _ _ h => h) (Or.inl ⟨by rfl, ?_⟩) hHeld ?_ ?_
    rotate_left
    ·rintro w' ⟨s0, s1, s2⟩
     go_simp
     with_reducible rfl
    rotate_left
    ·simp only [Act.put, s1_, s2_, s3_, i64_w, i32_w]
     rfl
    refine one_ (i := 2) (N := some 44) (bv 8 31) rfl rfl (one_of HT_.out (by kernel_rfl)) (by decide) (fun K hK => ?_)
    refine goes_ Tryd.func35 (by kernel_rfl) rfl #[.agg #[.int .i64 t727, .int .i64 t728, .int .u64 t729], .slice Ao37 t734.length co37] (by rfl) rfl rfl ga_ ?_
    with_reducible refine (attestorlaw05_word.calls k t727 t728 t729 _ _ t734 t743 _ ?side1 ?side2 ?side3 A15.out).mono ?_
    (case side1 => repeat (first | with_reducible exact HG.out | with_reducible exact (Fld.below HG.out HB.out) | exact (Fld.below HG.out (by repeat (first | (with_reducible first | exact HB.out | apply below_alloc | apply pw_below_drewN | apply below_drew1 | refine below_set ?_ GE730.out) | exact HB.out))) | (with_reducible refine Fld.alloc ?_ _) | (with_reducible refine Fld.drewN ?_ _) | (with_reducible refine Fld.drew ?_)))
    (case side2 => exact cU_ ((Kd.R_reads' HO736.out).2.2))
    (case side3 => exact (Kd.R_reads' HO736.out).2.1)
    rintro e w40 ⟨v744, rfl, ho0, hb⟩
    refine ⟨_, rfl, ?_⟩
    refine nx7_ (Kd.R_elder' (rU_ HO733.out) (Kd.R_base ho0) hb) (Kd.R_elder' (rU_ HO736.out) (Kd.R_base ho0) hb) (Kd.R_elder' (rU_ HO739.out) (Kd.R_base ho0) hb) (Kd.R_elder' (rU_ HO742.out) (Kd.R_base ho0) hb) (Kd.R_lower (Kd.R_new' (Kd.R_new' (Kd.R_new' (Kd.R_new' ho0 (Kd.R_lt (rU_ HO733.out))) (Kd.R_lt (rU_ HO736.out))) (Kd.R_lt (rU_ HO739.out))) (Kd.R_lt (rU_ HO742.out))) (below_size (by repeat (first | (with_reducible first | exact HB.out | apply below_alloc | apply pw_below_drewN | apply below_drew1 | refine below_set ?_ GE730.out) | exact HB.out)))) (blk_below (g := gb730) (o := .cells #[.int .i64 t727, .int .i64 t728, .int .u64 t729] 24 (0, 0)) (by (with_reducible repeat (first | refine blk_drewN ?_ _ | refine blk_drew ?_ | refine blk_alloc ?_ _)); exact BK730.out) hb) (below_step (by repeat (first | (with_reducible first | exact HB.out | apply below_alloc | apply pw_below_drewN | apply below_drew1 | refine below_set ?_ GE730.out) | exact HB.out)) hb) ?_
    clear HO733 HO736 HO739 HO742 BK730 HB
    intro HO733 HO736 HO739 HO742 HO745 BK730 HB
    (try clear hb)
    (try clear hb2)
    (try clear hk)
    (try clear hi)
    (try clear ho0)
    refine hK.out _ _ ⟨(blk_cell BK730.out 0).trans rfl, (blk_cell BK730.out 1).trans rfl, (blk_cell BK730.out 2).trans rfl⟩ (fun hHeld => ?_)
    clear hK K
    refine norm_ (a' := ?_) ?_ ?_
    rotate_left
    ·show Act.put _ (some 44) _ = _
     simp only [Act.put, s1_, s2_, s3_, i64_w, i32_w]
     rfl
    refine one_ (i := 5) (N := some 47) (bv 8 63) rfl rfl (one_of HT_.out (by kernel_rfl)) (by decide) (fun K hK => ?_)
    refine goes_ Tryd.func35 (by kernel_rfl) rfl #[.agg #[.int .i64 t727, .int .i64 t728, .int .u64 t729], .slice Ao38 t740.length co38] (by rfl) rfl rfl ga_ ?_
    with_reducible refine (attestorlaw05_word.calls k t727 t728 t729 _ _ t740 t746 _ ?side1 ?side2 ?side3 A16.out).mono ?_
    (case side1 => repeat (first | with_reducible exact HG.out | with_reducible exact (Fld.below HG.out HB.out) | exact (Fld.below HG.out (by repeat (first | (with_reducible first | exact HB.out | apply below_alloc | apply pw_below_drewN | apply below_drew1 | refine below_set ?_ GE730.out) | exact HB.out))) | (with_reducible refine Fld.alloc ?_ _) | (with_reducible refine Fld.drewN ?_ _) | (with_reducible refine Fld.drew ?_)))
    (case side2 => exact cU_ ((Kd.R_reads' HO742.out).2.2))
    (case side3 => exact (Kd.R_reads' HO742.out).2.1)
    rintro e w41 ⟨v747, rfl, ho0, hb⟩
    refine ⟨_, rfl, ?_⟩
    refine nx8_ (Kd.R_elder' (rU_ HO733.out) (Kd.R_base ho0) hb) (Kd.R_elder' (rU_ HO736.out) (Kd.R_base ho0) hb) (Kd.R_elder' (rU_ HO739.out) (Kd.R_base ho0) hb) (Kd.R_elder' (rU_ HO742.out) (Kd.R_base ho0) hb) (Kd.R_elder' (rU_ HO745.out) (Kd.R_base ho0) hb) (Kd.R_lower (Kd.R_new' (Kd.R_new' (Kd.R_new' (Kd.R_new' (Kd.R_new' ho0 (Kd.R_lt (rU_ HO733.out))) (Kd.R_lt (rU_ HO736.out))) (Kd.R_lt (rU_ HO739.out))) (Kd.R_lt (rU_ HO742.out))) (Kd.R_lt (rU_ HO745.out))) (below_size (by repeat (first | (with_reducible first | exact HB.out | apply below_alloc | apply pw_below_drewN | apply below_drew1 | refine below_set ?_ GE730.out) | exact HB.out)))) (blk_below (g := gb730) (o := .cells #[.int .i64 t727, .int .i64 t728, .int .u64 t729] 24 (0, 0)) (by (with_reducible repeat (first | refine blk_drewN ?_ _ | refine blk_drew ?_ | refine blk_alloc ?_ _)); exact BK730.out) hb) (below_step (by repeat (first | (with_reducible first | exact HB.out | apply below_alloc | apply pw_below_drewN | apply below_drew1 | refine below_set ?_ GE730.out) | exact HB.out)) hb) ?_
    clear HO733 HO736 HO739 HO742 HO745 BK730 HB
    intro HO733 HO736 HO739 HO742 HO745 HO748 BK730 HB
    (try clear hb)
    (try clear hb2)
    (try clear hk)
    (try clear hi)
    (try clear ho0)
    refine hK.out _ _ ⟨(blk_cell BK730.out 0).trans rfl, (blk_cell BK730.out 1).trans rfl, (blk_cell BK730.out 2).trans rfl⟩ (fun hHeld => ?_)
    clear hK K
    refine norm_ (a' := ?_) ?_ ?_
    rotate_left
    ·show Act.put _ (some 47) _ = _
     simp only [Act.put, s1_, s2_, s3_, i64_w, i32_w]
     rfl
    refine pr_ (i := 6) (N := some 14) (v := ?_) (a' := ?_) (bv 8 127) HT_.out ?_ ?_ ?_; rotate_left 2; (intro w'; go_simp; with_reducible rfl); (simp only [Act.put, s1_, s2_, s3_, i64_w, i32_w]; rfl)
    refine pr_ (i := 7) (N := some 15) (v := ?_) (a' := ?_) (bv 8 255) HT_.out ?_ ?_ ?_; rotate_left 2; (intro w'; go_simp; with_reducible rfl); (simp only [Act.put, s1_, s2_, s3_, i64_w, i32_w]; rfl)
    refine done_ (done_of HT_.out (by kernel_rfl)) ?_
    obtain ⟨Ao42, co42, eo42⟩ := Kd.R_slice HO745.out
    subst eo42
    obtain ⟨Ao43, co43, eo43⟩ := Kd.R_slice HO748.out
    subst eo43
    have hcz44_0 : w41.cell? ⟨gb730, 0, none⟩ = some (.int .i64 t727) := (blk_cell BK730.out 0).trans rfl
    have hcz44_1 : w41.cell? ⟨gb730, 1, none⟩ = some (.int .i64 t728) := (blk_cell BK730.out 1).trans rfl
    have hcz44_2 : w41.cell? ⟨gb730, 2, none⟩ = some (.int .u64 t729) := (blk_cell BK730.out 2).trans rfl
    have hfz44_0 := blk_frozen BK730.out 0
    have hfz44_1 := blk_frozen BK730.out 1
    have hfz44_2 := blk_frozen BK730.out 2
    go_upto_if 84 with (first | (go_at_call 31; (with_reducible refine (code_IsWord.calls k t727 t728 t729 _ _ t743 ji14 true _ ?side1 ?side2 ?side3 A19.out).mono ?_); (case side1 => repeat (first | with_reducible exact HG.out | with_reducible exact (Fld.below HG.out HB.out) | exact (Fld.below HG.out (by repeat (first | (with_reducible first | exact HB.out | apply below_alloc | apply pw_below_drewN | apply below_drew1 | refine below_set ?_ GE730.out) | exact HB.out))) | (with_reducible refine Fld.alloc ?_ _) | (with_reducible refine Fld.drewN ?_ _) | (with_reducible refine Fld.drew ?_))); (case side2 => exact cU_ ((Kd.R_reads' HO745.out).2.2)); (case side3 => exact (Kd.R_reads' HO745.out).2.1); rintro e w45 ⟨rfl, hb⟩; refine nx8_ (Kd.R_below (rU_ HO733.out) hb) (Kd.R_below (rU_ HO736.out) hb) (Kd.R_below (rU_ HO739.out) hb) (Kd.R_below (rU_ HO742.out) hb) (Kd.R_below (rU_ HO745.out) hb) (Kd.R_below (rU_ HO748.out) hb) (blk_below (g := gb730) (o := .cells #[.int .i64 t727, .int .i64 t728, .int .u64 t729] 24 (0, 0)) (by (with_reducible repeat (first | refine blk_drewN ?_ _ | refine blk_drew ?_ | refine blk_alloc ?_ _)); exact BK730.out) hb) (below_step (by repeat (first | (with_reducible first | exact HB.out | apply below_alloc | apply pw_below_drewN | apply below_drew1 | refine below_set ?_ GE730.out) | exact HB.out)) hb) ?_; clear HO733 HO736 HO739 HO742 HO745 HO748 BK730 HB; intro HO733 HO736 HO739 HO742 HO745 HO748 BK730 HB; clear hb; have hcz46_0 : w45.cell? ⟨gb730, 0, none⟩ = some (.int .i64 t727) := (blk_cell BK730.out 0).trans rfl; have hcz46_1 : w45.cell? ⟨gb730, 1, none⟩ = some (.int .i64 t728) := (blk_cell BK730.out 1).trans rfl; have hcz46_2 : w45.cell? ⟨gb730, 2, none⟩ = some (.int .u64 t729) := (blk_cell BK730.out 2).trans rfl; have hfz46_0 := blk_frozen BK730.out 0; have hfz46_1 := blk_frozen BK730.out 1; have hfz46_2 := blk_frozen BK730.out 2) | (go_at_call 31; (with_reducible refine (code_IsWord.calls k t727 t728 t729 _ _ t746 ji14 true _ ?side1 ?side2 ?side3 A21.out).mono ?_); (case side1 => repeat (first | with_reducible exact HG.out | with_reducible exact (Fld.below HG.out HB.out) | exact (Fld.below HG.out (by repeat (first | (with_reducible first | exact HB.out | apply below_alloc | apply pw_below_drewN | apply below_drew1 | refine below_set ?_ GE730.out) | exact HB.out))) | (with_reducible refine Fld.alloc ?_ _) | (with_reducible refine Fld.drewN ?_ _) | (with_reducible refine Fld.drew ?_))); (case side2 => exact cU_ ((Kd.R_reads' HO748.out).2.2)); (case side3 => exact (Kd.R_reads' HO748.out).2.1); rintro e w47 ⟨rfl, hb⟩; refine nx8_ (Kd.R_below (rU_ HO733.out) hb) (Kd.R_below (rU_ HO736.out) hb) (Kd.R_below (rU_ HO739.out) hb) (Kd.R_below (rU_ HO742.out) hb) (Kd.R_below (rU_ HO745.out) hb) (Kd.R_below (rU_ HO748.out) hb) (blk_below (g := gb730) (o := .cells #[.int .i64 t727, .int .i64 t728, .int .u64 t729] 24 (0, 0)) (by (with_reducible repeat (first | refine blk_drewN ?_ _ | refine blk_drew ?_ | refine blk_alloc ?_ _)); exact BK730.out) hb) (below_step (by repeat (first | (with_reducible first | exact HB.out | apply below_alloc | apply pw_below_drewN | apply below_drew1 | refine below_set ?_ GE730.out) | exact HB.out)) hb) ?_; clear HO733 HO736 HO739 HO742 HO745 HO748 BK730 HB; intro HO733 HO736 HO739 HO742 HO745 HO748 BK730 HB; clear hb; have hcz48_0 : w47.cell? ⟨gb730, 0, none⟩ = some (.int .i64 t727) := (blk_cell BK730.out 0).trans rfl; have hcz48_1 : w47.cell? ⟨gb730, 1, none⟩ = some (.int .i64 t728) := (blk_cell BK730.out 1).trans rfl; have hcz48_2 : w47.cell? ⟨gb730, 2, none⟩ = some (.int .u64 t729) := (blk_cell BK730.out 2).trans rfl; have hfz48_0 := blk_frozen BK730.out 0; have hfz48_1 := blk_frozen BK730.out 1; have hfz48_2 := blk_frozen BK730.out 2) | (go_at_call 31; (with_reducible refine (code_IsWord.calls k t727 t728 t729 _ _ t743 (wrap64 ((t734.length : Int) - 1)) t751 _ ?side1 ?side2 ?side3 A24.out).mono ?_); (case side1 => repeat (first | with_reducible exact HG.out | with_reducible exact (Fld.below HG.out HB.out) | exact (Fld.below HG.out (by repeat (first | (with_reducible first | exact HB.out | apply below_alloc | apply pw_below_drewN | apply below_drew1 | refine below_set ?_ GE730.out) | exact HB.out))) | (with_reducible refine Fld.alloc ?_ _) | (with_reducible refine Fld.drewN ?_ _) | (with_reducible refine Fld.drew ?_))); (case side2 => exact cU_ ((Kd.R_reads' HO745.out).2.2)); (case side3 => exact (Kd.R_reads' HO745.out).2.1); rintro e w49 ⟨rfl, hb⟩; refine nx8_ (Kd.R_below (rU_ HO733.out) hb) (Kd.R_below (rU_ HO736.out) hb) (Kd.R_below (rU_ HO739.out) hb) (Kd.R_below (rU_ HO742.out) hb) (Kd.R_below (rU_ HO745.out) hb) (Kd.R_below (rU_ HO748.out) hb) (blk_below (g := gb730) (o := .cells #[.int .i64 t727, .int .i64 t728, .int .u64 t729] 24 (0, 0)) (by (with_reducible repeat (first | refine blk_drewN ?_ _ | refine blk_drew ?_ | refine blk_alloc ?_ _)); exact BK730.out) hb) (below_step (by repeat (first | (with_reducible first | exact HB.out | apply below_alloc | apply pw_below_drewN | apply below_drew1 | refine below_set ?_ GE730.out) | exact HB.out)) hb) ?_; clear HO733 HO736 HO739 HO742 HO745 HO748 BK730 HB; intro HO733 HO736 HO739 HO742 HO745 HO748 BK730 HB; clear hb))
    (try simp only [Act.put, s1_, s2_, s3_])
    go_cut [] (fun wc => ∃ (kq : Nat), Aside0 (attestorlaw05_CodeDistance.j0 kq t734 t740 ji9 ji14 t743 t746 t727 t728 t729 = some r) ∧ Aside0 (kq ≤ k) ∧ Aside0 (Kd.R (Kd.int .u64) 22 wc w.heap.size (fun k_ => some k_ ≠ ((.slice Ao38 t740.length co38) : Value).ownBlock ∧ some k_ ≠ ((.slice Ao42 t743.length co42) : Value).ownBlock ∧ some k_ ≠ ((.slice Ao43 t746.length co43) : Value).ownBlock) (.slice Ao37 t734.length co37) t734) ∧ Aside0 (Kd.R (Kd.int .u64) 22 wc w.heap.size (fun k_ => some k_ ≠ ((.slice Ao37 t734.length co37) : Value).ownBlock ∧ some k_ ≠ ((.slice Ao42 t743.length co42) : Value).ownBlock ∧ some k_ ≠ ((.slice Ao43 t746.length co43) : Value).ownBlock) (.slice Ao38 t740.length co38) t740) ∧ Aside0 (Kd.R (Kd.int .u64) 22 wc w.heap.size (fun k_ => some k_ ≠ ((.slice Ao37 t734.length co37) : Value).ownBlock ∧ some k_ ≠ ((.slice Ao38 t740.length co38) : Value).ownBlock ∧ some k_ ≠ ((.slice Ao43 t746.length co43) : Value).ownBlock) (.slice Ao42 t743.length co42) t743) ∧ Aside0 (Kd.R (Kd.int .u64) 22 wc w.heap.size (fun k_ => some k_ ≠ ((.slice Ao37 t734.length co37) : Value).ownBlock ∧ some k_ ≠ ((.slice Ao38 t740.length co38) : Value).ownBlock ∧ some k_ ≠ ((.slice Ao42 t743.length co42) : Value).ownBlock) (.slice Ao43 t746.length co43) t746) ∧ Aside0 (wc.heap[gb730]? = some (.cells #[.int .i64 t727, .int .i64 t728, .int .u64 t729] 24 (0, 0))) ∧ Aside0 (Below w.heap.size w wc))
    case first =>
     have H := HC25.out
     clear HC25
     by_cases c50 : t751 = true
     ·subst c50
      rw [if_pos rfl] at H
      exact absurd H (by simp)
     ·replace c50 := Bool.eq_false_iff.mpr c50
      subst c50
      rw [if_neg (show ¬ (false = true) by decide)] at H
      have H' := ak H
      clear H
      go_wp2
      go_meet
      case rel => exact ⟨_, H', ⟨by first | omega | exact Nat.le_refl _⟩, ⟨Kd.R_mono (rU_ HO736.out) (fun _ hk => ⟨hk.1.1.2, ⟨hk.1.2, hk.2⟩⟩)⟩, ⟨Kd.R_mono (rU_ HO742.out) (fun _ hk => ⟨hk.1.1.1.2, ⟨hk.1.2, hk.2⟩⟩)⟩, ⟨Kd.R_mono (rU_ HO745.out) (fun _ hk => ⟨hk.1.1.1.2, ⟨hk.1.2, hk.2⟩⟩)⟩, ⟨Kd.R_mono (rU_ HO748.out) (fun _ hk => ⟨hk.1.1.1.2, ⟨hk.1.2, hk.2⟩⟩)⟩, ⟨by (with_reducible repeat (first | refine blk_drewN ?_ _ | refine blk_drew ?_ | refine blk_alloc ?_ _)); exact BK730.out⟩, ⟨by repeat (first | (with_reducible first | exact HB.out | apply below_alloc | apply pw_below_drewN | apply below_drew1 | refine below_set ?_ GE730.out) | exact HB.out)⟩⟩
    case rest =>
     clear HC25
     (try clear c1); (try clear c2); (try clear p2); (try clear c3); (try clear c4); (try clear c5); (try clear c6); (try clear p6); (try clear c8); (try clear c8b0); (try clear c8b1); (try clear c17); (try clear c17b0); (try clear c17b1); (try clear c18); (try clear c18b0); (try clear c18b1); (try clear c20); (try clear c22); (try clear c23); (try clear c23b0); (try clear c23b1); (try clear c28); (try clear c33); (try clear c34); (try clear c35); (try clear c50); (try clear hcz28_0); (try clear hcz28_1); (try clear hcz28_2); (try clear hcz44_0); (try clear hcz44_1); (try clear hcz44_2); (try clear hcz46_0); (try clear hcz46_1); (try clear hcz46_2); (try clear hcz48_0); (try clear hcz48_1); (try clear hcz48_2); (try clear hfz28_0); (try clear hfz28_1); (try clear hfz28_2); (try clear hfz44_0); (try clear hfz44_1); (try clear hfz44_2); (try clear hfz46_0); (try clear hfz46_1); (try clear hfz46_2); (try clear hfz48_0); (try clear hfz48_1); (try clear hfz48_2)
     obtain ⟨kq, HA, HJ24, HO_3, HO_4, HO_14, HO_15, BK730, HB⟩ := hcut
     cases kq with
     | zero => exact absurd HA.out (by simp [attestorlaw05_CodeDistance.j0])
     | succ kj24 =>
      have H := HA.out
      clear HA
      simp only [attestorlaw05_CodeDistance.j0] at H
      revert H
      refine bd_ fun t752 A51 H => ?_
      revert H
      refine bd_ fun t753 A52 H => ?_
      by_cases c53 : t753 = true
      ·subst c53
       rw [if_pos rfl] at H
       obtain ⟨c54, H⟩ : (t752 = 0) ∧ _ := it_ H
       have c54b0 := beq_iff_eq.mpr c54
       have c54b1 := bne_eq_false_iff_eq.mpr c54
       clear c54
       revert H
       refine bd_ fun t754 A55 H => ?_
       obtain rfl := Option.some.inj H
       have hcz56_0 : wc.cell? ⟨gb730, 0, none⟩ = some (.int .i64 t727) := (blk_cell BK730.out 0).trans rfl
       have hcz56_1 : wc.cell? ⟨gb730, 1, none⟩ = some (.int .i64 t728) := (blk_cell BK730.out 1).trans rfl
       have hcz56_2 : wc.cell? ⟨gb730, 2, none⟩ = some (.int .u64 t729) := (blk_cell BK730.out 2).trans rfl
       have hfz56_0 := blk_frozen BK730.out 0
       have hfz56_1 := blk_frozen BK730.out 1
       have hfz56_2 := blk_frozen BK730.out 2
       go_wp2_with (first | ((with_reducible refine gate_callee (f := 36) rfl ?_); refine gl_ (some 89) Tryd.func36 #[.int .i64 t727, .slice Ao42 t743.length co42, .slice Ao43 t746.length co43] ?_; (with_reducible refine (code_Differ.calls kj24 t727 _ _ t743 _ _ t746 t752 _ ?side1 ?side2 ?side3 ?side4 ?side5 A51.out).mono ?_); (case side1 => repeat (first | with_reducible exact HG.out | with_reducible exact (Fld.below HG.out HB.out) | exact (Fld.below HG.out (by repeat (first | (with_reducible first | exact HB.out | apply below_alloc | apply pw_below_drewN | apply below_drew1 | refine below_set ?_ GE730.out) | exact HB.out))) | (with_reducible refine Fld.alloc ?_ _) | (with_reducible refine Fld.drewN ?_ _) | (with_reducible refine Fld.drew ?_))); (case side2 => exact cU_ ((Kd.R_reads' HO_14.out).2.2)); (case side3 => exact (Kd.R_reads' HO_14.out).2.1); (case side4 => exact cU_ ((Kd.R_reads' HO_15.out).2.2)); (case side5 => exact (Kd.R_reads' HO_15.out).2.1); rintro e w57 ⟨rfl, hb⟩; refine ⟨_, rfl, ?_⟩; refine nx6_ (Kd.R_below (rU_ HO_3.out) hb) (Kd.R_below (rU_ HO_4.out) hb) (Kd.R_below (rU_ HO_14.out) hb) (Kd.R_below (rU_ HO_15.out) hb) (blk_below (g := gb730) (o := .cells #[.int .i64 t727, .int .i64 t728, .int .u64 t729] 24 (0, 0)) (by (with_reducible repeat (first | refine blk_drewN ?_ _ | refine blk_drew ?_ | refine blk_alloc ?_ _)); exact BK730.out) hb) (below_step (by repeat (first | (with_reducible first | exact HB.out | apply below_alloc | apply pw_below_drewN | apply below_drew1 | refine below_set ?_ GE730.out) | exact HB.out)) hb) ?_; clear HO_3 HO_4 HO_14 HO_15 BK730 HB; intro HO_3 HO_4 HO_14 HO_15 BK730 HB; clear hb) | ((with_reducible refine gate_callee (f := 37) rfl ?_); refine gl_ (some 92) Tryd.func37 #[.slice Ao37 t734.length co37, .slice Ao38 t740.length co38] ?_; (with_reducible refine (attestorlaw05_same.calls kj24 _ _ t734 _ _ t740 true _ ?side1 ?side2 ?side3 ?side4 A52.out).mono ?_); (case side1 => exact cU_ ((Kd.R_reads' HO_3.out).2.2)); (case side2 => exact (Kd.R_reads' HO_3.out).2.1); (case side3 => exact cU_ ((Kd.R_reads' HO_4.out).2.2)); (case side4 => exact (Kd.R_reads' HO_4.out).2.1); rintro e w' ⟨rfl, ⟨nd, rfl⟩⟩; refine ⟨_, rfl, ?_⟩) | (go_at_call 23; (with_reducible refine (attestorlaw05_works.calls kj24  t754 _ ?side1 A55.out).mono ?_); (case side1 => repeat (first | with_reducible exact HG.out | with_reducible exact (Fld.below HG.out HB.out) | exact (Fld.below HG.out (by repeat (first | (with_reducible first | exact HB.out | apply below_alloc | apply pw_below_drewN | apply below_drew1 | refine below_set ?_ GE730.out) | exact HB.out))) | (with_reducible refine Fld.alloc ?_ _) | (with_reducible refine Fld.drewN ?_ _) | (with_reducible refine Fld.drew ?_))); rintro e w58 ⟨rfl, hb⟩; refine nx6_ (Kd.R_below (rU_ HO_3.out) hb) (Kd.R_below (rU_ HO_4.out) hb) (Kd.R_below (rU_ HO_14.out) hb) (Kd.R_below (rU_ HO_15.out) hb) (blk_below (g := gb730) (o := .cells #[.int .i64 t727, .int .i64 t728, .int .u64 t729] 24 (0, 0)) (by (with_reducible repeat (first | refine blk_drewN ?_ _ | refine blk_drew ?_ | refine blk_alloc ?_ _)); exact BK730.out) hb) (below_step (by repeat (first | (with_reducible first | exact HB.out | apply below_alloc | apply pw_below_drewN | apply below_drew1 | refine below_set ?_ GE730.out) | exact HB.out)) hb) ?_; clear HO_3 HO_4 HO_14 HO_15 BK730 HB; intro HO_3 HO_4 HO_14 HO_15 BK730 HB; clear hb))
       go_ret
       exact ⟨by first | rfl | (simp [errW_none, errW_some] <;> rfl) | (simp only [← hji7, ← hji9, ← hji14]; first | rfl | (simp [errW_none, errW_some] <;> rfl)) | (simp [*, errW_none, errW_some] <;> rfl), by repeat (first | (with_reducible first | exact HB.out | apply below_alloc | apply pw_below_drewN | apply below_drew1 | refine below_set ?_ GE730.out) | exact HB.out)⟩
      ·replace c53 := Bool.eq_false_iff.mpr c53
       subst c53
       rw [if_neg (show ¬ (false = true) by decide)] at H
       obtain ⟨c59, H⟩ : ((wrap64 (ji9 - t752)) < ji14) ∧ _ := it_ H
       have c59b0 := decide_eq_true c59
       clear c59
       revert H
       refine bd_ fun t755 A60 H => ?_
       obtain rfl := Option.some.inj H
       have hcz61_0 : wc.cell? ⟨gb730, 0, none⟩ = some (.int .i64 t727) := (blk_cell BK730.out 0).trans rfl
       have hcz61_1 : wc.cell? ⟨gb730, 1, none⟩ = some (.int .i64 t728) := (blk_cell BK730.out 1).trans rfl
       have hcz61_2 : wc.cell? ⟨gb730, 2, none⟩ = some (.int .u64 t729) := (blk_cell BK730.out 2).trans rfl
       have hfz61_0 := blk_frozen BK730.out 0
       have hfz61_1 := blk_frozen BK730.out 1
       have hfz61_2 := blk_frozen BK730.out 2
       go_wp2_with (first | ((with_reducible refine gate_callee (f := 36) rfl ?_); refine gl_ (some 89) Tryd.func36 #[.int .i64 t727, .slice Ao42 t743.length co42, .slice Ao43 t746.length co43] ?_; (with_reducible refine (code_Differ.calls kj24 t727 _ _ t743 _ _ t746 t752 _ ?side1 ?side2 ?side3 ?side4 ?side5 A51.out).mono ?_); (case side1 => repeat (first | with_reducible exact HG.out | with_reducible exact (Fld.below HG.out HB.out) | exact (Fld.below HG.out (by repeat (first | (with_reducible first | exact HB.out | apply below_alloc | apply pw_below_drewN | apply below_drew1 | refine below_set ?_ GE730.out) | exact HB.out))) | (with_reducible refine Fld.alloc ?_ _) | (with_reducible refine Fld.drewN ?_ _) | (with_reducible refine Fld.drew ?_))); (case side2 => exact cU_ ((Kd.R_reads' HO_14.out).2.2)); (case side3 => exact (Kd.R_reads' HO_14.out).2.1); (case side4 => exact cU_ ((Kd.R_reads' HO_15.out).2.2)); (case side5 => exact (Kd.R_reads' HO_15.out).2.1); rintro e w62 ⟨rfl, hb⟩; refine ⟨_, rfl, ?_⟩; refine nx6_ (Kd.R_below (rU_ HO_3.out) hb) (Kd.R_below (rU_ HO_4.out) hb) (Kd.R_below (rU_ HO_14.out) hb) (Kd.R_below (rU_ HO_15.out) hb) (blk_below (g := gb730) (o := .cells #[.int .i64 t727, .int .i64 t728, .int .u64 t729] 24 (0, 0)) (by (with_reducible repeat (first | refine blk_drewN ?_ _ | refine blk_drew ?_ | refine blk_alloc ?_ _)); exact BK730.out) hb) (below_step (by repeat (first | (with_reducible first | exact HB.out | apply below_alloc | apply pw_below_drewN | apply below_drew1 | refine below_set ?_ GE730.out) | exact HB.out)) hb) ?_; clear HO_3 HO_4 HO_14 HO_15 BK730 HB; intro HO_3 HO_4 HO_14 HO_15 BK730 HB; clear hb) | ((with_reducible refine gate_callee (f := 37) rfl ?_); refine gl_ (some 92) Tryd.func37 #[.slice Ao37 t734.length co37, .slice Ao38 t740.length co38] ?_; (with_reducible refine (attestorlaw05_same.calls kj24 _ _ t734 _ _ t740 false _ ?side1 ?side2 ?side3 ?side4 A52.out).mono ?_); (case side1 => exact cU_ ((Kd.R_reads' HO_3.out).2.2)); (case side2 => exact (Kd.R_reads' HO_3.out).2.1); (case side3 => exact cU_ ((Kd.R_reads' HO_4.out).2.2)); (case side4 => exact (Kd.R_reads' HO_4.out).2.1); rintro e w' ⟨rfl, ⟨nd, rfl⟩⟩; refine ⟨_, rfl, ?_⟩) | (go_at_call 23; (with_reducible refine (attestorlaw05_works.calls kj24  t755 _ ?side1 A60.out).mono ?_); (case side1 => repeat (first | with_reducible exact HG.out | with_reducible exact (Fld.below HG.out HB.out) | exact (Fld.below HG.out (by repeat (first | (with_reducible first | exact HB.out | apply below_alloc | apply pw_below_drewN | apply below_drew1 | refine below_set ?_ GE730.out) | exact HB.out))) | (with_reducible refine Fld.alloc ?_ _) | (with_reducible refine Fld.drewN ?_ _) | (with_reducible refine Fld.drew ?_))); rintro e w63 ⟨rfl, hb⟩; refine nx6_ (Kd.R_below (rU_ HO_3.out) hb) (Kd.R_below (rU_ HO_4.out) hb) (Kd.R_below (rU_ HO_14.out) hb) (Kd.R_below (rU_ HO_15.out) hb) (blk_below (g := gb730) (o := .cells #[.int .i64 t727, .int .i64 t728, .int .u64 t729] 24 (0, 0)) (by (with_reducible repeat (first | refine blk_drewN ?_ _ | refine blk_drew ?_ | refine blk_alloc ?_ _)); exact BK730.out) hb) (below_step (by repeat (first | (with_reducible first | exact HB.out | apply below_alloc | apply pw_below_drewN | apply below_drew1 | refine below_set ?_ GE730.out) | exact HB.out)) hb) ?_; clear HO_3 HO_4 HO_14 HO_15 BK730 HB; intro HO_3 HO_4 HO_14 HO_15 BK730 HB; clear hb))
       go_ret
       exact ⟨by first | rfl | (simp [errW_none, errW_some] <;> rfl) | (simp only [← hji7, ← hji9, ← hji14]; first | rfl | (simp [errW_none, errW_some] <;> rfl)) | (simp [*, errW_none, errW_some] <;> rfl), by repeat (first | (with_reducible first | exact HB.out | apply below_alloc | apply pw_below_drewN | apply below_drew1 | refine below_set ?_ GE730.out) | exact HB.out)⟩
   ·rw [if_neg c23] at H
    have c23b0 : decide (0 < (t734.length : Int)) = false := decide_eq_false c23
    have c23b1 : decide (0 < t734.length) = false := decide_eq_false (by omega)
    clear c23
    have HC64 := ak H
    clear H
    go_enter Tryd.func6, Tryd.ntmps6
    try go_wp2_with (first | ((with_reducible refine gate_callee (f := 33) rfl ?_); refine gl_ (some 20) Tryd.func33 #[.int .u8 a0, .int .u8 a1, .int .u64 a2, .int .i64 0] ?_; (with_reducible refine (attestorlaw05_domain.calls a0 a1 a2 0 t727 t728 t729 _ ?side1 A6.out).mono ?_); (case side1 => exact fU_ HG.out HB.out); rintro e w65 ⟨rfl, hb⟩; refine ⟨_, rfl, ?_⟩; refine nx1_ (below_step (bU_ HB.out) hb) ?_; clear HB; intro HB; clear hb) | ((with_reducible refine gate_dst (N := 11) rfl ?_); (try (refine gate_guard (by rfl) ?_; dsimp only)); refine box_event ?hg (N := 11) ?hd (cs := #[.int .i64 0, .int .i64 0, .int .u64 0]) (t := 24) ?hr ?_; (case hd => rfl); (case hg => rfl); (case hr => first | (go_simp; done) | (go_simp; rfl)); intro gb730 hg w66 hbox hb; refine nx4_ (below_step (bU_ HB.out) hb) (hbox) ((by rw [hg]; exact (below_size (bU_ HB.out)) : w.heap.size ≤ gb730)) ((by rw [hg]; exact (below_size (bU_ HB.out)) : w.heap.size ≤ gb730)) ?_; clear HB; intro HB BK730 GW730 GE730; clear hb hbox hg; have hcz67_0 : w66.cell? ⟨gb730, 0, none⟩ = some (.int .i64 0) := (blk_cell BK730.out 0).trans rfl; have hcz67_1 : w66.cell? ⟨gb730, 1, none⟩ = some (.int .i64 0) := (blk_cell BK730.out 1).trans rfl; have hcz67_2 : w66.cell? ⟨gb730, 2, none⟩ = some (.int .u64 0) := (blk_cell BK730.out 2).trans rfl; have hfz67_0 := blk_frozen BK730.out 0; have hfz67_1 := blk_frozen BK730.out 1; have hfz67_2 := blk_frozen BK730.out 2))
    have n0_ : Aside0 ((((w66.setCell ⟨gb730, 0, none⟩ (.int .i64 t727)).setCell ⟨gb730, 1, none⟩ (.int .i64 t728)).setCell ⟨gb730, 2, none⟩ (.int .u64 t729)).heap[gb730]? = some (.cells #[.int .i64 t727, .int .i64 t728, .int .u64 t729] 24 (0, 0))) := ⟨by (with_reducible repeat (first | refine blk_drewN ?_ _ | refine blk_drew ?_ | refine blk_alloc ?_ _)); refine blk_put (cs := #[.int .i64 t727, .int .i64 t728, .int .u64 0]) ?_ 2 _ rfl; (with_reducible repeat (first | refine blk_drewN ?_ _ | refine blk_drew ?_ | refine blk_alloc ?_ _)); refine blk_put (cs := #[.int .i64 t727, .int .i64 0, .int .u64 0]) ?_ 1 _ rfl; (with_reducible repeat (first | refine blk_drewN ?_ _ | refine blk_drew ?_ | refine blk_alloc ?_ _)); refine blk_put (cs := #[.int .i64 0, .int .i64 0, .int .u64 0]) ?_ 0 _ rfl; (with_reducible repeat (first | refine blk_drewN ?_ _ | refine blk_drew ?_ | refine blk_alloc ?_ _)); exact BK730.out⟩
    have n1_ : Aside0 (Below w.heap.size w (((w66.setCell ⟨gb730, 0, none⟩ (.int .i64 t727)).setCell ⟨gb730, 1, none⟩ (.int .i64 t728)).setCell ⟨gb730, 2, none⟩ (.int .u64 t729))) := ⟨by repeat (first | (with_reducible first | exact HB.out | apply below_alloc | apply pw_below_drewN | apply below_drew1 | refine below_set ?_ GE730.out) | exact HB.out)⟩
    (try clear BK730)
    (try clear HB)
    generalize (((w66.setCell ⟨gb730, 0, none⟩ (.int .i64 t727)).setCell ⟨gb730, 1, none⟩ (.int .i64 t728)).setCell ⟨gb730, 2, none⟩ (.int .u64 t729)) = w68 at n0_ n1_ ⊢
    have BK730 := n0_
    have HB := n1_
    clear n0_ n1_
    refine nx2_ (blk_drew BK730.out) (below_drew1 HB.out) ?_
    clear BK730 HB
    intro BK730 HB
    refine start_ (n := 14) (S := fun w' => w'.cell? ⟨gb730, 0, none⟩ = some (.int .i64 t727) ∧ w'.cell? ⟨gb730, 1, none⟩ = some (.int .i64 t728) ∧ w'.cell? ⟨gb730, 2, none⟩ = some (.int .u64 t729)) (ds := []) (bv 14 0) (by kernel_rfl) rfl rfl ⟨(blk_cell BK730.out 0).trans rfl, (blk_cell BK730.out 1).trans rfl, (blk_cell BK730.out 2).trans rfl⟩ (fun hHeld => ?_); refine with_tabW attestorlaw05_CodeDistance.tab3 attestorlaw05_CodeDistance.bits3 (fun HT_ HW_ => ?_)
    generalize w68.drew = w69 at BK730 HB hHeld ⊢
    refine pr_ (i := 0) (N := some 25) (v := ?_) (a' := ?_) (bv 14 1) HT_.out ?_ ?_ ?_; rotate_left 2; (intro w'; go_simp; with_reducible rfl); (simp only [Act.put, s1_, s2_, s3_, i64_w, i32_w]; rfl)
    refine pr_ (i := 2) (N := some 27) (v := ?_) (a' := ?_) (bv 14 5) HT_.out ?_ ?_ ?_; rotate_left 2; (intro w'; go_simp; with_reducible rfl); (simp only [Act.put, s1_, s2_, s3_, i64_w, i32_w]; rfl)
    refine pr_ (i := 3) (N := some 28) (v := ?_) (a' := ?_) (bv 14 13) HT_.out ?_ ?_ ?_; rotate_left 2; (intro w'; go_simp; with_reducible rfl); (simp only [Act.put, s1_, s2_, s3_, i64_w, i32_w]; rfl)
    refine pr_ (i := 6) (N := some 31) (v := ?_) (a' := ?_) (bv 14 77) HT_.out ?_ ?_ ?_; rotate_left 2; (intro w'; go_simp; with_reducible rfl); (simp only [Act.put, s1_, s2_, s3_, i64_w, i32_w]; rfl)
    refine pr_ (i := 8) (N := some 33) (v := ?_) (a' := ?_) (bv 14 333) HT_.out ?_ ?_ ?_; rotate_left 2; (intro w'; go_simp; with_reducible rfl); (simp only [Act.put, s1_, s2_, s3_, i64_w, i32_w]; rfl)
    refine pr_ (i := 9) (N := some 34) (v := ?_) (a' := ?_) (bv 14 845) HT_.out ?_ ?_ ?_; rotate_left 2; (intro w'; go_simp; with_reducible rfl); (simp only [Act.put, s1_, s2_, s3_, i64_w, i32_w]; rfl)
    refine take_ (i := 1) (N := some 26) (v := ?_) (a' := ?_) (bv 14 847) rfl rfl (take_ofW HT_.out HW_.out (by kernel_rfl)) (fun _ _ _ h => h) (Or.inl ⟨by rfl, ?_⟩) hHeld ?_ ?_
    rotate_left
    ·rintro w' ⟨s0, s1, s2⟩
     go_simp
     with_reducible rfl
    rotate_left
    ·simp only [Act.put, s1_, s2_, s3_, i64_w, i32_w]
     rfl
    refine take_ (i := 7) (N := some 32) (v := ?_) (a' := ?_) (bv 14 975) rfl rfl (take_ofW HT_.out HW_.out (by kernel_rfl)) (fun _ _ _ h => h) (Or.inl ⟨by rfl, ?_⟩) hHeld ?_ ?_
    rotate_left
    ·rintro w' ⟨s0, s1, s2⟩
     go_simp
     with_reducible rfl
    rotate_left
    ·simp only [Act.put, s1_, s2_, s3_, i64_w, i32_w]
     rfl
    refine one_ (i := 4) (N := some 29) (bv 14 991) rfl rfl (one_of HT_.out (by kernel_rfl)) (by decide) (fun K hK => ?_)
    refine goes_ Tryd.func28 (by kernel_rfl) rfl #[.slice A3 l3.length c3, .int .i64 ji9] (by rfl) rfl rfl (by (try simp only [List.map_toArray, List.map_cons, List.map_nil]); first | done | (simp only [hji9]; rfl) | rfl | (simp only [List.length_drop, List.length_take]; rfl)) ?_
    with_reducible refine (attestorlaw05_own.calls _ _ l3 ji9 t731 _ ?side1 ?side2 A10.out).mono ?_
    (case side1 => exact cU_ (Kd.C_below HR3.out HB.out))
    (case side2 => exact HC3.out)
    rintro e w70 ⟨v732, rfl, ho0, hb⟩
    refine ⟨_, rfl, ?_⟩
    refine nx3_ (Kd.R_lower ho0 (below_size (by repeat (first | (with_reducible first | exact HB.out | apply below_alloc | apply pw_below_drewN | apply below_drew1 | refine below_set ?_ GE730.out) | exact HB.out)))) (blk_below (g := gb730) (o := .cells #[.int .i64 t727, .int .i64 t728, .int .u64 t729] 24 (0, 0)) (by (with_reducible repeat (first | refine blk_drewN ?_ _ | refine blk_drew ?_ | refine blk_alloc ?_ _)); exact BK730.out) hb) (below_step (by repeat (first | (with_reducible first | exact HB.out | apply below_alloc | apply pw_below_drewN | apply below_drew1 | refine below_set ?_ GE730.out) | exact HB.out)) hb) ?_
    clear BK730 HB
    intro HO733 BK730 HB
    (try clear hb)
    (try clear hb2)
    (try clear hk)
    (try clear hi)
    (try clear ho0)
    obtain ⟨Ao71, co71, eo71⟩ := Kd.R_slice HO733.out
    (first | subst eo71 | (injection eo71 with f1_ f2_ f3_; have f4_ := f1_.symm; have f5_ := f3_.symm; clear f1_ f2_ f3_; subst f4_; subst f5_))
    refine hK.out _ _ ⟨(blk_cell BK730.out 0).trans rfl, (blk_cell BK730.out 1).trans rfl, (blk_cell BK730.out 2).trans rfl⟩ (fun hHeld => ?_)
    clear hK K
    refine norm_ (a' := ?_) ?_ ?_
    rotate_left
    ·show Act.put _ (some 29) _ = _
     simp only [Act.put, s1_, s2_, s3_, i64_w, i32_w]
     rfl
    refine one_ (i := 5) (N := some 30) (bv 14 1023) rfl rfl (one_of HT_.out (by kernel_rfl)) (by decide) (fun K hK => ?_)
    refine goes_ Tryd.func34 (by kernel_rfl) rfl #[.int .i64 t727, .slice Ao71 t731.length co71] (by rfl) rfl rfl ga_ ?_
    with_reducible refine (poly_Normal.calls k t727 _ _ t731 t734 _ ?side1 ?side2 ?side3 A11.out).mono ?_
    (case side1 => repeat (first | with_reducible exact HG.out | with_reducible exact (Fld.below HG.out HB.out) | exact (Fld.below HG.out (by repeat (first | (with_reducible first | exact HB.out | apply below_alloc | apply pw_below_drewN | apply below_drew1 | refine below_set ?_ GE730.out) | exact HB.out))) | (with_reducible refine Fld.alloc ?_ _) | (with_reducible refine Fld.drewN ?_ _) | (with_reducible refine Fld.drew ?_)))
    (case side2 => exact cU_ ((Kd.R_reads' HO733.out).2.2))
    (case side3 => exact (Kd.R_reads' HO733.out).2.1)
    rintro e w72 ⟨v735, rfl, ho0, hb⟩
    refine ⟨_, rfl, ?_⟩
    refine nx4_ (Kd.R_elder' (rU_ HO733.out) (Kd.R_base ho0) hb) (Kd.R_lower (Kd.R_new' ho0 (Kd.R_lt (rU_ HO733.out))) (below_size (by repeat (first | (with_reducible first | exact HB.out | apply below_alloc | apply pw_below_drewN | apply below_drew1 | refine below_set ?_ GE730.out) | exact HB.out)))) (blk_below (g := gb730) (o := .cells #[.int .i64 t727, .int .i64 t728, .int .u64 t729] 24 (0, 0)) (by (with_reducible repeat (first | refine blk_drewN ?_ _ | refine blk_drew ?_ | refine blk_alloc ?_ _)); exact BK730.out) hb) (below_step (by repeat (first | (with_reducible first | exact HB.out | apply below_alloc | apply pw_below_drewN | apply below_drew1 | refine below_set ?_ GE730.out) | exact HB.out)) hb) ?_
    clear HO733 BK730 HB
    intro HO733 HO736 BK730 HB
    (try clear hb)
    (try clear hb2)
    (try clear hk)
    (try clear hi)
    (try clear ho0)
    refine hK.out _ _ ⟨(blk_cell BK730.out 0).trans rfl, (blk_cell BK730.out 1).trans rfl, (blk_cell BK730.out 2).trans rfl⟩ (fun hHeld => ?_)
    clear hK K
    refine norm_ (a' := ?_) ?_ ?_
    rotate_left
    ·show Act.put _ (some 30) _ = _
     simp only [Act.put, s1_, s2_, s3_, i64_w, i32_w]
     rfl
    refine one_ (i := 10) (N := some 35) (bv 14 2047) rfl rfl (one_of HT_.out (by kernel_rfl)) (by decide) (fun K hK => ?_)
    refine goes_ Tryd.func28 (by kernel_rfl) rfl #[.slice A4 l4.length c4, .int .i64 ji9] (by rfl) rfl rfl (by (try simp only [List.map_toArray, List.map_cons, List.map_nil]); first | done | (simp only [hji9]; rfl) | rfl | (simp only [List.length_drop, List.length_take]; rfl)) ?_
    with_reducible refine (attestorlaw05_own.calls _ _ l4 ji9 t737 _ ?side1 ?side2 A12.out).mono ?_
    (case side1 => exact cU_ (Kd.C_below HR4.out HB.out))
    (case side2 => exact HC4.out)
    rintro e w73 ⟨v738, rfl, ho0, hb⟩
    refine ⟨_, rfl, ?_⟩
    refine nx5_ (Kd.R_elder' (rU_ HO733.out) (Kd.R_base ho0) hb) (Kd.R_elder' (rU_ HO736.out) (Kd.R_base ho0) hb) (Kd.R_lower (Kd.R_new' (Kd.R_new' ho0 (Kd.R_lt (rU_ HO733.out))) (Kd.R_lt (rU_ HO736.out))) (below_size (by repeat (first | (with_reducible first | exact HB.out | apply below_alloc | apply pw_below_drewN | apply below_drew1 | refine below_set ?_ GE730.out) | exact HB.out)))) (blk_below (g := gb730) (o := .cells #[.int .i64 t727, .int .i64 t728, .int .u64 t729] 24 (0, 0)) (by (with_reducible repeat (first | refine blk_drewN ?_ _ | refine blk_drew ?_ | refine blk_alloc ?_ _)); exact BK730.out) hb) (below_step (by repeat (first | (with_reducible first | exact HB.out | apply below_alloc | apply pw_below_drewN | apply below_drew1 | refine below_set ?_ GE730.out) | exact HB.out)) hb) ?_
    clear HO733 HO736 BK730 HB
    intro HO733 HO736 HO739 BK730 HB
    (try clear hb)
    (try clear hb2)
    (try clear hk)
    (try clear hi)
    (try clear ho0)
    obtain ⟨Ao74, co74, eo74⟩ := Kd.R_slice HO739.out
    (first | subst eo74 | (injection eo74 with f1_ f2_ f3_; have f4_ := f1_.symm; have f5_ := f3_.symm; clear f1_ f2_ f3_; subst f4_; subst f5_))
    refine hK.out _ _ ⟨(blk_cell BK730.out 0).trans rfl, (blk_cell BK730.out 1).trans rfl, (blk_cell BK730.out 2).trans rfl⟩ (fun hHeld => ?_)
    clear hK K
    refine norm_ (a' := ?_) ?_ ?_
    rotate_left
    ·show Act.put _ (some 35) _ = _
     simp only [Act.put, s1_, s2_, s3_, i64_w, i32_w]
     rfl
    refine one_ (i := 11) (N := some 36) (bv 14 4095) rfl rfl (one_of HT_.out (by kernel_rfl)) (by decide) (fun K hK => ?_)
    refine goes_ Tryd.func34 (by kernel_rfl) rfl #[.int .i64 t727, .slice Ao74 t737.length co74] (by rfl) rfl rfl ga_ ?_
    with_reducible refine (poly_Normal.calls k t727 _ _ t737 t740 _ ?side1 ?side2 ?side3 A13.out).mono ?_
    (case side1 => repeat (first | with_reducible exact HG.out | with_reducible exact (Fld.below HG.out HB.out) | exact (Fld.below HG.out (by repeat (first | (with_reducible first | exact HB.out | apply below_alloc | apply pw_below_drewN | apply below_drew1 | refine below_set ?_ GE730.out) | exact HB.out))) | (with_reducible refine Fld.alloc ?_ _) | (with_reducible refine Fld.drewN ?_ _) | (with_reducible refine Fld.drew ?_)))
    (case side2 => exact cU_ ((Kd.R_reads' HO739.out).2.2))
    (case side3 => exact (Kd.R_reads' HO739.out).2.1)
    rintro e w75 ⟨v741, rfl, ho0, hb⟩
    refine ⟨_, rfl, ?_⟩
    refine nx6_ (Kd.R_elder' (rU_ HO733.out) (Kd.R_base ho0) hb) (Kd.R_elder' (rU_ HO736.out) (Kd.R_base ho0) hb) (Kd.R_elder' (rU_ HO739.out) (Kd.R_base ho0) hb) (Kd.R_lower (Kd.R_new' (Kd.R_new' (Kd.R_new' ho0 (Kd.R_lt (rU_ HO733.out))) (Kd.R_lt (rU_ HO736.out))) (Kd.R_lt (rU_ HO739.out))) (below_size (by repeat (first | (with_reducible first | exact HB.out | apply below_alloc | apply pw_below_drewN | apply below_drew1 | refine below_set ?_ GE730.out) | exact HB.out)))) (blk_below (g := gb730) (o := .cells #[.int .i64 t727, .int .i64 t728, .int .u64 t729] 24 (0, 0)) (by (with_reducible repeat (first | refine blk_drewN ?_ _ | refine blk_drew ?_ | refine blk_alloc ?_ _)); exact BK730.out) hb) (below_step (by repeat (first | (with_reducible first | exact HB.out | apply below_alloc | apply pw_below_drewN | apply below_drew1 | refine below_set ?_ GE730.out) | exact HB.out)) hb) ?_
    clear HO733 HO736 HO739 BK730 HB
    intro HO733 HO736 HO739 HO742 BK730 HB
    (try clear hb)
    (try clear hb2)
    (try clear hk)
    (try clear hi)
    (try clear ho0)
    refine hK.out _ _ ⟨(blk_cell BK730.out 0).trans rfl, (blk_cell BK730.out 1).trans rfl, (blk_cell BK730.out 2).trans rfl⟩ (fun hHeld => ?_)
    clear hK K
    refine norm_ (a' := ?_) ?_ ?_
    rotate_left
    ·show Act.put _ (some 36) _ = _
     simp only [Act.put, s1_, s2_, s3_, i64_w, i32_w]
     rfl
    refine pr_ (i := 12) (N := some 3) (v := ?_) (a' := ?_) (bv 14 8191) HT_.out ?_ ?_ ?_; rotate_left 2; (intro w'; go_simp; with_reducible rfl); (simp only [Act.put, s1_, s2_, s3_, i64_w, i32_w]; rfl)
    refine pr_ (i := 13) (N := some 4) (v := ?_) (a' := ?_) (bv 14 16383) HT_.out ?_ ?_ ?_; rotate_left 2; (intro w'; go_simp; with_reducible rfl); (simp only [Act.put, s1_, s2_, s3_, i64_w, i32_w]; rfl)
    refine done_ (done_of HT_.out (by kernel_rfl)) ?_
    obtain ⟨Ao76, co76, eo76⟩ := Kd.R_slice HO736.out
    subst eo76
    obtain ⟨Ao77, co77, eo77⟩ := Kd.R_slice HO742.out
    subst eo77
    try go_wp2
    refine nx6_ (Kd.R_drew HO733.out) (Kd.R_drew HO736.out) (Kd.R_drew HO739.out) (Kd.R_drew HO742.out) (blk_drew BK730.out) (below_drew1 HB.out) ?_
    clear HO733 HO736 HO739 HO742 BK730 HB
    intro HO733 HO736 HO739 HO742 BK730 HB
    refine start_ (n := 8) (S := fun w' => w'.cell? ⟨gb730, 0, none⟩ = some (.int .i64 t727) ∧ w'.cell? ⟨gb730, 1, none⟩ = some (.int .i64 t728) ∧ w'.cell? ⟨gb730, 2, none⟩ = some (.int .u64 t729)) (ds := []) (bv 8 0) (by kernel_rfl) rfl rfl ⟨(blk_cell BK730.out 0).trans rfl, (blk_cell BK730.out 1).trans rfl, (blk_cell BK730.out 2).trans rfl⟩ (fun hHeld => ?_); refine with_tabW attestorlaw05_CodeDistance.tab5 attestorlaw05_CodeDistance.bits5 (fun HT_ HW_ => ?_)
    generalize w75.drew = w78 at HO733 HO736 HO739 HO742 BK730 HB hHeld ⊢
    refine pr_ (i := 1) (N := some 43) (v := ?_) (a' := ?_) (bv 8 2) HT_.out ?_ ?_ ?_; rotate_left 2; (intro w'; go_simp; with_reducible rfl); (simp only [Act.put, s1_, s2_, s3_, i64_w, i32_w]; rfl)
    refine pr_ (i := 4) (N := some 46) (v := ?_) (a' := ?_) (bv 8 18) HT_.out ?_ ?_ ?_; rotate_left 2; (intro w'; go_simp; with_reducible rfl); (simp only [Act.put, s1_, s2_, s3_, i64_w, i32_w]; rfl)
    refine take_ (i := 0) (N := some 42) (v := ?_) (a' := ?_) (bv 8 19) rfl rfl (take_ofW HT_.out HW_.out (by kernel_rfl)) (fun _ _ _ h => h) (Or.inl ⟨by rfl, ?_⟩) hHeld ?_ ?_
    rotate_left
    ·rintro w' ⟨s0, s1, s2⟩
     go_simp
     with_reducible rfl
    rotate_left
    ·simp only [Act.put, s1_, s2_, s3_, i64_w, i32_w]
     rfl
    refine take_ (i := 3) (N := some 45) (v := ?_) (a' := ?_) (bv 8 27) rfl rfl (take_ofW HT_.out HW_.out (by kernel_rfl)) (fun _ _ _ h => h) (Or.inl ⟨by rfl, ?_⟩) hHeld ?_ ?_
    rotate_left
    ·rintro w' ⟨s0, s1, s2⟩
     go_simp
     with_reducible rfl
    rotate_left
    ·simp only [Act.put, s1_, s2_, s3_, i64_w, i32_w]
     rfl
    refine one_ (i := 2) (N := some 44) (bv 8 31) rfl rfl (one_of HT_.out (by kernel_rfl)) (by decide) (fun K hK => ?_)
    refine goes_ Tryd.func35 (by kernel_rfl) rfl #[.agg #[.int .i64 t727, .int .i64 t728, .int .u64 t729], .slice Ao76 t734.length co76] (by rfl) rfl rfl ga_ ?_
    with_reducible refine (attestorlaw05_word.calls k t727 t728 t729 _ _ t734 t743 _ ?side1 ?side2 ?side3 A15.out).mono ?_
    (case side1 => repeat (first | with_reducible exact HG.out | with_reducible exact (Fld.below HG.out HB.out) | exact (Fld.below HG.out (by repeat (first | (with_reducible first | exact HB.out | apply below_alloc | apply pw_below_drewN | apply below_drew1 | refine below_set ?_ GE730.out) | exact HB.out))) | (with_reducible refine Fld.alloc ?_ _) | (with_reducible refine Fld.drewN ?_ _) | (with_reducible refine Fld.drew ?_)))
    (case side2 => exact cU_ ((Kd.R_reads' HO736.out).2.2))
    (case side3 => exact (Kd.R_reads' HO736.out).2.1)
    rintro e w79 ⟨v744, rfl, ho0, hb⟩
    refine ⟨_, rfl, ?_⟩
    refine nx7_ (Kd.R_elder' (rU_ HO733.out) (Kd.R_base ho0) hb) (Kd.R_elder' (rU_ HO736.out) (Kd.R_base ho0) hb) (Kd.R_elder' (rU_ HO739.out) (Kd.R_base ho0) hb) (Kd.R_elder' (rU_ HO742.out) (Kd.R_base ho0) hb) (Kd.R_lower (Kd.R_new' (Kd.R_new' (Kd.R_new' (Kd.R_new' ho0 (Kd.R_lt (rU_ HO733.out))) (Kd.R_lt (rU_ HO736.out))) (Kd.R_lt (rU_ HO739.out))) (Kd.R_lt (rU_ HO742.out))) (below_size (by repeat (first | (with_reducible first | exact HB.out | apply below_alloc | apply pw_below_drewN | apply below_drew1 | refine below_set ?_ GE730.out) | exact HB.out)))) (blk_below (g := gb730) (o := .cells #[.int .i64 t727, .int .i64 t728, .int .u64 t729] 24 (0, 0)) (by (with_reducible repeat (first | refine blk_drewN ?_ _ | refine blk_drew ?_ | refine blk_alloc ?_ _)); exact BK730.out) hb) (below_step (by repeat (first | (with_reducible first | exact HB.out | apply below_alloc | apply pw_below_drewN | apply below_drew1 | refine below_set ?_ GE730.out) | exact HB.out)) hb) ?_
    clear HO733 HO736 HO739 HO742 BK730 HB
    intro HO733 HO736 HO739 HO742 HO745 BK730 HB
    (try clear hb)
    (try clear hb2)
    (try clear hk)
    (try clear hi)
    (try clear ho0)
    refine hK.out _ _ ⟨(blk_cell BK730.out 0).trans rfl, (blk_cell BK730.out 1).trans rfl, (blk_cell BK730.out 2).trans rfl⟩ (fun hHeld => ?_)
    clear hK K
    refine norm_ (a' := ?_) ?_ ?_
    rotate_left
    ·show Act.put _ (some 44) _ = _
     simp only [Act.put, s1_, s2_, s3_, i64_w, i32_w]
     rfl
    refine one_ (i := 5) (N := some 47) (bv 8 63) rfl rfl (one_of HT_.out (by kernel_rfl)) (by decide) (fun K hK => ?_)
    refine goes_ Tryd.func35 (by kernel_rfl) rfl #[.agg #[.int .i64 t727, .int .i64 t728, .int .u64 t729], .slice Ao77 t740.length co77] (by rfl) rfl rfl ga_ ?_
    with_reducible refine (attestorlaw05_word.calls k t727 t728 t729 _ _ t740 t746 _ ?side1 ?side2 ?side3 A16.out).mono ?_
    (case side1 => repeat (first | with_reducible exact HG.out | with_reducible exact (Fld.below HG.out HB.out) | exact (Fld.below HG.out (by repeat (first | (with_reducible first | exact HB.out | apply below_alloc | apply pw_below_drewN | apply below_drew1 | refine below_set ?_ GE730.out) | exact HB.out))) | (with_reducible refine Fld.alloc ?_ _) | (with_reducible refine Fld.drewN ?_ _) | (with_reducible refine Fld.drew ?_)))
    (case side2 => exact cU_ ((Kd.R_reads' HO742.out).2.2))
    (case side3 => exact (Kd.R_reads' HO742.out).2.1)
    rintro e w80 ⟨v747, rfl, ho0, hb⟩
    refine ⟨_, rfl, ?_⟩
    refine nx8_ (Kd.R_elder' (rU_ HO733.out) (Kd.R_base ho0) hb) (Kd.R_elder' (rU_ HO736.out) (Kd.R_base ho0) hb) (Kd.R_elder' (rU_ HO739.out) (Kd.R_base ho0) hb) (Kd.R_elder' (rU_ HO742.out) (Kd.R_base ho0) hb) (Kd.R_elder' (rU_ HO745.out) (Kd.R_base ho0) hb) (Kd.R_lower (Kd.R_new' (Kd.R_new' (Kd.R_new' (Kd.R_new' (Kd.R_new' ho0 (Kd.R_lt (rU_ HO733.out))) (Kd.R_lt (rU_ HO736.out))) (Kd.R_lt (rU_ HO739.out))) (Kd.R_lt (rU_ HO742.out))) (Kd.R_lt (rU_ HO745.out))) (below_size (by repeat (first | (with_reducible first | exact HB.out | apply below_alloc | apply pw_below_drewN | apply below_drew1 | refine below_set ?_ GE730.out) | exact HB.out)))) (blk_below (g := gb730) (o := .cells #[.int .i64 t727, .int .i64 t728, .int .u64 t729] 24 (0, 0)) (by (with_reducible repeat (first | refine blk_drewN ?_ _ | refine blk_drew ?_ | refine blk_alloc ?_ _)); exact BK730.out) hb) (below_step (by repeat (first | (with_reducible first | exact HB.out | apply below_alloc | apply pw_below_drewN | apply below_drew1 | refine below_set ?_ GE730.out) | exact HB.out)) hb) ?_
    clear HO733 HO736 HO739 HO742 HO745 BK730 HB
    intro HO733 HO736 HO739 HO742 HO745 HO748 BK730 HB
    (try clear hb)
    (try clear hb2)
    (try clear hk)
    (try clear hi)
    (try clear ho0)
    refine hK.out _ _ ⟨(blk_cell BK730.out 0).trans rfl, (blk_cell BK730.out 1).trans rfl, (blk_cell BK730.out 2).trans rfl⟩ (fun hHeld => ?_)
    clear hK K
    refine norm_ (a' := ?_) ?_ ?_
    rotate_left
    ·show Act.put _ (some 47) _ = _
     simp only [Act.put, s1_, s2_, s3_, i64_w, i32_w]
     rfl
    refine pr_ (i := 6) (N := some 14) (v := ?_) (a' := ?_) (bv 8 127) HT_.out ?_ ?_ ?_; rotate_left 2; (intro w'; go_simp; with_reducible rfl); (simp only [Act.put, s1_, s2_, s3_, i64_w, i32_w]; rfl)
    refine pr_ (i := 7) (N := some 15) (v := ?_) (a' := ?_) (bv 8 255) HT_.out ?_ ?_ ?_; rotate_left 2; (intro w'; go_simp; with_reducible rfl); (simp only [Act.put, s1_, s2_, s3_, i64_w, i32_w]; rfl)
    refine done_ (done_of HT_.out (by kernel_rfl)) ?_
    obtain ⟨Ao81, co81, eo81⟩ := Kd.R_slice HO745.out
    subst eo81
    obtain ⟨Ao82, co82, eo82⟩ := Kd.R_slice HO748.out
    subst eo82
    have hcz83_0 : w80.cell? ⟨gb730, 0, none⟩ = some (.int .i64 t727) := (blk_cell BK730.out 0).trans rfl
    have hcz83_1 : w80.cell? ⟨gb730, 1, none⟩ = some (.int .i64 t728) := (blk_cell BK730.out 1).trans rfl
    have hcz83_2 : w80.cell? ⟨gb730, 2, none⟩ = some (.int .u64 t729) := (blk_cell BK730.out 2).trans rfl
    have hfz83_0 := blk_frozen BK730.out 0
    have hfz83_1 := blk_frozen BK730.out 1
    have hfz83_2 := blk_frozen BK730.out 2
    go_upto_if 84 with (first | (go_at_call 31; (with_reducible refine (code_IsWord.calls k t727 t728 t729 _ _ t743 ji14 true _ ?side1 ?side2 ?side3 A19.out).mono ?_); (case side1 => repeat (first | with_reducible exact HG.out | with_reducible exact (Fld.below HG.out HB.out) | exact (Fld.below HG.out (by repeat (first | (with_reducible first | exact HB.out | apply below_alloc | apply pw_below_drewN | apply below_drew1 | refine below_set ?_ GE730.out) | exact HB.out))) | (with_reducible refine Fld.alloc ?_ _) | (with_reducible refine Fld.drewN ?_ _) | (with_reducible refine Fld.drew ?_))); (case side2 => exact cU_ ((Kd.R_reads' HO745.out).2.2)); (case side3 => exact (Kd.R_reads' HO745.out).2.1); rintro e w84 ⟨rfl, hb⟩; refine nx8_ (Kd.R_below (rU_ HO733.out) hb) (Kd.R_below (rU_ HO736.out) hb) (Kd.R_below (rU_ HO739.out) hb) (Kd.R_below (rU_ HO742.out) hb) (Kd.R_below (rU_ HO745.out) hb) (Kd.R_below (rU_ HO748.out) hb) (blk_below (g := gb730) (o := .cells #[.int .i64 t727, .int .i64 t728, .int .u64 t729] 24 (0, 0)) (by (with_reducible repeat (first | refine blk_drewN ?_ _ | refine blk_drew ?_ | refine blk_alloc ?_ _)); exact BK730.out) hb) (below_step (by repeat (first | (with_reducible first | exact HB.out | apply below_alloc | apply pw_below_drewN | apply below_drew1 | refine below_set ?_ GE730.out) | exact HB.out)) hb) ?_; clear HO733 HO736 HO739 HO742 HO745 HO748 BK730 HB; intro HO733 HO736 HO739 HO742 HO745 HO748 BK730 HB; clear hb; have hcz85_0 : w84.cell? ⟨gb730, 0, none⟩ = some (.int .i64 t727) := (blk_cell BK730.out 0).trans rfl; have hcz85_1 : w84.cell? ⟨gb730, 1, none⟩ = some (.int .i64 t728) := (blk_cell BK730.out 1).trans rfl; have hcz85_2 : w84.cell? ⟨gb730, 2, none⟩ = some (.int .u64 t729) := (blk_cell BK730.out 2).trans rfl; have hfz85_0 := blk_frozen BK730.out 0; have hfz85_1 := blk_frozen BK730.out 1; have hfz85_2 := blk_frozen BK730.out 2) | (go_at_call 31; (with_reducible refine (code_IsWord.calls k t727 t728 t729 _ _ t746 ji14 true _ ?side1 ?side2 ?side3 A21.out).mono ?_); (case side1 => repeat (first | with_reducible exact HG.out | with_reducible exact (Fld.below HG.out HB.out) | exact (Fld.below HG.out (by repeat (first | (with_reducible first | exact HB.out | apply below_alloc | apply pw_below_drewN | apply below_drew1 | refine below_set ?_ GE730.out) | exact HB.out))) | (with_reducible refine Fld.alloc ?_ _) | (with_reducible refine Fld.drewN ?_ _) | (with_reducible refine Fld.drew ?_))); (case side2 => exact cU_ ((Kd.R_reads' HO748.out).2.2)); (case side3 => exact (Kd.R_reads' HO748.out).2.1); rintro e w86 ⟨rfl, hb⟩; refine nx8_ (Kd.R_below (rU_ HO733.out) hb) (Kd.R_below (rU_ HO736.out) hb) (Kd.R_below (rU_ HO739.out) hb) (Kd.R_below (rU_ HO742.out) hb) (Kd.R_below (rU_ HO745.out) hb) (Kd.R_below (rU_ HO748.out) hb) (blk_below (g := gb730) (o := .cells #[.int .i64 t727, .int .i64 t728, .int .u64 t729] 24 (0, 0)) (by (with_reducible repeat (first | refine blk_drewN ?_ _ | refine blk_drew ?_ | refine blk_alloc ?_ _)); exact BK730.out) hb) (below_step (by repeat (first | (with_reducible first | exact HB.out | apply below_alloc | apply pw_below_drewN | apply below_drew1 | refine below_set ?_ GE730.out) | exact HB.out)) hb) ?_; clear HO733 HO736 HO739 HO742 HO745 HO748 BK730 HB; intro HO733 HO736 HO739 HO742 HO745 HO748 BK730 HB; clear hb))
    (try simp only [Act.put, s1_, s2_, s3_])
    go_cut [] (fun wc => ∃ (kq : Nat), Aside0 (attestorlaw05_CodeDistance.j1 kq t734 t740 ji9 ji14 t743 t746 t727 t728 t729 = some r) ∧ Aside0 (kq ≤ k) ∧ Aside0 (Kd.R (Kd.int .u64) 22 wc w.heap.size (fun k_ => some k_ ≠ ((.slice Ao77 t740.length co77) : Value).ownBlock ∧ some k_ ≠ ((.slice Ao81 t743.length co81) : Value).ownBlock ∧ some k_ ≠ ((.slice Ao82 t746.length co82) : Value).ownBlock) (.slice Ao76 t734.length co76) t734) ∧ Aside0 (Kd.R (Kd.int .u64) 22 wc w.heap.size (fun k_ => some k_ ≠ ((.slice Ao76 t734.length co76) : Value).ownBlock ∧ some k_ ≠ ((.slice Ao81 t743.length co81) : Value).ownBlock ∧ some k_ ≠ ((.slice Ao82 t746.length co82) : Value).ownBlock) (.slice Ao77 t740.length co77) t740) ∧ Aside0 (Kd.R (Kd.int .u64) 22 wc w.heap.size (fun k_ => some k_ ≠ ((.slice Ao76 t734.length co76) : Value).ownBlock ∧ some k_ ≠ ((.slice Ao77 t740.length co77) : Value).ownBlock ∧ some k_ ≠ ((.slice Ao82 t746.length co82) : Value).ownBlock) (.slice Ao81 t743.length co81) t743) ∧ Aside0 (Kd.R (Kd.int .u64) 22 wc w.heap.size (fun k_ => some k_ ≠ ((.slice Ao76 t734.length co76) : Value).ownBlock ∧ some k_ ≠ ((.slice Ao77 t740.length co77) : Value).ownBlock ∧ some k_ ≠ ((.slice Ao81 t743.length co81) : Value).ownBlock) (.slice Ao82 t746.length co82) t746) ∧ Aside0 (wc.heap[gb730]? = some (.cells #[.int .i64 t727, .int .i64 t728, .int .u64 t729] 24 (0, 0))) ∧ Aside0 (Below w.heap.size w wc))
    case first =>
     have H := HC64.out
     clear HC64
     have H' := ak H
     clear H
     go_wp2
     go_meet
     case rel => exact ⟨_, H', ⟨by first | omega | exact Nat.le_refl _⟩, ⟨Kd.R_mono (rU_ HO736.out) (fun _ hk => ⟨hk.1.1.2, ⟨hk.1.2, hk.2⟩⟩)⟩, ⟨Kd.R_mono (rU_ HO742.out) (fun _ hk => ⟨hk.1.1.1.2, ⟨hk.1.2, hk.2⟩⟩)⟩, ⟨Kd.R_mono (rU_ HO745.out) (fun _ hk => ⟨hk.1.1.1.2, ⟨hk.1.2, hk.2⟩⟩)⟩, ⟨Kd.R_mono (rU_ HO748.out) (fun _ hk => ⟨hk.1.1.1.2, ⟨hk.1.2, hk.2⟩⟩)⟩, ⟨by (with_reducible repeat (first | refine blk_drewN ?_ _ | refine blk_drew ?_ | refine blk_alloc ?_ _)); exact BK730.out⟩, ⟨by repeat (first | (with_reducible first | exact HB.out | apply below_alloc | apply pw_below_drewN | apply below_drew1 | refine below_set ?_ GE730.out) | exact HB.out)⟩⟩
    case rest =>
     clear HC64
     (try clear c1); (try clear c2); (try clear p2); (try clear c3); (try clear c4); (try clear c5); (try clear c6); (try clear p6); (try clear c8); (try clear c8b0); (try clear c8b1); (try clear c17); (try clear c17b0); (try clear c17b1); (try clear c18); (try clear c18b0); (try clear c18b1); (try clear c20); (try clear c22); (try clear c23); (try clear c23b0); (try clear c23b1); (try clear c28); (try clear c33); (try clear c34); (try clear c35); (try clear c36); (try clear c37); (try clear c50); (try clear c53); (try clear c54); (try clear c54b0); (try clear c54b1); (try clear c59); (try clear c59b0); (try clear p64); (try clear hcz28_0); (try clear hcz28_1); (try clear hcz28_2); (try clear hcz44_0); (try clear hcz44_1); (try clear hcz44_2); (try clear hcz46_0); (try clear hcz46_1); (try clear hcz46_2); (try clear hcz48_0); (try clear hcz48_1); (try clear hcz48_2); (try clear hcz56_0); (try clear hcz56_1); (try clear hcz56_2); (try clear hcz61_0); (try clear hcz61_1); (try clear hcz61_2); (try clear hcz67_0); (try clear hcz67_1); (try clear hcz67_2); (try clear hcz83_0); (try clear hcz83_1); (try clear hcz83_2); (try clear hcz85_0); (try clear hcz85_1); (try clear hcz85_2); (try clear hfz28_0); (try clear hfz28_1); (try clear hfz28_2); (try clear hfz44_0); (try clear hfz44_1); (try clear hfz44_2); (try clear hfz46_0); (try clear hfz46_1); (try clear hfz46_2); (try clear hfz48_0); (try clear hfz48_1); (try clear hfz48_2); (try clear hfz56_0); (try clear hfz56_1); (try clear hfz56_2); (try clear hfz61_0); (try clear hfz61_1); (try clear hfz61_2); (try clear hfz67_0); (try clear hfz67_1); (try clear hfz67_2); (try clear hfz83_0); (try clear hfz83_1); (try clear hfz83_2); (try clear hfz85_0); (try clear hfz85_1); (try clear hfz85_2)
     obtain ⟨kq, HA, HJ63, HO_3, HO_4, HO_14, HO_15, BK730, HB⟩ := hcut
     cases kq with
     | zero => exact absurd HA.out (by simp [attestorlaw05_CodeDistance.j1])
     | succ kj63 =>
      have H := HA.out
      clear HA
      simp only [attestorlaw05_CodeDistance.j1] at H
      revert H
      refine bd_ fun t756 A87 H => ?_
      revert H
      refine bd_ fun t757 A88 H => ?_
      by_cases c89 : t757 = true
      ·subst c89
       rw [if_pos rfl] at H
       obtain ⟨c90, H⟩ : (t756 = 0) ∧ _ := it_ H
       have c90b0 := beq_iff_eq.mpr c90
       have c90b1 := bne_eq_false_iff_eq.mpr c90
       clear c90
       revert H
       refine bd_ fun t758 A91 H => ?_
       obtain rfl := Option.some.inj H
       have hcz92_0 : wc.cell? ⟨gb730, 0, none⟩ = some (.int .i64 t727) := (blk_cell BK730.out 0).trans rfl
       have hcz92_1 : wc.cell? ⟨gb730, 1, none⟩ = some (.int .i64 t728) := (blk_cell BK730.out 1).trans rfl
       have hcz92_2 : wc.cell? ⟨gb730, 2, none⟩ = some (.int .u64 t729) := (blk_cell BK730.out 2).trans rfl
       have hfz92_0 := blk_frozen BK730.out 0
       have hfz92_1 := blk_frozen BK730.out 1
       have hfz92_2 := blk_frozen BK730.out 2
       go_wp2_with (first | ((with_reducible refine gate_callee (f := 36) rfl ?_); refine gl_ (some 89) Tryd.func36 #[.int .i64 t727, .slice Ao81 t743.length co81, .slice Ao82 t746.length co82] ?_; (with_reducible refine (code_Differ.calls kj63 t727 _ _ t743 _ _ t746 t756 _ ?side1 ?side2 ?side3 ?side4 ?side5 A87.out).mono ?_); (case side1 => repeat (first | with_reducible exact HG.out | with_reducible exact (Fld.below HG.out HB.out) | exact (Fld.below HG.out (by repeat (first | (with_reducible first | exact HB.out | apply below_alloc | apply pw_below_drewN | apply below_drew1 | refine below_set ?_ GE730.out) | exact HB.out))) | (with_reducible refine Fld.alloc ?_ _) | (with_reducible refine Fld.drewN ?_ _) | (with_reducible refine Fld.drew ?_))); (case side2 => exact cU_ ((Kd.R_reads' HO_14.out).2.2)); (case side3 => exact (Kd.R_reads' HO_14.out).2.1); (case side4 => exact cU_ ((Kd.R_reads' HO_15.out).2.2)); (case side5 => exact (Kd.R_reads' HO_15.out).2.1); rintro e w93 ⟨rfl, hb⟩; refine ⟨_, rfl, ?_⟩; refine nx6_ (Kd.R_below (rU_ HO_3.out) hb) (Kd.R_below (rU_ HO_4.out) hb) (Kd.R_below (rU_ HO_14.out) hb) (Kd.R_below (rU_ HO_15.out) hb) (blk_below (g := gb730) (o := .cells #[.int .i64 t727, .int .i64 t728, .int .u64 t729] 24 (0, 0)) (by (with_reducible repeat (first | refine blk_drewN ?_ _ | refine blk_drew ?_ | refine blk_alloc ?_ _)); exact BK730.out) hb) (below_step (by repeat (first | (with_reducible first | exact HB.out | apply below_alloc | apply pw_below_drewN | apply below_drew1 | refine below_set ?_ GE730.out) | exact HB.out)) hb) ?_; clear HO_3 HO_4 HO_14 HO_15 BK730 HB; intro HO_3 HO_4 HO_14 HO_15 BK730 HB; clear hb) | ((with_reducible refine gate_callee (f := 37) rfl ?_); refine gl_ (some 92) Tryd.func37 #[.slice Ao76 t734.length co76, .slice Ao77 t740.length co77] ?_; (with_reducible refine (attestorlaw05_same.calls kj63 _ _ t734 _ _ t740 true _ ?side1 ?side2 ?side3 ?side4 A88.out).mono ?_); (case side1 => exact cU_ ((Kd.R_reads' HO_3.out).2.2)); (case side2 => exact (Kd.R_reads' HO_3.out).2.1); (case side3 => exact cU_ ((Kd.R_reads' HO_4.out).2.2)); (case side4 => exact (Kd.R_reads' HO_4.out).2.1); rintro e w' ⟨rfl, ⟨nd, rfl⟩⟩; refine ⟨_, rfl, ?_⟩) | (go_at_call 23; (with_reducible refine (attestorlaw05_works.calls kj63  t758 _ ?side1 A91.out).mono ?_); (case side1 => repeat (first | with_reducible exact HG.out | with_reducible exact (Fld.below HG.out HB.out) | exact (Fld.below HG.out (by repeat (first | (with_reducible first | exact HB.out | apply below_alloc | apply pw_below_drewN | apply below_drew1 | refine below_set ?_ GE730.out) | exact HB.out))) | (with_reducible refine Fld.alloc ?_ _) | (with_reducible refine Fld.drewN ?_ _) | (with_reducible refine Fld.drew ?_))); rintro e w94 ⟨rfl, hb⟩; refine nx6_ (Kd.R_below (rU_ HO_3.out) hb) (Kd.R_below (rU_ HO_4.out) hb) (Kd.R_below (rU_ HO_14.out) hb) (Kd.R_below (rU_ HO_15.out) hb) (blk_below (g := gb730) (o := .cells #[.int .i64 t727, .int .i64 t728, .int .u64 t729] 24 (0, 0)) (by (with_reducible repeat (first | refine blk_drewN ?_ _ | refine blk_drew ?_ | refine blk_alloc ?_ _)); exact BK730.out) hb) (below_step (by repeat (first | (with_reducible first | exact HB.out | apply below_alloc | apply pw_below_drewN | apply below_drew1 | refine below_set ?_ GE730.out) | exact HB.out)) hb) ?_; clear HO_3 HO_4 HO_14 HO_15 BK730 HB; intro HO_3 HO_4 HO_14 HO_15 BK730 HB; clear hb))
       go_ret
       exact ⟨by first | rfl | (simp [errW_none, errW_some] <;> rfl) | (simp only [← hji7, ← hji9, ← hji14]; first | rfl | (simp [errW_none, errW_some] <;> rfl)) | (simp [*, errW_none, errW_some] <;> rfl), by repeat (first | (with_reducible first | exact HB.out | apply below_alloc | apply pw_below_drewN | apply below_drew1 | refine below_set ?_ GE730.out) | exact HB.out)⟩
      ·replace c89 := Bool.eq_false_iff.mpr c89
       subst c89
       rw [if_neg (show ¬ (false = true) by decide)] at H
       obtain ⟨c95, H⟩ : ((wrap64 (ji9 - t756)) < ji14) ∧ _ := it_ H
       have c95b0 := decide_eq_true c95
       clear c95
       revert H
       refine bd_ fun t759 A96 H => ?_
       obtain rfl := Option.some.inj H
       have hcz97_0 : wc.cell? ⟨gb730, 0, none⟩ = some (.int .i64 t727) := (blk_cell BK730.out 0).trans rfl
       have hcz97_1 : wc.cell? ⟨gb730, 1, none⟩ = some (.int .i64 t728) := (blk_cell BK730.out 1).trans rfl
       have hcz97_2 : wc.cell? ⟨gb730, 2, none⟩ = some (.int .u64 t729) := (blk_cell BK730.out 2).trans rfl
       have hfz97_0 := blk_frozen BK730.out 0
       have hfz97_1 := blk_frozen BK730.out 1
       have hfz97_2 := blk_frozen BK730.out 2
       go_wp2_with (first | ((with_reducible refine gate_callee (f := 36) rfl ?_); refine gl_ (some 89) Tryd.func36 #[.int .i64 t727, .slice Ao81 t743.length co81, .slice Ao82 t746.length co82] ?_; (with_reducible refine (code_Differ.calls kj63 t727 _ _ t743 _ _ t746 t756 _ ?side1 ?side2 ?side3 ?side4 ?side5 A87.out).mono ?_); (case side1 => repeat (first | with_reducible exact HG.out | with_reducible exact (Fld.below HG.out HB.out) | exact (Fld.below HG.out (by repeat (first | (with_reducible first | exact HB.out | apply below_alloc | apply pw_below_drewN | apply below_drew1 | refine below_set ?_ GE730.out) | exact HB.out))) | (with_reducible refine Fld.alloc ?_ _) | (with_reducible refine Fld.drewN ?_ _) | (with_reducible refine Fld.drew ?_))); (case side2 => exact cU_ ((Kd.R_reads' HO_14.out).2.2)); (case side3 => exact (Kd.R_reads' HO_14.out).2.1); (case side4 => exact cU_ ((Kd.R_reads' HO_15.out).2.2)); (case side5 => exact (Kd.R_reads' HO_15.out).2.1); rintro e w98 ⟨rfl, hb⟩; refine ⟨_, rfl, ?_⟩; refine nx6_ (Kd.R_below (rU_ HO_3.out) hb) (Kd.R_below (rU_ HO_4.out) hb) (Kd.R_below (rU_ HO_14.out) hb) (Kd.R_below (rU_ HO_15.out) hb) (blk_below (g := gb730) (o := .cells #[.int .i64 t727, .int .i64 t728, .int .u64 t729] 24 (0, 0)) (by (with_reducible repeat (first | refine blk_drewN ?_ _ | refine blk_drew ?_ | refine blk_alloc ?_ _)); exact BK730.out) hb) (below_step (by repeat (first | (with_reducible first | exact HB.out | apply below_alloc | apply pw_below_drewN | apply below_drew1 | refine below_set ?_ GE730.out) | exact HB.out)) hb) ?_; clear HO_3 HO_4 HO_14 HO_15 BK730 HB; intro HO_3 HO_4 HO_14 HO_15 BK730 HB; clear hb) | ((with_reducible refine gate_callee (f := 37) rfl ?_); refine gl_ (some 92) Tryd.func37 #[.slice Ao76 t734.length co76, .slice Ao77 t740.length co77] ?_; (with_reducible refine (attestorlaw05_same.calls kj63 _ _ t734 _ _ t740 false _ ?side1 ?side2 ?side3 ?side4 A88.out).mono ?_); (case side1 => exact cU_ ((Kd.R_reads' HO_3.out).2.2)); (case side2 => exact (Kd.R_reads' HO_3.out).2.1); (case side3 => exact cU_ ((Kd.R_reads' HO_4.out).2.2)); (case side4 => exact (Kd.R_reads' HO_4.out).2.1); rintro e w' ⟨rfl, ⟨nd, rfl⟩⟩; refine ⟨_, rfl, ?_⟩) | (go_at_call 23; (with_reducible refine (attestorlaw05_works.calls kj63  t759 _ ?side1 A96.out).mono ?_); (case side1 => repeat (first | with_reducible exact HG.out | with_reducible exact (Fld.below HG.out HB.out) | exact (Fld.below HG.out (by repeat (first | (with_reducible first | exact HB.out | apply below_alloc | apply pw_below_drewN | apply below_drew1 | refine below_set ?_ GE730.out) | exact HB.out))) | (with_reducible refine Fld.alloc ?_ _) | (with_reducible refine Fld.drewN ?_ _) | (with_reducible refine Fld.drew ?_))); rintro e w99 ⟨rfl, hb⟩; refine nx6_ (Kd.R_below (rU_ HO_3.out) hb) (Kd.R_below (rU_ HO_4.out) hb) (Kd.R_below (rU_ HO_14.out) hb) (Kd.R_below (rU_ HO_15.out) hb) (blk_below (g := gb730) (o := .cells #[.int .i64 t727, .int .i64 t728, .int .u64 t729] 24 (0, 0)) (by (with_reducible repeat (first | refine blk_drewN ?_ _ | refine blk_drew ?_ | refine blk_alloc ?_ _)); exact BK730.out) hb) (below_step (by repeat (first | (with_reducible first | exact HB.out | apply below_alloc | apply pw_below_drewN | apply below_drew1 | refine below_set ?_ GE730.out) | exact HB.out)) hb) ?_; clear HO_3 HO_4 HO_14 HO_15 BK730 HB; intro HO_3 HO_4 HO_14 HO_15 BK730 HB; clear hb))
       go_ret
       exact ⟨by first | rfl | (simp [errW_none, errW_some] <;> rfl) | (simp only [← hji7, ← hji9, ← hji14]; first | rfl | (simp [errW_none, errW_some] <;> rfl)) | (simp [*, errW_none, errW_some] <;> rfl), by repeat (first | (with_reducible first | exact HB.out | apply below_alloc | apply pw_below_drewN | apply below_drew1 | refine below_set ?_ GE730.out) | exact HB.out)⟩
  ·replace c22 := Bool.eq_false_iff.mpr c22
   subst c22
   rw [if_neg (show ¬ (false = true) by decide)] at H
   exact absurd H (by simp)
 ·replace c20 := Bool.eq_false_iff.mpr c20
  subst c20
  rw [if_neg (show ¬ (false = true) by decide)] at H
  exact absurd H (by simp)

/-- THE ONE PURE STATEMENT of attestorlaw05_CodeDistance: yours. -/
def attestorlaw05_CodeDistance.Pure : Prop := ∀ (a0 : Int) (a1 : Int) (a2 : Int) (l3 : List Int) (l4 : List Int), (Lit.int .u8 a0).wf = true → (Lit.int .u8 a1).wf = true → (Lit.int .u64 a2).wf = true → l3.length ≤ maxLen → l3.length * 8 ≤ 140737488351232 → (∀ x ∈ l3, (Lit.int .u64 x).wf = true) → l4.length ≤ maxLen → l4.length * 8 ≤ 140737488351232 → (∀ x ∈ l4, (Lit.int .u64 x).wf = true) → ∃ k, attestorlaw05_CodeDistance.f k a0 a1 a2 l3 l4 = some true
theorem attestorlaw05_CodeDistance.walk (P : attestorlaw05_CodeDistance.Pure) (a0 : Int) (a1 : Int) (a2 : Int) (a3 : Option Addr) (len3 cap3 : Nat) (z3 : List Int) (a4 : Option Addr) (len4 cap4 : Nat) (z4 : List Int) (w : World) (hG : Fld w) (w0 : (Lit.int .u8 a0).wf = true) (w1 : (Lit.int .u8 a1).wf = true) (w2 : (Lit.int .u64 a2).wf = true) (w3 : (a3 = none ∧ len3 = 0 ∧ cap3 = 0 ∧ z3 = []) ∨ ∃ x, a3 = some x ∧ len3 ≤ cap3 ∧ cap3 ≤ maxLen ∧ z3.length = cap3 ∧ (∀ i, i < z3.length → w.cell? (x.add i) = some (.int .u64 (z3.getD i 0))) ∧ ∀ n ∈ z3, (Lit.int .u64 n).wf = true) (y3 : len3 * 8 ≤ 140737488351232) (w4 : (a4 = none ∧ len4 = 0 ∧ cap4 = 0 ∧ z4 = []) ∨ ∃ x, a4 = some x ∧ len4 ≤ cap4 ∧ cap4 ≤ maxLen ∧ z4.length = cap4 ∧ (∀ i, i < z4.length → w.cell? (x.add i) = some (.int .u64 (z4.getD i 0))) ∧ ∀ n ∈ z4, (Lit.int .u64 n).wf = true) (y4 : len4 * 8 ≤ 140737488351232) :
  Calls Tryd.prog 6 #[.int .u8 a0, .int .u8 a1, .int .u64 a2, .slice a3 len3 cap3, .slice a4 len4 cap4] w fun e w' => e = .returned (.bool true) ∧ Below w.heap.size w w' := by
 obtain ⟨l3, rfl, hr3, hm3, hw3, hc3⟩ := ReadsInt.ofRowC w3
 obtain ⟨l4, rfl, hr4, hm4, hw4, hc4⟩ := ReadsInt.ofRowC w4
 obtain ⟨k, h⟩ := P a0 a1 a2 l3 l4 w0 w1 w2 hm3 y3 hw3 hm4 y4 hw4
 refine (attestorlaw05_CodeDistance.calls k a0 a1 a2 _ _ l3 _ _ l4 true w hG (Kd.C_of_reads (d := (0 : Int)) (h1 := fun _ => rfl) hr3) hc3 (Kd.C_of_reads (d := (0 : Int)) (h1 := fun _ => rfl) hr4) hc4 h).mono ?_
 rintro e w' ⟨rfl, hd⟩
 exact ⟨rfl, hd⟩

end Go.Proofs.YtedapdagagkajaaDoor.Q

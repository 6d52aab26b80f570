-- Written by prx.py (this session's driver of the kit's print) out of the translation. Not trusted: Lean checks it.
import Derived.Test.YthinfmfjpaikiaaDoorQ0
import Derived.Test.YthinfmfjpaikiaaDoorQ2
import Derived.Test.YthinfmfjpaikiaaDoorQ3
namespace Go.Proofs.YthinfmfjpaikiaaDoor.Q
open Go.RowKit Go.Proofs.YthinfmfjpaikiaaDoorW.PrintWords Go.Proofs.YthinfmfjpaikiaaDoorW.PrintLast Go.Proofs.YthinfmfjpaikiaaDoorW.PrintMore
attribute [local go_sem] max2_int min2_int max_two min_two max_three min_three max_four min_four   -- for this text's walks alone
set_option linter.unusedVariables false
set_option linter.unusedSimpArgs false

/-! ### code_Points: function 61 -/
def code_Points.l0 : Nat → List Int → Int → Int → Int → Int → Int → Int → Int → Option (List Int)
 | 0, _, _, _, _, _, _, _, _ => none
 | k + 1, x3, x4, x5, x18, x19, x426000, x426001, x426002 => if x19 < x18 then (if 0 ≤ x19 then (if x19 < (x3.length : Int) then ((field_Mul.f x426000 x4 x5).bind fun t432 => (code_Points.l0 k (x3.set (x19 : Int).toNat x4) t432 x5 x18 (wrap64 (x19 + 1)) x426000 x426001 x426002)) else (none)) else (none)) else (some x3)
def code_Points.f (k : Nat) (a0_0 : Int) (a0_1 : Int) (a0_2 : Int) : Option (List Int) := (code_Size.f a0_0 a0_1 a0_2).bind fun t426 => (if 0 ≤ t426 then (if (t426 : Int).toNat ≤ 35184372088832 then ((some (List.replicate (t426 : Int).toNat 0 : List Int)).bind fun y427 => ((field_Root.f k a0_0 a0_1).bind fun t430 => (code_Points.l0 k y427 a0_2 t430 (y427.length : Int) 0 a0_0 a0_1 a0_2))) else (none)) else (none))
def code_Points.T2 : Bool × List (List Nat × List Nat) := (true, [([], []), ([0], [0]), ([], []), ([2], [2]), ([], []), ([4], [4]), ([3, 5], [3, 5]), ([1, 6, 0, 1], [1]), ([6, 7, 0, 1, 2, 3, 4, 5, 6, 7], [6])])
def code_Points.B2 : List Nat := [0, 1, 0, 4, 0, 16, 60, 127, 255]
theorem code_Points.tab2 : rtab .any (opsOf Tryd.f61 2) = code_Points.T2 := by kernel_rfl
theorem code_Points.bits2 : waitsOk code_Points.T2.2 code_Points.B2 = true := by kernel_rfl
set_option maxHeartbeats 8000000 in
set_option maxRecDepth 100000 in
theorem code_Points.calls (k : Nat) (a0_0 : Int) (a0_1 : Int) (a0_2 : Int) (r : List Int) (w : World) (hG : Fld w) (h : code_Points.f k a0_0 a0_1 a0_2 = some r) :
  Calls Tryd.prog 61 #[.agg #[.int .i64 a0_0, .int .i64 a0_1, .int .u64 a0_2]] w fun e w' => ∃ v0_ : Value, e = .returned (v0_) ∧ Kd.R (Kd.int .u64) 22 w' w.heap.size (fun _ => True) v0_ r ∧ Below w.heap.size w w' := by
 have hu24 := Tryd.underlying24
 have HG := ak hG
 clear hG
 have HB := ak (Below.refl w.heap.size w)
 have H : ((code_Size.f a0_0 a0_1 a0_2).bind fun t426 => (if 0 ≤ t426 then (if (t426 : Int).toNat ≤ 35184372088832 then ((some (List.replicate (t426 : Int).toNat 0 : List Int)).bind fun y427 => ((field_Root.f k a0_0 a0_1).bind fun t430 => (code_Points.l0 k y427 a0_2 t430 (y427.length : Int) 0 a0_0 a0_1 a0_2))) else (none)) else (none))) = some r := h
 clear h
 revert H
 refine bd_ fun t426 A2 H => ?_
 obtain ⟨c3, H⟩ : (0 ≤ t426) ∧ _ := it_ H
 have c3b0 := eq_true c3
 have c3b1 := decide_eq_true c3
 clear c3
 obtain ⟨c4, H⟩ : ((t426 : Int).toNat ≤ 35184372088832) ∧ _ := it_ H
 have c4b0 := eq_true c4
 have c4b1 := decide_eq_true c4
 clear c4
 obtain ⟨y427, hy427⟩ : ∃ y_ : List Int, y_ = (List.replicate (t426 : Int).toNat 0) := ⟨_, rfl⟩
 first | rw [Option.bind_some, ← hy427] at H | rw [← hy427] at H
 have Ny427 := ak hy427
 clear hy427
 revert H
 refine bd_ fun t430 A5 H => ?_
 have H' := ak H
 clear H
 go_enter Tryd.func61, Tryd.ntmps61
 try go_wp2_with (first | ((with_reducible refine gate_dst (N := 1) rfl ?_); refine box_event ?hg (N := 1) ?hd (cs := #[.int .i64 a0_0, .int .i64 a0_1, .int .u64 a0_2]) (t := 24) ?hr ?_; (case hd => rfl); (case hg => rfl); (case hr => first | (go_simp; done) | (go_simp; rfl)); intro gb425 hg w6 hbox hb; refine nx4_ (below_step (bU_ HB.out) hb) (hbox) ((by rw [hg]; exact (below_size (bU_ HB.out)) : w.heap.size ≤ gb425)) ((by rw [hg]; exact (below_size (bU_ HB.out)) : w.heap.size ≤ gb425)) ?_; clear HB; intro HB BK425 GW425 GE425; clear hb hbox hg; have hcz7_0 : w6.cell? ⟨gb425, 0, none⟩ = some (.int .i64 a0_0) := (blk_cell BK425.out 0).trans rfl; have hcz7_1 : w6.cell? ⟨gb425, 1, none⟩ = some (.int .i64 a0_1) := (blk_cell BK425.out 1).trans rfl; have hcz7_2 : w6.cell? ⟨gb425, 2, none⟩ = some (.int .u64 a0_2) := (blk_cell BK425.out 2).trans rfl; have hfz7_0 := blk_frozen BK425.out 0; have hfz7_1 := blk_frozen BK425.out 1; have hfz7_2 := blk_frozen BK425.out 2) | ((with_reducible refine gate_callee (f := 33) rfl ?_); refine gl_ (some 8) Tryd.func33 #[.agg #[.int .i64 a0_0, .int .i64 a0_1, .int .u64 a0_2]] ?_; (with_reducible refine (code_Size.calls a0_0 a0_1 a0_2 t426 _ ?side1 A2.out).mono ?_); (case side1 => repeat (first | with_reducible exact HG.out | with_reducible exact (Fld.below HG.out HB.out) | exact (Fld.below HG.out (by repeat (first | (with_reducible first | exact HB.out | apply below_alloc | apply pw_below_drewN | apply below_drew1 | refine below_set ?_ GE425.out) | exact HB.out))) | (with_reducible refine Fld.alloc ?_ _) | (with_reducible refine Fld.drewN ?_ _) | (with_reducible refine Fld.drew ?_))); rintro e w8 ⟨rfl, hb⟩; refine ⟨_, rfl, ?_⟩; refine nx2_ (blk_below (g := gb425) (o := .cells #[.int .i64 a0_0, .int .i64 a0_1, .int .u64 a0_2] 24 (0, 0)) (by (with_reducible repeat (first | refine blk_drewN ?_ _ | refine blk_drew ?_ | refine blk_alloc ?_ _)); exact BK425.out) hb) (below_step (by repeat (first | (with_reducible first | exact HB.out | apply below_alloc | apply pw_below_drewN | apply below_drew1 | refine below_set ?_ GE425.out) | exact HB.out)) hb) ?_; clear BK425 HB; intro BK425 HB; clear hb) | ((with_reducible refine gate_dst (N := 9) rfl ?_); refine Kd.R_make (Kd.int .u64) _ 22 rfl (N := 9) rfl 33 _ _ rfl t426 ?hx ?hy Tryd.underlying33 (.int .u64 0) 8 info22 rfl (by decide) (by omega) 0 (ok := fun _ => True) (okp := fun _ => True) rfl (fun _ hk => hk) trivial od_ (Nat.le_trans (Nat.mul_le_mul_right _ (od_ : t426.toNat ≤ 35184372088832)) (by omega)) (Below.refl _ _) (Nat.le_refl _) ?_; (case hx => first | rfl); (case hy => first | rfl); intro v428 w9 ho10 hb hg_ hnew_; clear hg_ hnew_; (first | rw [← Ny427.out] at ho10 | (simp only [Int.reduceToNat] at ho10; rw [← Ny427.out] at ho10)); refine nx3_ (Kd.R_lower ho10 (below_size (by repeat (first | (with_reducible first | exact HB.out | apply below_alloc | apply pw_below_drewN | apply below_drew1 | refine below_set ?_ GE425.out) | exact HB.out)))) (blk_below (g := gb425) (o := .cells #[.int .i64 a0_0, .int .i64 a0_1, .int .u64 a0_2] 24 (0, 0)) (by (with_reducible repeat (first | refine blk_drewN ?_ _ | refine blk_drew ?_ | refine blk_alloc ?_ _)); exact BK425.out) hb) (below_step (by repeat (first | (with_reducible first | exact HB.out | apply below_alloc | apply pw_below_drewN | apply below_drew1 | refine below_set ?_ GE425.out) | exact HB.out)) hb) ?_; clear BK425 HB; intro HO429 BK425 HB; clear hb ho10))
 refine nx3_ (Kd.R_drew HO429.out) (blk_drew BK425.out) (below_drew1 HB.out) ?_
 clear HO429 BK425 HB
 intro HO429 BK425 HB
 refine start_ (n := 9) (S := fun w' => w'.cell? ⟨gb425, 0, none⟩ = some (.int .i64 a0_0) ∧ w'.cell? ⟨gb425, 1, none⟩ = some (.int .i64 a0_1) ∧ w'.cell? ⟨gb425, 2, none⟩ = some (.int .u64 a0_2)) (ds := []) (bv 9 0) (by kernel_rfl) rfl rfl ⟨(blk_cell BK425.out 0).trans rfl, (blk_cell BK425.out 1).trans rfl, (blk_cell BK425.out 2).trans rfl⟩ (fun hHeld => ?_); refine with_tabW code_Points.tab2 code_Points.bits2 (fun HT_ HW_ => ?_)
 generalize w9.drew = w11 at HO429 BK425 HB hHeld ⊢
 refine pr_ (i := 0) (N := some 10) (v := ?_) (a' := ?_) (bv 9 1) HT_.out ?_ ?_ ?_; rotate_left 2; (intro w'; go_simp; with_reducible rfl); (simp only [Act.put, s1_, s2_, s3_, i64_w, i32_w]; rfl)
 refine pr_ (i := 2) (N := some 12) (v := ?_) (a' := ?_) (bv 9 5) HT_.out ?_ ?_ ?_; rotate_left 2; (intro w'; go_simp; with_reducible rfl); (simp only [Act.put, s1_, s2_, s3_, i64_w, i32_w]; rfl)
 refine pr_ (i := 4) (N := some 14) (v := ?_) (a' := ?_) (bv 9 21) HT_.out ?_ ?_ ?_; rotate_left 2; (intro w'; go_simp; with_reducible rfl); (simp only [Act.put, s1_, s2_, s3_, i64_w, i32_w]; rfl)
 refine take_ (i := 1) (N := some 11) (v := ?_) (a' := ?_) (bv 9 23) rfl rfl (take_ofW HT_.out HW_.out (by kernel_rfl)) (fun _ _ _ h => h) (Or.inl ⟨by rfl, ?_⟩) hHeld ?_ ?_
 rotate_left
 ·rintro w' ⟨s0, s1, s2⟩
  go_simp
  with_reducible rfl
 rotate_left
 ·simp only [Act.put, s1_, s2_, s3_, i64_w, i32_w]
  rfl
 refine take_ (i := 3) (N := some 13) (v := ?_) (a' := ?_) (bv 9 31) rfl rfl (take_ofW HT_.out HW_.out (by kernel_rfl)) (fun _ _ _ h => h) (Or.inl ⟨by rfl, ?_⟩) hHeld ?_ ?_
 rotate_left
 ·rintro w' ⟨s0, s1, s2⟩
  go_simp
  with_reducible rfl
 rotate_left
 ·simp only [Act.put, s1_, s2_, s3_, i64_w, i32_w]
  rfl
 refine take_ (i := 5) (N := some 15) (v := ?_) (a' := ?_) (bv 9 63) rfl rfl (take_ofW HT_.out HW_.out (by kernel_rfl)) (fun _ _ _ h => h) (Or.inl ⟨by rfl, ?_⟩) hHeld ?_ ?_
 rotate_left
 ·rintro w' ⟨s0, s1, s2⟩
  go_simp
  with_reducible rfl
 rotate_left
 ·simp only [Act.put, s1_, s2_, s3_, i64_w, i32_w]
  rfl
 refine one_ (i := 6) (N := some 16) (bv 9 127) rfl rfl (one_of HT_.out (by kernel_rfl)) (by decide) (fun K hK => ?_)
 refine goes_ Tryd.func60 (by kernel_rfl) rfl #[.int .i64 a0_0, .int .i64 a0_1] (by rfl) rfl rfl ga_ ?_
 with_reducible refine (field_Root.calls k a0_0 a0_1 t430 _ ?side1 A5.out).mono ?_
 (case side1 => repeat (first | with_reducible exact HG.out | with_reducible exact (Fld.below HG.out HB.out) | exact (Fld.below HG.out (by repeat (first | (with_reducible first | exact HB.out | apply below_alloc | apply pw_below_drewN | apply below_drew1 | refine below_set ?_ GE425.out) | exact HB.out))) | (with_reducible refine Fld.alloc ?_ _) | (with_reducible refine Fld.drewN ?_ _) | (with_reducible refine Fld.drew ?_)))
 rintro e w12 ⟨rfl, hb⟩
 refine ⟨_, rfl, ?_⟩
 refine nx3_ (Kd.R_below (rU_ HO429.out) hb) (blk_below (g := gb425) (o := .cells #[.int .i64 a0_0, .int .i64 a0_1, .int .u64 a0_2] 24 (0, 0)) (by (with_reducible repeat (first | refine blk_drewN ?_ _ | refine blk_drew ?_ | refine blk_alloc ?_ _)); exact BK425.out) hb) (below_step (by repeat (first | (with_reducible first | exact HB.out | apply below_alloc | apply pw_below_drewN | apply below_drew1 | refine below_set ?_ GE425.out) | exact HB.out)) hb) ?_
 clear HO429 BK425 HB
 intro HO429 BK425 HB
 (try clear hb)
 (try clear hb2)
 (try clear hk)
 (try clear hi)
 refine hK.out _ _ ⟨(blk_cell BK425.out 0).trans rfl, (blk_cell BK425.out 1).trans rfl, (blk_cell BK425.out 2).trans rfl⟩ (fun hHeld => ?_)
 clear hK K
 refine norm_ (a' := ?_) ?_ ?_
 rotate_left
 ·show Act.put _ (some 16) _ = _
  simp only [Act.put, s1_, s2_, s3_, i64_w, i32_w]
  rfl
 refine pr_ (i := 7) (N := some 4) (v := ?_) (a' := ?_) (bv 9 255) HT_.out ?_ ?_ ?_; rotate_left 2; (intro w'; go_simp; with_reducible rfl); (simp only [Act.put, s1_, s2_, s3_, i64_w, i32_w]; rfl)
 refine pr_ (i := 8) (N := some 5) (v := ?_) (a' := ?_) (bv 9 511) HT_.out ?_ ?_ ?_; rotate_left 2; (intro w'; go_simp; with_reducible rfl); (simp only [Act.put, s1_, s2_, s3_, i64_w, i32_w]; rfl)
 refine done_ (done_of HT_.out (by kernel_rfl)) ?_
 obtain ⟨Ao13, co13, eo13⟩ := Kd.R_slice HO429.out
 subst eo13
 try go_wp2
 go_loopg [4, 19] k (fun kq v4 v19 w' => ∃ (x3_1 : List Int) (x4_1 : Int) (x19_1 : Int), v4 = .int .u64 x4_1 ∧ v19 = .int .i64 x19_1 ∧ Aside0 (code_Points.l0 kq x3_1 x4_1 t430 (y427.length : Int) x19_1 a0_0 a0_1 a0_2 = some r) ∧ Aside0 (kq ≤ k) ∧ Aside0 (Kd.R (Kd.int .u64) 22 w' w.heap.size (fun _ => True) (.slice Ao13 y427.length co13) x3_1) ∧ Aside0 (w'.heap[gb425]? = some (.cells #[.int .i64 a0_0, .int .i64 a0_1, .int .u64 a0_2] 24 (0, 0))) ∧ Aside0 (Below w.heap.size w w'))
 case atStart => exact ⟨(y427), (a0_2), (0), gb_, gb_, H', ⟨Nat.le_refl _⟩, ⟨rU_ HO429.out⟩, ⟨by (with_reducible repeat (first | refine blk_drewN ?_ _ | refine blk_drew ?_ | refine blk_alloc ?_ _)); exact BK425.out⟩, ⟨by repeat (first | (with_reducible first | exact HB.out | apply below_alloc | apply pw_below_drewN | apply below_drew1 | refine below_set ?_ GE425.out) | exact HB.out)⟩⟩
 case round =>
  clear H'
  (try clear p2); (try clear c3); (try clear c3b0); (try clear c3b1); (try clear c4); (try clear c4b0); (try clear c4b1); (try clear c6); (try clear hcz7_0); (try clear hcz7_1); (try clear hcz7_2); (try clear hfz7_0); (try clear hfz7_1); (try clear hfz7_2)
  obtain ⟨x3_1, x4_1, x19_1, rfl, rfl, HA, HK1, HO_3, BK425, HB⟩ := hrel
  have hl3_1 := (Kd.R_reads' HO_3.out).1
  rw [hl3_1] at HO_3
  (try simp only [hl3_1])
  (try simp only [hl3_1] at BK425)
  cases gk with
  | zero => exact absurd HA.out (by simp [code_Points.l0])
  | succ k1 =>
   have H := HA.out
   clear HA
   simp only [code_Points.l0] at H
   by_cases c14 : x19_1 < (y427.length : Int)
   ·rw [if_pos c14] at H
    have c14b0 := decide_eq_true c14
    (try (have c14b0r0 := c14b0; simp only [hl3_1] at c14b0r0))
    clear c14
    obtain ⟨c15, H⟩ : (0 ≤ x19_1) ∧ _ := it_ H
    have c15b0 := decide_eq_true c15
    clear c15
    obtain ⟨c16, H⟩ : (x19_1 < (x3_1.length : Int)) ∧ _ := it_ H
    have c16b0 := decide_eq_true c16
    clear c16
    obtain ⟨y431, hy431⟩ : ∃ y_ : List Int, y_ = (x3_1.set (x19_1 : Int).toNat x4_1) := ⟨_, rfl⟩
    first | rw [Option.bind_some, ← hy431] at H | rw [← hy431] at H
    have Ny431 := ak hy431
    clear hy431
    revert H
    refine bd_ fun t432 A18 H => ?_
    have H' := ak H
    clear H
    have p17 : 0 ≤ (x19_1 : Int) := od_
    have q17 : (x19_1 : Int) < ((x3_1.length : Int) : Int) := od_
    obtain ⟨go17, co17, eo17, gb17, gl17, cl17, HG17⟩ := Kd.R_form HO_3.out (by omega)
    (first | cases eo17 | (injection eo17 with ea_ en_ ec_; (first | subst ea_ | (injection ea_ with ea_; subst ea_)); subst ec_; clear en_))
    have GB17 := ak gb17
    have GG17 := ak HG17
    clear gb17 gl17 HG17
    obtain ⟨hx17_0, hf17_0⟩ := Kd.R_celln 0 HO_3.out (x19_1 : Int) p17 q17
    replace p17 := eq_true p17
    replace q17 := eq_true q17
    have HP19 := Kd.R_putg HO_3.out (x19_1 : Int) x4_1
    go_wp2_with (first | ((with_reducible refine gate_store (t := 22) (p := 25) rfl ?_); refine store_event (t := 22) (p := 25) (v := ?vo_w20) (w1 := (wr.setCell ⟨go17, (x19_1 : Int).toNat, none⟩ (.int .u64 x4_1))) ?hg ?ho ?hn ?hr ?_; (case ho => rfl); (case hg => rfl); (case hn => rfl); (case hr => first | (go_simp; done) | (go_simp; rfl)); intro w20 hw; have hg : wr.grownBy w20 (some go17) := (by rw [hw]; exact HP19.2); have hp_ : Kd.R (Kd.int .u64) 22 w20 w.heap.size (fun _ => True) (.slice (some ⟨go17, 0, none⟩) x3_1.length co13) y431 := (by rw [hw, Ny431.out]; exact HP19.1); clear HP19; refine nx3_ (hp_) (blk_grown (g := gb425) (o := .cells #[.int .i64 a0_0, .int .i64 a0_1, .int .u64 a0_2] 24 (0, 0)) (by (with_reducible repeat (first | refine blk_drewN ?_ _ | refine blk_drew ?_ | refine blk_alloc ?_ _)); exact BK425.out) hg (Kd.R_ne HO_3.out BK425.out (by decide))) ((by rw [hw]; exact below_set (HB.out) GB17.out : Below w.heap.size w w20)) ?_; clear HO_3 BK425 HB; intro HO_3 BK425 HB; clear hg hw hp_; have hcz21_0 : w20.cell? ⟨gb425, 0, none⟩ = some (.int .i64 a0_0) := (blk_cell BK425.out 0).trans rfl; have hcz21_1 : w20.cell? ⟨gb425, 1, none⟩ = some (.int .i64 a0_1) := (blk_cell BK425.out 1).trans rfl; have hcz21_2 : w20.cell? ⟨gb425, 2, none⟩ = some (.int .u64 a0_2) := (blk_cell BK425.out 2).trans rfl; have hfz21_0 := blk_frozen BK425.out 0; have hfz21_1 := blk_frozen BK425.out 1; have hfz21_2 := blk_frozen BK425.out 2) | ((with_reducible refine gate_callee (f := 19) rfl ?_); refine gl_ (some 30) Tryd.func19 #[.int .i64 a0_0, .int .u64 x4_1, .int .u64 t430] ?_; (with_reducible refine (field_Mul.calls a0_0 x4_1 t430 t432 _ ?side1 A18.out).mono ?_); (case side1 => repeat (first | with_reducible exact HG.out | with_reducible exact (Fld.below HG.out HB.out) | exact (Fld.below HG.out (by repeat (first | (with_reducible first | exact HB.out | apply below_alloc | apply pw_below_drewN | apply below_drew1 | refine below_set ?_ GE425.out) | exact HB.out))) | (with_reducible refine Fld.alloc ?_ _) | (with_reducible refine Fld.drewN ?_ _) | (with_reducible refine Fld.drew ?_))); rintro e w22 ⟨rfl, hb⟩; refine ⟨_, rfl, ?_⟩; refine nx3_ (Kd.R_below (rU_ HO_3.out) hb) (blk_below (g := gb425) (o := .cells #[.int .i64 a0_0, .int .i64 a0_1, .int .u64 a0_2] 24 (0, 0)) (by (with_reducible repeat (first | refine blk_drewN ?_ _ | refine blk_drew ?_ | refine blk_alloc ?_ _)); exact BK425.out) hb) (below_step (by repeat (first | (with_reducible first | exact HB.out | apply below_alloc | apply pw_below_drewN | apply below_drew1 | refine below_set ?_ GE425.out) | exact HB.out)) hb) ?_; clear HO_3 BK425 HB; intro HO_3 BK425 HB; clear hb))
    (try simp only [← hl3_1])
    go_roundg k1
    case measure => have := HK1.out; omega
    case rel => exact ⟨(y431), (t432), (wrap64 (x19_1 + 1)), gb_, gb_, H', ⟨by have := HK1.out; omega⟩, ⟨by (try simp only [hl3_1]); (with_reducible repeat (first | apply Kd.R_alloc | apply Kd.R_drewN | apply Kd.R_drew)); exact HO_3.out⟩, ⟨by (try simp only [hl3_1]); (with_reducible repeat (first | refine blk_drewN ?_ _ | refine blk_drew ?_ | refine blk_alloc ?_ _)); exact BK425.out⟩, ⟨by repeat (first | (with_reducible first | exact HB.out | apply below_alloc | apply pw_below_drewN | apply below_drew1 | refine below_set ?_ GE425.out) | exact HB.out)⟩⟩
   ·rw [if_neg c14] at H
    have c14b0 := decide_eq_false c14
    (try (have c14b0r0 := c14b0; simp only [hl3_1] at c14b0r0))
    clear c14
    obtain rfl := Option.some.inj H
    go_wp2
    go_ret
    exact ⟨_, by first | rfl | (simp [errW_none, errW_some] <;> rfl) | (simp [*, errW_none, errW_some] <;> rfl), rU_ HO_3.out, by repeat (first | (with_reducible first | exact HB.out | apply below_alloc | apply pw_below_drewN | apply below_drew1 | refine below_set ?_ GE425.out) | exact HB.out)⟩

/-! ### attestorlaw09_word: function 36 -/
def attestorlaw09_word.l0 : Nat → List Int → List Int → List Int → Int → Int → Int → Int → Option (List Int)
 | 0, _, _, _, _, _, _, _ => none
 | k + 1, x1, x5, x6, x7, x434000, x434001, x434002 => if x7 < (x5.length : Int) then (if 0 ≤ x7 then ((poly_Eval.f k x434000 x1 (rd x5 x7)).bind fun t438 => (if x6.length < 17592186044416 then (attestorlaw09_word.l0 k x1 x5 (x6 ++ [t438]) (wrap64 (x7 + 1)) x434000 x434001 x434002) else (none))) else (none)) else (some x6)
def attestorlaw09_word.f (k : Nat) (a0_0 : Int) (a0_1 : Int) (a0_2 : Int) (l1 : List Int) : Option (List Int) := (code_Points.f k a0_0 a0_1 a0_2).bind fun t434 => (attestorlaw09_word.l0 k l1 t434 ([] : List Int) 0 a0_0 a0_1 a0_2)
def attestorlaw09_word.T6 : Bool × List (List Nat × List Nat) := (true, [([], []), ([], []), ([1], [1]), ([], []), ([], []), ([], []), ([4, 5], [4, 5]), ([6], [6]), ([2, 3, 7], [2, 3, 7]), ([8], [8]), ([0, 9, 8], [0, 9]), ([10, 10, 0, 1, 2, 3, 4, 5, 6, 7, 8, 9, 10], [0, 10])])
def attestorlaw09_word.B6 : List Nat := [0, 0, 2, 0, 0, 0, 48, 112, 254, 510, 1023, 2047]
theorem attestorlaw09_word.tab6 : rtab .any (opsOf Tryd.f36 6) = attestorlaw09_word.T6 := by kernel_rfl
theorem attestorlaw09_word.bits6 : waitsOk attestorlaw09_word.T6.2 attestorlaw09_word.B6 = true := by kernel_rfl
set_option maxHeartbeats 8000000 in
set_option maxRecDepth 100000 in
theorem attestorlaw09_word.calls (k : Nat) (a0_0 : Int) (a0_1 : Int) (a0_2 : Int) (A1 : Option Addr) (c1 : Nat) (l1 : List Int) (r : List Int) (w : World) (hG : Fld w) (hr1 : Kd.C (Kd.int .u64) w A1 l1.length l1) (hc1 : l1.length ≤ c1) (h : attestorlaw09_word.f k a0_0 a0_1 a0_2 l1 = some r) :
  Calls Tryd.prog 36 #[.agg #[.int .i64 a0_0, .int .i64 a0_1, .int .u64 a0_2], .slice A1 l1.length c1] w fun e w' => ∃ v0_ : Value, e = .returned (v0_) ∧ Kd.R (Kd.int .u64) 22 w' w.heap.size (fun _ => True) v0_ r ∧ Below w.heap.size w w' := by
 have hu24 := Tryd.underlying24
 have HG := ak hG
 clear hG
 have HR1 := ak hr1
 have HC1 := ak hc1
 clear hr1 hc1
 have HB := ak (Below.refl w.heap.size w)
 have H : ((code_Points.f k a0_0 a0_1 a0_2).bind fun t434 => (attestorlaw09_word.l0 k l1 t434 ([] : List Int) 0 a0_0 a0_1 a0_2)) = some r := h
 clear h
 revert H
 refine bd_ fun t434 A3 H => ?_
 have H' := ak H
 clear H
 go_enter Tryd.func36, Tryd.ntmps36
 go_wp2_with (first | ((with_reducible refine gate_dst (N := 2) rfl ?_); refine box_event ?hg (N := 2) ?hd (cs := #[.int .i64 a0_0, .int .i64 a0_1, .int .u64 a0_2]) (t := 24) ?hr ?_; (case hd => rfl); (case hg => rfl); (case hr => first | (go_simp; done) | (go_simp; rfl)); intro gb433 hg w4 hbox hb; refine nx4_ (below_step (bU_ HB.out) hb) (hbox) ((by rw [hg]; exact (below_size (bU_ HB.out)) : w.heap.size ≤ gb433)) ((by rw [hg]; exact (below_size (bU_ HB.out)) : w.heap.size ≤ gb433)) ?_; clear HB; intro HB BK433 GW433 GE433; clear hb hbox hg; have hcz5_0 : w4.cell? ⟨gb433, 0, none⟩ = some (.int .i64 a0_0) := (blk_cell BK433.out 0).trans rfl; have hcz5_1 : w4.cell? ⟨gb433, 1, none⟩ = some (.int .i64 a0_1) := (blk_cell BK433.out 1).trans rfl; have hcz5_2 : w4.cell? ⟨gb433, 2, none⟩ = some (.int .u64 a0_2) := (blk_cell BK433.out 2).trans rfl; have hfz5_0 := blk_frozen BK433.out 0; have hfz5_1 := blk_frozen BK433.out 1; have hfz5_2 := blk_frozen BK433.out 2) | ((with_reducible refine gate_callee (f := 61) rfl ?_); refine gl_ (some 9) Tryd.func61 #[.agg #[.int .i64 a0_0, .int .i64 a0_1, .int .u64 a0_2]] ?_; (with_reducible refine (code_Points.calls k a0_0 a0_1 a0_2 t434 _ ?side1 A3.out).mono ?_); (case side1 => repeat (first | with_reducible exact HG.out | with_reducible exact (Fld.below HG.out HB.out) | exact (Fld.below HG.out (by repeat (first | (with_reducible first | exact HB.out | apply below_alloc | apply pw_below_drewN | apply below_drew1 | refine below_set ?_ GE433.out) | exact HB.out))) | (with_reducible refine Fld.alloc ?_ _) | (with_reducible refine Fld.drewN ?_ _) | (with_reducible refine Fld.drew ?_))); rintro e w6 ⟨v435, rfl, ho0, hb⟩; refine ⟨_, rfl, ?_⟩; refine nx3_ (Kd.R_lower ho0 (below_size (by repeat (first | (with_reducible first | exact HB.out | apply below_alloc | apply pw_below_drewN | apply below_drew1 | refine below_set ?_ GE433.out) | exact HB.out)))) (blk_below (g := gb433) (o := .cells #[.int .i64 a0_0, .int .i64 a0_1, .int .u64 a0_2] 24 (0, 0)) (by (with_reducible repeat (first | refine blk_drewN ?_ _ | refine blk_drew ?_ | refine blk_alloc ?_ _)); exact BK433.out) hb) (below_step (by repeat (first | (with_reducible first | exact HB.out | apply below_alloc | apply pw_below_drewN | apply below_drew1 | refine below_set ?_ GE433.out) | exact HB.out)) hb) ?_; clear BK433 HB; intro HO436 BK433 HB; clear hb ho0))
 go_loopg [6, 7] k (fun kq v6 v7 w' => ∃ (x6_1 : List Int) (x7_1 : Int), v7 = .int .i64 x7_1 ∧ Aside0 (attestorlaw09_word.l0 kq l1 t434 x6_1 x7_1 a0_0 a0_1 a0_2 = some r) ∧ Aside0 (kq ≤ k) ∧ Aside0 (Kd.R (Kd.int .u64) 22 w' w.heap.size (fun k_ => some k_ ≠ (v6 : Value).ownBlock) v435 t434) ∧ Aside0 (Kd.R (Kd.int .u64) 22 w' w.heap.size (fun k_ => some k_ ≠ (v435 : Value).ownBlock) v6 x6_1) ∧ Aside0 (w'.heap[gb433]? = some (.cells #[.int .i64 a0_0, .int .i64 a0_1, .int .u64 a0_2] 24 (0, 0))) ∧ Aside0 (Below w.heap.size w w'))
 case atStart => exact ⟨(([] : List Int)), (0), gb_, H', ⟨Nat.le_refl _⟩, ⟨Kd.R_mono (rU_ HO436.out) (fun _ hk => (by simp [Value.ownBlock]))⟩, ⟨by first | exact Kd.R_nil _ _ _ _ _ | exact Kd.N_nil _ _ _ _ _ | exact Kd.V_nil _ _ _ _ _ | exact Kd.Q_nil _ _ _ _ _ | exact Kd.S_nil _ _ _ _ _⟩, ⟨by (with_reducible repeat (first | refine blk_drewN ?_ _ | refine blk_drew ?_ | refine blk_alloc ?_ _)); exact BK433.out⟩, ⟨by repeat (first | (with_reducible first | exact HB.out | apply below_alloc | apply pw_below_drewN | apply below_drew1 | refine below_set ?_ GE433.out) | exact HB.out)⟩⟩
 case round =>
  clear H'
  (try clear c1); (try clear p2); (try clear c3); (try clear c6); (try clear hcz5_0); (try clear hcz5_1); (try clear hcz5_2); (try clear hfz5_0); (try clear hfz5_1); (try clear hfz5_2)
  obtain ⟨x6_1, x7_1, rfl, HA, HK1, HO_5, HO_6, BK433, HB⟩ := hrel
  cases gk with
  | zero => exact absurd HA.out (by simp [attestorlaw09_word.l0])
  | succ k1 =>
   have H := HA.out
   clear HA
   simp only [attestorlaw09_word.l0] at H
   by_cases c7 : x7_1 < (t434.length : Int)
   ·rw [if_pos c7] at H
    have c7b0 := decide_eq_true c7
    clear c7
    obtain ⟨c8, H⟩ : (0 ≤ x7_1) ∧ _ := it_ H
    have c8b0 := decide_eq_true c8
    clear c8
    revert H
    refine bd_ fun t438 A9 H => ?_
    obtain ⟨c10, H⟩ : (x6_1.length < 17592186044416) ∧ _ := it_ H
    have LMc10 := ak c10
    clear c10
    obtain ⟨y439, hy439⟩ : ∃ y_ : List Int, y_ = (x6_1 ++ [t438]) := ⟨_, rfl⟩
    first | rw [Option.bind_some, ← hy439] at H | rw [← hy439] at H
    have Ny439 := ak hy439
    clear hy439
    have H' := ak H
    clear H
    obtain ⟨Ao11, co11, eo11⟩ := Kd.R_slice HO_5.out
    subst eo11
    try go_wp2
    refine nx4_ (Kd.R_drew HO_5.out) (Kd.R_drew HO_6.out) (blk_drew BK433.out) (below_drew1 HB.out) ?_
    clear HO_5 HO_6 BK433 HB
    intro HO_5 HO_6 BK433 HB
    have p437 : 0 ≤ (x7_1 : Int) := od_
    have q437 : x7_1 < (t434.length : Int) := od_
    obtain ⟨ad437, e437, hx437_0⟩ := Kd.at_int (Kd.R_reads' HO_5.out).2.2 x7_1 p437 q437
    cases e437
    replace p437 := eq_true p437
    replace q437 := eq_true q437
    refine start_ (n := 12) (S := fun w' => w'.cell? ⟨gb433, 0, none⟩ = some (.int .i64 a0_0) ∧ w'.cell? ⟨gb433, 1, none⟩ = some (.int .i64 a0_1) ∧ w'.cell? ⟨gb433, 2, none⟩ = some (.int .u64 a0_2) ∧ w'.cell? (ad437.add (x7_1).toNat) = some (.int .u64 (rd t434 x7_1))) (ds := [9, 10]) (bv 12 0) (by kernel_rfl) rfl rfl ⟨(blk_cell BK433.out 0).trans rfl, (blk_cell BK433.out 1).trans rfl, (blk_cell BK433.out 2).trans rfl, hx437_0⟩ (fun hHeld => ?_); refine with_tabW attestorlaw09_word.tab6 attestorlaw09_word.bits6 (fun HT_ HW_ => ?_)
    generalize wr.drew = w12 at HO_5 HO_6 BK433 HB hx437_0 hHeld ⊢
    refine pr_ (i := 0) (N := some 16) (v := ?_) (a' := ?_) (bv 12 1) HT_.out ?_ ?_ ?_; rotate_left 2; (intro w'; go_simp; with_reducible rfl); (simp only [Act.put, s1_, s2_, s3_, i64_w, i32_w]; rfl)
    refine pr_ (i := 1) (N := some 17) (v := ?_) (a' := ?_) (bv 12 3) HT_.out ?_ ?_ ?_; rotate_left 2; (intro w'; go_simp; with_reducible rfl); (simp only [Act.put, s1_, s2_, s3_, i64_w, i32_w]; rfl)
    refine pr_ (i := 3) (N := some 19) (v := ?_) (a' := ?_) (bv 12 11) HT_.out ?_ ?_ ?_; rotate_left 2; (intro w'; go_simp; with_reducible rfl); (simp only [Act.put, s1_, s2_, s3_, i64_w, i32_w]; rfl)
    refine pr_ (i := 4) (N := some 20) (v := ?_) (a' := ?_) (bv 12 27) HT_.out ?_ ?_ ?_; rotate_left 2; (intro w'; go_simp; with_reducible rfl); (simp only [Act.put, s1_, s2_, s3_, i64_w, i32_w]; rfl)
    refine pr_ (i := 5) (N := some 21) (v := ?_) (a' := ?_) (bv 12 59) HT_.out ?_ ?_ ?_; rotate_left 2; (intro w'; go_simp; with_reducible rfl); (simp only [Act.put, s1_, s2_, s3_, i64_w, i32_w]; rfl)
    refine pr_ (i := 6) (N := some 22) (v := ?_) (a' := ?_) (bv 12 123) HT_.out ?_ ?_ ?_; rotate_left 2; (intro w'; go_simp; with_reducible rfl); (simp only [Act.put, s1_, s2_, s3_, i64_w, i32_w]; rfl)
    refine take_ (i := 2) (N := some 18) (v := ?_) (a' := ?_) (bv 12 127) rfl rfl (take_ofW HT_.out HW_.out (by kernel_rfl)) (fun _ _ _ h => h) (Or.inl ⟨by rfl, ?_⟩) hHeld ?_ ?_
    rotate_left
    ·rintro w' ⟨s0, s1, s2, s3⟩
     go_simp
     with_reducible rfl
    rotate_left
    ·simp only [Act.put, s1_, s2_, s3_, i64_w, i32_w]
     rfl
    refine take_ (i := 7) (N := some 23) (v := ?_) (a' := ?_) (bv 12 255) rfl rfl (take_ofW HT_.out HW_.out (by kernel_rfl)) (fun _ _ _ h => h) (Or.inl ⟨by rfl, ?_⟩) hHeld ?_ ?_
    rotate_left
    ·rintro w' ⟨s0, s1, s2, s3⟩
     go_simp
     with_reducible rfl
    rotate_left
    ·simp only [Act.put, s1_, s2_, s3_, i64_w, i32_w]
     rfl
    refine one_ (i := 8) (N := some 24) (bv 12 511) rfl rfl (one_of HT_.out (by kernel_rfl)) (by decide) (fun K hK => ?_)
    refine goes_ Tryd.func46 (by kernel_rfl) rfl #[.int .i64 a0_0, .slice A1 l1.length c1, .int .u64 (rd t434 x7_1)] (by rfl) rfl rfl ga_ ?_
    with_reducible refine (poly_Eval.calls k1 a0_0 _ _ l1 (rd t434 x7_1) t438 _ ?side1 ?side2 ?side3 A9.out).mono ?_
    (case side1 => repeat (first | with_reducible exact HG.out | with_reducible exact (Fld.below HG.out HB.out) | exact (Fld.below HG.out (by repeat (first | (with_reducible first | exact HB.out | apply below_alloc | apply pw_below_drewN | apply below_drew1 | refine below_set ?_ GE433.out) | exact HB.out))) | (with_reducible refine Fld.alloc ?_ _) | (with_reducible refine Fld.drewN ?_ _) | (with_reducible refine Fld.drew ?_)))
    (case side2 => exact cU_ (Kd.C_below HR1.out HB.out))
    (case side3 => exact HC1.out)
    rintro e w13 ⟨rfl, hb⟩
    have HS3_ := (hb.cell (World.block_lt_of_cell? _ _ (hHeld.2.2.2))).trans (hHeld.2.2.2)
    refine ⟨_, rfl, ?_⟩
    refine nx4_ (Kd.R_below (rU_ HO_5.out) hb) (Kd.R_below (rU_ HO_6.out) hb) (blk_below (g := gb433) (o := .cells #[.int .i64 a0_0, .int .i64 a0_1, .int .u64 a0_2] 24 (0, 0)) (by (with_reducible repeat (first | refine blk_drewN ?_ _ | refine blk_drew ?_ | refine blk_alloc ?_ _)); exact BK433.out) hb) (below_step (by repeat (first | (with_reducible first | exact HB.out | apply below_alloc | apply pw_below_drewN | apply below_drew1 | refine below_set ?_ GE433.out) | exact HB.out)) hb) ?_
    clear HO_5 HO_6 BK433 HB
    intro HO_5 HO_6 BK433 HB
    (try clear hb)
    (try clear hb2)
    (try clear hk)
    (try clear hi)
    refine hK.out _ _ ⟨(blk_cell BK433.out 0).trans rfl, (blk_cell BK433.out 1).trans rfl, (blk_cell BK433.out 2).trans rfl, HS3_⟩ (fun hHeld => ?_)
    clear hK K
    refine norm_ (a' := ?_) ?_ ?_
    rotate_left
    ·show Act.put _ (some 24) _ = _
     simp only [Act.put, s1_, s2_, s3_, i64_w, i32_w]
     rfl
    refine last_ (i := 9) (N := some 25) #[true, true, true, true, true, true, true, true, true, true, false, false] rfl rfl (one_of HT_.out (by kernel_rfl)) (by decide) (fun K hK => ?_)
    refine value_ (w1 := ?_) (v := ?_) (by rfl) rfl ?_ ?_
    rotate_left 2
    ·go_simp
     constructor
     ·rfl
     ·rfl
    refine hK.out _ _ ?_
    clear hK K
    refine norm_ (a' := ?_) ?_ ?_
    rotate_left
    ·show Act.put _ (some 25) _ = _
     simp only [Act.put, s1_, s2_, s3_, i64_w, i32_w]
     rfl
    refine last_ (i := 10) (N := some 26) #[true, true, true, true, true, true, true, true, true, true, true, false] rfl rfl (one_of HT_.out (by kernel_rfl)) (by decide) (fun K hK => ?_)
    refine Kd.R_append_step (Kd.int .u64) (w0 := w) w.heap.size (by rfl) (.tmp 16) (.tmp 25) 33 22 (.int .u64 0) 8 rfl Tryd.underlying33 info22 rfl (by decide) (by omega) u6 x6_1 t438 [.int .u64 t438] (fun k_ => some k_ ≠ (.slice (some ad437) t434.length co11 : Value).ownBlock) (fun _ => False) rfl rfl ?aP (fun _ hk => hk.elim) ?aF ?aO ?aB ?aS ?aL ?_
    (case aP => exact rfl)
    (case aB => exact (by repeat (first | (with_reducible first | exact HB.out | apply below_alloc | apply pw_below_drewN | apply below_drew1 | refine below_set ?_ GE433.out) | exact HB.out)))
    (case aF => exact (fun k_ hk => Kd.fresh' (Kd.R_lt (rU_ HO_5.out)) k_ hk))
    (case aO => exact (rU_ HO_6.out))
    (case aS => exact (below_size (by repeat (first | (with_reducible first | exact HB.out | apply below_alloc | apply pw_below_drewN | apply below_drew1 | refine below_set ?_ GE433.out) | exact HB.out))))
    (case aL => have := LMc10.out; omega)
    intro v440 w14 ho hb hg hat
    rw [← Ny439.out] at ho
    refine nx4_ (Kd.R_after (ok := (fun _ => True)) (Kd.R_mono (rU_ HO_5.out) (fun _ hk => ⟨trivial, hk⟩)) hg hat) (blk_grown (g := gb433) (o := .cells #[.int .i64 a0_0, .int .i64 a0_1, .int .u64 a0_2] 24 (0, 0)) (by (with_reducible repeat (first | refine blk_drewN ?_ _ | refine blk_drew ?_ | refine blk_alloc ?_ _)); exact BK433.out) hg (Kd.R_ne HO_6.out BK433.out (by decide))) (hb) (ho) ?_
    clear HO_5 BK433 HB HO_6
    intro HO_5 BK433 HB HO441
    clear ho hb hg hat
    refine hK.out _ _ ?_
    clear hK K
    refine norm_ (a' := ?_) ?_ ?_
    rotate_left
    ·show Act.put _ (some 26) _ = _
     simp only [Act.put, s1_, s2_, s3_, i64_w, i32_w]
     rfl
    refine pr_ (i := 11) (N := some 6) (v := ?_) (a' := ?_) (bv 12 4095) HT_.out ?_ ?_ ?_; rotate_left 2; (intro w'; go_simp; with_reducible rfl); (simp only [Act.put, s1_, s2_, s3_, i64_w, i32_w]; rfl)
    refine done_ (done_of HT_.out (by kernel_rfl)) ?_
    try go_wp2
    go_roundg k1
    case measure => have := HK1.out; omega
    case rel => exact ⟨(y439), (wrap64 (x7_1 + 1)), gb_, H', ⟨by have := HK1.out; omega⟩, ⟨Kd.R_mono (rU_ HO_5.out) (fun _ hk => hk.2)⟩, ⟨rU_ HO441.out⟩, ⟨by (with_reducible repeat (first | refine blk_drewN ?_ _ | refine blk_drew ?_ | refine blk_alloc ?_ _)); exact BK433.out⟩, ⟨by repeat (first | (with_reducible first | exact HB.out | apply below_alloc | apply pw_below_drewN | apply below_drew1 | refine below_set ?_ GE433.out) | exact HB.out)⟩⟩
   ·rw [if_neg c7] at H
    have c7b0 := decide_eq_false c7
    clear c7
    obtain rfl := Option.some.inj H
    obtain ⟨Ao15, co15, eo15⟩ := Kd.R_slice HO_5.out
    subst eo15
    go_wp2
    go_ret
    exact ⟨_, by first | rfl | (simp [errW_none, errW_some] <;> rfl) | (simp [*, errW_none, errW_some] <;> rfl), Kd.R_mono (rU_ HO_6.out) (fun _ hk => trivial), by repeat (first | (with_reducible first | exact HB.out | apply below_alloc | apply pw_below_drewN | apply below_drew1 | refine below_set ?_ GE433.out) | exact HB.out)⟩

end Go.Proofs.YthinfmfjpaikiaaDoor.Q

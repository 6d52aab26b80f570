-- Written by prx.py (this session's driver of the kit's print) out of the translation. Not trusted: Lean checks it.
import Derived.Test.YtedapdagagkajaaDoorQ0
import Derived.Test.YtedapdagagkajaaDoorQ2
import Derived.Test.YtedapdagagkajaaDoorQ3
namespace Go.Proofs.YtedapdagagkajaaDoor.Q
open Go.RowKit Go.Proofs.YtedapdagagkajaaDoorW.PrintWords Go.Proofs.YtedapdagagkajaaDoorW.PrintLast Go.Proofs.YtedapdagagkajaaDoorW.PrintMore
attribute [local go_sem] max2_int min2_int max_two min_two max_three min_three max_four min_four   -- for this text's walks alone
set_option linter.unusedVariables false
set_option linter.unusedSimpArgs false

/-! ### attestorlaw05_domain: function 33 -/
def attestorlaw05_domain.f (a0 : Int) (a1 : Int) (a2 : Int) (a3 : Int) : Option (Int × Int × Int) := (field_Reduce.f (wrap64 (Int.tmod a0 4)) a2).bind fun t717 => (if t717 = 0 then (if (wrap64 (6 - a3)) = 0 then (none) else (some (wrap64 (Int.tmod a0 4), wrap64 (a3 + (Int.tmod (wrap64 (a1)) (wrap64 (6 - a3)))), 1))) else (if (wrap64 (6 - a3)) = 0 then (none) else (some (wrap64 (Int.tmod a0 4), wrap64 (a3 + (Int.tmod (wrap64 (a1)) (wrap64 (6 - a3)))), t717))))
set_option maxHeartbeats 8000000 in
set_option maxRecDepth 100000 in
theorem attestorlaw05_domain.calls (a0 : Int) (a1 : Int) (a2 : Int) (a3 : Int) (r1 : Int) (r2 : Int) (r3 : Int) (w : World) (hG : Fld w) (h : attestorlaw05_domain.f a0 a1 a2 a3 = some (r1, r2, r3)) :
  Calls Tryd.prog 33 #[.int .u8 a0, .int .u8 a1, .int .u64 a2, .int .i64 a3] w fun e w' => e = .returned (.agg #[.int .i64 r1, .int .i64 r2, .int .u64 r3]) ∧ Below w.heap.size w w' := by
 have hu24 := Tryd.underlying24
 have HG := ak hG
 clear hG
 have HB := ak (Below.refl w.heap.size w)
 have H : ((field_Reduce.f (wrap64 (Int.tmod a0 4)) a2).bind fun t717 => (if t717 = 0 then (if (wrap64 (6 - a3)) = 0 then (none) else (some (wrap64 (Int.tmod a0 4), wrap64 (a3 + (Int.tmod (wrap64 (a1)) (wrap64 (6 - a3)))), 1))) else (if (wrap64 (6 - a3)) = 0 then (none) else (some (wrap64 (Int.tmod a0 4), wrap64 (a3 + (Int.tmod (wrap64 (a1)) (wrap64 (6 - a3)))), t717))))) = some (r1, r2, r3) := h
 clear h
 revert H
 refine bd_ fun t717 A5 H => ?_
 by_cases c6 : t717 = 0
 ·rw [if_pos c6] at H
  have c6b0 := beq_iff_eq.mpr c6
  have c6b1 := bne_eq_false_iff_eq.mpr c6
  clear c6
  by_cases c7 : (wrap64 (6 - a3)) = 0
  ·rw [if_pos c7] at H
   exact absurd H (by simp)
  ·rw [if_neg c7] at H
   have c7b0 := beq_eq_false_iff_ne.mpr c7
   have c7b1 := bne_iff_ne.mpr c7
   simp only [Option.some.injEq, Prod.mk.injEq] at H
   obtain ⟨rfl, rfl, rfl⟩ := H
   go_enter Tryd.func33, Tryd.ntmps33
   go_wp2_with (first | ((with_reducible refine gate_dst (N := 8) rfl ?_); refine box_event ?hg (N := 8) ?hd (cs := #[.int .i64 0, .int .i64 0, .int .u64 0]) (t := 24) ?hr ?_; (case hd => rfl); (case hg => rfl); (case hr => first | (go_simp; done) | (go_simp; rfl)); intro gb716 hg w8 hbox hb; refine nx4_ (below_step (bU_ HB.out) hb) (hbox) ((by rw [hg]; exact (below_size (bU_ HB.out)) : w.heap.size ≤ gb716)) ((by rw [hg]; exact (below_size (bU_ HB.out)) : w.heap.size ≤ gb716)) ?_; clear HB; intro HB BK716 GW716 GE716; clear hb hbox hg) | ((with_reducible refine gate_callee (f := 65) rfl ?_); refine gl_ (some 16) Tryd.func65 #[.int .i64 (wrap64 (Int.tmod a0 4)), .int .u64 a2] ?_; (with_reducible refine (field_Reduce.calls (wrap64 (Int.tmod a0 4)) a2 t717 _ ?side1 A5.out).mono ?_); (case side1 => repeat (first | with_reducible exact HG.out | with_reducible exact (Fld.below HG.out HB.out) | exact (Fld.below HG.out (by repeat (first | (with_reducible first | exact HB.out | apply below_alloc | apply pw_below_drewN | apply below_drew1 | refine below_set ?_ GE716.out) | exact HB.out))) | (with_reducible refine Fld.alloc ?_ _) | (with_reducible refine Fld.drewN ?_ _) | (with_reducible refine Fld.drew ?_))); rintro e w9 ⟨rfl, hb⟩; refine ⟨_, rfl, ?_⟩; refine nx2_ (blk_below (g := gb716) (o := .cells #[.int .i64 0, .int .i64 0, .int .u64 0] 24 (0, 0)) (by (with_reducible repeat (first | refine blk_drewN ?_ _ | refine blk_drew ?_ | refine blk_alloc ?_ _)); exact BK716.out) hb) (below_step (by repeat (first | (with_reducible first | exact HB.out | apply below_alloc | apply pw_below_drewN | apply below_drew1 | refine below_set ?_ GE716.out) | exact HB.out)) hb) ?_; clear BK716 HB; intro BK716 HB; clear hb; have hcz10_0 : w9.cell? ⟨gb716, 0, none⟩ = some (.int .i64 0) := (blk_cell BK716.out 0).trans rfl; have hcz10_1 : w9.cell? ⟨gb716, 1, none⟩ = some (.int .i64 0) := (blk_cell BK716.out 1).trans rfl; have hcz10_2 : w9.cell? ⟨gb716, 2, none⟩ = some (.int .u64 0) := (blk_cell BK716.out 2).trans rfl; have hfz10_0 := blk_frozen BK716.out 0; have hfz10_1 := blk_frozen BK716.out 1; have hfz10_2 := blk_frozen BK716.out 2))
   refine bodyPost_ret (results_cell_row rfl _ _ gb716 24 #[.int .i64 (wrap64 (Int.tmod a0 4)), .int .i64 (wrap64 (a3 + (Int.tmod (wrap64 (a1)) (wrap64 (6 - a3))))), .int .u64 1] (0, 0) _ rfl (by (with_reducible repeat (first | refine blk_drewN ?_ _ | refine blk_drew ?_ | refine blk_alloc ?_ _)); refine blk_put (cs := #[.int .i64 (wrap64 (Int.tmod a0 4)), .int .i64 (wrap64 (a3 + (Int.tmod (wrap64 (a1)) (wrap64 (6 - a3))))), .int .u64 0]) ?_ 2 _ rfl; (with_reducible repeat (first | refine blk_drewN ?_ _ | refine blk_drew ?_ | refine blk_alloc ?_ _)); refine blk_put (cs := #[.int .i64 (wrap64 (Int.tmod a0 4)), .int .i64 0, .int .u64 0]) ?_ 1 _ rfl; (with_reducible repeat (first | refine blk_drewN ?_ _ | refine blk_drew ?_ | refine blk_alloc ?_ _)); refine blk_put (cs := #[.int .i64 0, .int .i64 0, .int .u64 0]) ?_ 0 _ rfl; (with_reducible repeat (first | refine blk_drewN ?_ _ | refine blk_drew ?_ | refine blk_alloc ?_ _)); exact BK716.out) Tryd.underlying24 rfl (by kernel_rfl)) rfl ?_
   exact ⟨by first | rfl | (simp [errW_none, errW_some] <;> rfl) | (simp [*, errW_none, errW_some] <;> rfl), by repeat (first | (with_reducible first | exact HB.out | apply below_alloc | apply pw_below_drewN | apply below_drew1 | refine below_set ?_ GE716.out) | exact HB.out)⟩
 ·rw [if_neg c6] at H
  have c6b0 := beq_eq_false_iff_ne.mpr c6
  have c6b1 := bne_iff_ne.mpr c6
  by_cases c11 : (wrap64 (6 - a3)) = 0
  ·rw [if_pos c11] at H
   exact absurd H (by simp)
  ·rw [if_neg c11] at H
   have c11b0 := beq_eq_false_iff_ne.mpr c11
   have c11b1 := bne_iff_ne.mpr c11
   simp only [Option.some.injEq, Prod.mk.injEq] at H
   obtain ⟨rfl, rfl, rfl⟩ := H
   go_enter Tryd.func33, Tryd.ntmps33
   go_wp2_with (first | ((with_reducible refine gate_dst (N := 8) rfl ?_); refine box_event ?hg (N := 8) ?hd (cs := #[.int .i64 0, .int .i64 0, .int .u64 0]) (t := 24) ?hr ?_; (case hd => rfl); (case hg => rfl); (case hr => first | (go_simp; done) | (go_simp; rfl)); intro gb716 hg w12 hbox hb; refine nx4_ (below_step (bU_ HB.out) hb) (hbox) ((by rw [hg]; exact (below_size (bU_ HB.out)) : w.heap.size ≤ gb716)) ((by rw [hg]; exact (below_size (bU_ HB.out)) : w.heap.size ≤ gb716)) ?_; clear HB; intro HB BK716 GW716 GE716; clear hb hbox hg) | ((with_reducible refine gate_callee (f := 65) rfl ?_); refine gl_ (some 16) Tryd.func65 #[.int .i64 (wrap64 (Int.tmod a0 4)), .int .u64 a2] ?_; (with_reducible refine (field_Reduce.calls (wrap64 (Int.tmod a0 4)) a2 t717 _ ?side1 A5.out).mono ?_); (case side1 => repeat (first | with_reducible exact HG.out | with_reducible exact (Fld.below HG.out HB.out) | exact (Fld.below HG.out (by repeat (first | (with_reducible first | exact HB.out | apply below_alloc | apply pw_below_drewN | apply below_drew1 | refine below_set ?_ GE716.out) | exact HB.out))) | (with_reducible refine Fld.alloc ?_ _) | (with_reducible refine Fld.drewN ?_ _) | (with_reducible refine Fld.drew ?_))); rintro e w13 ⟨rfl, hb⟩; refine ⟨_, rfl, ?_⟩; refine nx2_ (blk_below (g := gb716) (o := .cells #[.int .i64 0, .int .i64 0, .int .u64 0] 24 (0, 0)) (by (with_reducible repeat (first | refine blk_drewN ?_ _ | refine blk_drew ?_ | refine blk_alloc ?_ _)); exact BK716.out) hb) (below_step (by repeat (first | (with_reducible first | exact HB.out | apply below_alloc | apply pw_below_drewN | apply below_drew1 | refine below_set ?_ GE716.out) | exact HB.out)) hb) ?_; clear BK716 HB; intro BK716 HB; clear hb; have hcz14_0 : w13.cell? ⟨gb716, 0, none⟩ = some (.int .i64 0) := (blk_cell BK716.out 0).trans rfl; have hcz14_1 : w13.cell? ⟨gb716, 1, none⟩ = some (.int .i64 0) := (blk_cell BK716.out 1).trans rfl; have hcz14_2 : w13.cell? ⟨gb716, 2, none⟩ = some (.int .u64 0) := (blk_cell BK716.out 2).trans rfl; have hfz14_0 := blk_frozen BK716.out 0; have hfz14_1 := blk_frozen BK716.out 1; have hfz14_2 := blk_frozen BK716.out 2))
   refine bodyPost_ret (results_cell_row rfl _ _ gb716 24 #[.int .i64 (wrap64 (Int.tmod a0 4)), .int .i64 (wrap64 (a3 + (Int.tmod (wrap64 (a1)) (wrap64 (6 - a3))))), .int .u64 t717] (0, 0) _ rfl (by (with_reducible repeat (first | refine blk_drewN ?_ _ | refine blk_drew ?_ | refine blk_alloc ?_ _)); refine blk_put (cs := #[.int .i64 (wrap64 (Int.tmod a0 4)), .int .i64 (wrap64 (a3 + (Int.tmod (wrap64 (a1)) (wrap64 (6 - a3))))), .int .u64 0]) ?_ 2 _ rfl; (with_reducible repeat (first | refine blk_drewN ?_ _ | refine blk_drew ?_ | refine blk_alloc ?_ _)); refine blk_put (cs := #[.int .i64 (wrap64 (Int.tmod a0 4)), .int .i64 0, .int .u64 0]) ?_ 1 _ rfl; (with_reducible repeat (first | refine blk_drewN ?_ _ | refine blk_drew ?_ | refine blk_alloc ?_ _)); refine blk_put (cs := #[.int .i64 0, .int .i64 0, .int .u64 0]) ?_ 0 _ rfl; (with_reducible repeat (first | refine blk_drewN ?_ _ | refine blk_drew ?_ | refine blk_alloc ?_ _)); exact BK716.out) Tryd.underlying24 rfl (by kernel_rfl)) rfl ?_
   exact ⟨by first | rfl | (simp [errW_none, errW_some] <;> rfl) | (simp [*, errW_none, errW_some] <;> rfl), by repeat (first | (with_reducible first | exact HB.out | apply below_alloc | apply pw_below_drewN | apply below_drew1 | refine below_set ?_ GE716.out) | exact HB.out)⟩

/-! ### attestorlaw05_word: function 35 -/
def attestorlaw05_word.l0 : Nat → List Int → List Int → List Int → Int → Int → Int → Int → Option (List Int)
 | 0, _, _, _, _, _, _, _ => none
 | k + 1, x1, x5, x6, x7, x719000, x719001, x719002 => if x7 < (x5.length : Int) then (if 0 ≤ x7 then ((poly_Eval.f k x719000 x1 (rd x5 x7)).bind fun t723 => (if x6.length < 17592186044416 then (attestorlaw05_word.l0 k x1 x5 (x6 ++ [t723]) (wrap64 (x7 + 1)) x719000 x719001 x719002) else (none))) else (none)) else (some x6)
def attestorlaw05_word.f (k : Nat) (a0_0 : Int) (a0_1 : Int) (a0_2 : Int) (l1 : List Int) : Option (List Int) := (code_Points.f k a0_0 a0_1 a0_2).bind fun t719 => (attestorlaw05_word.l0 k l1 t719 ([] : List Int) 0 a0_0 a0_1 a0_2)
def attestorlaw05_word.T6 : Bool × List (List Nat × List Nat) := (true, [([], []), ([], []), ([1], [1]), ([], []), ([], []), ([], []), ([4, 5], [4, 5]), ([6], [6]), ([2, 3, 7], [2, 3, 7]), ([8], [8]), ([0, 9, 8], [0, 9]), ([10, 10, 0, 1, 2, 3, 4, 5, 6, 7, 8, 9, 10], [0, 10])])
def attestorlaw05_word.B6 : List Nat := [0, 0, 2, 0, 0, 0, 48, 112, 254, 510, 1023, 2047]
theorem attestorlaw05_word.tab6 : rtab .any (opsOf Tryd.f35 6) = attestorlaw05_word.T6 := by kernel_rfl
theorem attestorlaw05_word.bits6 : waitsOk attestorlaw05_word.T6.2 attestorlaw05_word.B6 = true := by kernel_rfl
set_option maxHeartbeats 8000000 in
set_option maxRecDepth 100000 in
theorem attestorlaw05_word.calls (k : Nat) (a0_0 : Int) (a0_1 : Int) (a0_2 : Int) (A1 : Option Addr) (c1 : Nat) (l1 : List Int) (r : List Int) (w : World) (hG : Fld w) (hr1 : Kd.C (Kd.int .u64) w A1 l1.length l1) (hc1 : l1.length ≤ c1) (h : attestorlaw05_word.f k a0_0 a0_1 a0_2 l1 = some r) :
  Calls Tryd.prog 35 #[.agg #[.int .i64 a0_0, .int .i64 a0_1, .int .u64 a0_2], .slice A1 l1.length c1] w fun e w' => ∃ v0_ : Value, e = .returned (v0_) ∧ Kd.R (Kd.int .u64) 22 w' w.heap.size (fun _ => True) v0_ r ∧ Below w.heap.size w w' := by
 have hu24 := Tryd.underlying24
 have HG := ak hG
 clear hG
 have HR1 := ak hr1
 have HC1 := ak hc1
 clear hr1 hc1
 have HB := ak (Below.refl w.heap.size w)
 have H : ((code_Points.f k a0_0 a0_1 a0_2).bind fun t719 => (attestorlaw05_word.l0 k l1 t719 ([] : List Int) 0 a0_0 a0_1 a0_2)) = some r := h
 clear h
 revert H
 refine bd_ fun t719 A3 H => ?_
 have H' := ak H
 clear H
 go_enter Tryd.func35, Tryd.ntmps35
 go_wp2_with (first | ((with_reducible refine gate_dst (N := 2) rfl ?_); refine box_event ?hg (N := 2) ?hd (cs := #[.int .i64 a0_0, .int .i64 a0_1, .int .u64 a0_2]) (t := 24) ?hr ?_; (case hd => rfl); (case hg => rfl); (case hr => first | (go_simp; done) | (go_simp; rfl)); intro gb718 hg w4 hbox hb; refine nx4_ (below_step (bU_ HB.out) hb) (hbox) ((by rw [hg]; exact (below_size (bU_ HB.out)) : w.heap.size ≤ gb718)) ((by rw [hg]; exact (below_size (bU_ HB.out)) : w.heap.size ≤ gb718)) ?_; clear HB; intro HB BK718 GW718 GE718; clear hb hbox hg; have hcz5_0 : w4.cell? ⟨gb718, 0, none⟩ = some (.int .i64 a0_0) := (blk_cell BK718.out 0).trans rfl; have hcz5_1 : w4.cell? ⟨gb718, 1, none⟩ = some (.int .i64 a0_1) := (blk_cell BK718.out 1).trans rfl; have hcz5_2 : w4.cell? ⟨gb718, 2, none⟩ = some (.int .u64 a0_2) := (blk_cell BK718.out 2).trans rfl; have hfz5_0 := blk_frozen BK718.out 0; have hfz5_1 := blk_frozen BK718.out 1; have hfz5_2 := blk_frozen BK718.out 2) | ((with_reducible refine gate_callee (f := 21) rfl ?_); refine gl_ (some 9) Tryd.func21 #[.agg #[.int .i64 a0_0, .int .i64 a0_1, .int .u64 a0_2]] ?_; (with_reducible refine (code_Points.calls k a0_0 a0_1 a0_2 t719 _ ?side1 A3.out).mono ?_); (case side1 => repeat (first | with_reducible exact HG.out | with_reducible exact (Fld.below HG.out HB.out) | exact (Fld.below HG.out (by repeat (first | (with_reducible first | exact HB.out | apply below_alloc | apply pw_below_drewN | apply below_drew1 | refine below_set ?_ GE718.out) | exact HB.out))) | (with_reducible refine Fld.alloc ?_ _) | (with_reducible refine Fld.drewN ?_ _) | (with_reducible refine Fld.drew ?_))); rintro e w6 ⟨v720, rfl, ho0, hb⟩; refine ⟨_, rfl, ?_⟩; refine nx3_ (Kd.R_lower ho0 (below_size (by repeat (first | (with_reducible first | exact HB.out | apply below_alloc | apply pw_below_drewN | apply below_drew1 | refine below_set ?_ GE718.out) | exact HB.out)))) (blk_below (g := gb718) (o := .cells #[.int .i64 a0_0, .int .i64 a0_1, .int .u64 a0_2] 24 (0, 0)) (by (with_reducible repeat (first | refine blk_drewN ?_ _ | refine blk_drew ?_ | refine blk_alloc ?_ _)); exact BK718.out) hb) (below_step (by repeat (first | (with_reducible first | exact HB.out | apply below_alloc | apply pw_below_drewN | apply below_drew1 | refine below_set ?_ GE718.out) | exact HB.out)) hb) ?_; clear BK718 HB; intro HO721 BK718 HB; clear hb ho0))
 go_loopg [6, 7] k (fun kq v6 v7 w' => ∃ (x6_1 : List Int) (x7_1 : Int), v7 = .int .i64 x7_1 ∧ Aside0 (attestorlaw05_word.l0 kq l1 t719 x6_1 x7_1 a0_0 a0_1 a0_2 = some r) ∧ Aside0 (kq ≤ k) ∧ Aside0 (Kd.R (Kd.int .u64) 22 w' w.heap.size (fun k_ => some k_ ≠ (v6 : Value).ownBlock) v720 t719) ∧ Aside0 (Kd.R (Kd.int .u64) 22 w' w.heap.size (fun k_ => some k_ ≠ (v720 : Value).ownBlock) v6 x6_1) ∧ Aside0 (w'.heap[gb718]? = some (.cells #[.int .i64 a0_0, .int .i64 a0_1, .int .u64 a0_2] 24 (0, 0))) ∧ Aside0 (Below w.heap.size w w'))
 case atStart => exact ⟨(([] : List Int)), (0), gb_, H', ⟨Nat.le_refl _⟩, ⟨Kd.R_mono (rU_ HO721.out) (fun _ hk => (by simp [Value.ownBlock]))⟩, ⟨by first | exact Kd.R_nil _ _ _ _ _ | exact Kd.N_nil _ _ _ _ _ | exact Kd.V_nil _ _ _ _ _ | exact Kd.Q_nil _ _ _ _ _ | exact Kd.S_nil _ _ _ _ _⟩, ⟨by (with_reducible repeat (first | refine blk_drewN ?_ _ | refine blk_drew ?_ | refine blk_alloc ?_ _)); exact BK718.out⟩, ⟨by repeat (first | (with_reducible first | exact HB.out | apply below_alloc | apply pw_below_drewN | apply below_drew1 | refine below_set ?_ GE718.out) | exact HB.out)⟩⟩
 case round =>
  clear H'
  (try clear c1); (try clear c2); (try clear p2); (try clear c3); (try clear hcz5_0); (try clear hcz5_1); (try clear hcz5_2); (try clear hfz5_0); (try clear hfz5_1); (try clear hfz5_2)
  obtain ⟨x6_1, x7_1, rfl, HA, HK1, HO_5, HO_6, BK718, HB⟩ := hrel
  cases gk with
  | zero => exact absurd HA.out (by simp [attestorlaw05_word.l0])
  | succ k1 =>
   have H := HA.out
   clear HA
   simp only [attestorlaw05_word.l0] at H
   by_cases c7 : x7_1 < (t719.length : Int)
   ·rw [if_pos c7] at H
    have c7b0 := decide_eq_true c7
    clear c7
    obtain ⟨c8, H⟩ : (0 ≤ x7_1) ∧ _ := it_ H
    have c8b0 := decide_eq_true c8
    clear c8
    revert H
    refine bd_ fun t723 A9 H => ?_
    obtain ⟨c10, H⟩ : (x6_1.length < 17592186044416) ∧ _ := it_ H
    have LMc10 := ak c10
    clear c10
    obtain ⟨y724, hy724⟩ : ∃ y_ : List Int, y_ = (x6_1 ++ [t723]) := ⟨_, rfl⟩
    first | rw [Option.bind_some, ← hy724] at H | rw [← hy724] at H
    have Ny724 := ak hy724
    clear hy724
    have H' := ak H
    clear H
    obtain ⟨Ao11, co11, eo11⟩ := Kd.R_slice HO_5.out
    subst eo11
    try go_wp2
    refine nx4_ (Kd.R_drew HO_5.out) (Kd.R_drew HO_6.out) (blk_drew BK718.out) (below_drew1 HB.out) ?_
    clear HO_5 HO_6 BK718 HB
    intro HO_5 HO_6 BK718 HB
    have p722 : 0 ≤ (x7_1 : Int) := od_
    have q722 : x7_1 < (t719.length : Int) := od_
    obtain ⟨ad722, e722, hx722_0⟩ := Kd.at_int (Kd.R_reads' HO_5.out).2.2 x7_1 p722 q722
    cases e722
    replace p722 := eq_true p722
    replace q722 := eq_true q722
    refine start_ (n := 12) (S := fun w' => w'.cell? ⟨gb718, 0, none⟩ = some (.int .i64 a0_0) ∧ w'.cell? ⟨gb718, 1, none⟩ = some (.int .i64 a0_1) ∧ w'.cell? ⟨gb718, 2, none⟩ = some (.int .u64 a0_2) ∧ w'.cell? (ad722.add (x7_1).toNat) = some (.int .u64 (rd t719 x7_1))) (ds := [9, 10]) (bv 12 0) (by kernel_rfl) rfl rfl ⟨(blk_cell BK718.out 0).trans rfl, (blk_cell BK718.out 1).trans rfl, (blk_cell BK718.out 2).trans rfl, hx722_0⟩ (fun hHeld => ?_); refine with_tabW attestorlaw05_word.tab6 attestorlaw05_word.bits6 (fun HT_ HW_ => ?_)
    generalize wr.drew = w12 at HO_5 HO_6 BK718 HB hx722_0 hHeld ⊢
    refine pr_ (i := 0) (N := some 16) (v := ?_) (a' := ?_) (bv 12 1) HT_.out ?_ ?_ ?_; rotate_left 2; (intro w'; go_simp; with_reducible rfl); (simp only [Act.put, s1_, s2_, s3_, i64_w, i32_w]; rfl)
    refine pr_ (i := 1) (N := some 17) (v := ?_) (a' := ?_) (bv 12 3) HT_.out ?_ ?_ ?_; rotate_left 2; (intro w'; go_simp; with_reducible rfl); (simp only [Act.put, s1_, s2_, s3_, i64_w, i32_w]; rfl)
    refine pr_ (i := 3) (N := some 19) (v := ?_) (a' := ?_) (bv 12 11) HT_.out ?_ ?_ ?_; rotate_left 2; (intro w'; go_simp; with_reducible rfl); (simp only [Act.put, s1_, s2_, s3_, i64_w, i32_w]; rfl)
    refine pr_ (i := 4) (N := some 20) (v := ?_) (a' := ?_) (bv 12 27) HT_.out ?_ ?_ ?_; rotate_left 2; (intro w'; go_simp; with_reducible rfl); (simp only [Act.put, s1_, s2_, s3_, i64_w, i32_w]; rfl)
    refine pr_ (i := 5) (N := some 21) (v := ?_) (a' := ?_) (bv 12 59) HT_.out ?_ ?_ ?_; rotate_left 2; (intro w'; go_simp; with_reducible rfl); (simp only [Act.put, s1_, s2_, s3_, i64_w, i32_w]; rfl)
    refine pr_ (i := 6) (N := some 22) (v := ?_) (a' := ?_) (bv 12 123) HT_.out ?_ ?_ ?_; rotate_left 2; (intro w'; go_simp; with_reducible rfl); (simp only [Act.put, s1_, s2_, s3_, i64_w, i32_w]; rfl)
    refine take_ (i := 2) (N := some 18) (v := ?_) (a' := ?_) (bv 12 127) rfl rfl (take_ofW HT_.out HW_.out (by kernel_rfl)) (fun _ _ _ h => h) (Or.inl ⟨by rfl, ?_⟩) hHeld ?_ ?_
    rotate_left
    ·rintro w' ⟨s0, s1, s2, s3⟩
     go_simp
     with_reducible rfl
    rotate_left
    ·simp only [Act.put, s1_, s2_, s3_, i64_w, i32_w]
     rfl
    refine take_ (i := 7) (N := some 23) (v := ?_) (a' := ?_) (bv 12 255) rfl rfl (take_ofW HT_.out HW_.out (by kernel_rfl)) (fun _ _ _ h => h) (Or.inl ⟨by rfl, ?_⟩) hHeld ?_ ?_
    rotate_left
    ·rintro w' ⟨s0, s1, s2, s3⟩
     go_simp
     with_reducible rfl
    rotate_left
    ·simp only [Act.put, s1_, s2_, s3_, i64_w, i32_w]
     rfl
    refine one_ (i := 8) (N := some 24) (bv 12 511) rfl rfl (one_of HT_.out (by kernel_rfl)) (by decide) (fun K hK => ?_)
    refine goes_ Tryd.func46 (by kernel_rfl) rfl #[.int .i64 a0_0, .slice A1 l1.length c1, .int .u64 (rd t719 x7_1)] (by rfl) rfl rfl ga_ ?_
    with_reducible refine (poly_Eval.calls k1 a0_0 _ _ l1 (rd t719 x7_1) t723 _ ?side1 ?side2 ?side3 A9.out).mono ?_
    (case side1 => repeat (first | with_reducible exact HG.out | with_reducible exact (Fld.below HG.out HB.out) | exact (Fld.below HG.out (by repeat (first | (with_reducible first | exact HB.out | apply below_alloc | apply pw_below_drewN | apply below_drew1 | refine below_set ?_ GE718.out) | exact HB.out))) | (with_reducible refine Fld.alloc ?_ _) | (with_reducible refine Fld.drewN ?_ _) | (with_reducible refine Fld.drew ?_)))
    (case side2 => exact cU_ (Kd.C_below HR1.out HB.out))
    (case side3 => exact HC1.out)
    rintro e w13 ⟨rfl, hb⟩
    have HS3_ := (hb.cell (World.block_lt_of_cell? _ _ (hHeld.2.2.2))).trans (hHeld.2.2.2)
    refine ⟨_, rfl, ?_⟩
    refine nx4_ (Kd.R_below (rU_ HO_5.out) hb) (Kd.R_below (rU_ HO_6.out) hb) (blk_below (g := gb718) (o := .cells #[.int .i64 a0_0, .int .i64 a0_1, .int .u64 a0_2] 24 (0, 0)) (by (with_reducible repeat (first | refine blk_drewN ?_ _ | refine blk_drew ?_ | refine blk_alloc ?_ _)); exact BK718.out) hb) (below_step (by repeat (first | (with_reducible first | exact HB.out | apply below_alloc | apply pw_below_drewN | apply below_drew1 | refine below_set ?_ GE718.out) | exact HB.out)) hb) ?_
    clear HO_5 HO_6 BK718 HB
    intro HO_5 HO_6 BK718 HB
    (try clear hb)
    (try clear hb2)
    (try clear hk)
    (try clear hi)
    refine hK.out _ _ ⟨(blk_cell BK718.out 0).trans rfl, (blk_cell BK718.out 1).trans rfl, (blk_cell BK718.out 2).trans rfl, HS3_⟩ (fun hHeld => ?_)
    clear hK K
    refine norm_ (a' := ?_) ?_ ?_
    rotate_left
    ·show Act.put _ (some 24) _ = _
     simp only [Act.put, s1_, s2_, s3_, i64_w, i32_w]
     rfl
    refine last_ (i := 9) (N := some 25) #[true, true, true, true, true, true, true, true, true, true, false, false] rfl rfl (one_of HT_.out (by kernel_rfl)) (by decide) (fun K hK => ?_)
    refine value_ (w1 := ?_) (v := ?_) (by rfl) rfl ?_ ?_
    rotate_left 2
    ·go_simp
     constructor
     ·rfl
     ·rfl
    refine hK.out _ _ ?_
    clear hK K
    refine norm_ (a' := ?_) ?_ ?_
    rotate_left
    ·show Act.put _ (some 25) _ = _
     simp only [Act.put, s1_, s2_, s3_, i64_w, i32_w]
     rfl
    refine last_ (i := 10) (N := some 26) #[true, true, true, true, true, true, true, true, true, true, true, false] rfl rfl (one_of HT_.out (by kernel_rfl)) (by decide) (fun K hK => ?_)
    refine Kd.R_append_step (Kd.int .u64) (w0 := w) w.heap.size (by rfl) (.tmp 16) (.tmp 25) 33 22 (.int .u64 0) 8 rfl Tryd.underlying33 info22 rfl (by decide) (by omega) u6 x6_1 t723 [.int .u64 t723] (fun k_ => some k_ ≠ (.slice (some ad722) t719.length co11 : Value).ownBlock) (fun _ => False) rfl rfl ?aP (fun _ hk => hk.elim) ?aF ?aO ?aB ?aS ?aL ?_
    (case aP => exact rfl)
    (case aB => exact (by repeat (first | (with_reducible first | exact HB.out | apply below_alloc | apply pw_below_drewN | apply below_drew1 | refine below_set ?_ GE718.out) | exact HB.out)))
    (case aF => exact (fun k_ hk => Kd.fresh' (Kd.R_lt (rU_ HO_5.out)) k_ hk))
    (case aO => exact (rU_ HO_6.out))
    (case aS => exact (below_size (by repeat (first | (with_reducible first | exact HB.out | apply below_alloc | apply pw_below_drewN | apply below_drew1 | refine below_set ?_ GE718.out) | exact HB.out))))
    (case aL => have := LMc10.out; omega)
    intro v725 w14 ho hb hg hat
    rw [← Ny724.out] at ho
    refine nx4_ (Kd.R_after (ok := (fun _ => True)) (Kd.R_mono (rU_ HO_5.out) (fun _ hk => ⟨trivial, hk⟩)) hg hat) (blk_grown (g := gb718) (o := .cells #[.int .i64 a0_0, .int .i64 a0_1, .int .u64 a0_2] 24 (0, 0)) (by (with_reducible repeat (first | refine blk_drewN ?_ _ | refine blk_drew ?_ | refine blk_alloc ?_ _)); exact BK718.out) hg (Kd.R_ne HO_6.out BK718.out (by decide))) (hb) (ho) ?_
    clear HO_5 BK718 HB HO_6
    intro HO_5 BK718 HB HO726
    clear ho hb hg hat
    refine hK.out _ _ ?_
    clear hK K
    refine norm_ (a' := ?_) ?_ ?_
    rotate_left
    ·show Act.put _ (some 26) _ = _
     simp only [Act.put, s1_, s2_, s3_, i64_w, i32_w]
     rfl
    refine pr_ (i := 11) (N := some 6) (v := ?_) (a' := ?_) (bv 12 4095) HT_.out ?_ ?_ ?_; rotate_left 2; (intro w'; go_simp; with_reducible rfl); (simp only [Act.put, s1_, s2_, s3_, i64_w, i32_w]; rfl)
    refine done_ (done_of HT_.out (by kernel_rfl)) ?_
    try go_wp2
    go_roundg k1
    case measure => have := HK1.out; omega
    case rel => exact ⟨(y724), (wrap64 (x7_1 + 1)), gb_, H', ⟨by have := HK1.out; omega⟩, ⟨Kd.R_mono (rU_ HO_5.out) (fun _ hk => hk.2)⟩, ⟨rU_ HO726.out⟩, ⟨by (with_reducible repeat (first | refine blk_drewN ?_ _ | refine blk_drew ?_ | refine blk_alloc ?_ _)); exact BK718.out⟩, ⟨by repeat (first | (with_reducible first | exact HB.out | apply below_alloc | apply pw_below_drewN | apply below_drew1 | refine below_set ?_ GE718.out) | exact HB.out)⟩⟩
   ·rw [if_neg c7] at H
    have c7b0 := decide_eq_false c7
    clear c7
    obtain rfl := Option.some.inj H
    obtain ⟨Ao15, co15, eo15⟩ := Kd.R_slice HO_5.out
    subst eo15
    go_wp2
    go_ret
    exact ⟨_, by first | rfl | (simp [errW_none, errW_some] <;> rfl) | (simp [*, errW_none, errW_some] <;> rfl), Kd.R_mono (rU_ HO_6.out) (fun _ hk => trivial), by repeat (first | (with_reducible first | exact HB.out | apply below_alloc | apply pw_below_drewN | apply below_drew1 | refine below_set ?_ GE718.out) | exact HB.out)⟩

end Go.Proofs.YtedapdagagkajaaDoor.Q

import Derived.Test.YthinfmfjpaikiaaDoorQ0
import Derived.Test.YthinfmfjpaikiaaDoorQ2
namespace Go.Proofs.YthinfmfjpaikiaaDoor.Q
open Go.RowKit Go.Proofs.YthinfmfjpaikiaaDoorW.PrintWords Go.Proofs.YthinfmfjpaikiaaDoorW.PrintLast Go.Proofs.YthinfmfjpaikiaaDoorW.PrintMore
attribute [local go_sem] max2_int min2_int max_two min_two max_three min_three max_four min_four   -- for this text's walks alone
set_option linter.unusedVariables false
set_option linter.unusedSimpArgs false

def attestorlaw09_domain.f (a0 : Int) (a1 : Int) (a2 : Int) : Option (Int × Int × Int) := (field_Reduce.f (wrap64 (Int.tmod a0 4)) a2).bind fun t332 => (if t332 = 0 then (if (wrap64 (Int.tmod a0 4)) = 0 then (if (5 - 2) = 0 then (none) else (some (wrap64 (Int.tmod a0 4), wrap64 (3 + (Int.tmod (wrap64 (a1)) (5 - 2))), 1))) else (if (7 - 2) = 0 then (none) else (some (wrap64 (Int.tmod a0 4), wrap64 (3 + (Int.tmod (wrap64 (a1)) (7 - 2))), 1)))) else (if (wrap64 (Int.tmod a0 4)) = 0 then (if (5 - 2) = 0 then (none) else (some (wrap64 (Int.tmod a0 4), wrap64 (3 + (Int.tmod (wrap64 (a1)) (5 - 2))), t332))) else (if (7 - 2) = 0 then (none) else (some (wrap64 (Int.tmod a0 4), wrap64 (3 + (Int.tmod (wrap64 (a1)) (7 - 2))), t332)))))
set_option maxHeartbeats 8000000 in
set_option maxRecDepth 100000 in
theorem attestorlaw09_domain.calls (a0 : Int) (a1 : Int) (a2 : Int) (r1 : Int) (r2 : Int) (r3 : Int) (w : World) (hG : Fld w) (h : attestorlaw09_domain.f a0 a1 a2 = some (r1, r2, r3)) :
  Calls Tryd.prog 17 #[.int .u8 a0, .int .u8 a1, .int .u64 a2] w fun e w' => e = .returned (.agg #[.int .i64 r1, .int .i64 r2, .int .u64 r3]) ∧ Below w.heap.size w w' := by
 have hu24 := Tryd.underlying24
 have HG := ak hG
 clear hG
 have HB := ak (Below.refl w.heap.size w)
 have H := h
 clear h
 unfold attestorlaw09_domain.f at H
 revert H
 refine bd_ fun t332 A4 H => ?_
 by_cases c5 : t332 = 0
 ·rw [if_pos c5] at H
  have c5b0 := beq_iff_eq.mpr c5
  have c5b1 := bne_eq_false_iff_eq.mpr c5
  clear c5
  by_cases c6 : (wrap64 (Int.tmod a0 4)) = 0
  ·rw [if_pos c6] at H
   have c6b0 := beq_iff_eq.mpr c6
   have c6b1 := bne_eq_false_iff_eq.mpr c6
   clear c6
   by_cases c7 : (5 - 2) = 0
   ·rw [if_pos c7] at H
    exact absurd H (by simp)
   rw [if_neg c7] at H
   have c7b0 := beq_eq_false_iff_ne.mpr c7
   have c7b1 := bne_iff_ne.mpr c7
   simp only [Option.some.injEq, Prod.mk.injEq] at H
   obtain ⟨rfl, rfl, rfl⟩ := H
   go_enter Tryd.func17, Tryd.ntmps17
   go_wp2_with (first | ((with_reducible refine gate_dst (N := 6) rfl ?_); refine bx_ 6 24 #[.int .i64 0, .int .i64 0, .int .u64 0] ?_; intro gb331 hg w8 hbox hb; refine nx4_ (below_step (bU_ HB.out) hb) (hbox) ((hs_ hg (below_size (bU_ HB.out)))) ((hs_ hg (below_size (bU_ HB.out)))) ?_; clear HB; intro HB BK331 GW331 GE331; clear hb hbox hg) | ((with_reducible refine gate_callee (f := 22) rfl ?_); refine gl_ (some 15) Tryd.func22 #[.int .i64 (wrap64 (Int.tmod a0 4)), .int .u64 a2] ?_; (with_reducible refine (field_Reduce.calls (wrap64 (Int.tmod a0 4)) a2 t332 _ ?side1 A4.out).mono ?_); (case side1 => repeat (first | with_reducible exact HG.out | with_reducible exact (Fld.below HG.out HB.out) | exact (Fld.below HG.out sU_) | (with_reducible refine Fld.alloc ?_ _) | (with_reducible refine Fld.drewN ?_ _) | (with_reducible refine Fld.drew ?_))); rintro e w9 ⟨rfl, hb⟩; refine ⟨_, rfl, ?_⟩; refine nx2_ (blk_below (kU_ BK331.out) hb) (below_step sU_ hb) ?_; clear BK331 HB; intro BK331 HB; clear hb; have hcz10_0 := bc0_ BK331.out; have hcz10_1 := bc1_ BK331.out; have hcz10_2 := bc2_ BK331.out; have hfz10_0 := blk_frozen BK331.out 0; have hfz10_1 := blk_frozen BK331.out 1; have hfz10_2 := blk_frozen BK331.out 2))
   refine bodyPost_ret (results_cell_row rfl _ _ gb331 24 #[.int .i64 (wrap64 (Int.tmod a0 4)), .int .i64 (wrap64 (3 + (Int.tmod (wrap64 (a1)) (5 - 2)))), .int .u64 1] (0, 0) _ rfl (by (with_reducible repeat (first | refine blk_drewN ?_ _ | refine blk_drew ?_ | refine blk_alloc ?_ _)); refine blk_put (cs := #[.int .i64 (wrap64 (Int.tmod a0 4)), .int .i64 (wrap64 (3 + (Int.tmod (wrap64 (a1)) (5 - 2)))), .int .u64 0]) ?_ 2 _ rfl; (with_reducible repeat (first | refine blk_drewN ?_ _ | refine blk_drew ?_ | refine blk_alloc ?_ _)); refine blk_put (cs := #[.int .i64 (wrap64 (Int.tmod a0 4)), .int .i64 0, .int .u64 0]) ?_ 1 _ rfl; (with_reducible repeat (first | refine blk_drewN ?_ _ | refine blk_drew ?_ | refine blk_alloc ?_ _)); refine blk_put (cs := #[.int .i64 0, .int .i64 0, .int .u64 0]) ?_ 0 _ rfl; (with_reducible repeat (first | refine blk_drewN ?_ _ | refine blk_drew ?_ | refine blk_alloc ?_ _)); exact BK331.out) Tryd.underlying24 rfl (by kernel_rfl)) rfl ?_
   exact ⟨eW_, sU_⟩
  rw [if_neg c6] at H
  have c6b0 := beq_eq_false_iff_ne.mpr c6
  have c6b1 := bne_iff_ne.mpr c6
  by_cases c11 : (7 - 2) = 0
  ·rw [if_pos c11] at H
   exact absurd H (by simp)
  rw [if_neg c11] at H
  have c11b0 := beq_eq_false_iff_ne.mpr c11
  have c11b1 := bne_iff_ne.mpr c11
  simp only [Option.some.injEq, Prod.mk.injEq] at H
  obtain ⟨rfl, rfl, rfl⟩ := H
  go_enter Tryd.func17, Tryd.ntmps17
  go_wp2_with (first | ((with_reducible refine gate_dst (N := 6) rfl ?_); refine bx_ 6 24 #[.int .i64 0, .int .i64 0, .int .u64 0] ?_; intro gb331 hg w12 hbox hb; refine nx4_ (below_step (bU_ HB.out) hb) (hbox) ((hs_ hg (below_size (bU_ HB.out)))) ((hs_ hg (below_size (bU_ HB.out)))) ?_; clear HB; intro HB BK331 GW331 GE331; clear hb hbox hg) | ((with_reducible refine gate_callee (f := 22) rfl ?_); refine gl_ (some 15) Tryd.func22 #[.int .i64 (wrap64 (Int.tmod a0 4)), .int .u64 a2] ?_; (with_reducible refine (field_Reduce.calls (wrap64 (Int.tmod a0 4)) a2 t332 _ ?side1 A4.out).mono ?_); (case side1 => repeat (first | with_reducible exact HG.out | with_reducible exact (Fld.below HG.out HB.out) | exact (Fld.below HG.out sU_) | (with_reducible refine Fld.alloc ?_ _) | (with_reducible refine Fld.drewN ?_ _) | (with_reducible refine Fld.drew ?_))); rintro e w13 ⟨rfl, hb⟩; refine ⟨_, rfl, ?_⟩; refine nx2_ (blk_below (kU_ BK331.out) hb) (below_step sU_ hb) ?_; clear BK331 HB; intro BK331 HB; clear hb; have hcz14_0 := bc0_ BK331.out; have hcz14_1 := bc1_ BK331.out; have hcz14_2 := bc2_ BK331.out; have hfz14_0 := blk_frozen BK331.out 0; have hfz14_1 := blk_frozen BK331.out 1; have hfz14_2 := blk_frozen BK331.out 2))
  refine bodyPost_ret (results_cell_row rfl _ _ gb331 24 #[.int .i64 (wrap64 (Int.tmod a0 4)), .int .i64 (wrap64 (3 + (Int.tmod (wrap64 (a1)) (7 - 2)))), .int .u64 1] (0, 0) _ rfl (by (with_reducible repeat (first | refine blk_drewN ?_ _ | refine blk_drew ?_ | refine blk_alloc ?_ _)); refine blk_put (cs := #[.int .i64 (wrap64 (Int.tmod a0 4)), .int .i64 (wrap64 (3 + (Int.tmod (wrap64 (a1)) (7 - 2)))), .int .u64 0]) ?_ 2 _ rfl; (with_reducible repeat (first | refine blk_drewN ?_ _ | refine blk_drew ?_ | refine blk_alloc ?_ _)); refine blk_put (cs := #[.int .i64 (wrap64 (Int.tmod a0 4)), .int .i64 0, .int .u64 0]) ?_ 1 _ rfl; (with_reducible repeat (first | refine blk_drewN ?_ _ | refine blk_drew ?_ | refine blk_alloc ?_ _)); refine blk_put (cs := #[.int .i64 0, .int .i64 0, .int .u64 0]) ?_ 0 _ rfl; (with_reducible repeat (first | refine blk_drewN ?_ _ | refine blk_drew ?_ | refine blk_alloc ?_ _)); exact BK331.out) Tryd.underlying24 rfl (by kernel_rfl)) rfl ?_
  exact ⟨eW_, sU_⟩
 rw [if_neg c5] at H
 have c5b0 := beq_eq_false_iff_ne.mpr c5
 have c5b1 := bne_iff_ne.mpr c5
 by_cases c15 : (wrap64 (Int.tmod a0 4)) = 0
 ·rw [if_pos c15] at H
  have c15b0 := beq_iff_eq.mpr c15
  have c15b1 := bne_eq_false_iff_eq.mpr c15
  clear c15
  by_cases c16 : (5 - 2) = 0
  ·rw [if_pos c16] at H
   exact absurd H (by simp)
  rw [if_neg c16] at H
  have c16b0 := beq_eq_false_iff_ne.mpr c16
  have c16b1 := bne_iff_ne.mpr c16
  simp only [Option.some.injEq, Prod.mk.injEq] at H
  obtain ⟨rfl, rfl, rfl⟩ := H
  go_enter Tryd.func17, Tryd.ntmps17
  go_wp2_with (first | ((with_reducible refine gate_dst (N := 6) rfl ?_); refine bx_ 6 24 #[.int .i64 0, .int .i64 0, .int .u64 0] ?_; intro gb331 hg w17 hbox hb; refine nx4_ (below_step (bU_ HB.out) hb) (hbox) ((hs_ hg (below_size (bU_ HB.out)))) ((hs_ hg (below_size (bU_ HB.out)))) ?_; clear HB; intro HB BK331 GW331 GE331; clear hb hbox hg) | ((with_reducible refine gate_callee (f := 22) rfl ?_); refine gl_ (some 15) Tryd.func22 #[.int .i64 (wrap64 (Int.tmod a0 4)), .int .u64 a2] ?_; (with_reducible refine (field_Reduce.calls (wrap64 (Int.tmod a0 4)) a2 t332 _ ?side1 A4.out).mono ?_); (case side1 => repeat (first | with_reducible exact HG.out | with_reducible exact (Fld.below HG.out HB.out) | exact (Fld.below HG.out sU_) | (with_reducible refine Fld.alloc ?_ _) | (with_reducible refine Fld.drewN ?_ _) | (with_reducible refine Fld.drew ?_))); rintro e w18 ⟨rfl, hb⟩; refine ⟨_, rfl, ?_⟩; refine nx2_ (blk_below (kU_ BK331.out) hb) (below_step sU_ hb) ?_; clear BK331 HB; intro BK331 HB; clear hb; have hcz19_0 := bc0_ BK331.out; have hcz19_1 := bc1_ BK331.out; have hcz19_2 := bc2_ BK331.out; have hfz19_0 := blk_frozen BK331.out 0; have hfz19_1 := blk_frozen BK331.out 1; have hfz19_2 := blk_frozen BK331.out 2))
  refine bodyPost_ret (results_cell_row rfl _ _ gb331 24 #[.int .i64 (wrap64 (Int.tmod a0 4)), .int .i64 (wrap64 (3 + (Int.tmod (wrap64 (a1)) (5 - 2)))), .int .u64 t332] (0, 0) _ rfl (by (with_reducible repeat (first | refine blk_drewN ?_ _ | refine blk_drew ?_ | refine blk_alloc ?_ _)); refine blk_put (cs := #[.int .i64 (wrap64 (Int.tmod a0 4)), .int .i64 (wrap64 (3 + (Int.tmod (wrap64 (a1)) (5 - 2)))), .int .u64 0]) ?_ 2 _ rfl; (with_reducible repeat (first | refine blk_drewN ?_ _ | refine blk_drew ?_ | refine blk_alloc ?_ _)); refine blk_put (cs := #[.int .i64 (wrap64 (Int.tmod a0 4)), .int .i64 0, .int .u64 0]) ?_ 1 _ rfl; (with_reducible repeat (first | refine blk_drewN ?_ _ | refine blk_drew ?_ | refine blk_alloc ?_ _)); refine blk_put (cs := #[.int .i64 0, .int .i64 0, .int .u64 0]) ?_ 0 _ rfl; (with_reducible repeat (first | refine blk_drewN ?_ _ | refine blk_drew ?_ | refine blk_alloc ?_ _)); exact BK331.out) Tryd.underlying24 rfl (by kernel_rfl)) rfl ?_
  exact ⟨eW_, sU_⟩
 rw [if_neg c15] at H
 have c15b0 := beq_eq_false_iff_ne.mpr c15
 have c15b1 := bne_iff_ne.mpr c15
 by_cases c20 : (7 - 2) = 0
 ·rw [if_pos c20] at H
  exact absurd H (by simp)
 rw [if_neg c20] at H
 have c20b0 := beq_eq_false_iff_ne.mpr c20
 have c20b1 := bne_iff_ne.mpr c20
 simp only [Option.some.injEq, Prod.mk.injEq] at H
 obtain ⟨rfl, rfl, rfl⟩ := H
 go_enter Tryd.func17, Tryd.ntmps17
 go_wp2_with (first | ((with_reducible refine gate_dst (N := 6) rfl ?_); refine bx_ 6 24 #[.int .i64 0, .int .i64 0, .int .u64 0] ?_; intro gb331 hg w21 hbox hb; refine nx4_ (below_step (bU_ HB.out) hb) (hbox) ((hs_ hg (below_size (bU_ HB.out)))) ((hs_ hg (below_size (bU_ HB.out)))) ?_; clear HB; intro HB BK331 GW331 GE331; clear hb hbox hg) | ((with_reducible refine gate_callee (f := 22) rfl ?_); refine gl_ (some 15) Tryd.func22 #[.int .i64 (wrap64 (Int.tmod a0 4)), .int .u64 a2] ?_; (with_reducible refine (field_Reduce.calls (wrap64 (Int.tmod a0 4)) a2 t332 _ ?side1 A4.out).mono ?_); (case side1 => repeat (first | with_reducible exact HG.out | with_reducible exact (Fld.below HG.out HB.out) | exact (Fld.below HG.out sU_) | (with_reducible refine Fld.alloc ?_ _) | (with_reducible refine Fld.drewN ?_ _) | (with_reducible refine Fld.drew ?_))); rintro e w22 ⟨rfl, hb⟩; refine ⟨_, rfl, ?_⟩; refine nx2_ (blk_below (kU_ BK331.out) hb) (below_step sU_ hb) ?_; clear BK331 HB; intro BK331 HB; clear hb; have hcz23_0 := bc0_ BK331.out; have hcz23_1 := bc1_ BK331.out; have hcz23_2 := bc2_ BK331.out; have hfz23_0 := blk_frozen BK331.out 0; have hfz23_1 := blk_frozen BK331.out 1; have hfz23_2 := blk_frozen BK331.out 2))
 refine bodyPost_ret (results_cell_row rfl _ _ gb331 24 #[.int .i64 (wrap64 (Int.tmod a0 4)), .int .i64 (wrap64 (3 + (Int.tmod (wrap64 (a1)) (7 - 2)))), .int .u64 t332] (0, 0) _ rfl (by (with_reducible repeat (first | refine blk_drewN ?_ _ | refine blk_drew ?_ | refine blk_alloc ?_ _)); refine blk_put (cs := #[.int .i64 (wrap64 (Int.tmod a0 4)), .int .i64 (wrap64 (3 + (Int.tmod (wrap64 (a1)) (7 - 2)))), .int .u64 0]) ?_ 2 _ rfl; (with_reducible repeat (first | refine blk_drewN ?_ _ | refine blk_drew ?_ | refine blk_alloc ?_ _)); refine blk_put (cs := #[.int .i64 (wrap64 (Int.tmod a0 4)), .int .i64 0, .int .u64 0]) ?_ 1 _ rfl; (with_reducible repeat (first | refine blk_drewN ?_ _ | refine blk_drew ?_ | refine blk_alloc ?_ _)); refine blk_put (cs := #[.int .i64 0, .int .i64 0, .int .u64 0]) ?_ 0 _ rfl; (with_reducible repeat (first | refine blk_drewN ?_ _ | refine blk_drew ?_ | refine blk_alloc ?_ _)); exact BK331.out) Tryd.underlying24 rfl (by kernel_rfl)) rfl ?_
 exact ⟨eW_, sU_⟩

end Go.Proofs.YthinfmfjpaikiaaDoor.Q

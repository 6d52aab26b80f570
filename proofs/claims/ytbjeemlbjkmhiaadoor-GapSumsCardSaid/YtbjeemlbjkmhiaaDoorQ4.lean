import Derived.Test.YtbjeemlbjkmhiaaDoorQ0
import Derived.Test.YtbjeemlbjkmhiaaDoorQ1
import Derived.Test.YtbjeemlbjkmhiaaDoorQ2
import Derived.Test.YtbjeemlbjkmhiaaDoorQ3
namespace Go.Proofs.YtbjeemlbjkmhiaaDoor.Q
open Go.RowKit Go.Proofs.YtbjeemlbjkmhiaaDoorW.PrintWords Go.Proofs.YtbjeemlbjkmhiaaDoorW.PrintLast Go.Proofs.YtbjeemlbjkmhiaaDoorW.PrintMore
open Kd (R_below R_mono R_lower R_lt R_slice R_reads' R_tight R_lit V_below V_mono V_far V_lower V_elderB V_slice V_reads' V_mk C_below F_below C_F fresh' freshB R_drew V_drew heap_int)
attribute [local go_sem] max2_int min2_int max_two min_two max_three min_three max_four min_four   -- for this text's walks alone
set_option linter.unusedVariables false
set_option linter.unusedSimpArgs false

def gap_FoundBound.f (k : Nat) (a0 : Int) (a1 : Int) (a2 : Int) (a3 : Int) : Option (List Int × List Int × Int) := (field_Valid.f a0).bind fun t688 => (if t688 = true then ((gap_within.f a1 0 1000).bind fun t689 => (if t689 = true then ((gap_within.f a2 0 1000).bind fun t690 => (if t690 = true then ((gap_within.f a3 1 64).bind fun t691 => (if t691 = true then ((gap_bound.f k a0 (wrap64 ((wrap64 (a1 + a2)) - 1)) a3).bind fun bt692 => (some (bt692.1, bt692.2.1, bt692.2.2))) else (some (([] : List Int), ([] : List Int), 2)))) else (some (([] : List Int), ([] : List Int), 2)))) else (some (([] : List Int), ([] : List Int), 2)))) else (some (([] : List Int), ([] : List Int), 1)))
theorem gap_FoundBound.mono : ∀ a0 a1 a2 a3 k, LeO (gap_FoundBound.f k a0 a1 a2 a3) (gap_FoundBound.f (k + 1) a0 a1 a2 a3) := by
 intro a0 a1 a2 a3 k
 unfold gap_FoundBound.f
 with_reducible repeat' first | apply gap_bound.mono | exact LeO.refl _ | exact LeO.none _ | refine LeO.ite ?_ ?_ | refine LeO.bind ?_ (fun _ => ?_)
set_option maxHeartbeats 8000000 in
set_option maxRecDepth 100000 in
theorem gap_FoundBound.calls (k : Nat) (a0 : Int) (a1 : Int) (a2 : Int) (a3 : Int) (r1 : List Int) (r2 : List Int) (r3 : Int) (w : World) (hG : Fld w) (h : gap_FoundBound.f k a0 a1 a2 a3 = some (r1, r2, r3)) :
  Calls Tryd.prog 14 #[.int .i64 a0, .int .i64 a1, .int .i64 a2, .int .i64 a3] w fun e w' => ∃ v0_ v1_ : Value, e = .returned (.tuple #[.agg #[v0_, v1_], .int .i64 r3]) ∧ Kd.V (Kd.int .u32) 115 w' w.heap.size (fun k_ => (w.heap.size ≤ k_)) v0_ r1 ∧ Kd.V (Kd.int .u32) 115 w' w.heap.size (fun k_ => (w.heap.size ≤ k_)) v1_ r2 ∧ Below w.heap.size w w' := by
 have hu26 := Tryd.underlying26
 have HG := ak hG
 clear hG
 have HB := ak (Below.refl w.heap.size w)
 have H := h
 clear h
 unfold gap_FoundBound.f at H
 revert H
 refine bd_ fun t688 A5 H => ?_
 by_cases c6 : t688 = true
 ·subst c6
  rw [if_pos rfl] at H
  revert H
  refine bd_ fun t689 A7 H => ?_
  by_cases c8 : t689 = true
  ·subst c8
   rw [if_pos rfl] at H
   revert H
   refine bd_ fun t690 A9 H => ?_
   by_cases c10 : t690 = true
   ·subst c10
    rw [if_pos rfl] at H
    revert H
    refine bd_ fun t691 A11 H => ?_
    by_cases c12 : t691 = true
    ·subst c12
     rw [if_pos rfl] at H
     revert H
     refine bd3_ fun t692 t695 t698 A13 H => ?_
     try dsimp only at H
     simp only [Option.some.injEq, Prod.mk.injEq] at H
     obtain ⟨rfl, rfl, rfl⟩ := H
     go_enter Tryd.func14, Tryd.ntmps14
     go_wp2_with (first | ((with_reducible refine gate_dst (N := 8) rfl ?_); refine bx_ 8 26 #[.slice none 0 0, .slice none 0 0] ?_; intro gb687 hg w14 hbox hb; refine nx4_ (below_step (bU_ HB.out) hb) (hbox) ((hs_ hg (below_size (bU_ HB.out)))) ((hs_ hg (below_size (bU_ HB.out)))) ?_; clear HB; intro HB BK687 GW687 GE687; clear hb hbox hg) | ((with_reducible refine gate_callee (f := 43) rfl ?_); refine gl_ (some 12) Tryd.func43 #[.int .i64 a0] ?_; (with_reducible refine (field_Valid.calls a0 true _ A5.out).mono ?_); rintro e w' ⟨rfl, ⟨nd, rfl⟩⟩; refine ⟨_, rfl, ?_⟩; (try (rw [drewN_self w14]; generalize hq_ : World.drewN w14 _ = w14; have n0_ : Aside0 (w14.heap[gb687]? = some (.cells #[.slice none 0 0, .slice none 0 0] 26 (0, 0))) := ⟨by rw [← hq_]; exact (kU_ BK687.out)⟩; have n1_ : Aside0 (Below w.heap.size w w14) := ⟨by rw [← hq_]; exact sU_⟩; clear BK687 HB hq_; have BK687 := n0_; have HB := n1_; clear n0_ n1_))) | ((with_reducible refine gate_callee (f := 44) rfl ?_); refine gl_ (some 17) Tryd.func44 #[.int .i64 a1, .int .i64 0, .int .i64 1000] ?_; (with_reducible refine (gap_within.calls a1 0 1000 true _ A7.out).mono ?_); rintro e w' ⟨rfl, ⟨nd, rfl⟩⟩; refine ⟨_, rfl, ?_⟩; (try (rw [drewN_self w14]; generalize hq_ : World.drewN w14 _ = w14; have n0_ : Aside0 (w14.heap[gb687]? = some (.cells #[.slice none 0 0, .slice none 0 0] 26 (0, 0))) := ⟨by rw [← hq_]; exact (kU_ BK687.out)⟩; have n1_ : Aside0 (Below w.heap.size w w14) := ⟨by rw [← hq_]; exact sU_⟩; clear BK687 HB hq_; have BK687 := n0_; have HB := n1_; clear n0_ n1_))) | (go_at_call 44; (with_reducible refine (gap_within.calls a2 0 1000 true _ A9.out).mono ?_); rintro e w' ⟨rfl, ⟨nd, rfl⟩⟩; (try (rw [drewN_self w14]; generalize hq_ : World.drewN w14 _ = w14; have n0_ : Aside0 (w14.heap[gb687]? = some (.cells #[.slice none 0 0, .slice none 0 0] 26 (0, 0))) := ⟨by rw [← hq_]; exact (kU_ BK687.out)⟩; have n1_ : Aside0 (Below w.heap.size w w14) := ⟨by rw [← hq_]; exact sU_⟩; clear BK687 HB hq_; have BK687 := n0_; have HB := n1_; clear n0_ n1_))) | (go_at_call 44; (with_reducible refine (gap_within.calls a3 1 64 true _ A11.out).mono ?_); rintro e w' ⟨rfl, ⟨nd, rfl⟩⟩; (try (rw [drewN_self w14]; generalize hq_ : World.drewN w14 _ = w14; have n0_ : Aside0 (w14.heap[gb687]? = some (.cells #[.slice none 0 0, .slice none 0 0] 26 (0, 0))) := ⟨by rw [← hq_]; exact (kU_ BK687.out)⟩; have n1_ : Aside0 (Below w.heap.size w w14) := ⟨by rw [← hq_]; exact sU_⟩; clear BK687 HB hq_; have BK687 := n0_; have HB := n1_; clear n0_ n1_))) | ((with_reducible refine gate_callee (f := 59) rfl ?_); refine gl_ (some 36) Tryd.func59 #[.int .i64 a0, .int .i64 (wrap64 ((wrap64 (a1 + a2)) - 1)), .int .i64 a3] ?_; (with_reducible refine (gap_bound.calls k a0 (wrap64 ((wrap64 (a1 + a2)) - 1)) a3 t692 t695 t698 _ ?side1 A13.out).mono ?_); (case side1 => repeat (first | with_reducible exact HG.out | with_reducible exact (Fld.below HG.out HB.out) | exact (Fld.below HG.out sU_) | (with_reducible refine Fld.alloc ?_ _) | (with_reducible refine Fld.drewN ?_ _) | (with_reducible refine Fld.drew ?_))); rintro e w15 ⟨v693, v696, rfl, ho0, ho1, hb⟩; refine ⟨_, rfl, ?_⟩; refine nx4_ (V_lower (V_mono (ok' := fun k_ => (w.heap.size ≤ k_) ∧ k_ ≠ gb687) ho0 (fun k_ hk_ => ⟨(Nat.le_trans (below_size sU_) hk_), (freshB (kU_ BK687.out) k_ hk_)⟩)) (below_size sU_)) (V_lower (V_mono (ok' := fun k_ => (w.heap.size ≤ k_) ∧ k_ ≠ gb687) ho1 (fun k_ hk_ => ⟨(Nat.le_trans (below_size sU_) hk_), (freshB (kU_ BK687.out) k_ hk_)⟩)) (below_size sU_)) (blk_below (kU_ BK687.out) hb) (below_step sU_ hb) ?_; clear BK687 HB; intro HO694 HO697 BK687 HB; clear hb ho0 ho1; obtain ⟨Ao16, co16, eo16⟩ := V_slice HO694.out; subst eo16; have hcz17_0 := bc0_ BK687.out; have hcz17_1 := bc1_ BK687.out; have hfz17_0 := bkf9_ BK687.out 0; have hfz17_1 := bkf9_ BK687.out 1; obtain ⟨Ao18, co18, eo18⟩ := V_slice HO697.out; subst eo18))
     refine bodyPost_ret (results_ct rfl _ _ gb687 26 #[.slice Ao16 t692.length co16, .slice Ao18 t695.length co18] (0, 0) _ rfl kp_ Tryd.underlying26 rfl (by kernel_rfl)) rfl ?_
     exact ⟨_, _, eW_, by (with_reducible repeat (first | apply Kd.V_alloc | apply Kd.V_drewN | apply V_drew)); exact V_mono (V_far (p := ⟨gb687, 1, none⟩) (V_far (p := ⟨gb687, 0, none⟩) (V_mono HO694.out (fun k_ hk => (⟨hk, hk.2⟩ : _ ∧ k_ ≠ gb687))) (fun _ hk => hk.2) (.slice Ao16 t692.length co16)) (fun _ hk => hk.2) (.slice Ao18 t695.length co18)) (fun _ hk => hk.1.1), by (with_reducible repeat (first | apply Kd.V_alloc | apply Kd.V_drewN | apply V_drew)); exact V_mono (V_far (p := ⟨gb687, 1, none⟩) (V_far (p := ⟨gb687, 0, none⟩) (V_mono HO697.out (fun k_ hk => (⟨hk, hk.2⟩ : _ ∧ k_ ≠ gb687))) (fun _ hk => hk.2) (.slice Ao16 t692.length co16)) (fun _ hk => hk.2) (.slice Ao18 t695.length co18)) (fun _ hk => hk.1.1), sU_⟩
    replace c12 := Bool.eq_false_iff.mpr c12
    subst c12
    rw [if_neg (show ¬ (false = true) by decide)] at H
    simp only [Option.some.injEq, Prod.mk.injEq] at H
    obtain ⟨rfl, rfl, rfl⟩ := H
    go_enter Tryd.func14, Tryd.ntmps14
    go_wp2_with (first | ((with_reducible refine gate_dst (N := 8) rfl ?_); refine bx_ 8 26 #[.slice none 0 0, .slice none 0 0] ?_; intro gb687 hg w19 hbox hb; refine nx4_ (below_step (bU_ HB.out) hb) (hbox) ((hs_ hg (below_size (bU_ HB.out)))) ((hs_ hg (below_size (bU_ HB.out)))) ?_; clear HB; intro HB BK687 GW687 GE687; clear hb hbox hg) | ((with_reducible refine gate_callee (f := 43) rfl ?_); refine gl_ (some 12) Tryd.func43 #[.int .i64 a0] ?_; (with_reducible refine (field_Valid.calls a0 true _ A5.out).mono ?_); rintro e w' ⟨rfl, ⟨nd, rfl⟩⟩; refine ⟨_, rfl, ?_⟩; (try (rw [drewN_self w19]; generalize hq_ : World.drewN w19 _ = w19; have n0_ : Aside0 (w19.heap[gb687]? = some (.cells #[.slice none 0 0, .slice none 0 0] 26 (0, 0))) := ⟨by rw [← hq_]; exact (kU_ BK687.out)⟩; have n1_ : Aside0 (Below w.heap.size w w19) := ⟨by rw [← hq_]; exact sU_⟩; clear BK687 HB hq_; have BK687 := n0_; have HB := n1_; clear n0_ n1_))) | ((with_reducible refine gate_callee (f := 44) rfl ?_); refine gl_ (some 17) Tryd.func44 #[.int .i64 a1, .int .i64 0, .int .i64 1000] ?_; (with_reducible refine (gap_within.calls a1 0 1000 true _ A7.out).mono ?_); rintro e w' ⟨rfl, ⟨nd, rfl⟩⟩; refine ⟨_, rfl, ?_⟩; (try (rw [drewN_self w19]; generalize hq_ : World.drewN w19 _ = w19; have n0_ : Aside0 (w19.heap[gb687]? = some (.cells #[.slice none 0 0, .slice none 0 0] 26 (0, 0))) := ⟨by rw [← hq_]; exact (kU_ BK687.out)⟩; have n1_ : Aside0 (Below w.heap.size w w19) := ⟨by rw [← hq_]; exact sU_⟩; clear BK687 HB hq_; have BK687 := n0_; have HB := n1_; clear n0_ n1_))) | (go_at_call 44; (with_reducible refine (gap_within.calls a2 0 1000 true _ A9.out).mono ?_); rintro e w' ⟨rfl, ⟨nd, rfl⟩⟩; (try (rw [drewN_self w19]; generalize hq_ : World.drewN w19 _ = w19; have n0_ : Aside0 (w19.heap[gb687]? = some (.cells #[.slice none 0 0, .slice none 0 0] 26 (0, 0))) := ⟨by rw [← hq_]; exact (kU_ BK687.out)⟩; have n1_ : Aside0 (Below w.heap.size w w19) := ⟨by rw [← hq_]; exact sU_⟩; clear BK687 HB hq_; have BK687 := n0_; have HB := n1_; clear n0_ n1_))) | (go_at_call 44; (with_reducible refine (gap_within.calls a3 1 64 false _ A11.out).mono ?_); rintro e w' ⟨rfl, ⟨nd, rfl⟩⟩; (try (rw [drewN_self w19]; generalize hq_ : World.drewN w19 _ = w19; have n0_ : Aside0 (w19.heap[gb687]? = some (.cells #[.slice none 0 0, .slice none 0 0] 26 (0, 0))) := ⟨by rw [← hq_]; exact (kU_ BK687.out)⟩; have n1_ : Aside0 (Below w.heap.size w w19) := ⟨by rw [← hq_]; exact sU_⟩; clear BK687 HB hq_; have BK687 := n0_; have HB := n1_; clear n0_ n1_)); have hcz20_0 := bc0_ BK687.out; have hcz20_1 := bc1_ BK687.out; have hfz20_0 := bkf9_ BK687.out 0; have hfz20_1 := bkf9_ BK687.out 1))
    refine bodyPost_ret (results_ct rfl _ _ gb687 26 #[.slice none 0 0, .slice none 0 0] (0, 0) _ rfl kp_ Tryd.underlying26 rfl (by kernel_rfl)) rfl ?_
    exact ⟨_, _, eW_, Kd.V_nil _ _ _ _ _, Kd.V_nil _ _ _ _ _, sU_⟩
   replace c10 := Bool.eq_false_iff.mpr c10
   subst c10
   rw [if_neg (show ¬ (false = true) by decide)] at H
   simp only [Option.some.injEq, Prod.mk.injEq] at H
   obtain ⟨rfl, rfl, rfl⟩ := H
   go_enter Tryd.func14, Tryd.ntmps14
   go_wp2_with (first | ((with_reducible refine gate_dst (N := 8) rfl ?_); refine bx_ 8 26 #[.slice none 0 0, .slice none 0 0] ?_; intro gb687 hg w21 hbox hb; refine nx4_ (below_step (bU_ HB.out) hb) (hbox) ((hs_ hg (below_size (bU_ HB.out)))) ((hs_ hg (below_size (bU_ HB.out)))) ?_; clear HB; intro HB BK687 GW687 GE687; clear hb hbox hg) | ((with_reducible refine gate_callee (f := 43) rfl ?_); refine gl_ (some 12) Tryd.func43 #[.int .i64 a0] ?_; (with_reducible refine (field_Valid.calls a0 true _ A5.out).mono ?_); rintro e w' ⟨rfl, ⟨nd, rfl⟩⟩; refine ⟨_, rfl, ?_⟩; (try (rw [drewN_self w21]; generalize hq_ : World.drewN w21 _ = w21; have n0_ : Aside0 (w21.heap[gb687]? = some (.cells #[.slice none 0 0, .slice none 0 0] 26 (0, 0))) := ⟨by rw [← hq_]; exact (kU_ BK687.out)⟩; have n1_ : Aside0 (Below w.heap.size w w21) := ⟨by rw [← hq_]; exact sU_⟩; clear BK687 HB hq_; have BK687 := n0_; have HB := n1_; clear n0_ n1_))) | ((with_reducible refine gate_callee (f := 44) rfl ?_); refine gl_ (some 17) Tryd.func44 #[.int .i64 a1, .int .i64 0, .int .i64 1000] ?_; (with_reducible refine (gap_within.calls a1 0 1000 true _ A7.out).mono ?_); rintro e w' ⟨rfl, ⟨nd, rfl⟩⟩; refine ⟨_, rfl, ?_⟩; (try (rw [drewN_self w21]; generalize hq_ : World.drewN w21 _ = w21; have n0_ : Aside0 (w21.heap[gb687]? = some (.cells #[.slice none 0 0, .slice none 0 0] 26 (0, 0))) := ⟨by rw [← hq_]; exact (kU_ BK687.out)⟩; have n1_ : Aside0 (Below w.heap.size w w21) := ⟨by rw [← hq_]; exact sU_⟩; clear BK687 HB hq_; have BK687 := n0_; have HB := n1_; clear n0_ n1_))) | (go_at_call 44; (with_reducible refine (gap_within.calls a2 0 1000 false _ A9.out).mono ?_); rintro e w' ⟨rfl, ⟨nd, rfl⟩⟩; (try (rw [drewN_self w21]; generalize hq_ : World.drewN w21 _ = w21; have n0_ : Aside0 (w21.heap[gb687]? = some (.cells #[.slice none 0 0, .slice none 0 0] 26 (0, 0))) := ⟨by rw [← hq_]; exact (kU_ BK687.out)⟩; have n1_ : Aside0 (Below w.heap.size w w21) := ⟨by rw [← hq_]; exact sU_⟩; clear BK687 HB hq_; have BK687 := n0_; have HB := n1_; clear n0_ n1_)); have hcz22_0 := bc0_ BK687.out; have hcz22_1 := bc1_ BK687.out; have hfz22_0 := bkf9_ BK687.out 0; have hfz22_1 := bkf9_ BK687.out 1))
   refine bodyPost_ret (results_ct rfl _ _ gb687 26 #[.slice none 0 0, .slice none 0 0] (0, 0) _ rfl kp_ Tryd.underlying26 rfl (by kernel_rfl)) rfl ?_
   exact ⟨_, _, eW_, Kd.V_nil _ _ _ _ _, Kd.V_nil _ _ _ _ _, sU_⟩
  replace c8 := Bool.eq_false_iff.mpr c8
  subst c8
  rw [if_neg (show ¬ (false = true) by decide)] at H
  simp only [Option.some.injEq, Prod.mk.injEq] at H
  obtain ⟨rfl, rfl, rfl⟩ := H
  go_enter Tryd.func14, Tryd.ntmps14
  go_wp2_with (first | ((with_reducible refine gate_dst (N := 8) rfl ?_); refine bx_ 8 26 #[.slice none 0 0, .slice none 0 0] ?_; intro gb687 hg w23 hbox hb; refine nx4_ (below_step (bU_ HB.out) hb) (hbox) ((hs_ hg (below_size (bU_ HB.out)))) ((hs_ hg (below_size (bU_ HB.out)))) ?_; clear HB; intro HB BK687 GW687 GE687; clear hb hbox hg) | ((with_reducible refine gate_callee (f := 43) rfl ?_); refine gl_ (some 12) Tryd.func43 #[.int .i64 a0] ?_; (with_reducible refine (field_Valid.calls a0 true _ A5.out).mono ?_); rintro e w' ⟨rfl, ⟨nd, rfl⟩⟩; refine ⟨_, rfl, ?_⟩; (try (rw [drewN_self w23]; generalize hq_ : World.drewN w23 _ = w23; have n0_ : Aside0 (w23.heap[gb687]? = some (.cells #[.slice none 0 0, .slice none 0 0] 26 (0, 0))) := ⟨by rw [← hq_]; exact (kU_ BK687.out)⟩; have n1_ : Aside0 (Below w.heap.size w w23) := ⟨by rw [← hq_]; exact sU_⟩; clear BK687 HB hq_; have BK687 := n0_; have HB := n1_; clear n0_ n1_))) | ((with_reducible refine gate_callee (f := 44) rfl ?_); refine gl_ (some 17) Tryd.func44 #[.int .i64 a1, .int .i64 0, .int .i64 1000] ?_; (with_reducible refine (gap_within.calls a1 0 1000 false _ A7.out).mono ?_); rintro e w' ⟨rfl, ⟨nd, rfl⟩⟩; refine ⟨_, rfl, ?_⟩; (try (rw [drewN_self w23]; generalize hq_ : World.drewN w23 _ = w23; have n0_ : Aside0 (w23.heap[gb687]? = some (.cells #[.slice none 0 0, .slice none 0 0] 26 (0, 0))) := ⟨by rw [← hq_]; exact (kU_ BK687.out)⟩; have n1_ : Aside0 (Below w.heap.size w w23) := ⟨by rw [← hq_]; exact sU_⟩; clear BK687 HB hq_; have BK687 := n0_; have HB := n1_; clear n0_ n1_)); have hcz24_0 := bc0_ BK687.out; have hcz24_1 := bc1_ BK687.out; have hfz24_0 := bkf9_ BK687.out 0; have hfz24_1 := bkf9_ BK687.out 1))
  refine bodyPost_ret (results_ct rfl _ _ gb687 26 #[.slice none 0 0, .slice none 0 0] (0, 0) _ rfl kp_ Tryd.underlying26 rfl (by kernel_rfl)) rfl ?_
  exact ⟨_, _, eW_, Kd.V_nil _ _ _ _ _, Kd.V_nil _ _ _ _ _, sU_⟩
 replace c6 := Bool.eq_false_iff.mpr c6
 subst c6
 rw [if_neg (show ¬ (false = true) by decide)] at H
 simp only [Option.some.injEq, Prod.mk.injEq] at H
 obtain ⟨rfl, rfl, rfl⟩ := H
 go_enter Tryd.func14, Tryd.ntmps14
 go_wp2_with (first | ((with_reducible refine gate_dst (N := 8) rfl ?_); refine bx_ 8 26 #[.slice none 0 0, .slice none 0 0] ?_; intro gb687 hg w25 hbox hb; refine nx4_ (below_step (bU_ HB.out) hb) (hbox) ((hs_ hg (below_size (bU_ HB.out)))) ((hs_ hg (below_size (bU_ HB.out)))) ?_; clear HB; intro HB BK687 GW687 GE687; clear hb hbox hg) | ((with_reducible refine gate_callee (f := 43) rfl ?_); refine gl_ (some 12) Tryd.func43 #[.int .i64 a0] ?_; (with_reducible refine (field_Valid.calls a0 false _ A5.out).mono ?_); rintro e w' ⟨rfl, ⟨nd, rfl⟩⟩; refine ⟨_, rfl, ?_⟩; (try (rw [drewN_self w25]; generalize hq_ : World.drewN w25 _ = w25; have n0_ : Aside0 (w25.heap[gb687]? = some (.cells #[.slice none 0 0, .slice none 0 0] 26 (0, 0))) := ⟨by rw [← hq_]; exact (kU_ BK687.out)⟩; have n1_ : Aside0 (Below w.heap.size w w25) := ⟨by rw [← hq_]; exact sU_⟩; clear BK687 HB hq_; have BK687 := n0_; have HB := n1_; clear n0_ n1_)); have hcz26_0 := bc0_ BK687.out; have hcz26_1 := bc1_ BK687.out; have hfz26_0 := bkf9_ BK687.out 0; have hfz26_1 := bkf9_ BK687.out 1))
 refine bodyPost_ret (results_ct rfl _ _ gb687 26 #[.slice none 0 0, .slice none 0 0] (0, 0) _ rfl kp_ Tryd.underlying26 rfl (by kernel_rfl)) rfl ?_
 exact ⟨_, _, eW_, Kd.V_nil _ _ _ _ _, Kd.V_nil _ _ _ _ _, sU_⟩

def field_Add.f (a0 : Int) (a1 : Int) (a2 : Int) : Option (Int) := (field_P.f a0).bind fun t699 => (if t699 = 0 then (some 0) else (if (IntKind.u64.wrap ((Int.tmod a1 t699) + (Int.tmod a2 t699))) ≥ t699 then (some (IntKind.u64.wrap ((IntKind.u64.wrap ((Int.tmod a1 t699) + (Int.tmod a2 t699))) - t699))) else (some (IntKind.u64.wrap ((Int.tmod a1 t699) + (Int.tmod a2 t699))))))
set_option maxHeartbeats 8000000 in
set_option maxRecDepth 100000 in
theorem field_Add.calls (a0 : Int) (a1 : Int) (a2 : Int) (r : Int) (w : World) (hG : Fld w) (h : field_Add.f a0 a1 a2 = some r) :
  Calls Tryd.prog 25 #[.int .i64 a0, .int .u64 a1, .int .u64 a2] w fun e w' => e = .returned (.int .u64 r) ∧ Below w.heap.size w w' := by
 have HG := ak hG
 clear hG
 have HB := ak (Below.refl w.heap.size w)
 have H := h
 clear h
 unfold field_Add.f at H
 revert H
 refine bd_ fun t699 A4 H => ?_
 by_cases c5 : t699 = 0
 ·rw [if_pos c5] at H
  have c5b0 := beq_iff_eq.mpr c5
  have c5b1 := bne_eq_false_iff_eq.mpr c5
  clear c5
  obtain rfl := Option.some.inj H
  go_enter Tryd.func25, Tryd.ntmps25
  go_wp2_with (first | (go_at_call 47; (with_reducible refine (field_P.calls a0 t699 _ ?side1 A4.out).mono ?_); (case side1 => exact fU_ HG.out HB.out); rintro e w6 ⟨rfl, hb⟩; refine nx1_ (below_step (bU_ HB.out) hb) ?_; clear HB; intro HB; clear hb))
  repeat (go_quiet (first | (go_at_call 47; (with_reducible refine (field_P.calls a0 t699 _ ?side1 A4.out).mono ?_); (case side1 => exact fU_ HG.out HB.out); rintro e w6 ⟨rfl, hb⟩; refine nx1_ (below_step (bU_ HB.out) hb) ?_; clear HB; intro HB; clear hb)); try go_wp2_with (first | (go_at_call 47; (with_reducible refine (field_P.calls a0 t699 _ ?side1 A4.out).mono ?_); (case side1 => exact fU_ HG.out HB.out); rintro e w6 ⟨rfl, hb⟩; refine nx1_ (below_step (bU_ HB.out) hb) ?_; clear HB; intro HB; clear hb)))
  go_ret
  exact ⟨eW_, bU_ HB.out⟩
 rw [if_neg c5] at H
 have c5b0 := beq_eq_false_iff_ne.mpr c5
 have c5b1 := bne_iff_ne.mpr c5
 by_cases c7 : (IntKind.u64.wrap ((Int.tmod a1 t699) + (Int.tmod a2 t699))) ≥ t699
 ·rw [if_pos c7] at H
  have c7b0 : decide (t699 ≤ (IntKind.u64.wrap ((Int.tmod a1 t699) + (Int.tmod a2 t699)))) = true := decide_eq_true c7
  clear c7
  obtain rfl := Option.some.inj H
  go_enter Tryd.func25, Tryd.ntmps25
  go_wp2_with (first | (go_at_call 47; (with_reducible refine (field_P.calls a0 t699 _ ?side1 A4.out).mono ?_); (case side1 => exact fU_ HG.out HB.out); rintro e w8 ⟨rfl, hb⟩; refine nx1_ (below_step (bU_ HB.out) hb) ?_; clear HB; intro HB; clear hb))
  repeat (go_quiet (first | (go_at_call 47; (with_reducible refine (field_P.calls a0 t699 _ ?side1 A4.out).mono ?_); (case side1 => exact fU_ HG.out HB.out); rintro e w8 ⟨rfl, hb⟩; refine nx1_ (below_step (bU_ HB.out) hb) ?_; clear HB; intro HB; clear hb)); try go_wp2_with (first | (go_at_call 47; (with_reducible refine (field_P.calls a0 t699 _ ?side1 A4.out).mono ?_); (case side1 => exact fU_ HG.out HB.out); rintro e w8 ⟨rfl, hb⟩; refine nx1_ (below_step (bU_ HB.out) hb) ?_; clear HB; intro HB; clear hb)))
  go_ret
  exact ⟨eW_, bU_ HB.out⟩
 rw [if_neg c7] at H
 have c7b0 : decide (t699 ≤ (IntKind.u64.wrap ((Int.tmod a1 t699) + (Int.tmod a2 t699)))) = false := decide_eq_false c7
 clear c7
 obtain rfl := Option.some.inj H
 go_enter Tryd.func25, Tryd.ntmps25
 go_wp2_with (first | (go_at_call 47; (with_reducible refine (field_P.calls a0 t699 _ ?side1 A4.out).mono ?_); (case side1 => exact fU_ HG.out HB.out); rintro e w9 ⟨rfl, hb⟩; refine nx1_ (below_step (bU_ HB.out) hb) ?_; clear HB; intro HB; clear hb))
 repeat (go_quiet (first | (go_at_call 47; (with_reducible refine (field_P.calls a0 t699 _ ?side1 A4.out).mono ?_); (case side1 => exact fU_ HG.out HB.out); rintro e w9 ⟨rfl, hb⟩; refine nx1_ (below_step (bU_ HB.out) hb) ?_; clear HB; intro HB; clear hb)); try go_wp2_with (first | (go_at_call 47; (with_reducible refine (field_P.calls a0 t699 _ ?side1 A4.out).mono ?_); (case side1 => exact fU_ HG.out HB.out); rintro e w9 ⟨rfl, hb⟩; refine nx1_ (below_step (bU_ HB.out) hb) ?_; clear HB; intro HB; clear hb)))
 go_ret
 exact ⟨eW_, bU_ HB.out⟩

def field_Mul.f (a0 : Int) (a1 : Int) (a2 : Int) : Option (Int) := (field_P.f a0).bind fun t700 => (if t700 = 0 then (some 0) else (some (Int.tmod (IntKind.u64.wrap ((Int.tmod a1 t700) * (Int.tmod a2 t700))) t700)))
set_option maxHeartbeats 8000000 in
set_option maxRecDepth 100000 in
theorem field_Mul.calls (a0 : Int) (a1 : Int) (a2 : Int) (r : Int) (w : World) (hG : Fld w) (h : field_Mul.f a0 a1 a2 = some r) :
  Calls Tryd.prog 37 #[.int .i64 a0, .int .u64 a1, .int .u64 a2] w fun e w' => e = .returned (.int .u64 r) ∧ Below w.heap.size w w' := by
 have HG := ak hG
 clear hG
 have HB := ak (Below.refl w.heap.size w)
 have H := h
 clear h
 unfold field_Mul.f at H
 revert H
 refine bd_ fun t700 A4 H => ?_
 by_cases c5 : t700 = 0
 ·rw [if_pos c5] at H
  have c5b0 := beq_iff_eq.mpr c5
  have c5b1 := bne_eq_false_iff_eq.mpr c5
  clear c5
  obtain rfl := Option.some.inj H
  go_enter Tryd.func37, Tryd.ntmps37
  go_wp2_with (first | (go_at_call 47; (with_reducible refine (field_P.calls a0 t700 _ ?side1 A4.out).mono ?_); (case side1 => exact fU_ HG.out HB.out); rintro e w6 ⟨rfl, hb⟩; refine nx1_ (below_step (bU_ HB.out) hb) ?_; clear HB; intro HB; clear hb))
  repeat (go_quiet (first | (go_at_call 47; (with_reducible refine (field_P.calls a0 t700 _ ?side1 A4.out).mono ?_); (case side1 => exact fU_ HG.out HB.out); rintro e w6 ⟨rfl, hb⟩; refine nx1_ (below_step (bU_ HB.out) hb) ?_; clear HB; intro HB; clear hb)); try go_wp2_with (first | (go_at_call 47; (with_reducible refine (field_P.calls a0 t700 _ ?side1 A4.out).mono ?_); (case side1 => exact fU_ HG.out HB.out); rintro e w6 ⟨rfl, hb⟩; refine nx1_ (below_step (bU_ HB.out) hb) ?_; clear HB; intro HB; clear hb)))
  go_ret
  exact ⟨eW_, bU_ HB.out⟩
 rw [if_neg c5] at H
 have c5b0 := beq_eq_false_iff_ne.mpr c5
 have c5b1 := bne_iff_ne.mpr c5
 obtain rfl := Option.some.inj H
 go_enter Tryd.func37, Tryd.ntmps37
 go_wp2_with (first | (go_at_call 47; (with_reducible refine (field_P.calls a0 t700 _ ?side1 A4.out).mono ?_); (case side1 => exact fU_ HG.out HB.out); rintro e w7 ⟨rfl, hb⟩; refine nx1_ (below_step (bU_ HB.out) hb) ?_; clear HB; intro HB; clear hb))
 repeat (go_quiet (first | (go_at_call 47; (with_reducible refine (field_P.calls a0 t700 _ ?side1 A4.out).mono ?_); (case side1 => exact fU_ HG.out HB.out); rintro e w7 ⟨rfl, hb⟩; refine nx1_ (below_step (bU_ HB.out) hb) ?_; clear HB; intro HB; clear hb)); try go_wp2_with (first | (go_at_call 47; (with_reducible refine (field_P.calls a0 t700 _ ?side1 A4.out).mono ?_); (case side1 => exact fU_ HG.out HB.out); rintro e w7 ⟨rfl, hb⟩; refine nx1_ (below_step (bU_ HB.out) hb) ?_; clear HB; intro HB; clear hb)))
 go_ret
 exact ⟨eW_, bU_ HB.out⟩

def poly_Eval.l0 : Nat → Int → List Int → Int → Int → Int → Int → Option (Int)
 | 0, _, _, _, _, _, _ => none
 | k + 1, x0, x1, x2, x7, x10, x11 => if x11 < x10 then ((field_Mul.f x0 x7 x2).bind fun t701 => (if 0 ≤ (wrap64 ((wrap64 ((x1.length : Int) - 1)) - x11)) then (if (wrap64 ((wrap64 ((x1.length : Int) - 1)) - x11)) < (x1.length : Int) then ((field_Add.f x0 t701 (rd x1 (wrap64 ((wrap64 ((x1.length : Int) - 1)) - x11)))).bind fun t703 => (poly_Eval.l0 k x0 x1 x2 t703 x10 (wrap64 (x11 + 1)))) else (none)) else (none))) else (some x7)
def poly_Eval.f (k : Nat) (a0 : Int) (l1 : List Int) (a2 : Int) : Option (Int) := poly_Eval.l0 k a0 l1 a2 0 (l1.length : Int) 0
theorem poly_Eval.mono_l : ∀ k, (∀ y0 y1 y2 y3 y4 y5, LeO (poly_Eval.l0 k y0 y1 y2 y3 y4 y5) (poly_Eval.l0 (k + 1) y0 y1 y2 y3 y4 y5))
 | 0 => fun _ _ _ _ _ _ r h => by simp [poly_Eval.l0] at h
 | k + 1 => by
  have ih0 := poly_Eval.mono_l k
  ·intro y0 y1 y2 y3 y4 y5
   unfold poly_Eval.l0
   with_reducible repeat' first | apply ih0 | exact LeO.refl _ | exact LeO.none _ | refine LeO.ite ?_ ?_ | refine LeO.bind ?_ (fun _ => ?_)
theorem poly_Eval.mono : ∀ a0 a1 a2 k, LeO (poly_Eval.f k a0 a1 a2) (poly_Eval.f (k + 1) a0 a1 a2) := by
 intro a0 a1 a2 k
 have ih0 := poly_Eval.mono_l k
 unfold poly_Eval.f
 with_reducible repeat' first | apply ih0 | exact LeO.refl _ | exact LeO.none _ | refine LeO.ite ?_ ?_ | refine LeO.bind ?_ (fun _ => ?_)
def poly_Eval.T5 : Bool × List (List Nat × List Nat) := (true, [([], []), ([], []), ([], []), ([], []), ([1, 2, 3], [1, 2, 3]), ([], []), ([], []), ([6], [6]), ([7], [7]), ([], []), ([8, 9], [8, 9]), ([5, 10], [5, 10]), ([11], [11]), ([0, 4, 12, 4], [0, 4, 12]), ([13, 13, 0, 1, 2, 3, 4, 5, 6, 7, 8, 9, 10, 11, 12, 13], [2, 13])])
def poly_Eval.B5 : List Nat := [0, 0, 0, 0, 14, 0, 0, 64, 192, 0, 960, 2016, 4064, 8191, 16383]
theorem poly_Eval.tab5 : rtab .any (opsOf Tryd.f27 5) = poly_Eval.T5 := by kernel_rfl
theorem poly_Eval.bits5 : waitsOk poly_Eval.T5.2 poly_Eval.B5 = true := by kernel_rfl
set_option maxHeartbeats 8000000 in
set_option maxRecDepth 100000 in
theorem poly_Eval.calls (k : Nat) (a0 : Int) (A1 : Option Addr) (c1 : Nat) (l1 : List Int) (a2 : Int) (r : Int) (w : World) (hG : Fld w) (hr1 : Kd.C (Kd.int .u64) w A1 l1.length l1) (hc1 : l1.length ≤ c1) (h : poly_Eval.f k a0 l1 a2 = some r) :
  Calls Tryd.prog 27 #[.int .i64 a0, .slice A1 l1.length c1, .int .u64 a2] w fun e w' => e = .returned (.int .u64 r) ∧ Below w.heap.size w w' := by
 have HG := ak hG
 clear hG
 have HR1 := ak hr1
 have HC1 := ak hc1
 clear hr1 hc1
 have HB := ak (Below.refl w.heap.size w)
 have H : (poly_Eval.l0 k a0 l1 a2 0 (l1.length : Int) 0) = some r := h
 clear h
 have H' := ak H
 clear H
 go_enter Tryd.func27, Tryd.ntmps27
 go_wp2
 go_loopg [7, 11] k (fun kq v7 v11 w' => ∃ (x7_1 : Int) (x11_1 : Int), v7 = .int .u64 x7_1 ∧ v11 = .int .i64 x11_1 ∧ Aside0 (poly_Eval.l0 kq a0 l1 a2 x7_1 (l1.length : Int) x11_1 = some r) ∧ Aside0 (kq ≤ k) ∧ Aside0 (Below w.heap.size w w'))
 case atStart => exact ⟨(0), (0), gb_, gb_, H', ⟨Nat.le_refl _⟩, ⟨bU_ HB.out⟩⟩
 case round =>
  clear H'
  (try clear c1); (try clear c2); (try clear p2)
  obtain ⟨x7_1, x11_1, rfl, rfl, HA, HK1, HB⟩ := hrel
  cases gk with
  | zero => exact absurd HA.out (by simp [poly_Eval.l0])
  | succ k1 =>
   have H := HA.out
   clear HA
   simp only [poly_Eval.l0] at H
   by_cases c4 : x11_1 < (l1.length : Int)
   ·rw [if_pos c4] at H
    have c4b0 := decide_eq_true c4
    clear c4
    revert H
    refine bd_ fun t701 A5 H => ?_
    obtain ⟨ji6, hji6⟩ : ∃ j_ : Int, (wrap64 ((wrap64 ((l1.length : Int) - 1)) - x11_1)) = j_ := ⟨_, rfl⟩
    first | rw [hji6] at H | simp only [hji6] at H
    (try rw [hji6] at A5)
    have hji6w : (IntKind.i64.wrap ((wrap64 ((l1.length : Int) - 1)) - x11_1)) = ji6 := (i64_w _).trans hji6
    obtain ⟨c7, H⟩ : (0 ≤ (ji6)) ∧ _ := it_ H
    have c7b0 := decide_eq_true c7
    clear c7
    obtain ⟨c8, H⟩ : ((ji6) < (l1.length : Int)) ∧ _ := it_ H
    have c8b0 := decide_eq_true c8
    clear c8
    revert H
    refine bd_ fun t703 A9 H => ?_
    have H' := ak H
    clear H
    try go_wp2
    refine nx1_ (below_drew1 HB.out) ?_
    clear HB
    intro HB
    have p702 : 0 ≤ ((ji6) : Int) := od_
    have q702 : (ji6) < (l1.length : Int) := od_
    obtain ⟨ad702, e702, hx702_0⟩ := Kd.at_int HR1.out (ji6) p702 q702
    have hw702_0 := hx702_0
    cases e702
    replace hx702_0 := (HB.out.cell (World.block_lt_of_cell? w _ hx702_0)).trans hx702_0
    replace p702 := eq_true p702
    replace q702 := eq_true q702
    refine start_ (n := 15) (S := fun w' => w'.cell? (ad702.add ((ji6)).toNat) = some (.int .u64 (rd l1 (ji6)))) (ds := []) (bv 15 0) (by kernel_rfl) rfl rfl (((HB.out.cell (World.block_lt_of_cell? w _ hw702_0)).trans hw702_0)) (fun hHeld => ?_); refine with_tabW poly_Eval.tab5 poly_Eval.bits5 (fun HT_ HW_ => ?_)
    generalize wr.drew = w10 at HB hx702_0 hHeld ⊢
    refine pq_ 0 14 15 1 HT_.out ?_
    refine pq_ 1 15 15 3 HT_.out ?_
    refine pq_ 2 16 15 7 HT_.out ?_
    refine pq_ 3 17 15 15 HT_.out ?_
    refine pq_ 5 19 15 47 HT_.out ?_
    refine pq_ 6 20 15 111 HT_.out ?_
    refine pq_ 7 21 15 239 HT_.out ?_
    refine pq_ 8 22 15 495 HT_.out ?_
    refine pq_ 9 23 15 1007 HT_.out ?_
    refine pq_ 10 24 15 2031 HT_.out ?_
    refine pq_ 11 25 15 4079 HT_.out ?_
    refine take_ (i := 12) (N := some 26) (v := ?_) (a' := ?_) (bv 15 8175) rfl rfl (take_ofW HT_.out HW_.out (by kernel_rfl)) (fun _ _ _ h => h) (Or.inl ⟨by rfl, ?_⟩) hHeld ?_ ?_
    rotate_left
    ·intro w' s0
     go_simp
     with_reducible rfl
    rotate_left
    ·simp only [Act.put, s1_, s2_, s3_, i64_w, i32_w]
     rfl
    refine oq_ 4 18 15 8191 HT_.out fun K hK => ?_
    refine gs_ Tryd.func37 #[.int .i64 a0, .int .u64 x7_1, .int .u64 a2] ?_
    with_reducible refine (field_Mul.calls a0 x7_1 a2 t701 _ ?side1 A5.out).mono ?_
    (case side1 => exact fU_ HG.out HB.out)
    rintro e w11 ⟨rfl, hb⟩
    refine ⟨_, rfl, ?_⟩
    refine nx1_ (below_step (bU_ HB.out) hb) ?_
    clear HB
    intro HB
    (try clear hb)
    (try clear hb2)
    (try clear hk)
    (try clear hi)
    refine hK.out _ _ (((HB.out.cell (World.block_lt_of_cell? w _ hw702_0)).trans hw702_0)) (fun hHeld => ?_)
    clear hK K
    refine norm_ (a' := ?_) ?_ ?_
    rotate_left
    ·show Act.put _ (some 18) _ = _
     simp only [Act.put, s1_, s2_, s3_, i64_w, i32_w]
     rfl
    refine oq_ 13 27 15 16383 HT_.out fun K hK => ?_
    refine goes_ Tryd.func25 (by kernel_rfl) rfl #[.int .i64 a0, .int .u64 t701, .int .u64 (rd l1 (ji6))] (by rfl) rfl rfl (by (try simp only [List.map_toArray, List.map_cons, List.map_nil]); first | done | (simp only [hji6]; rfl) | rfl | (simp only [List.length_drop, List.length_take]; rfl)) ?_
    with_reducible refine (field_Add.calls a0 t701 (rd l1 (ji6)) t703 _ ?side1 A9.out).mono ?_
    (case side1 => exact fU_ HG.out HB.out)
    rintro e w12 ⟨rfl, hb⟩
    refine ⟨_, rfl, ?_⟩
    refine nx1_ (below_step (bU_ HB.out) hb) ?_
    clear HB
    intro HB
    (try clear hb)
    (try clear hb2)
    (try clear hk)
    (try clear hi)
    refine hK.out _ _ (((HB.out.cell (World.block_lt_of_cell? w _ hw702_0)).trans hw702_0)) (fun hHeld => ?_)
    clear hK K
    refine norm_ (a' := ?_) ?_ ?_
    rotate_left
    ·show Act.put _ (some 27) _ = _
     simp only [Act.put, s1_, s2_, s3_, i64_w, i32_w]
     rfl
    refine pq_ 14 7 15 32767 HT_.out ?_
    refine done_ (done_of HT_.out (by kernel_rfl)) ?_
    try go_wp2
    go_roundg k1
    case measure => have := HK1.out; omega
    case rel => exact ⟨(t703), (wrap64 (x11_1 + 1)), gb_, gb_, H', ⟨by have := HK1.out; omega⟩, ⟨bU_ HB.out⟩⟩
   rw [if_neg c4] at H
   have c4b0 := decide_eq_false c4
   clear c4
   obtain rfl := Option.some.inj H
   go_wp2
   go_ret
   exact ⟨eW_, bU_ HB.out⟩

section
open Go.Shelf
attribute [local go_sem] Oper.semAt_some
theorem al_new_ (W : World) (o : Obj) (b : Nat) (h : W.heap.size = b) : (W.alloc o).heap[b]? = some o := by subst h; exact World.alloc_heap_new W o
theorem below_grown {W W' : World} (h : Below W.heap.size W W') : W.grownBy W' none := ⟨h.os, h.tape, h.output, h.size, fun k hk _ => h.block k hk⟩
theorem own_below {J : Nat → World → Prop} {W W' : World} {B i : Nat} (hJ : OwnFrom B J) (h : J i W) (hb : Below W.heap.size W W') : J i W' := hJ i W W' none h (below_grown hb) (fun r e => by cases e)
theorem gap_elements_calls (f : Int) (w : World) :
  Calls Tryd.prog 64 #[.int .i64 f] w fun e w' => e = .returned (.func (.func 110) #[] #[.pointer (some ⟨w.heap.size, 0, none⟩)]) ∧ w' = w.alloc (.cells #[.int .i64 f] 3) := by
 go_enter Tryd.func64, Tryd.ntmps64
 go_wp2
 go_ret
 exact ⟨rfl, rfl⟩
theorem el_get (p k : Nat) (h : k < ((List.range p).map fun x : Nat => (#[.int .u64 (x : Int)] : Array Value)).length) : ((List.range p).map fun x : Nat => (#[.int .u64 (x : Int)] : Array Value))[k] = #[.int .u64 (k : Int)] := by simp
set_option maxRecDepth 100000 in
set_option maxHeartbeats 2000000 in
theorem gap_elements_run (n : Nat) (hn : 1 ≤ n) (B : Nat) (f : Int) (p : Nat) (hp : field_P.f f = some (p : Int)) (hp32 : p ≤ 4294967296) (K : World → World → Prop) (w : World) (hG : Fld w) (hB : w.heap[B]? = some (.cells #[.int .i64 f] 3 (0, 0))) :
  SeqRunO Fence.wide n Tryd.prog 110 #[.pointer (some ⟨B, 0, none⟩)] ((List.range p).map fun x : Nat => (#[.int .u64 (x : Int)] : Array Value)) K w := by
 intro l J W hW hJo hY h0
 have hc : W.cell? ⟨B, 0, none⟩ = some (.int .i64 f) := (hW.cell (p := ⟨B, 0, none⟩) (Array.getElem?_eq_some_iff.1 hB).1).trans ((blk_cell hB 0).trans rfl)
 have HG := ak (Fld.below hG hW)
 have hlen : ((List.range p).map fun x : Nat => (#[.int .u64 (x : Int)] : Array Value)).length = p := by simp
 have hJ : Aside0 (J p = J ((List.range p).map fun x : Nat => (#[.int .u64 (x : Int)] : Array Value)).length) := ⟨by rw [hlen]⟩
 have HLEN := ak hlen
 have HP := ak hp
 have HO := ak hJo
 have H0 := ak h0
 clear hlen hp hJo h0 hG hB hW
 refine callsIn_of_wp Tryd.func110 rfl trivial ?_ rfl
 rw [← hJ.out]
 simp only [Tryd.ntmps110, List.size_toArray, List.length_cons, List.length_nil, Nat.reduceAdd, Nat.reduceSub, Array.replicate_succ, Array.replicate_zero, List.push_toArray, List.append_toArray, List.nil_append, List.cons_append]
 gi_wp2_with (refine ⟨trivial, ?_⟩; gi_at_call 47; refine (callsIn_wide.2 (field_P.calls f p _ HG.out HP.out)).mono ?_; rintro e w' ⟨rfl, hb⟩; have H1 := ak (own_below HO.out H0.out hb); clear hb H0)
 gi_loopw [6] (fun i wr => ∃ k : Nat, k ≤ p ∧ i = .int .u64 k ∧ J k wr) (fun i _ => p - (intOf i).toNat)
 case atStart => exact ⟨0, Nat.zero_le _, rfl, H1.out⟩
 case round =>
  obtain ⟨k, hk, rfl, hJs⟩ := hrel
  by_cases hlt : k < p
  ·have hlt3 : k < ((List.range p).map fun x : Nat => (#[.int .u64 (x : Int)] : Array Value)).length := by rw [HLEN.out]; exact hlt
   obtain ⟨fn, tmps, assign, body, hy', hR⟩ := hY k hlt3 wr hJs
   rw [el_get] at hy'
   clear hlt3
   gi_wp2
   refine hR.mono ?_
   rintro e W3 ⟨rfl, hJ3, hk3⟩
   gi_wp2
   go_roundw
   case rel => exact ⟨k + 1, by omega, by simp [IntKind.wrap_u64] <;> omega, hJ3⟩
   case measure => simp [intOf, IntKind.wrap_u64] <;> omega
  obtain rfl : k = p := by omega
  gi_wp2
  go_end0
  exact ⟨⟨_, rfl⟩, hJs⟩
end

section
open Go.Shelf
attribute [local go_sem] Oper.semAt_some
def gap_Roots.l0 (k : Nat) (f : Int) (p : List Int) : List Nat → Int → Option Int
 | [], n => some n
 | x :: xs, n => (poly_Eval.f k f p (x : Int)).bind fun t => gap_Roots.l0 k f p xs (if t = 0 then wrap64 (n + 1) else n)
def gap_Roots.f (k : Nat) (a0 : Int) (l1 : List Int) : Option (Int × Int) := (field_Valid.f a0).bind fun v => if v = true then (if a0 > 1 then some (0, 2) else (field_P.f a0).bind fun P => (gap_Roots.l0 k a0 l1 (List.range P.toNat) 0).bind fun n => some (n, 0)) else some (0, 1)
theorem gap_Roots.mono_l (f : Int) (p : List Int) (k : Nat) : ∀ xs n, LeO (gap_Roots.l0 k f p xs n) (gap_Roots.l0 (k + 1) f p xs n)
 | [], _ => LeO.refl _
 | x :: xs, n => by
  rw [gap_Roots.l0, gap_Roots.l0]
  exact LeO.bind (poly_Eval.mono _ _ _ _) fun _ => gap_Roots.mono_l f p k xs _
theorem gap_Roots.mono : ∀ a0 l1 k, LeO (gap_Roots.f k a0 l1) (gap_Roots.f (k + 1) a0 l1) := by
 intro a0 l1 k
 unfold gap_Roots.f
 exact LeO.bind (LeO.refl _) fun _ => LeO.ite (LeO.ite (LeO.refl _) (LeO.bind (LeO.refl _) fun _ => LeO.bind (gap_Roots.mono_l _ _ _ _ _) fun _ => LeO.refl _)) (LeO.refl _)
structure RB (k : Nat) (a0 : Int) (A1 : Option Addr) (c1 : Nat) (l1 : List Int) (r : Int) (w : World) (B : Nat) (xs : List Nat) (n : Int) (W : World) : Prop where
 on : gap_Roots.l0 k a0 l1 xs n = some r
 bf : W.heap[B]? = some (.cells #[.int .i64 a0] 3 (0, 0))
 bp : W.heap[B + 1]? = some (.cells #[.slice A1 l1.length c1] 35 (0, 0))
 bn : W.heap[B + 1 + 1]? = some (.cells #[.int .i64 n] 3 (0, 0))
 bel : Below w.heap.size w W
section
variable {k : Nat} {a0 : Int} {A1 : Option Addr} {c1 : Nat} {l1 : List Int} {r : Int} {w : World} {B : Nat} {xs : List Nat} {n : Int} {W W' : World}
theorem RB.below (h : RB k a0 A1 c1 l1 r w B xs n W) (hb : Below W.heap.size W W') : RB k a0 A1 c1 l1 r w B xs n W' := ⟨h.on, blk_below h.bf hb, blk_below h.bp hb, blk_below h.bn hb, below_step h.bel hb⟩
theorem RB.own (s : Nat) (hs : w.heap.size ≤ s) (F : Nat → List Nat) : OwnFrom s (fun (i : Nat) W => ∃ n, RB k a0 A1 c1 l1 r w B (F i) n W) := by
 rintro i X Y row ⟨n, h⟩ hg hr
 have hne : ∀ {b : Nat} {c : Array Value} {t : TypeId} {g : Nat × Nat}, X.heap[b]? = some (.cells c t g) → some b ≠ row := by
  intro b c t g hb e
  obtain ⟨_, o, ho, hc⟩ := hr b e.symm
  rw [hb] at ho
  cases ho
  simp [Obj.isCells] at hc
 exact ⟨n, h.on, blk_grown h.bf hg (hne h.bf), blk_grown h.bp hg (hne h.bp), blk_grown h.bn hg (hne h.bn), h.bel.grown hg h.bel.size fun b e => Nat.le_trans hs (hr b e).1⟩
end
set_option maxRecDepth 100000 in
set_option maxHeartbeats 4000000 in
theorem gap_Roots_main (k : Nat) (a0 : Int) (A1 : Option Addr) (c1 : Nat) (l1 : List Int) (r : Int) (w : World) (HG : Aside0 (Fld w)) (HR1 : Aside0 (Kd.C (Kd.int .u64) w A1 l1.length l1)) (hc1 : l1.length ≤ c1) (HV : Aside0 (field_Valid.f a0 = some true)) (ha : ¬ a0 > 1)
  (p : Nat) (HP : Aside0 (field_P.f a0 = some (p : Int))) (hp32 : p ≤ 4294967296) (HL : Aside0 (gap_Roots.l0 k a0 l1 (List.range p) 0 = some r)) :
  Calls Tryd.prog 18 #[.int .i64 a0, .slice A1 l1.length c1] w fun e w' => e = .returned (.tuple #[.int .i64 r, .int .i64 0]) ∧ Below w.heap.size w w' := by
 have h1 : 1 ≤ 9 := by decide
 have ha' : decide (1 < a0) = false := decide_eq_false ha
 refine (callsIn_wide (n := 9)).1 (callsIn_of_wp_marks Tryd.func18 rfl trivial ?_ rfl)
 simp only [Tryd.ntmps18, List.size_toArray, List.length_cons, List.length_nil, Nat.reduceAdd, Nat.reduceSub, Array.replicate_succ, Array.replicate_zero, List.push_toArray, List.append_toArray, List.nil_append, List.cons_append]
 gi_wp2_with (first | (refine ⟨trivial, ?_⟩; gi_at_call 43; refine (callsIn_wide.2 (field_Valid.calls a0 true _ HV.out)).mono ?_; rintro e w' ⟨rfl, ⟨nd, rfl⟩⟩) | (refine ⟨trivial, ?_⟩; gi_at_call 64; refine (callsIn_wide.2 (gap_elements_calls a0 _)).mono ?_; rintro e w' ⟨rfl, rfl⟩))
 obtain ⟨W0, hW0⟩ : ∃ W0, ((((w.alloc (.cells #[.int .i64 a0] 3)).alloc (.cells #[.slice A1 l1.length c1] 35)).drewN nd).alloc (.cells #[.int .i64 0] 3)).alloc (.cells #[.int .i64 a0] 3) = W0 := ⟨_, rfl⟩
 have hB0 : Below w.heap.size w W0 := by rw [← hW0]; exact below_alloc (below_alloc (pw_below_drewN (below_alloc (below_alloc (Below.refl _ _) _) _) nd) _) _
 have hsz : W0.heap.size = w.heap.size + 1 + 1 + 1 + 1 := by rw [← hW0]; simp
 have hbf : W0.heap[w.heap.size]? = some (.cells #[.int .i64 a0] 3 (0, 0)) := by rw [← hW0]; exact blk_alloc (blk_alloc (blk_drewN (blk_alloc (World.alloc_heap_new w _) _) nd) _) _
 have hbp : W0.heap[w.heap.size + 1]? = some (.cells #[.slice A1 l1.length c1] 35 (0, 0)) := by
  rw [← hW0]
  have := World.alloc_heap_new (w.alloc (.cells #[.int .i64 a0] 3)) (.cells #[.slice A1 l1.length c1] 35)
  rw [World.size_alloc] at this
  exact blk_alloc (blk_alloc (blk_drewN this nd) _) _
 have hbn : W0.heap[w.heap.size + 1 + 1]? = some (.cells #[.int .i64 0] 3 (0, 0)) := by
  rw [← hW0]
  refine blk_alloc (al_new_ _ _ _ ?_) _
  simp
 have hbe : W0.heap[w.heap.size + 1 + 1 + 1]? = some (.cells #[.int .i64 a0] 3 (0, 0)) := by
  rw [← hW0]
  refine al_new_ _ _ _ ?_
  simp
 rw [hW0]
 clear hW0
 refine wpIn_rangeSeqH (F := Fence.wide) (n := 9) rfl h1 (gf := 110) (lb := #[.pointer (some ⟨w.heap.size + 1 + 1 + 1, 0, none⟩)]) rfl trivial (enters_of Tryd.func110 (by kernel_rfl) rfl)
  (xs := (List.range p).map fun x : Nat => (#[.int .u64 (x : Int)] : Array Value)) (K := fun _ _ => True) (w0 := W0) (gap_elements_run (9 - 1) (by decide) (w.heap.size + 1 + 1 + 1) a0 p HP.out hp32 _ W0 (Fld.below HG.out hB0) hbe) (fun _ _ => trivial) (fun _ _ _ _ _ _ _ _ _ => trivial) (Below.refl _ _)
  (fun x hx => by obtain ⟨y, _, rfl⟩ := List.mem_map.1 hx; rfl) (fun i W' => ∃ n, RB k a0 A1 c1 l1 r w w.heap.size ((List.range p).drop i) n W') (RB.own _ (by omega) fun i => (List.range p).drop i) ⟨0, HL.out, hbf, hbp, hbn, hB0⟩
  (fun i a' _ => a' = { tmps := #[.int .i64 a0, .slice A1 l1.length c1, .pointer (some ⟨w.heap.size, 0, none⟩), .pointer (some ⟨w.heap.size + 1, 0, none⟩), .int .i64 0, .int .i64 0, .pointer (some ⟨w.heap.size + 1 + 1, 0, none⟩), .int .u64 (i : Int), .bool false, .int .i64 a0, .bool true, .bool false, .bool false, .int .i64 a0, .bool false, .int .i64 a0, .func (.func 110) #[] #[.pointer (some ⟨w.heap.size + 1 + 1 + 1, 0, none⟩)], .int .u64 (i : Int), undef, undef, undef, undef, undef, undef, undef, undef], defers := [] })
  (fun _ _ _ _ _ _ h _ _ => h) ?assign ?body ?done
 case assign =>
  intro l i hi W1 K' hI hK'
  rw [el_get]
  simp only [List.zip_toArray, List.zip_cons_cons, List.zip_nil_right, List.foldl_toArray, List.foldl_cons, List.foldl_nil, List.setIfInBounds_toArray, List.set_cons_zero, List.set_cons_succ]
  gi_wp2
  exact hK' _ _ (KeepsFrom.refl _ _) trivial hI rfl
 case body =>
  rintro l i a' W1 hi hl _ ⟨n, hB⟩ rfl
  have hip : i < p := by simpa using hi
  have on := hB.on
  rw [List.drop_eq_getElem_cons (by simpa using hip), List.getElem_range, gap_Roots.l0] at on
  obtain ⟨t, ht, on⟩ := Option.bind_eq_some_iff.1 on
  have hcf : W1.cell? ⟨w.heap.size, 0, none⟩ = some (.int .i64 a0) := (blk_cell hB.bf 0).trans rfl
  have hcp : W1.cell? ⟨w.heap.size + 1, 0, none⟩ = some (.slice A1 l1.length c1) := (blk_cell hB.bp 0).trans rfl
  have HB1 := ak hB
  have HT := ak ht
  have HF := ak (Fld.below HG.out hB.bel)
  have HRp := ak (C_below HR1.out hB.bel)
  have HON := ak on
  clear hB ht on hi
  by_cases h0 : t = 0
  ·subst h0
   gi_wp2_with (refine ⟨trivial, ?_⟩; gi_at_call 27; refine (CallsIn.inRound l (callsIn_wide.2 (poly_Eval.calls k a0 A1 c1 l1 (i : Int) 0 _ HF.out HRp.out hc1 HT.out))).mono ?_; rintro e w5 ⟨rfl, hb⟩; have HB5 := ak (HB1.out.below hb); have HK5 := ak hb; clear hb; have hcn : w5.cell? ⟨w.heap.size + 1 + 1, 0, none⟩ = some (.int .i64 n) := (blk_cell HB5.out.bn 0).trans rfl; have hfn := bkf9_ HB5.out.bn 0)
   refine ⟨keepsFrom_setAny (keepsFrom_of_below (KeepsFrom.refl _ _) HK5.out) HB5.out.bn 0 _, trivial, wrap64 (n + 1), HON.out, ?_, ?_, ?_, ?_⟩
   ·exact blk_far HB5.out.bf (p := ⟨w.heap.size + 1 + 1, 0, none⟩) (by show w.heap.size ≠ w.heap.size + 1 + 1; omega) _
   ·exact blk_far HB5.out.bp (p := ⟨w.heap.size + 1 + 1, 0, none⟩) (by show w.heap.size + 1 ≠ w.heap.size + 1 + 1; omega) _
   ·exact blk_put (cs := #[.int .i64 n]) HB5.out.bn 0 _ rfl
   exact below_set HB5.out.bel (by omega)
  have hd : decide (t = 0) = false := decide_eq_false h0
  have hb0 : (t == 0) = false := beq_eq_false_iff_ne.2 h0
  gi_wp2_with (refine ⟨trivial, ?_⟩; gi_at_call 27; refine (CallsIn.inRound l (callsIn_wide.2 (poly_Eval.calls k a0 A1 c1 l1 (i : Int) t _ HF.out HRp.out hc1 HT.out))).mono ?_; rintro e w5 ⟨rfl, hb⟩; have HB5 := ak (HB1.out.below hb); have HK5 := ak hb; clear hb)
  have on := HON.out
  rw [if_neg h0] at on
  exact ⟨keepsFrom_of_below (KeepsFrom.refl _ _) HK5.out, trivial, n, on, HB5.out.bf, HB5.out.bp, HB5.out.bn, HB5.out.bel⟩
 case done =>
  rintro D W1 hD ⟨n, hB⟩ hK
  have on := hB.on
  rw [List.length_map, List.length_range, List.drop_of_length_le (by simp)] at on
  obtain rfl : n = r := Option.some.inj on
  have hcn : W1.cell? ⟨w.heap.size + 1 + 1, 0, none⟩ = some (.int .i64 n) := (blk_cell hB.bn 0).trans rfl
  gi_wp2
  refine ⟨by simp, .inl ⟨_, _, rfl, run_takeDeferred hK, ?_⟩⟩
  refine ⟨_, results_tmp2 rfl _ _ _, rfl, ?_⟩
  exact hB.bel.grown (grownBy_putObj' W1 D _) hB.bel.size (fun b e => by cases e; omega)
theorem gap_Roots.calls (k : Nat) (a0 : Int) (A1 : Option Addr) (c1 : Nat) (l1 : List Int) (r1 : Int) (r2 : Int) (w : World) (hG : Fld w) (hr1 : Kd.C (Kd.int .u64) w A1 l1.length l1) (hc1 : l1.length ≤ c1) (h : gap_Roots.f k a0 l1 = some (r1, r2)) :
  Calls Tryd.prog 18 #[.int .i64 a0, .slice A1 l1.length c1] w fun e w' => e = .returned (.tuple #[.int .i64 r1, .int .i64 r2]) ∧ Below w.heap.size w w' := by
 have HG := ak hG
 have HR1 := ak hr1
 clear hG hr1
 unfold gap_Roots.f at h
 obtain ⟨v, hv, h⟩ := Option.bind_eq_some_iff.1 h
 have HV := ak hv
 clear hv
 by_cases c0 : v = true
 ·subst c0
  rw [if_pos rfl] at h
  by_cases c1' : a0 > 1
  ·rw [if_pos c1'] at h
   simp only [Option.some.injEq, Prod.mk.injEq] at h
   obtain ⟨rfl, rfl⟩ := h
   have hd : decide (1 < a0) = true := decide_eq_true c1'
   go_enter Tryd.func18, Tryd.ntmps18
   go_wp2_with (go_at_call 43; refine (field_Valid.calls a0 true _ HV.out).mono ?_; rintro e w' ⟨rfl, ⟨nd, rfl⟩⟩)
   go_ret2
   exact ⟨rfl, pw_below_drewN (below_alloc (below_alloc (Below.refl _ _) _) _) nd⟩
  rw [if_neg c1'] at h
  obtain ⟨P, hP, h⟩ := Option.bind_eq_some_iff.1 h
  obtain ⟨n, hn, h⟩ := Option.bind_eq_some_iff.1 h
  simp only [Option.some.injEq, Prod.mk.injEq] at h
  obtain ⟨rfl, rfl⟩ := h
  have hq : P = pOf a0 := by simpa [field_P.f] using hP.symm
  have hp0 : 0 ≤ P ∧ P ≤ 4294967296 := by
   rw [hq]
   unfold pOf
   repeat' split
   all_goals omega
  have ep : ((P.toNat : Nat) : Int) = P := Int.toNat_of_nonneg hp0.1
  exact gap_Roots_main k a0 A1 c1 l1 n w HG HR1 hc1 HV c1' P.toNat ⟨by rw [ep]; exact hP⟩ (by omega) ⟨hn⟩
 rw [if_neg c0] at h
 simp only [Option.some.injEq, Prod.mk.injEq] at h
 obtain ⟨rfl, rfl⟩ := h
 obtain rfl : v = false := by simpa using c0
 go_enter Tryd.func18, Tryd.ntmps18
 go_wp2_with (go_at_call 43; refine (field_Valid.calls a0 false _ HV.out).mono ?_; rintro e w' ⟨rfl, ⟨nd, rfl⟩⟩)
 go_ret2
 exact ⟨rfl, pw_below_drewN (below_alloc (below_alloc (Below.refl _ _) _) _) nd⟩
end


def sRvB_.l0 : Nat → List Int → Int → Int → Option (List Int)
 | 0, _, _, _ => none
 | k + 1, x0, x2, x3 => if x2 < x3 then (if 0 ≤ x3 then (if x3 < (x0.length : Int) then (if 0 ≤ x2 then (if x2 < (x0.length : Int) then (sRvB_.l0 k ((x0.set (x2 : Int).toNat (rd x0 x3)).set (x3 : Int).toNat (rd x0 x2)) (wrap64 (x2 + 1)) (wrap64 (x3 - 1))) else (none)) else (none)) else (none)) else (none)) else (some x0)
def sRvB_.f (k : Nat) (l0 : List Int) : Option (List Int) := sRvB_.l0 k l0 0 (wrap64 ((l0.length : Int) - 1))
theorem sRvB_.mono_l : ∀ k, (∀ y0 y1 y2, LeO (sRvB_.l0 k y0 y1 y2) (sRvB_.l0 (k + 1) y0 y1 y2))
 | 0 => fun _ _ _ r h => by simp [sRvB_.l0] at h
 | k + 1 => by
  have ih0 := sRvB_.mono_l k
  ·intro y0 y1 y2
   unfold sRvB_.l0
   with_reducible repeat' first | apply ih0 | exact LeO.refl _ | exact LeO.none _ | refine LeO.ite ?_ ?_ | refine LeO.bind ?_ (fun _ => ?_)
theorem sRvB_.mono : ∀ a0 k, LeO (sRvB_.f k a0) (sRvB_.f (k + 1) a0) := by
 intro a0 k
 have ih0 := sRvB_.mono_l k
 unfold sRvB_.f
 with_reducible repeat' first | apply ih0 | exact LeO.refl _ | exact LeO.none _ | refine LeO.ite ?_ ?_ | refine LeO.bind ?_ (fun _ => ?_)
def sRvB_.T3 : Bool × List (List Nat × List Nat) := (true, [([], []), ([], []), ([], []), ([], []), ([], []), ([], []), ([4, 5], [4, 5]), ([6], [6]), ([], []), ([], []), ([8, 9], [8, 9]), ([10], [10]), ([0, 1, 0, 1, 4, 5, 6, 7, 11], [0, 1]), ([12, 7, 0, 1, 4, 5, 6, 7, 11], [7, 12]), ([2, 3, 0, 1, 2, 3, 4, 5, 6, 7, 8, 9, 10, 11, 12, 13], [2, 3]), ([14, 11, 13, 0, 1, 2, 3, 4, 5, 6, 7, 8, 9, 10, 11, 12, 13], [11, 14])])
def sRvB_.B3 : List Nat := [0, 0, 0, 0, 0, 0, 48, 112, 0, 0, 768, 1792, 4083, 8179, 16383, 32767]
theorem sRvB_.tab3 : rtab .any (opsOf Tryd.f150 3) = sRvB_.T3 := by kernel_rfl
theorem sRvB_.bits3 : waitsOk sRvB_.T3.2 sRvB_.B3 = true := by kernel_rfl
set_option maxHeartbeats 8000000 in
set_option maxRecDepth 100000 in
theorem sRvB_.calls (k : Nat) (P0_ : Nat → Prop) (u9000_ : Value) (l0 : List Int) (r : List Int) (w0 w : World) (hB : Below w0.heap.size w0 w) (ho0 : Kd.R (Kd.int .u8) 5 w w0.heap.size P0_ u9000_ l0) (h : sRvB_.f k l0 = some r) :
  Calls Tryd.prog 150 #[u9000_] w fun e w' => e = .returned (.tuple #[]) ∧ Kd.R (Kd.int .u8) 5 w' w0.heap.size (fun k_ => (P0_ k_ ∨ w.heap.size ≤ k_)) u9000_ r ∧ Below w0.heap.size w0 w' ∧ Kept w w' (fun k_ => P0_ k_) := by
 have HO0 := ak (show Kd.R (Kd.int .u8) 5 w w0.heap.size (fun k_ => (P0_ k_ ∨ w.heap.size ≤ k_)) u9000_ l0 from R_mono ho0 (fun k_ hk => (.inl hk)))
 have HK := ak (Kept.refl w (fun k_ => P0_ k_))
 have HW0 := ak hB.size
 have HB := ak hB
 clear hB
 have H : (sRvB_.l0 k l0 0 (wrap64 ((l0.length : Int) - 1))) = some r := h
 clear h
 have H' := ak H
 clear H
 obtain ⟨Ao2, co2, eo2⟩ := R_slice HO0.out
 subst eo2
 go_enter Tryd.func150, Tryd.ntmps150
 go_wp2
 go_loopg [2, 3] k (fun kq v2 v3 w' => ∃ (x0_1 : List Int) (x2_1 : Int) (x3_1 : Int), v2 = .int .i64 x2_1 ∧ v3 = .int .i64 x3_1 ∧ Aside0 (sRvB_.l0 kq x0_1 x2_1 x3_1 = some r) ∧ Aside0 (kq ≤ k) ∧ Aside0 (Kd.R (Kd.int .u8) 5 w' w0.heap.size (fun k_ => (P0_ k_ ∨ w.heap.size ≤ k_)) (.slice Ao2 l0.length co2) x0_1) ∧ Aside0 (Kept w w' (fun k_ => P0_ k_)) ∧ Aside0 (Below w0.heap.size w0 w'))
 case atStart => exact ⟨(l0), (0), (wrap64 ((l0.length : Int) - 1)), gb_, gb_, H', ⟨Nat.le_refl _⟩, ⟨rU_ HO0.out⟩, ⟨kK_⟩, ⟨bU_ HB.out⟩⟩
 case round =>
  clear H'
  (try clear c1); (try clear p2)
  obtain ⟨x0_1, x2_1, x3_1, rfl, rfl, HA, HK1, HO_0, HK, HB⟩ := hrel
  have hl0_1 := (R_reads' HO_0.out).1
  rw [hl0_1] at HO_0
  (try simp only [hl0_1])
  cases gk with
  | zero => exact absurd HA.out (by simp [sRvB_.l0])
  | succ k1 =>
   have H := HA.out
   clear HA
   simp only [sRvB_.l0] at H
   by_cases c3 : x2_1 < x3_1
   ·rw [if_pos c3] at H
    have c3b0 := decide_eq_true c3
    clear c3
    obtain ⟨c4, H⟩ : (0 ≤ x3_1) ∧ _ := it_ H
    have c4b0 := decide_eq_true c4
    clear c4
    obtain ⟨c5, H⟩ : (x3_1 < (x0_1.length : Int)) ∧ _ := it_ H
    have c5b0 := decide_eq_true c5
    clear c5
    obtain ⟨c6, H⟩ : (0 ≤ x2_1) ∧ _ := it_ H
    have c6b0 := decide_eq_true c6
    clear c6
    obtain ⟨c7, H⟩ : (x2_1 < (x0_1.length : Int)) ∧ _ := it_ H
    have c7b0 := decide_eq_true c7
    clear c7
    obtain ⟨y706, hy706⟩ : ∃ y_ : List Int, y_ = (x0_1.set (x2_1 : Int).toNat (rd x0_1 x3_1)) := ⟨_, rfl⟩
    first | rw [Option.bind_some, ← hy706] at H | rw [← hy706] at H
    have Ny706 := ak hy706
    clear hy706
    obtain ⟨y707, hy707⟩ : ∃ y_ : List Int, y_ = (y706.set (x3_1 : Int).toNat (rd x0_1 x2_1)) := ⟨_, rfl⟩
    first | rw [Option.bind_some, ← hy707] at H | rw [← hy707] at H
    have Ny707 := ak hy707
    clear hy707
    have H' := ak H
    clear H
    try go_wp2
    refine nx3_ (R_drew HO_0.out) (Kept.drew HK.out) (below_drew1 HB.out) ?_
    clear HO_0 HK HB
    intro HO_0 HK HB
    have pfr11 : 0 ≤ (x3_1 : Int) := od_
    have qfr11 : (x3_1 : Int) < ((x0_1.length : Int) : Int) := od_
    obtain ⟨gofr11, cofr11, eofr11, gbfr11, glfr11, clfr11, HGfr11⟩ := Kd.R_form HO_0.out (by omega)
    (first | cases eofr11 | (injection eofr11 with ea_ en_ ec_; (first | subst ea_ | (injection ea_ with ea_; subst ea_)); subst ec_; clear en_))
    have GBfr11 := ak gbfr11
    have GGfr11 := ak HGfr11
    clear gbfr11 glfr11 HGfr11
    have HMgofr11 := ak (show (P0_ gofr11 ∨ w.heap.size ≤ gofr11) from (HO_0.out.1 _ rfl))
    clear pfr11 qfr11
    have p704 : 0 ≤ (x3_1 : Int) := od_
    have q704 : x3_1 < (x0_1.length : Int) := od_
    obtain ⟨ad704, e704, hx704_0⟩ := Kd.at_int (R_reads' HO_0.out).2.2 x3_1 p704 q704
    obtain rfl : (⟨gofr11, 0, none⟩ : Addr) = ad704 := (by injection e704)
    (first | simp only [add_plain] at hx704_0 | simp only [add_at] at hx704_0 | simp only [Addr.add, Nat.zero_add] at hx704_0 | skip)
    replace p704 := eq_true p704
    replace q704 := eq_true q704
    have p705 : 0 ≤ (x2_1 : Int) := od_
    have q705 : x2_1 < (x0_1.length : Int) := od_
    obtain ⟨ad705, e705, hx705_0⟩ := Kd.at_int (R_reads' HO_0.out).2.2 x2_1 p705 q705
    obtain rfl : (⟨gofr11, 0, none⟩ : Addr) = ad705 := (by injection e705)
    (first | simp only [add_plain] at hx705_0 | simp only [add_at] at hx705_0 | simp only [Addr.add, Nat.zero_add] at hx705_0 | skip)
    replace p705 := eq_true p705
    replace q705 := eq_true q705
    have p8 : 0 ≤ (x2_1 : Int) := od_
    have q8 : (x2_1 : Int) < ((x0_1.length : Int) : Int) := od_
    obtain ⟨hx8_0, hf8_0⟩ := Kd.R_celln 0 HO_0.out (x2_1 : Int) p8 q8
    replace p8 := eq_true p8
    replace q8 := eq_true q8
    have HP12 := Kd.R_putn HO_0.out (x2_1 : Int) (rd x0_1 x3_1)
    rw [← Ny706.out] at HP12
    have HQ12 := ak HP12
    clear HP12
    have p9 : 0 ≤ (x3_1 : Int) := od_
    have q9 : (x3_1 : Int) < ((x0_1.length : Int) : Int) := od_
    obtain ⟨hx9_0, hf9_0⟩ := Kd.R_celln 0 HQ12.out (x3_1 : Int) p9 q9
    replace p9 := eq_true p9
    replace q9 := eq_true q9
    have HP13 := Kd.R_putn HQ12.out (x3_1 : Int) (rd x0_1 x2_1)
    rw [← Ny707.out] at HP13
    have HQ13 := ak HP13
    clear HP13
    refine start_ (n := 16) (S := fun w' => w'.cell? ⟨gofr11, (x3_1).toNat, none⟩ = some (.int .u8 (rd x0_1 x3_1)) ∧ w'.cell? ⟨gofr11, (x2_1).toNat, none⟩ = some (.int .u8 (rd x0_1 x2_1))) (ds := [13, 15]) (bv 16 0) (by kernel_rfl) rfl rfl ⟨hx704_0, hx705_0⟩ (fun hHeld => ?_); refine with_tabW sRvB_.tab3 sRvB_.bits3 (fun HT_ HW_ => ?_)
    generalize wr.drew = w10 at HO_0 HK HB HQ12 HQ13 hf8_0 hf9_0 hx704_0 hx705_0 hx8_0 hx9_0 hHeld ⊢
    refine pq_ 0 14 16 1 HT_.out ?_
    refine pq_ 1 15 16 3 HT_.out ?_
    refine pq_ 2 16 16 7 HT_.out ?_
    refine pq_ 3 17 16 15 HT_.out ?_
    refine pq_ 4 18 16 31 HT_.out ?_
    refine pq_ 5 19 16 63 HT_.out ?_
    refine pq_ 6 20 16 127 HT_.out ?_
    refine pq_ 8 22 16 383 HT_.out ?_
    refine pq_ 9 23 16 895 HT_.out ?_
    refine pq_ 10 24 16 1919 HT_.out ?_
    refine tq_ 7 21 16 2047 HT_.out HW_.out hHeld ?_
    refine tq_ 11 25 16 4095 HT_.out HW_.out hHeld ?_
    refine pq_ 12 26 16 8191 HT_.out ?_
    refine last_ (i := 13) (N := none) #[true, true, true, true, true, true, true, true, true, true, true, true, true, true, false, false] rfl rfl (one_of HT_.out (by kernel_rfl)) (by decide) (fun K hK => ?_)
    refine skip_ (w1 := ?_) (by rfl) rfl ?_ ?_
    rotate_left
    ·go_simp
     rfl
    refine hK.out _ _ ?_
    clear hK K
    refine pq_ 14 27 16 32767 HT_.out ?_
    refine last_ (i := 15) (N := none) #[true, true, true, true, true, true, true, true, true, true, true, true, true, true, true, true] rfl rfl (one_of HT_.out (by kernel_rfl)) (by decide) (fun K hK => ?_)
    refine skip_ (w1 := ?_) (by rfl) rfl ?_ ?_
    rotate_left
    ·go_simp
     rfl
    refine hK.out _ _ ?_
    clear hK K
    refine done_ (done_of HT_.out (by kernel_rfl)) ?_
    try go_wp2
    (try simp only [← hl0_1])
    go_roundg k1
    case measure => have := HK1.out; omega
    case rel => exact ⟨(y707), (wrap64 (x2_1 + 1)), (wrap64 (x3_1 - 1)), gb_, gb_, H', ⟨by have := HK1.out; omega⟩, ⟨by (try simp only [hl0_1]); (with_reducible repeat (first | apply Kd.R_alloc | apply Kd.R_drewN | apply R_drew)); exact HQ13.out⟩, ⟨by repeat (first | (with_reducible first | exact HK.out | apply Kept.alloc | apply Kept.drewN | apply Kept.drew | refine Kept.setCell ?_ HMgofr11.out _ | refine Kept.setCell ?_ HMgofr11.out _) | exact HK.out)⟩, ⟨sU_⟩⟩
   rw [if_neg c3] at H
   have c3b0 := decide_eq_false c3
   clear c3
   obtain rfl := Option.some.inj H
   go_wp2
   first | go_end0 | ((try simp only [Exit.inBlock, Exit.then]); refine bodyPost_ret (results_none rfl _ _ _) rfl ?_)
   exact ⟨eW_, (by first | exact (rU_ HO_0.out) | (simp only [hl0_1]; exact (rU_ HO_0.out))), bU_ HB.out, kK_⟩

theorem infoTx_ : (Tryd.prog.info? 5).map (fun i => (i.zero, i.size, i.bytes)) = some (some (.int .u8 0), 1, 1) := by kernel_rfl
theorem tbk_lt {w : World} {B : Nat} {o : Obj} (h : w.heap[B]? = some o) : B < w.heap.size := (Array.getElem?_eq_some_iff.1 h).1
theorem tbk_ {w w1 : World} {B : Nat} {o : Obj} (h : w.heap[B]? = some o) (hb : Below w.heap.size w w1) : w1.heap[B]? = some o := (hb.block B (tbk_lt h)).trans h
theorem tbkU_ {W W' : World} {B : Nat} {o : Obj} [h : Up W W'] (g : W.heap[B]? = some o) : W'.heap[B]? = some o := tbk_ g h.bel
theorem keptU_ {w W W' : World} {S : Nat → Prop} [h : Up W W'] (g : Kept w W S) : Kept w W' S := g.below h.bel
theorem tkept_ {w W W6 : World} {B : Nat} {v0 v1 : Value} (hg : W.grownBy W6 v1.ownBlock) (hk : Kept w W (fun k_ => k_ = B ∨ some k_ = v0.ownBlock)) (ho : v1.ownBlock = v0.ownBlock ∨ ∃ b, v1.ownBlock = some b ∧ w.heap.size ≤ b) : Kept w W6 (fun k_ => k_ = B ∨ some k_ = v0.ownBlock) :=
 Kept.of_grown hg hk (fun k_ e_ => by
  rcases ho with q | ⟨b, q, hb_⟩
  ·exact .inl (.inr (by rw [← q]; exact e_.symm))
  rw [q] at e_
  injection e_ with e_
  exact .inr (by omega))
theorem town_ {w W : World} {v0 v1 v2 : Value} (ho : v1.ownBlock = v0.ownBlock ∨ ∃ b, v1.ownBlock = some b ∧ w.heap.size ≤ b) (hs : w.heap.size ≤ W.heap.size) (hat : v2.ownBlock = v1.ownBlock ∨ ∃ b, v2.ownBlock = some b ∧ W.heap.size ≤ b) : v2.ownBlock = v0.ownBlock ∨ ∃ b, v2.ownBlock = some b ∧ w.heap.size ≤ b := by
 rcases hat with q | ⟨b, q, hb_⟩
 ·rw [q]
  exact ho
 exact .inr ⟨b, q, Nat.le_trans hs hb_⟩
theorem tne_ {W : World} {k : Nat} {v3 v4 : Value} (ho : v4.ownBlock = v3.ownBlock ∨ ∃ b, v4.ownBlock = some b ∧ W.heap.size ≤ b) (h1 : some k ≠ v3.ownBlock) (h2 : k < W.heap.size) : some k ≠ v4.ownBlock := by
 intro e_
 rcases ho with q | ⟨b, q, hb_⟩
 ·exact h1 (by rw [← q]; exact e_)
 rw [q] at e_
 injection e_ with e_
 omega
theorem tset_ {w : World} {B : Nat} {v : Value} {t : TypeId} (u : Value) (h : w.heap[B]? = some (.cells #[v] t (0, 0))) : (w.setCell ⟨B, 0, none⟩ u).heap[B]? = some (.cells #[u] t (0, 0)) := by
 simp [World.setCell, Array.getElem?_modify, h]
theorem tset_grown {w : World} {B : Nat} (u : Value) : w.grownBy (w.setCell ⟨B, 0, none⟩ u) (some B) :=
 ⟨rfl, rfl, rfl, by simp [World.setCell], fun k _ hn => by
  have : B ≠ k := fun e => hn (by rw [e])
  simp [World.setCell, Array.getElem?_modify, this]⟩
def ratio_Text_1.l0 : Nat → Int → Int → List Int → Option (List Int)
 | 0, _, _, _ => none
 | k + 1, n, m, l => if 0 < n ∨ 0 < m then (if l.length < 140737488355328 then ratio_Text_1.l0 k (Int.tdiv n 10 % 4294967296) (wrap64 (m - 1)) (l ++ [(48 + Int.tmod n 10) % 256]) else none) else some l
theorem ratio_Text_1.mono : ∀ k n m l, LeO (ratio_Text_1.l0 k n m l) (ratio_Text_1.l0 (k + 1) n m l)
 | 0, _, _, _ => fun r h => by simp [ratio_Text_1.l0] at h
 | k + 1, n, m, l => by
  rw [ratio_Text_1.l0, ratio_Text_1.l0]
  exact LeO.ite (LeO.ite (ratio_Text_1.mono _ _ _ _) (LeO.refl _)) (LeO.refl _)
set_option maxHeartbeats 8000000 in
set_option maxRecDepth 100000 in
theorem ratio_Text_1.calls (k : Nat) (a0 a1 : Int) (B : Nat) (v0 : Value) (l r : List Int) (w0 w : World) (hB : Below w0.heap.size w0 w) (hb0 : w0.heap.size ≤ B) (hbk : w.heap[B]? = some (.cells #[v0] 96 (0, 0))) (hr : Kd.R (Kd.int .u8) 5 w w0.heap.size (fun k_ => (w0.heap.size ≤ k_) ∧ k_ ≠ B) v0 l) (h : ratio_Text_1.l0 k a0 a1 l = some r) :
  Calls Tryd.prog 149 #[.int .u32 a0, .int .i64 a1, .pointer (some ⟨B, 0, none⟩)] w fun e w' => ∃ v1 : Value, e = .returned (.tuple #[]) ∧ w'.heap[B]? = some (.cells #[v1] 96 (0, 0)) ∧ Kd.R (Kd.int .u8) 5 w' w0.heap.size (fun k_ => (w0.heap.size ≤ k_) ∧ k_ ≠ B) v1 r ∧ (v1.ownBlock = v0.ownBlock ∨ ∃ b, v1.ownBlock = some b ∧ w.heap.size ≤ b) ∧ Below w0.heap.size w0 w' ∧ Kept w w' (fun k_ => k_ = B ∨ some k_ = v0.ownBlock) := by
 have HB := ak hB
 have BK := ak hbk
 have HR := ak hr
 have H' := ak h
 have HK := ak (Kept.refl w (fun k_ => k_ = B ∨ some k_ = v0.ownBlock))
 have BL := ak hb0
 clear hB hbk hr h hb0
 go_enter Tryd.func149, Tryd.ntmps149
 go_wp2
 go_loopg [0, 1] k (fun kq v0_ v1_ w' => ∃ (n m : Int) (l1 : List Int) (v1 : Value), v0_ = .int .u32 n ∧ v1_ = .int .i64 m ∧ Aside0 (ratio_Text_1.l0 kq n m l1 = some r) ∧ Aside0 (kq ≤ k) ∧ Aside0 (w'.heap[B]? = some (.cells #[v1] 96 (0, 0))) ∧ Aside0 (Kd.R (Kd.int .u8) 5 w' w0.heap.size (fun k_ => (w0.heap.size ≤ k_) ∧ k_ ≠ B) v1 l1) ∧ Aside0 (v1.ownBlock = v0.ownBlock ∨ ∃ b, v1.ownBlock = some b ∧ w.heap.size ≤ b) ∧ Aside0 (Kept w w' (fun k_ => k_ = B ∨ some k_ = v0.ownBlock)) ∧ Aside0 (Below w0.heap.size w0 w'))
 case atStart => exact ⟨a0, a1, l, v0, rfl, rfl, H', ⟨Nat.le_refl _⟩, BK, HR, ⟨Or.inl rfl⟩, HK, HB⟩
 case round =>
  clear H' HB BK HR HK
  obtain ⟨n, m, l1, v1, rfl, rfl, HA, HK1, BK, HR, HO, HK, HB⟩ := hrel
  cases gk with
  | zero => exact absurd HA.out (by simp [ratio_Text_1.l0])
  | succ k1 =>
   have H := HA.out
   clear HA
   rw [ratio_Text_1.l0] at H
   obtain ⟨Av, cv, ev⟩ := R_slice HR.out
   subst ev
   have hczwr := bc0_ BK.out
   have hfzwr := bkf9_ BK.out 0
   by_cases c : 0 < n ∨ 0 < m
   ·rw [if_pos c] at H
    obtain ⟨c5, H⟩ := it_ H
    have LM := ak c5
    have HX := ak H
    clear H c5
    obtain ⟨y, hy⟩ : ∃ y : List Int, y = l1 ++ [(48 + Int.tmod n 10) % 256] := ⟨_, rfl⟩
    rw [← hy] at HX
    have NY := ak hy
    clear hy
    have hne : ¬ some B = (Value.slice Av l1.length cv).ownBlock := fun e => (HR.out.1 B e.symm).2 rfl
    have HNE := ak hne
    clear hne
    by_cases c1 : 0 < n
    ·have c1b : decide (0 < n) = true := decide_eq_true c1
     clear c c1
     go_wp2_with (first | ((with_reducible refine gate_builtin (b := .append) (xs := #[.tmp 13, .tmp 18]) rfl ?_); at_builtin; refine Kd.R_append (Kd.int .u8) (w0 := w0) w0.heap.size rfl (.tmp 13) (.tmp 18) 96 5 (.int .u8 0) 1 rfl Tryd.underlying96 infoTx_ rfl (by decide) (by omega) (.slice Av l1.length cv) l1 ((48 + (Int.tmod n 10)) % 256) [.int .u8 ((48 + (Int.tmod n 10)) % 256)] (fun k_ => (w0.heap.size ≤ k_) ∧ k_ ≠ B) (fun _ => False) rfl rfl ?aP (fun _ hk => hk.elim) ?aF ?aO ?aB ?aS ?aL ?_; (case aP => exact rfl); (case aB => exact bU_ HB.out); (case aF => exact (fun k_ hk => ⟨Nat.le_trans (below_size (bU_ HB.out)) hk, fun e_ => by subst e_; exact absurd hk (Nat.not_le.2 (tbk_lt (tbkU_ BK.out)))⟩)); (case aO => exact rU_ HR.out); (case aS => exact below_size (bU_ HB.out)); (case aL => have := LM.out; omega); intro v2 w6 ho hb hg hat; rw [← NY.out] at ho; have BK2 := ak ((hg.block B (tbk_lt (tbkU_ BK.out)) HNE.out).trans (tbkU_ BK.out)); have HK2 := ak (tkept_ hg (keptU_ HK.out) HO.out); have HO2 := ak (town_ HO.out (keptU_ HK.out).1 hat); have HR2 := ak ho; have HB2 := ak hb; clear ho hb hg hat HR HB BK HK HO hczwr hfzwr; obtain ⟨Aw, cw, ew⟩ := R_slice HR2.out; subst ew; have hczw6 := bc0_ BK2.out; have hfzw6 := bkf9_ BK2.out 0) | ((with_reducible refine gate_store (t := 96) (p := 2) rfl ?_); refine store_event (t := 96) (p := 2) (v := ?vo_w7) (w1 := (w6.setCell ⟨B, 0, none⟩ (.slice Aw y.length cw))) ?hg ?ho ?hn ?hr ?_; (case ho => rfl); (case hg => rfl); (case hn => rfl); (case hr => first | (go_simp; done) | (go_simp; rfl)); intro w7 hw; subst hw; have hg := tset_grown (w := w6) (B := B) (.slice Aw y.length cw); have BK := ak (tset_ (.slice Aw y.length cw) BK2.out); have HR := ak (Kd.R_grown HR2.out hg (fun k_ hk_ e_ => hk_.2 (Option.some.inj e_))); have HK := ak (Kept.of_grown (S := (fun k_ => k_ = B ∨ some k_ = v0.ownBlock)) hg HK2.out (fun k_ e_ => .inl (.inl (Option.some.inj e_).symm))); have HB := ak (below_set HB2.out BL.out : Below w0.heap.size w0 (w6.setCell ⟨B, 0, none⟩ (.slice Aw y.length cw))); have HO := HO2; clear hg BK2 HR2 HK2 HB2 HO2 hczw6 hfzw6; generalize w6.setCell ⟨B, 0, none⟩ (.slice Aw y.length cw) = w8 at *))
     go_roundg k1
     case measure => have := HK1.out; omega
     case rel => exact ⟨_, _, y, _, rfl, rfl, HX, ⟨by have := HK1.out; omega⟩, BK, HR, HO, HK, HB⟩
    have c1b : decide (0 < n) = false := decide_eq_false c1
    have c2b : decide (0 < m) = true := decide_eq_true (c.resolve_left c1)
    clear c c1
    go_wp2_with (first | ((with_reducible refine gate_builtin (b := .append) (xs := #[.tmp 13, .tmp 18]) rfl ?_); at_builtin; refine Kd.R_append (Kd.int .u8) (w0 := w0) w0.heap.size rfl (.tmp 13) (.tmp 18) 96 5 (.int .u8 0) 1 rfl Tryd.underlying96 infoTx_ rfl (by decide) (by omega) (.slice Av l1.length cv) l1 ((48 + (Int.tmod n 10)) % 256) [.int .u8 ((48 + (Int.tmod n 10)) % 256)] (fun k_ => (w0.heap.size ≤ k_) ∧ k_ ≠ B) (fun _ => False) rfl rfl ?aP (fun _ hk => hk.elim) ?aF ?aO ?aB ?aS ?aL ?_; (case aP => exact rfl); (case aB => exact bU_ HB.out); (case aF => exact (fun k_ hk => ⟨Nat.le_trans (below_size (bU_ HB.out)) hk, fun e_ => by subst e_; exact absurd hk (Nat.not_le.2 (tbk_lt (tbkU_ BK.out)))⟩)); (case aO => exact rU_ HR.out); (case aS => exact below_size (bU_ HB.out)); (case aL => have := LM.out; omega); intro v2 w6 ho hb hg hat; rw [← NY.out] at ho; have BK2 := ak ((hg.block B (tbk_lt (tbkU_ BK.out)) HNE.out).trans (tbkU_ BK.out)); have HK2 := ak (tkept_ hg (keptU_ HK.out) HO.out); have HO2 := ak (town_ HO.out (keptU_ HK.out).1 hat); have HR2 := ak ho; have HB2 := ak hb; clear ho hb hg hat HR HB BK HK HO hczwr hfzwr; obtain ⟨Aw, cw, ew⟩ := R_slice HR2.out; subst ew; have hczw6 := bc0_ BK2.out; have hfzw6 := bkf9_ BK2.out 0) | ((with_reducible refine gate_store (t := 96) (p := 2) rfl ?_); refine store_event (t := 96) (p := 2) (v := ?vo_w7) (w1 := (w6.setCell ⟨B, 0, none⟩ (.slice Aw y.length cw))) ?hg ?ho ?hn ?hr ?_; (case ho => rfl); (case hg => rfl); (case hn => rfl); (case hr => first | (go_simp; done) | (go_simp; rfl)); intro w7 hw; subst hw; have hg := tset_grown (w := w6) (B := B) (.slice Aw y.length cw); have BK := ak (tset_ (.slice Aw y.length cw) BK2.out); have HR := ak (Kd.R_grown HR2.out hg (fun k_ hk_ e_ => hk_.2 (Option.some.inj e_))); have HK := ak (Kept.of_grown (S := (fun k_ => k_ = B ∨ some k_ = v0.ownBlock)) hg HK2.out (fun k_ e_ => .inl (.inl (Option.some.inj e_).symm))); have HB := ak (below_set HB2.out BL.out : Below w0.heap.size w0 (w6.setCell ⟨B, 0, none⟩ (.slice Aw y.length cw))); have HO := HO2; clear hg BK2 HR2 HK2 HB2 HO2 hczw6 hfzw6; generalize w6.setCell ⟨B, 0, none⟩ (.slice Aw y.length cw) = w8 at *))
    go_roundg k1
    case measure => have := HK1.out; omega
    case rel => exact ⟨_, _, y, _, rfl, rfl, HX, ⟨by have := HK1.out; omega⟩, BK, HR, HO, HK, HB⟩
   rw [if_neg c] at H
   obtain rfl := Option.some.inj H
   have c1b : decide (0 < n) = false := decide_eq_false (fun q => c (Or.inl q))
   have c2b : decide (0 < m) = false := decide_eq_false (fun q => c (Or.inr q))
   clear c H
   go_wp2
   first | go_end0 | ((try simp only [Exit.inBlock, Exit.then]); refine bodyPost_ret (results_none rfl _ _ _) rfl ?_)
   exact ⟨_, rfl, BK.out, HR.out, HO.out, HB.out, HK.out⟩

def ratio_Text.l0 : Nat → List Int → List Int → Option (ByteArray)
 | 0, _, _ => none
 | k + 1, x0, x3 => if (x0.length : Int) > 0 then ((ratio_small.f k x0 1000000000).bind fun bt234 => (if (bt234.1.length : Int) > 0 then ((ratio_Text_1.l0 k bt234.2 9 x3).bind fun t238 => (ratio_Text.l0 k bt234.1 t238)) else ((ratio_Text_1.l0 k bt234.2 1 x3).bind fun t241 => (ratio_Text.l0 k bt234.1 t241)))) else (if (x3.length : Int) = 0 then (some (⟨#[48]⟩ : ByteArray)) else ((sRvB_.f k x3).bind fun t233 => (some (strOfNums t233))))
def ratio_Text.f (k : Nat) (l0 : List Int) : Option (ByteArray) := (ratio_ValidNat.f k l0).bind fun t232 => (if t232 = true then (ratio_Text.l0 k l0 ([] : List Int)) else (some (⟨#[]⟩ : ByteArray)))
theorem ratio_Text.mono_l : ∀ k, (∀ y0 y1, LeO (ratio_Text.l0 k y0 y1) (ratio_Text.l0 (k + 1) y0 y1))
 | 0 => fun _ _ r h => by simp [ratio_Text.l0] at h
 | k + 1 => by
  have ih0 := ratio_Text.mono_l k
  ·intro y0 y1
   unfold ratio_Text.l0
   with_reducible repeat' first | apply ih0 | apply ratio_Text_1.mono | apply ratio_ValidNat.mono | apply ratio_small.mono | apply sRvB_.mono | exact LeO.refl _ | exact LeO.none _ | refine LeO.ite ?_ ?_ | refine LeO.bind ?_ (fun _ => ?_)
theorem ratio_Text.mono : ∀ a0 k, LeO (ratio_Text.f k a0) (ratio_Text.f (k + 1) a0) := by
 intro a0 k
 have ih0 := ratio_Text.mono_l k
 unfold ratio_Text.f
 with_reducible repeat' first | apply ih0 | apply ratio_Text_1.mono | apply ratio_ValidNat.mono | apply ratio_small.mono | apply sRvB_.mono | exact LeO.refl _ | exact LeO.none _ | refine LeO.ite ?_ ?_ | refine LeO.bind ?_ (fun _ => ?_)
set_option maxHeartbeats 8000000 in
set_option maxRecDepth 100000 in
theorem ratio_Text.calls (k : Nat) (P0_ : Nat → Prop) (A0 : Option Addr) (c0 : Nat) (l0 : List Int) (r : ByteArray) (w : World) (hs0 : Kd.V (Kd.int .u32) 115 w w.heap.size (fun k_ => P0_ k_) (.slice A0 l0.length c0) l0) (h : ratio_Text.f k l0 = some r) :
  Calls Tryd.prog 131 #[.slice A0 l0.length c0] w fun e w' => e = .returned (.string r) ∧ Below w.heap.size w w' := by
 have HO0 := ak (show Kd.V (Kd.int .u32) 115 w w.heap.size (fun k_ => (P0_ k_ ∨ w.heap.size ≤ k_)) (.slice A0 l0.length c0) l0 from V_mono hs0 (fun k_ hk => .inl hk))
 have HB := ak (Below.refl w.heap.size w)
 have H := h
 clear h
 unfold ratio_Text.f at H
 revert H
 refine bd_ fun t232 A2 H => ?_
 by_cases c3 : t232 = true
 ·subst c3
  rw [if_pos rfl] at H
  have H' := ak H
  clear H
  have hmf : ∀ (fn : Fn) (first cap : Array Value) (w : World), (Instr.makeFunc fn first cap).run Tryd.prog w = .ok (.func fn first cap) w := fun _ _ _ _ => rfl
  go_enter Tryd.func131, Tryd.ntmps131
  go_wp2_with (first | ((with_reducible refine gate_callee (f := 90) rfl ?_); refine gl_ (some 8) Tryd.func90 #[.slice A0 l0.length c0] ?_; (with_reducible refine (ratio_ValidNat.calls k _ _ l0 true _ ?side1 ?side2 A2.out).mono ?_); (case side1 => exact cU_ ((V_reads' HO0.out).2.2)); (case side2 => exact (V_reads' HO0.out).2.1); rintro e w4 ⟨rfl, hb⟩; refine ⟨_, rfl, ?_⟩; refine nx2_ (V_below (vU_ HO0.out) hb) (below_step (bU_ HB.out) hb) ?_; clear HO0 HB; intro HO0 HB; clear hb))
  have hA := below_alloc HB.out (Obj.cells #[.slice none 0 0] 96)
  have g0 : (w4.alloc (Obj.cells #[.slice none 0 0] 96)).heap[w4.heap.size]? = some (.cells #[.slice none 0 0] 96 (0, 0)) := by
   show (w4.heap.push _)[w4.heap.size]? = _
   simp
  have gV := Kd.V_alloc (V_elderB HO0.out w4.heap.size (Nat.le_refl _)) (Obj.cells #[.slice none 0 0] 96)
  have gge := ak (below_size HB.out)
  generalize w4.alloc (Obj.cells #[.slice none 0 0] 96) = wA at *
  generalize w4.heap.size = gb at *
  clear HB HO0
  have HB := ak hA
  clear hA
  go_loopg [0] k (fun kq v0 w' => ∃ (x0_1 : List Int) (x3_1 : List Int) (v3 : Value), Aside0 (ratio_Text.l0 kq x0_1 x3_1 = some r) ∧ Aside0 (kq ≤ k) ∧ Aside0 (Kd.V (Kd.int .u32) 115 w' w.heap.size (fun k_ => some k_ ≠ (v3 : Value).ownBlock ∧ k_ ≠ gb) v0 x0_1) ∧ Aside0 (Kd.R (Kd.int .u8) 5 w' w.heap.size (fun k_ => (w.heap.size ≤ k_) ∧ k_ ≠ gb) v3 x3_1) ∧ Aside0 (w'.heap[gb]? = some (.cells #[v3] 96 (0, 0))) ∧ Aside0 (Below w.heap.size w w'))
  case atStart => exact ⟨l0, [], .slice none 0 0, H', ⟨Nat.le_refl _⟩, ⟨V_mono gV (fun _ hk => ⟨by simp [Value.ownBlock], hk.2⟩)⟩, ⟨Kd.R_nil _ _ _ _ _⟩, ⟨g0⟩, HB⟩
  case round =>
   clear H' gV g0 HB
   (try clear c2); (try clear p2); (try clear c3)
   obtain ⟨x0_1, x3_1, v3, HA, HK1, HO_0, HO_3, BK, HB⟩ := hrel
   obtain ⟨Ab, cb, eb⟩ := R_slice HO_3.out
   subst eb
   have hczwr := bc0_ BK.out
   have hfzwr := bkf9_ BK.out 0
   cases gk with
   | zero => exact absurd HA.out (by simp [ratio_Text.l0])
   | succ k1 =>
    have H := HA.out
    clear HA
    simp only [ratio_Text.l0] at H
    by_cases c5 : (x0_1.length : Int) > 0
    ·rw [if_pos c5] at H
     have c5b0 : decide (0 < (x0_1.length : Int)) = true := decide_eq_true c5
     have c5b1 : decide (0 < x0_1.length) = true := decide_eq_true (by omega)
     clear c5
     revert H
     refine bd2_ fun t234 t237 A6 H => ?_
     try dsimp only at H
     by_cases c7 : (t234.length : Int) > 0
     ·rw [if_pos c7] at H
      have c7b0 : decide (0 < (t234.length : Int)) = true := decide_eq_true c7
      have c7b1 : decide (0 < t234.length) = true := decide_eq_true (by omega)
      clear c7
      revert H
      refine bd_ fun t238 A8 H => ?_
      have H' := ak H
      clear H
      obtain ⟨Ao9, co9, eo9⟩ := V_slice HO_0.out
      subst eo9
      go_wp2_with (first | ((with_reducible refine gate_callee (f := 141) rfl ?_); refine gl_ (some 16) Tryd.func141 #[.slice Ao9 x0_1.length co9, .int .u32 1000000000] ?_; (with_reducible refine (ratio_small.calls k1 _ _ x0_1 1000000000 t234 t237 _ ?side1 ?side2 A6.out).mono ?_); (case side1 => exact cU_ ((V_reads' HO_0.out).2.2)); (case side2 => exact (V_reads' HO_0.out).2.1); rintro e w10 ⟨v235, rfl, ho0, hb⟩; refine ⟨_, rfl, ?_⟩; refine nx4_ (R_below (rU_ HO_3.out) hb) (tbk_ (tbkU_ BK.out) hb) (V_lower (V_mono (ok' := fun k_ => some k_ ≠ (.slice Ab x3_1.length cb : Value).ownBlock ∧ k_ ≠ gb) ho0 (fun k_ hk_ => ⟨(fresh' (R_lt (rU_ HO_3.out)) k_ hk_), fun e_ => Nat.lt_irrefl _ (Nat.lt_of_lt_of_le (tbk_lt (tbkU_ BK.out)) (e_ ▸ hk_))⟩)) (below_size (bU_ HB.out))) (below_step (bU_ HB.out) hb) ?_; clear HO_0 HO_3 BK HB hczwr hfzwr; intro HO_3 BK HO236 HB; clear hb ho0; obtain ⟨Ao11, co11, eo11⟩ := V_slice HO236.out; subst eo11) | ((with_reducible refine gate_dst (N := 24) rfl ?_); refine hold_ ?_))
      refine ⟨?_⟩
      refine gclo_ (some 24) rfl rfl Tryd.func149 (by kernel_rfl) rfl #[.int .u32 t237, .int .i64 9, .pointer (some ⟨gb, 0, none⟩)] rfl rfl (by simp only [List.map_toArray, List.map_cons, List.map_nil, List.append_toArray, List.cons_append, List.nil_append]; rfl) ?_
      refine (ratio_Text_1.calls k1 t237 9 gb (.slice Ab x3_1.length cb : Value) x3_1 t238 w _ (bU_ HB.out) gge.out (tbkU_ BK.out) (rU_ HO_3.out) A8.out).mono ?_
      rintro e w13 ⟨v4, rfl, hbk, hr, ho, hb, hkp⟩
      refine ⟨_, rfl, ?_⟩
      refine nx4_ (V_mono (ok' := fun k_ => some k_ ≠ v4.ownBlock ∧ k_ ≠ gb) (Kd.V_kept (Kd.V_bound HO236.out) hkp (fun k_ hk_ hs_ => hs_.elim hk_.1.2 hk_.1.1)) (fun k_ hk_ => ⟨tne_ ho hk_.1.1 hk_.2, hk_.1.2⟩)) hr hbk hb ?_
      clear HO236 HO_3 BK HB hbk hr ho hb hkp
      intro HO236 HO_3 BK HB
      go_wp2
      go_roundg k1
      case measure => have := HK1.out; omega
      case rel => exact ⟨t234, t238, v4, H', ⟨by have := HK1.out; omega⟩, HO236, HO_3, BK, HB⟩
     rw [if_neg c7] at H
     have c7b0 : decide (0 < (t234.length : Int)) = false := decide_eq_false c7
     have c7b1 : decide (0 < t234.length) = false := decide_eq_false (by omega)
     clear c7
     revert H
     refine bd_ fun t241 A14 H => ?_
     have H' := ak H
     clear H
     obtain ⟨Ao15, co15, eo15⟩ := V_slice HO_0.out
     subst eo15
     go_wp2_with (first | ((with_reducible refine gate_callee (f := 141) rfl ?_); refine gl_ (some 16) Tryd.func141 #[.slice Ao15 x0_1.length co15, .int .u32 1000000000] ?_; (with_reducible refine (ratio_small.calls k1 _ _ x0_1 1000000000 t234 t237 _ ?side1 ?side2 A6.out).mono ?_); (case side1 => exact cU_ ((V_reads' HO_0.out).2.2)); (case side2 => exact (V_reads' HO_0.out).2.1); rintro e w10 ⟨v235, rfl, ho0, hb⟩; refine ⟨_, rfl, ?_⟩; refine nx4_ (R_below (rU_ HO_3.out) hb) (tbk_ (tbkU_ BK.out) hb) (V_lower (V_mono (ok' := fun k_ => some k_ ≠ (.slice Ab x3_1.length cb : Value).ownBlock ∧ k_ ≠ gb) ho0 (fun k_ hk_ => ⟨(fresh' (R_lt (rU_ HO_3.out)) k_ hk_), fun e_ => Nat.lt_irrefl _ (Nat.lt_of_lt_of_le (tbk_lt (tbkU_ BK.out)) (e_ ▸ hk_))⟩)) (below_size (bU_ HB.out))) (below_step (bU_ HB.out) hb) ?_; clear HO_0 HO_3 BK HB hczwr hfzwr; intro HO_3 BK HO236 HB; clear hb ho0; obtain ⟨Ao11, co11, eo11⟩ := V_slice HO236.out; subst eo11) | ((with_reducible refine gate_dst (N := 27) rfl ?_); refine hold_ ?_))
     refine ⟨?_⟩
     refine gclo_ (some 27) rfl rfl Tryd.func149 (by kernel_rfl) rfl #[.int .u32 t237, .int .i64 1, .pointer (some ⟨gb, 0, none⟩)] rfl rfl (by simp only [List.map_toArray, List.map_cons, List.map_nil, List.append_toArray, List.cons_append, List.nil_append]; rfl) ?_
     refine (ratio_Text_1.calls k1 t237 1 gb (.slice Ab x3_1.length cb : Value) x3_1 t241 w _ (bU_ HB.out) gge.out (tbkU_ BK.out) (rU_ HO_3.out) A14.out).mono ?_
     rintro e w13 ⟨v4, rfl, hbk, hr, ho, hb, hkp⟩
     refine ⟨_, rfl, ?_⟩
     refine nx4_ (V_mono (ok' := fun k_ => some k_ ≠ v4.ownBlock ∧ k_ ≠ gb) (Kd.V_kept (Kd.V_bound HO236.out) hkp (fun k_ hk_ hs_ => hs_.elim hk_.1.2 hk_.1.1)) (fun k_ hk_ => ⟨tne_ ho hk_.1.1 hk_.2, hk_.1.2⟩)) hr hbk hb ?_
     clear HO236 HO_3 BK HB hbk hr ho hb hkp
     intro HO236 HO_3 BK HB
     go_wp2
     go_roundg k1
     case measure => have := HK1.out; omega
     case rel => exact ⟨t234, t241, v4, H', ⟨by have := HK1.out; omega⟩, HO236, HO_3, BK, HB⟩
    rw [if_neg c5] at H
    have c5b0 : decide (0 < (x0_1.length : Int)) = false := decide_eq_false c5
    have c5b1 : decide (0 < x0_1.length) = false := decide_eq_false (by omega)
    clear c5
    by_cases c20 : (x3_1.length : Int) = 0
    ·rw [if_pos c20] at H
     have c20b0 := beq_iff_eq.mpr c20
     have c20b1 := bne_eq_false_iff_eq.mpr c20
     clear c20
     obtain rfl := Option.some.inj H
     obtain ⟨Ao21, co21, eo21⟩ := V_slice HO_0.out
     subst eo21
     go_wp2
     go_ret
     exact ⟨eW_, bU_ HB.out⟩
    rw [if_neg c20] at H
    have c20b0 := beq_eq_false_iff_ne.mpr c20
    have c20b1 := bne_iff_ne.mpr c20
    have c20b2 : ¬ (x3_1 = []) := fun h_ => c20 (by rw [h_]; rfl)
    revert H
    refine bd_ fun t233 A23 H => ?_
    obtain rfl := Option.some.inj H
    obtain ⟨Ao24, co24, eo24⟩ := V_slice HO_0.out
    subst eo24
    go_wp2_with (first | ((with_reducible refine gate_callee (f := 150) rfl ?_); refine gl_ (some 33) Tryd.func150 #[.slice Ab x3_1.length cb] ?_; (with_reducible refine (sRvB_.calls k1 (fun k_ => some k_ = (.slice Ab x3_1.length cb : Value).ownBlock) (.slice Ab x3_1.length cb) x3_1 t233 w _ ?side1 ?side2 A23.out).mono ?_); (case side1 => repeat (first | (with_reducible first | exact HB.out | apply below_alloc | apply pw_below_drewN | apply below_drew1) | exact HB.out)); (case side2 => exact R_tight rfl HO_3.out); rintro e w26 ⟨rfl, hy0, hb, hkp⟩; refine ⟨_, rfl, ?_⟩; refine nx3_ ((hkp.2 gb (tbk_lt BK.out) (fun e_ => (HO_3.out.1 gb e_.symm).2 rfl)).trans BK.out) (Kd.R_reok rfl hy0 (fun k_ e_ => HO_3.out.1 k_ e_)) (hb) ?_; clear HO_0 HO_3 BK HB hczwr hfzwr; intro BK HO_3 HB; clear hb hkp hy0; have hczw26 := bc0_ BK.out; have hfzw26 := bkf9_ BK.out 0; have hcv27 := own_string (P := Tryd.prog) Tryd.underlying96 Tryd.underlying5 Tryd.underlying9 (Kd.own_of_R HO_3.out)))
    go_ret
    exact ⟨eW_, bU_ HB.out⟩
 replace c3 := Bool.eq_false_iff.mpr c3
 subst c3
 rw [if_neg (show ¬ (false = true) by decide)] at H
 obtain rfl := Option.some.inj H
 go_enter Tryd.func131, Tryd.ntmps131
 go_wp2_with (first | ((with_reducible refine gate_callee (f := 90) rfl ?_); refine gl_ (some 8) Tryd.func90 #[.slice A0 l0.length c0] ?_; (with_reducible refine (ratio_ValidNat.calls k _ _ l0 false _ ?side1 ?side2 A2.out).mono ?_); (case side1 => exact cU_ ((V_reads' HO0.out).2.2)); (case side2 => exact (V_reads' HO0.out).2.1); rintro e w28 ⟨rfl, hb⟩; refine ⟨_, rfl, ?_⟩; refine nx2_ (V_below (vU_ HO0.out) hb) (below_step (bU_ HB.out) hb) ?_; clear HO0 HB; intro HO0 HB; clear hb))
 go_ret
 exact ⟨eW_, bU_ HB.out⟩


def ratio_Show.f (k : Nat) (l0_0 : List Int) (l0_1 : List Int) : Option (ByteArray) := (ratio_Valid.f k l0_0 l0_1).bind fun t709 => (if t709 = true then ((ratio_Text.f k l0_0).bind fun t710 => (if t710.size + 1 ≤ 9223372036854775807 then ((ratio_Text.f k l0_1).bind fun t711 => (if (t710 ++ (⟨#[47]⟩ : ByteArray)).size + t711.size ≤ 9223372036854775807 then (some ((t710 ++ (⟨#[47]⟩ : ByteArray)) ++ t711)) else (none))) else (none))) else (some (⟨#[]⟩ : ByteArray)))
theorem ratio_Show.mono : ∀ a0 a1 k, LeO (ratio_Show.f k a0 a1) (ratio_Show.f (k + 1) a0 a1) := by
 intro a0 a1 k
 unfold ratio_Show.f
 with_reducible repeat' first | apply ratio_Text.mono | apply ratio_Valid.mono | exact LeO.refl _ | exact LeO.none _ | refine LeO.ite ?_ ?_ | refine LeO.bind ?_ (fun _ => ?_)
def ratio_Show.T3 : Bool × List (List Nat × List Nat) := (true, [([], []), ([0], [0]), ([1], [1]), ([2], [2]), ([], []), ([4], [4]), ([5, 2], [5]), ([3, 6], [3, 6]), ([7, 6, 0, 1, 2, 3, 4, 5, 6, 7], [7])])
def ratio_Show.B3 : List Nat := [0, 1, 3, 7, 0, 16, 55, 127, 255]
theorem ratio_Show.tab3 : rtab .any (opsOf Tryd.f107 3) = ratio_Show.T3 := by kernel_rfl
theorem ratio_Show.bits3 : waitsOk ratio_Show.T3.2 ratio_Show.B3 = true := by kernel_rfl
set_option maxHeartbeats 8000000 in
set_option maxRecDepth 100000 in
theorem ratio_Show.calls (k : Nat) (A0_0 : Option Addr) (c0_0 : Nat) (l0_0 : List Int) (A0_1 : Option Addr) (c0_1 : Nat) (l0_1 : List Int) (r : ByteArray) (w : World) (hr0_0 : Kd.C (Kd.int .u32) w A0_0 l0_0.length l0_0) (hc0_0 : l0_0.length ≤ c0_0) (hr0_1 : Kd.C (Kd.int .u32) w A0_1 l0_1.length l0_1) (hc0_1 : l0_1.length ≤ c0_1) (h : ratio_Show.f k l0_0 l0_1 = some r) :
  Calls Tryd.prog 107 #[.agg #[.slice A0_0 l0_0.length c0_0, .slice A0_1 l0_1.length c0_1]] w fun e w' => e = .returned (.string r) ∧ Below w.heap.size w w' := by
 have hu26 := Tryd.underlying26
 have HR0_0 := ak hr0_0
 have HC0_0 := ak hc0_0
 clear hr0_0 hc0_0
 have HR0_1 := ak hr0_1
 have HC0_1 := ak hc0_1
 clear hr0_1 hc0_1
 have HB := ak (Below.refl w.heap.size w)
 have H := h
 clear h
 unfold ratio_Show.f at H
 revert H
 refine bd_ fun t709 A2 H => ?_
 by_cases c3 : t709 = true
 ·subst c3
  rw [if_pos rfl] at H
  revert H
  refine bd_ fun t710 A4 H => ?_
  obtain ⟨c5, H⟩ : (t710.size + 1 ≤ 9223372036854775807) ∧ _ := it_ H
  have c5b0 := eq_true c5
  have c5b1 := decide_eq_true c5
  try have c5b2 : (9223372036854775807 < t710.size + 1) = False := eq_false (Nat.not_lt.2 c5)
  revert H
  refine bd_ fun t711 A6 H => ?_
  obtain ⟨c7, H⟩ : ((t710 ++ (⟨#[47]⟩ : ByteArray)).size + t711.size ≤ 9223372036854775807) ∧ _ := it_ H
  have c7b0 := eq_true c7
  have c7b1 := decide_eq_true c7
  try have c7b2 : (9223372036854775807 < (t710 ++ (⟨#[47]⟩ : ByteArray)).size + t711.size) = False := eq_false (Nat.not_lt.2 c7)
  have c7b3 : (9223372036854775807 < t710.size + 1 + t711.size) = False := by have h_ := c7b2; rw [ByteArray.size_append] at h_; exact h_
  obtain rfl := Option.some.inj H
  go_enter Tryd.func107, Tryd.ntmps107
  try go_wp2_with (first | ((with_reducible refine gate_dst (N := 1) rfl ?_); refine bx_ 1 26 #[.slice A0_0 l0_0.length c0_0, .slice A0_1 l0_1.length c0_1] ?_; intro gb708 hg w8 hbox hb; refine nx4_ (below_step (bU_ HB.out) hb) (hbox) ((hs_ hg (below_size (bU_ HB.out)))) ((hs_ hg (below_size (bU_ HB.out)))) ?_; clear HB; intro HB BK708 GW708 GE708; clear hb hbox hg; have hcz9_0 := bc0_ BK708.out; have hcz9_1 := bc1_ BK708.out; have hfz9_0 := bkf9_ BK708.out 0; have hfz9_1 := bkf9_ BK708.out 1) | ((with_reducible refine gate_callee (f := 41) rfl ?_); refine gl_ (some 4) Tryd.func41 #[.agg #[.slice A0_0 l0_0.length c0_0, .slice A0_1 l0_1.length c0_1]] ?_; (with_reducible refine (ratio_Valid.calls k _ _ l0_0 _ _ l0_1 true _ ?side1 ?side2 ?side3 ?side4 A2.out).mono ?_); (case side1 => exact cU_ (C_below HR0_0.out HB.out)); (case side2 => exact HC0_0.out); (case side3 => exact cU_ (C_below HR0_1.out HB.out)); (case side4 => exact HC0_1.out); rintro e w10 ⟨rfl, hb⟩; refine ⟨_, rfl, ?_⟩; refine nx2_ (blk_below (kU_ BK708.out) hb) (below_step sU_ hb) ?_; clear BK708 HB; intro BK708 HB; clear hb))
  refine nx2_ (blk_drew BK708.out) (below_drew1 HB.out) ?_
  clear BK708 HB
  intro BK708 HB
  refine start_ (n := 9) (S := fun w' => w'.cell? ⟨gb708, 0, none⟩ = some (.slice A0_0 l0_0.length c0_0) ∧ w'.cell? ⟨gb708, 1, none⟩ = some (.slice A0_1 l0_1.length c0_1)) (ds := []) (bv 9 0) (by kernel_rfl) rfl rfl ⟨bc0_ BK708.out, bc1_ BK708.out⟩ (fun hHeld => ?_); refine with_tabW ratio_Show.tab3 ratio_Show.bits3 (fun HT_ HW_ => ?_)
  generalize w10.drew = w11 at BK708 HB hHeld ⊢
  refine pq_ 0 6 9 1 HT_.out ?_
  refine pq_ 4 10 9 17 HT_.out ?_
  refine tq_ 1 7 9 19 HT_.out HW_.out hHeld ?_
  refine tq_ 5 11 9 51 HT_.out HW_.out hHeld ?_
  refine oq_ 2 8 9 55 HT_.out fun K hK => ?_
  refine gs_ Tryd.func131 #[.slice A0_0 l0_0.length c0_0] ?_
  with_reducible refine (ratio_Text.calls k (fun k_ => k_ < w.heap.size) _ _ l0_0 t710 _ ?side1 A4.out).mono ?_
  (case side1 => exact V_mk HC0_0.out (F_below (C_F (heap_int .u32) HR0_0.out) sU_))
  rintro e w12 ⟨rfl, hb⟩
  refine ⟨_, rfl, ?_⟩
  refine nx2_ (blk_below (kU_ BK708.out) hb) (below_step sU_ hb) ?_
  clear BK708 HB
  intro BK708 HB
  (try clear hb)
  (try clear hb2)
  (try clear hk)
  (try clear hi)
  refine hK.out _ _ ⟨bc0_ BK708.out, bc1_ BK708.out⟩ (fun hHeld => ?_)
  clear hK K
  refine norm_ (a' := ?_) ?_ ?_
  rotate_left
  ·show Act.put _ (some 8) _ = _
   simp only [Act.put, s1_, s2_, s3_, i64_w, i32_w]
   rfl
  refine pq_ 3 9 9 63 HT_.out ?_
  refine oq_ 6 12 9 127 HT_.out fun K hK => ?_
  refine gs_ Tryd.func131 #[.slice A0_1 l0_1.length c0_1] ?_
  with_reducible refine (ratio_Text.calls k (fun k_ => k_ < w.heap.size) _ _ l0_1 t711 _ ?side1 A6.out).mono ?_
  (case side1 => exact V_mk HC0_1.out (F_below (C_F (heap_int .u32) HR0_1.out) sU_))
  rintro e w13 ⟨rfl, hb⟩
  refine ⟨_, rfl, ?_⟩
  refine nx2_ (blk_below (kU_ BK708.out) hb) (below_step sU_ hb) ?_
  clear BK708 HB
  intro BK708 HB
  (try clear hb)
  (try clear hb2)
  (try clear hk)
  (try clear hi)
  refine hK.out _ _ ⟨bc0_ BK708.out, bc1_ BK708.out⟩ (fun hHeld => ?_)
  clear hK K
  refine norm_ (a' := ?_) ?_ ?_
  rotate_left
  ·show Act.put _ (some 12) _ = _
   simp only [Act.put, s1_, s2_, s3_, i64_w, i32_w]
   rfl
  refine pq_ 7 13 9 255 HT_.out ?_
  refine pq_ 8 2 9 511 HT_.out ?_
  refine done_ (done_of HT_.out (by kernel_rfl)) ?_
  try go_wp2
  go_ret
  exact ⟨eW_, sU_⟩
 replace c3 := Bool.eq_false_iff.mpr c3
 subst c3
 rw [if_neg (show ¬ (false = true) by decide)] at H
 obtain rfl := Option.some.inj H
 go_enter Tryd.func107, Tryd.ntmps107
 go_wp2_with (first | ((with_reducible refine gate_dst (N := 1) rfl ?_); refine bx_ 1 26 #[.slice A0_0 l0_0.length c0_0, .slice A0_1 l0_1.length c0_1] ?_; intro gb708 hg w14 hbox hb; refine nx4_ (below_step (bU_ HB.out) hb) (hbox) ((hs_ hg (below_size (bU_ HB.out)))) ((hs_ hg (below_size (bU_ HB.out)))) ?_; clear HB; intro HB BK708 GW708 GE708; clear hb hbox hg; have hcz15_0 := bc0_ BK708.out; have hcz15_1 := bc1_ BK708.out; have hfz15_0 := bkf9_ BK708.out 0; have hfz15_1 := bkf9_ BK708.out 1) | ((with_reducible refine gate_callee (f := 41) rfl ?_); refine gl_ (some 4) Tryd.func41 #[.agg #[.slice A0_0 l0_0.length c0_0, .slice A0_1 l0_1.length c0_1]] ?_; (with_reducible refine (ratio_Valid.calls k _ _ l0_0 _ _ l0_1 false _ ?side1 ?side2 ?side3 ?side4 A2.out).mono ?_); (case side1 => exact cU_ (C_below HR0_0.out HB.out)); (case side2 => exact HC0_0.out); (case side3 => exact cU_ (C_below HR0_1.out HB.out)); (case side4 => exact HC0_1.out); rintro e w16 ⟨rfl, hb⟩; refine ⟨_, rfl, ?_⟩; refine nx2_ (blk_below (kU_ BK708.out) hb) (below_step sU_ hb) ?_; clear BK708 HB; intro BK708 HB; clear hb))
 go_ret
 exact ⟨eW_, sU_⟩

def a11show.f (k : Nat) (l0_0 : List Int) (l0_1 : List Int) (a1 : Int) : Option (ByteArray) := if a1 = 0 then ((ratio_Show.f k l0_0 l0_1).bind fun t713 => (some t713)) else (some (⟨#[45]⟩ : ByteArray))
theorem a11show.mono : ∀ a0 a1 a2 k, LeO (a11show.f k a0 a1 a2) (a11show.f (k + 1) a0 a1 a2) := by
 intro a0 a1 a2 k
 unfold a11show.f
 with_reducible repeat' first | apply ratio_Show.mono | exact LeO.refl _ | exact LeO.none _ | refine LeO.ite ?_ ?_ | refine LeO.bind ?_ (fun _ => ?_)
set_option maxHeartbeats 8000000 in
set_option maxRecDepth 100000 in
theorem a11show.calls (k : Nat) (A0_0 : Option Addr) (c0_0 : Nat) (l0_0 : List Int) (A0_1 : Option Addr) (c0_1 : Nat) (l0_1 : List Int) (a1 : Int) (r : ByteArray) (w : World) (hr0_0 : Kd.C (Kd.int .u32) w A0_0 l0_0.length l0_0) (hc0_0 : l0_0.length ≤ c0_0) (hr0_1 : Kd.C (Kd.int .u32) w A0_1 l0_1.length l0_1) (hc0_1 : l0_1.length ≤ c0_1) (h : a11show.f k l0_0 l0_1 a1 = some r) :
  Calls Tryd.prog 60 #[.agg #[.slice A0_0 l0_0.length c0_0, .slice A0_1 l0_1.length c0_1], .int .i64 a1] w fun e w' => e = .returned (.string r) ∧ Below w.heap.size w w' := by
 have hu26 := Tryd.underlying26
 have HR0_0 := ak hr0_0
 have HC0_0 := ak hc0_0
 clear hr0_0 hc0_0
 have HR0_1 := ak hr0_1
 have HC0_1 := ak hc0_1
 clear hr0_1 hc0_1
 have HB := ak (Below.refl w.heap.size w)
 have H : (if a1 = 0 then ((ratio_Show.f k l0_0 l0_1).bind fun t713 => (some t713)) else (some (⟨#[45]⟩ : ByteArray))) = some r := h
 clear h
 by_cases c3 : a1 = 0
 ·rw [if_pos c3] at H
  have c3b0 := beq_iff_eq.mpr c3
  have c3b1 := bne_eq_false_iff_eq.mpr c3
  clear c3
  revert H
  refine bd_ fun t713 A4 H => ?_
  obtain rfl := Option.some.inj H
  go_enter Tryd.func60, Tryd.ntmps60
  go_wp2_with (first | ((with_reducible refine gate_dst (N := 2) rfl ?_); refine bx_ 2 26 #[.slice A0_0 l0_0.length c0_0, .slice A0_1 l0_1.length c0_1] ?_; intro gb712 hg w5 hbox hb; refine nx4_ (below_step (bU_ HB.out) hb) (hbox) ((hs_ hg (below_size (bU_ HB.out)))) ((hs_ hg (below_size (bU_ HB.out)))) ?_; clear HB; intro HB BK712 GW712 GE712; clear hb hbox hg; have hcz6_0 := bc0_ BK712.out; have hcz6_1 := bc1_ BK712.out; have hfz6_0 := bkf9_ BK712.out 0; have hfz6_1 := bkf9_ BK712.out 1) | ((with_reducible refine gate_callee (f := 107) rfl ?_); refine gl_ (some 8) Tryd.func107 #[.agg #[.slice A0_0 l0_0.length c0_0, .slice A0_1 l0_1.length c0_1]] ?_; (with_reducible refine (ratio_Show.calls k _ _ l0_0 _ _ l0_1 t713 _ ?side1 ?side2 ?side3 ?side4 A4.out).mono ?_); (case side1 => exact cU_ (C_below HR0_0.out HB.out)); (case side2 => exact HC0_0.out); (case side3 => exact cU_ (C_below HR0_1.out HB.out)); (case side4 => exact HC0_1.out); rintro e w7 ⟨rfl, hb⟩; refine ⟨_, rfl, ?_⟩; refine nx2_ (blk_below (kU_ BK712.out) hb) (below_step sU_ hb) ?_; clear BK712 HB; intro BK712 HB; clear hb))
  go_ret
  exact ⟨eW_, sU_⟩
 rw [if_neg c3] at H
 have c3b0 := beq_eq_false_iff_ne.mpr c3
 have c3b1 := bne_iff_ne.mpr c3
 obtain rfl := Option.some.inj H
 go_enter Tryd.func60, Tryd.ntmps60
 go_wp2_with (first | ((with_reducible refine gate_dst (N := 2) rfl ?_); refine bx_ 2 26 #[.slice A0_0 l0_0.length c0_0, .slice A0_1 l0_1.length c0_1] ?_; intro gb712 hg w8 hbox hb; refine nx4_ (below_step (bU_ HB.out) hb) (hbox) ((hs_ hg (below_size (bU_ HB.out)))) ((hs_ hg (below_size (bU_ HB.out)))) ?_; clear HB; intro HB BK712 GW712 GE712; clear hb hbox hg))
 go_ret
 exact ⟨eW_, sU_⟩

def a11works.f (k : Nat)  : Option (Bool) := (gap_Roots.f k 0 (([96, 0, 1] : List Int))).bind fun bt717 => ((gap_Bound.f k 0 4 2 3 1).bind fun bt719 => ((a11show.f k bt719.1 bt719.2.1 bt719.2.2).bind fun t726 => (if t726.toList = ([49, 54, 57, 47, 49, 57, 52] : List UInt8) then ((gap_EqualBound.f k 0 4 3).bind fun bt727 => ((a11show.f k bt727.1 bt727.2.1 bt727.2.2).bind fun t734 => (if t734.toList = ([56, 47, 57, 55] : List UInt8) then ((gap_FoundBound.f k 0 2 3 2).bind fun bt735 => ((a11show.f k bt735.1 bt735.2.1 bt735.2.2).bind fun t742 => (if t742.toList = ([52, 47, 57, 55] : List UInt8) then (if bt717.2 = 0 then (some (bt717.1 == 2)) else (none)) else (none)))) else (none)))) else (none))))
theorem a11works.mono : ∀ k, LeO (a11works.f k ) (a11works.f (k + 1) ) := by
 intro  k
 unfold a11works.f
 with_reducible repeat' first | apply a11show.mono | apply gap_Bound.mono | apply gap_EqualBound.mono | apply gap_FoundBound.mono | apply gap_Roots.mono | exact LeO.refl _ | exact LeO.none _ | refine LeO.ite ?_ ?_ | refine LeO.bind ?_ (fun _ => ?_)
set_option maxHeartbeats 8000000 in
set_option maxRecDepth 100000 in
theorem a11works.calls (k : Nat)  (r : Bool) (w : World) (hG : Fld w) (h : a11works.f k  = some r) :
  Calls Tryd.prog 16 #[] w fun e w' => e = .returned (.bool r) ∧ Below w.heap.size w w' := by
 have HG := ak hG
 clear hG
 have HB := ak (Below.refl w.heap.size w)
 have H := h
 clear h
 unfold a11works.f at H
 obtain ⟨y714, hy714⟩ : ∃ y_ : List Int, y_ = (([96, 0, 1] : List Int)) := ⟨_, rfl⟩
 replace H : ((gap_Roots.f k 0 y714).bind fun bt717 => ((gap_Bound.f k 0 4 2 3 1).bind fun bt719 => ((a11show.f k bt719.1 bt719.2.1 bt719.2.2).bind fun t726 => (if t726.toList = ([49, 54, 57, 47, 49, 57, 52] : List UInt8) then ((gap_EqualBound.f k 0 4 3).bind fun bt727 => ((a11show.f k bt727.1 bt727.2.1 bt727.2.2).bind fun t734 => (if t734.toList = ([56, 47, 57, 55] : List UInt8) then ((gap_FoundBound.f k 0 2 3 2).bind fun bt735 => ((a11show.f k bt735.1 bt735.2.1 bt735.2.2).bind fun t742 => (if t742.toList = ([52, 47, 57, 55] : List UInt8) then (if bt717.2 = 0 then (some (bt717.1 == 2)) else (none)) else (none)))) else (none)))) else (none))))) = some r := by first | (rw [hy714]; with_reducible exact H) | (have H2_ := (Option.bind_some _ _).symm.trans H; rw [hy714]; with_reducible exact H2_) | (have H2_ := (Option.bind_some _ _).symm.trans H; with_reducible exact H2_) | with_reducible exact H | (rw [hy714]; exact H) | exact H
 have Ny714 := ak hy714
 clear hy714
 revert H
 refine bd2_ fun t717 t718 A1 H => ?_
 try dsimp only at H
 revert H
 refine bd3_ fun t719 t722 t725 A2 H => ?_
 try dsimp only at H
 revert H
 refine bd_ fun t726 A3 H => ?_
 obtain ⟨c4, H⟩ : (t726.toList = ([49, 54, 57, 47, 49, 57, 52] : List UInt8)) ∧ _ := it_ H
 have c4b0 := beq_iff_eq.mpr c4
 have c4b1 := bne_eq_false_iff_eq.mpr c4
 clear c4
 revert H
 refine bd3_ fun t727 t730 t733 A5 H => ?_
 try dsimp only at H
 revert H
 refine bd_ fun t734 A6 H => ?_
 obtain ⟨c7, H⟩ : (t734.toList = ([56, 47, 57, 55] : List UInt8)) ∧ _ := it_ H
 have c7b0 := beq_iff_eq.mpr c7
 have c7b1 := bne_eq_false_iff_eq.mpr c7
 clear c7
 revert H
 refine bd3_ fun t735 t738 t741 A8 H => ?_
 try dsimp only at H
 revert H
 refine bd_ fun t742 A9 H => ?_
 obtain ⟨c10, H⟩ : (t742.toList = ([52, 47, 57, 55] : List UInt8)) ∧ _ := it_ H
 have c10b0 := beq_iff_eq.mpr c10
 have c10b1 := bne_eq_false_iff_eq.mpr c10
 clear c10
 obtain ⟨c11, H⟩ : (t718 = 0) ∧ _ := it_ H
 have c11b0 := beq_iff_eq.mpr c11
 have c11b1 := bne_eq_false_iff_eq.mpr c11
 clear c11
 obtain rfl := Option.some.inj H
 go_enter Tryd.func16, Tryd.ntmps16
 go_wp2_with (first | ((with_reducible refine gate_dst (N := 4) rfl ?_); refine R_lit (Kd.int .u64) _ 48 ?hg (N := 4) ?hd (xs := ([96, 0, 1] : List Int)) (inner := [.int .u64 96, .int .u64 0, .int .u64 1]) (ok := fun _ => True) (okp := fun _ => True) ?hr ?hp (fun _ hk => hk) trivial (Below.refl _ _) (Nat.le_refl _) (by simp) ?_; (case hd => rfl); (case hg => rfl); (case hr => first | (go_simp; done) | (go_simp; rfl)); (case hp => exact (Reps.one (show Kd.M (Kd.int .u64) _ _ _ 96 [.int .u64 96] from rfl) (Reps.one (show Kd.M (Kd.int .u64) _ _ _ 0 [.int .u64 0] from rfl) (Reps.one (show Kd.M (Kd.int .u64) _ _ _ 1 [.int .u64 1] from rfl) (Reps.none _ _))))); intro v715 w12 ho13 hb hg_ hnew_; clear hg_ hnew_; (first | rw [← Ny714.out] at ho13 | (simp only [Int.reduceToNat] at ho13; rw [← Ny714.out] at ho13)); refine nx2_ (R_lower ho13 (below_size (bU_ HB.out))) (below_step (bU_ HB.out) hb) ?_; clear HB; intro HO716 HB; clear hb ho13; obtain ⟨Ao14, co14, eo14⟩ := R_slice HO716.out; subst eo14) | ((with_reducible refine gate_callee (f := 18) rfl ?_); refine gl_ (some 5) Tryd.func18 #[.int .i64 0, .slice Ao14 y714.length co14] ?_; (with_reducible refine (gap_Roots.calls k 0 _ _ y714 t717 t718 _ ?side1 ?side2 ?side3 A1.out).mono ?_); (case side1 => exact fU_ HG.out HB.out); (case side2 => exact cU_ ((R_reads' HO716.out).2.2)); (case side3 => exact (R_reads' HO716.out).2.1); rintro e w15 ⟨rfl, hb⟩; refine ⟨_, rfl, ?_⟩; refine nx2_ (R_below (rU_ HO716.out) hb) (below_step (bU_ HB.out) hb) ?_; clear HO716 HB; intro HO716 HB; clear hb) | ((with_reducible refine gate_callee (f := 9) rfl ?_); refine gl_ (some 8) Tryd.func9 #[.int .i64 0, .int .i64 4, .int .i64 2, .int .i64 3, .int .i64 1] ?_; (with_reducible refine (gap_Bound.calls k 0 4 2 3 1 t719 t722 t725 _ ?side1 A2.out).mono ?_); (case side1 => exact fU_ HG.out HB.out); rintro e w16 ⟨v720, v723, rfl, ho0, ho1, hb⟩; refine ⟨_, rfl, ?_⟩; refine nx4_ (R_below (rU_ HO716.out) hb) (V_lower (V_mono (ok' := fun k_ => some k_ ≠ (.slice Ao14 y714.length co14 : Value).ownBlock) ho0 (fun k_ hk_ => (fresh' (R_lt (rU_ HO716.out)) k_ hk_))) (below_size (bU_ HB.out))) (V_lower (V_mono (ok' := fun k_ => some k_ ≠ (.slice Ao14 y714.length co14 : Value).ownBlock) ho1 (fun k_ hk_ => (fresh' (R_lt (rU_ HO716.out)) k_ hk_))) (below_size (bU_ HB.out))) (below_step (bU_ HB.out) hb) ?_; clear HO716 HB; intro HO716 HO721 HO724 HB; clear hb ho0 ho1; obtain ⟨Ao17, co17, eo17⟩ := V_slice HO721.out; subst eo17; obtain ⟨Ao18, co18, eo18⟩ := V_slice HO724.out; subst eo18) | ((with_reducible refine gate_callee (f := 60) rfl ?_); refine gl_ (some 11) Tryd.func60 #[.agg #[.slice Ao17 t719.length co17, .slice Ao18 t722.length co18], .int .i64 t725] ?_; (with_reducible refine (a11show.calls k _ _ t719 _ _ t722 t725 t726 _ ?side1 ?side2 ?side3 ?side4 A3.out).mono ?_); (case side1 => exact cU_ ((V_reads' HO721.out).2.2)); (case side2 => exact (V_reads' HO721.out).2.1); (case side3 => exact cU_ ((V_reads' HO724.out).2.2)); (case side4 => exact (V_reads' HO724.out).2.1); rintro e w19 ⟨rfl, hb⟩; refine ⟨_, rfl, ?_⟩; refine nx4_ (R_below (rU_ HO716.out) hb) (V_below (vU_ HO721.out) hb) (V_below (vU_ HO724.out) hb) (below_step (bU_ HB.out) hb) ?_; clear HO716 HO721 HO724 HB; intro HO716 HO721 HO724 HB; clear hb) | (go_at_call 12; (with_reducible refine (gap_EqualBound.calls k 0 4 3 t727 t730 t733 _ ?side1 A5.out).mono ?_); (case side1 => exact fU_ HG.out HB.out); rintro e w20 ⟨v728, v731, rfl, ho0, ho1, hb⟩; refine nx6_ (R_below (rU_ HO716.out) hb) (V_below (vU_ HO721.out) hb) (V_below (vU_ HO724.out) hb) (V_lower (V_mono (ok' := fun k_ => some k_ ≠ (.slice Ao14 y714.length co14 : Value).ownBlock) ho0 (fun k_ hk_ => (fresh' (R_lt (rU_ HO716.out)) k_ hk_))) (below_size (bU_ HB.out))) (V_lower (V_mono (ok' := fun k_ => some k_ ≠ (.slice Ao14 y714.length co14 : Value).ownBlock) ho1 (fun k_ hk_ => (fresh' (R_lt (rU_ HO716.out)) k_ hk_))) (below_size (bU_ HB.out))) (below_step (bU_ HB.out) hb) ?_; clear HO716 HO721 HO724 HB; intro HO716 HO721 HO724 HO729 HO732 HB; clear hb ho0 ho1; obtain ⟨Ao21, co21, eo21⟩ := V_slice HO729.out; subst eo21; obtain ⟨Ao22, co22, eo22⟩ := V_slice HO732.out; subst eo22) | (go_at_call 60; (with_reducible refine (a11show.calls k _ _ t727 _ _ t730 t733 t734 _ ?side1 ?side2 ?side3 ?side4 A6.out).mono ?_); (case side1 => exact cU_ ((V_reads' HO729.out).2.2)); (case side2 => exact (V_reads' HO729.out).2.1); (case side3 => exact cU_ ((V_reads' HO732.out).2.2)); (case side4 => exact (V_reads' HO732.out).2.1); rintro e w23 ⟨rfl, hb⟩; refine nx6_ (R_below (rU_ HO716.out) hb) (V_below (vU_ HO721.out) hb) (V_below (vU_ HO724.out) hb) (V_below (vU_ HO729.out) hb) (V_below (vU_ HO732.out) hb) (below_step (bU_ HB.out) hb) ?_; clear HO716 HO721 HO724 HO729 HO732 HB; intro HO716 HO721 HO724 HO729 HO732 HB; clear hb) | (go_at_call 14; (with_reducible refine (gap_FoundBound.calls k 0 2 3 2 t735 t738 t741 _ ?side1 A8.out).mono ?_); (case side1 => exact fU_ HG.out HB.out); rintro e w24 ⟨v736, v739, rfl, ho0, ho1, hb⟩; refine nx8_ (R_below (rU_ HO716.out) hb) (V_below (vU_ HO721.out) hb) (V_below (vU_ HO724.out) hb) (V_below (vU_ HO729.out) hb) (V_below (vU_ HO732.out) hb) (V_lower (V_mono (ok' := fun k_ => some k_ ≠ (.slice Ao14 y714.length co14 : Value).ownBlock) ho0 (fun k_ hk_ => (fresh' (R_lt (rU_ HO716.out)) k_ hk_))) (below_size (bU_ HB.out))) (V_lower (V_mono (ok' := fun k_ => some k_ ≠ (.slice Ao14 y714.length co14 : Value).ownBlock) ho1 (fun k_ hk_ => (fresh' (R_lt (rU_ HO716.out)) k_ hk_))) (below_size (bU_ HB.out))) (below_step (bU_ HB.out) hb) ?_; clear HO716 HO721 HO724 HO729 HO732 HB; intro HO716 HO721 HO724 HO729 HO732 HO737 HO740 HB; clear hb ho0 ho1; obtain ⟨Ao25, co25, eo25⟩ := V_slice HO737.out; subst eo25; obtain ⟨Ao26, co26, eo26⟩ := V_slice HO740.out; subst eo26) | (go_at_call 60; (with_reducible refine (a11show.calls k _ _ t735 _ _ t738 t741 t742 _ ?side1 ?side2 ?side3 ?side4 A9.out).mono ?_); (case side1 => exact cU_ ((V_reads' HO737.out).2.2)); (case side2 => exact (V_reads' HO737.out).2.1); (case side3 => exact cU_ ((V_reads' HO740.out).2.2)); (case side4 => exact (V_reads' HO740.out).2.1); rintro e w27 ⟨rfl, hb⟩; refine nx8_ (R_below (rU_ HO716.out) hb) (V_below (vU_ HO721.out) hb) (V_below (vU_ HO724.out) hb) (V_below (vU_ HO729.out) hb) (V_below (vU_ HO732.out) hb) (V_below (vU_ HO737.out) hb) (V_below (vU_ HO740.out) hb) (below_step (bU_ HB.out) hb) ?_; clear HO716 HO721 HO724 HO729 HO732 HO737 HO740 HB; intro HO716 HO721 HO724 HO729 HO732 HO737 HO740 HB; clear hb))
 go_ret
 exact ⟨eW_, bU_ HB.out⟩

end Go.Proofs.YtbjeemlbjkmhiaaDoor.Q

import Derived.Test.YtjjjoepnlhpjdaaDoorQ0
import Derived.Test.YtjjjoepnlhpjdaaDoorQ19
namespace Go.Proofs.YtjjjoepnlhpjdaaDoor.Q
open Go.RowKit Go.Proofs.YtjjjoepnlhpjdaaDoorW.PrintWords Go.Proofs.YtjjjoepnlhpjdaaDoorW.PrintLast Go.Proofs.YtjjjoepnlhpjdaaDoorW.PrintMore
open Kd (R_mono R_far R_types R_lower R_new' R_base R_lt R_slice R_reads' V_mk C_below F_below C_F R_drew heap_int)
attribute [local go_sem] max2_int min2_int max_two min_two max_three min_three max_four min_four   -- for this text's walks alone
set_option linter.unusedVariables false
set_option linter.unusedSimpArgs false

def attestorref02_lowest.f (k : Nat) (l0 : List Int) (l1 : List Int) : Option (List Int × List Int × Int) := (attestorref02_gcd.f k l0 l1).bind fun t1094 => ((attestorref02_quotient.f k l0 t1094).bind fun bt1097 => ((attestorref02_quotient.f k l1 t1094).bind fun bt1103 => (if (bt1097.1.length : Int) > 64 then (some (([] : List Int), ([] : List Int), 3)) else (if (bt1103.1.length : Int) > 64 then (some (([] : List Int), ([] : List Int), 3)) else (some (bt1097.1, bt1103.1, 0))))))
set_option maxHeartbeats 8000000 in
set_option maxRecDepth 100000 in
theorem attestorref02_lowest.calls (k : Nat) (A0 : Option Addr) (c0 : Nat) (l0 : List Int) (A1 : Option Addr) (c1 : Nat) (l1 : List Int) (r1 : List Int) (r2 : List Int) (r3 : Int) (w : World) (hr0 : Kd.C (Kd.int .u32) w A0 l0.length l0) (hc0 : l0.length ≤ c0) (hr1 : Kd.C (Kd.int .u32) w A1 l1.length l1) (hc1 : l1.length ≤ c1) (h : attestorref02_lowest.f k l0 l1 = some (r1, r2, r3)) :
  Calls Tryd.prog 81 #[.slice A0 l0.length c0, .slice A1 l1.length c1] w fun e w' => ∃ v0_ v1_ : Value, e = .returned (.tuple #[.agg #[v0_, v1_], .int .i64 r3]) ∧ Kd.R (Kd.int .u32) 44 w' w.heap.size (fun k_ => some k_ ≠ (v1_ : Value).ownBlock) v0_ r1 ∧ Kd.R (Kd.int .u32) 44 w' w.heap.size (fun k_ => some k_ ≠ (v0_ : Value).ownBlock) v1_ r2 ∧ Below w.heap.size w w' := by
 have hu29 := Tryd.underlying29
 have HR0 := ak hr0
 have HC0 := ak hc0
 clear hr0 hc0
 have HR1 := ak hr1
 have HC1 := ak hc1
 clear hr1 hc1
 have HB := ak (Below.refl w.heap.size w)
 have H := h
 clear h
 unfold attestorref02_lowest.f at H
 revert H
 refine bd_ fun t1094 A3 H => ?_
 revert H
 refine bd2_ fun t1097 t1098 A4 H => ?_
 try dsimp only at H
 revert H
 refine bd2_ fun t1103 t1104 A5 H => ?_
 try dsimp only at H
 by_cases c6 : (t1097.length : Int) > 64
 ·rw [if_pos c6] at H
  have c6b0 : decide (64 < (t1097.length : Int)) = true := decide_eq_true c6
  have c6b1 : decide (64 < t1097.length) = true := decide_eq_true (by omega)
  clear c6
  simp only [Option.some.injEq, Prod.mk.injEq] at H
  obtain ⟨rfl, rfl, rfl⟩ := H
  go_enter Tryd.func81, Tryd.ntmps81
  go_wp2_with (first | ((with_reducible refine gate_dst (N := 4) rfl ?_); (try (refine gate_guard (by rfl) ?_; dsimp only)); refine bx_ 4 29 #[.slice none 0 0, .slice none 0 0] ?_; intro gb1093 hg w7 hbox hb; refine nx4_ (below_step (bU_ HB.out) hb) (hbox) ((hs_ hg (below_size (bU_ HB.out)))) ((hs_ hg (below_size (bU_ HB.out)))) ?_; clear HB; intro HB BK1093 GW1093 GE1093; clear hb hbox hg) | ((with_reducible refine gate_callee (f := 79) rfl ?_); refine gl_ (some 13) Tryd.func79 #[.slice A0 l0.length c0, .slice A1 l1.length c1] ?_; (with_reducible refine (attestorref02_gcd.calls k (fun k_ => k_ < w.heap.size) _ _ l0 (fun k_ => k_ < w.heap.size) _ _ l1 t1094 _ ?side1 ?side2 A3.out).mono ?_); (case side1 => exact V_mk HC0.out (F_below (C_F (heap_int .u32) HR0.out) sU_)); (case side2 => exact V_mk HC1.out (F_below (C_F (heap_int .u32) HR1.out) sU_)); rintro e w8 ⟨v1095, rfl, ho0, hb⟩; refine ⟨_, rfl, ?_⟩; refine nx3_ (R_lower (R_mono (ok' := fun k_ => True) ho0 (fun _ hk_ => trivial)) (below_size sU_)) (blk_below (kU_ BK1093.out) hb) (below_step sU_ hb) ?_; clear BK1093 HB; intro HO1096 BK1093 HB; clear hb ho0; obtain ⟨Ao9, co9, eo9⟩ := R_slice HO1096.out; subst eo9) | ((with_reducible refine gate_callee (f := 83) rfl ?_); refine gl_ (some 17) Tryd.func83 #[.slice A0 l0.length c0, .slice Ao9 t1094.length co9] ?_; (with_reducible refine (attestorref02_quotient.calls k _ _ l0 _ _ t1094 t1097 t1098 _ ?side1 ?side2 ?side3 ?side4 A4.out).mono ?_); (case side1 => exact cU_ (C_below HR0.out HB.out)); (case side2 => exact HC0.out); (case side3 => exact cU_ ((R_reads' HO1096.out).2.2)); (case side4 => exact (R_reads' HO1096.out).2.1); rintro e w10 ⟨v1099, v1101, rfl, ho0, ho1, hb⟩; refine ⟨_, rfl, ?_⟩; refine nx5_ (R_mono (Kd.R_told (Kd.R_told (Kd.R_old (rU_ HO1096.out) hb) (R_base ho0)) (R_base ho1)) (fun _ h_ => h_.1)) (R_lower (R_new' ho0 (R_lt (rU_ HO1096.out))) (below_size sU_)) (R_lower (R_new' ho1 (R_lt (rU_ HO1096.out))) (below_size sU_)) (blk_below (kU_ BK1093.out) hb) (below_step sU_ hb) ?_; clear HO1096 BK1093 HB; intro HO1096 HO1100 HO1102 BK1093 HB; clear hb ho0 ho1) | ((with_reducible refine gate_callee (f := 83) rfl ?_); refine gl_ (some 23) Tryd.func83 #[.slice A1 l1.length c1, .slice Ao9 t1094.length co9] ?_; (with_reducible refine (attestorref02_quotient.calls k _ _ l1 _ _ t1094 t1103 t1104 _ ?side1 ?side2 ?side3 ?side4 A5.out).mono ?_); (case side1 => exact cU_ (C_below HR1.out HB.out)); (case side2 => exact HC1.out); (case side3 => exact cU_ ((R_reads' HO1096.out).2.2)); (case side4 => exact (R_reads' HO1096.out).2.1); rintro e w11 ⟨v1105, v1107, rfl, ho0, ho1, hb⟩; refine ⟨_, rfl, ?_⟩; refine nx7_ (R_mono (Kd.R_told (Kd.R_told (Kd.R_old (rU_ HO1096.out) hb) (R_base ho0)) (R_base ho1)) (fun _ h_ => h_.1)) (R_mono (Kd.R_told (Kd.R_told (Kd.R_old (rU_ HO1100.out) hb) (R_base ho0)) (R_base ho1)) (fun _ h_ => h_.1)) (R_mono (Kd.R_told (Kd.R_told (Kd.R_old (rU_ HO1102.out) hb) (R_base ho0)) (R_base ho1)) (fun _ h_ => h_.1)) (R_lower (R_new' (R_new' (R_new' ho0 (R_lt (rU_ HO1096.out))) (R_lt (rU_ HO1100.out))) (R_lt (rU_ HO1102.out))) (below_size sU_)) (R_lower (R_new' (R_new' (R_new' ho1 (R_lt (rU_ HO1096.out))) (R_lt (rU_ HO1100.out))) (R_lt (rU_ HO1102.out))) (below_size sU_)) (blk_below (kU_ BK1093.out) hb) (below_step sU_ hb) ?_; clear HO1096 HO1100 HO1102 BK1093 HB; intro HO1096 HO1100 HO1102 HO1106 HO1108 BK1093 HB; clear hb ho0 ho1; obtain ⟨Ao12, co12, eo12⟩ := R_slice HO1100.out; subst eo12; have hcz13_0 := bc0_ BK1093.out; have hcz13_1 := bc1_ BK1093.out; have hfz13_0 := blk_frozen BK1093.out 0; have hfz13_1 := blk_frozen BK1093.out 1))
  refine bodyPost_ret (results_ct rfl _ _ gb1093 29 #[.slice none 0 0, .slice none 0 0] (0, 0) _ rfl kp_ Tryd.underlying29 rfl (by kernel_rfl)) rfl ?_
  exact ⟨_, _, eW_, by first | exact Kd.R_nil _ _ _ _ _ | exact Kd.N_nil _ _ _ _ _ | exact Kd.V_nil _ _ _ _ _ | exact Kd.Q_nil _ _ _ _ _ | exact Kd.S_nil _ _ _ _ _, by first | exact Kd.R_nil _ _ _ _ _ | exact Kd.N_nil _ _ _ _ _ | exact Kd.V_nil _ _ _ _ _ | exact Kd.Q_nil _ _ _ _ _ | exact Kd.S_nil _ _ _ _ _, sU_⟩
 ·rw [if_neg c6] at H
  have c6b0 : decide (64 < (t1097.length : Int)) = false := decide_eq_false c6
  have c6b1 : decide (64 < t1097.length) = false := decide_eq_false (by omega)
  clear c6
  by_cases c14 : (t1103.length : Int) > 64
  ·rw [if_pos c14] at H
   have c14b0 : decide (64 < (t1103.length : Int)) = true := decide_eq_true c14
   have c14b1 : decide (64 < t1103.length) = true := decide_eq_true (by omega)
   clear c14
   simp only [Option.some.injEq, Prod.mk.injEq] at H
   obtain ⟨rfl, rfl, rfl⟩ := H
   go_enter Tryd.func81, Tryd.ntmps81
   go_wp2_with (first | ((with_reducible refine gate_dst (N := 4) rfl ?_); (try (refine gate_guard (by rfl) ?_; dsimp only)); refine bx_ 4 29 #[.slice none 0 0, .slice none 0 0] ?_; intro gb1093 hg w15 hbox hb; refine nx4_ (below_step (bU_ HB.out) hb) (hbox) ((hs_ hg (below_size (bU_ HB.out)))) ((hs_ hg (below_size (bU_ HB.out)))) ?_; clear HB; intro HB BK1093 GW1093 GE1093; clear hb hbox hg) | ((with_reducible refine gate_callee (f := 79) rfl ?_); refine gl_ (some 13) Tryd.func79 #[.slice A0 l0.length c0, .slice A1 l1.length c1] ?_; (with_reducible refine (attestorref02_gcd.calls k (fun k_ => k_ < w.heap.size) _ _ l0 (fun k_ => k_ < w.heap.size) _ _ l1 t1094 _ ?side1 ?side2 A3.out).mono ?_); (case side1 => exact V_mk HC0.out (F_below (C_F (heap_int .u32) HR0.out) sU_)); (case side2 => exact V_mk HC1.out (F_below (C_F (heap_int .u32) HR1.out) sU_)); rintro e w16 ⟨v1095, rfl, ho0, hb⟩; refine ⟨_, rfl, ?_⟩; refine nx3_ (R_lower (R_mono (ok' := fun k_ => True) ho0 (fun _ hk_ => trivial)) (below_size sU_)) (blk_below (kU_ BK1093.out) hb) (below_step sU_ hb) ?_; clear BK1093 HB; intro HO1096 BK1093 HB; clear hb ho0; obtain ⟨Ao17, co17, eo17⟩ := R_slice HO1096.out; subst eo17) | ((with_reducible refine gate_callee (f := 83) rfl ?_); refine gl_ (some 17) Tryd.func83 #[.slice A0 l0.length c0, .slice Ao17 t1094.length co17] ?_; (with_reducible refine (attestorref02_quotient.calls k _ _ l0 _ _ t1094 t1097 t1098 _ ?side1 ?side2 ?side3 ?side4 A4.out).mono ?_); (case side1 => exact cU_ (C_below HR0.out HB.out)); (case side2 => exact HC0.out); (case side3 => exact cU_ ((R_reads' HO1096.out).2.2)); (case side4 => exact (R_reads' HO1096.out).2.1); rintro e w18 ⟨v1099, v1101, rfl, ho0, ho1, hb⟩; refine ⟨_, rfl, ?_⟩; refine nx5_ (R_mono (Kd.R_told (Kd.R_told (Kd.R_old (rU_ HO1096.out) hb) (R_base ho0)) (R_base ho1)) (fun _ h_ => h_.1)) (R_lower (R_new' ho0 (R_lt (rU_ HO1096.out))) (below_size sU_)) (R_lower (R_new' ho1 (R_lt (rU_ HO1096.out))) (below_size sU_)) (blk_below (kU_ BK1093.out) hb) (below_step sU_ hb) ?_; clear HO1096 BK1093 HB; intro HO1096 HO1100 HO1102 BK1093 HB; clear hb ho0 ho1) | ((with_reducible refine gate_callee (f := 83) rfl ?_); refine gl_ (some 23) Tryd.func83 #[.slice A1 l1.length c1, .slice Ao17 t1094.length co17] ?_; (with_reducible refine (attestorref02_quotient.calls k _ _ l1 _ _ t1094 t1103 t1104 _ ?side1 ?side2 ?side3 ?side4 A5.out).mono ?_); (case side1 => exact cU_ (C_below HR1.out HB.out)); (case side2 => exact HC1.out); (case side3 => exact cU_ ((R_reads' HO1096.out).2.2)); (case side4 => exact (R_reads' HO1096.out).2.1); rintro e w19 ⟨v1105, v1107, rfl, ho0, ho1, hb⟩; refine ⟨_, rfl, ?_⟩; refine nx7_ (R_mono (Kd.R_told (Kd.R_told (Kd.R_old (rU_ HO1096.out) hb) (R_base ho0)) (R_base ho1)) (fun _ h_ => h_.1)) (R_mono (Kd.R_told (Kd.R_told (Kd.R_old (rU_ HO1100.out) hb) (R_base ho0)) (R_base ho1)) (fun _ h_ => h_.1)) (R_mono (Kd.R_told (Kd.R_told (Kd.R_old (rU_ HO1102.out) hb) (R_base ho0)) (R_base ho1)) (fun _ h_ => h_.1)) (R_lower (R_new' (R_new' (R_new' ho0 (R_lt (rU_ HO1096.out))) (R_lt (rU_ HO1100.out))) (R_lt (rU_ HO1102.out))) (below_size sU_)) (R_lower (R_new' (R_new' (R_new' ho1 (R_lt (rU_ HO1096.out))) (R_lt (rU_ HO1100.out))) (R_lt (rU_ HO1102.out))) (below_size sU_)) (blk_below (kU_ BK1093.out) hb) (below_step sU_ hb) ?_; clear HO1096 HO1100 HO1102 BK1093 HB; intro HO1096 HO1100 HO1102 HO1106 HO1108 BK1093 HB; clear hb ho0 ho1; obtain ⟨Ao20, co20, eo20⟩ := R_slice HO1100.out; subst eo20; obtain ⟨Ao21, co21, eo21⟩ := R_slice HO1106.out; subst eo21; have hcz22_0 := bc0_ BK1093.out; have hcz22_1 := bc1_ BK1093.out; have hfz22_0 := blk_frozen BK1093.out 0; have hfz22_1 := blk_frozen BK1093.out 1))
   refine bodyPost_ret (results_ct rfl _ _ gb1093 29 #[.slice none 0 0, .slice none 0 0] (0, 0) _ rfl kp_ Tryd.underlying29 rfl (by kernel_rfl)) rfl ?_
   exact ⟨_, _, eW_, by first | exact Kd.R_nil _ _ _ _ _ | exact Kd.N_nil _ _ _ _ _ | exact Kd.V_nil _ _ _ _ _ | exact Kd.Q_nil _ _ _ _ _ | exact Kd.S_nil _ _ _ _ _, by first | exact Kd.R_nil _ _ _ _ _ | exact Kd.N_nil _ _ _ _ _ | exact Kd.V_nil _ _ _ _ _ | exact Kd.Q_nil _ _ _ _ _ | exact Kd.S_nil _ _ _ _ _, sU_⟩
  ·rw [if_neg c14] at H
   have c14b0 : decide (64 < (t1103.length : Int)) = false := decide_eq_false c14
   have c14b1 : decide (64 < t1103.length) = false := decide_eq_false (by omega)
   clear c14
   simp only [Option.some.injEq, Prod.mk.injEq] at H
   obtain ⟨rfl, rfl, rfl⟩ := H
   go_enter Tryd.func81, Tryd.ntmps81
   go_wp2_with (first | ((with_reducible refine gate_dst (N := 4) rfl ?_); (try (refine gate_guard (by rfl) ?_; dsimp only)); refine bx_ 4 29 #[.slice none 0 0, .slice none 0 0] ?_; intro gb1093 hg w23 hbox hb; refine nx4_ (below_step (bU_ HB.out) hb) (hbox) ((hs_ hg (below_size (bU_ HB.out)))) ((hs_ hg (below_size (bU_ HB.out)))) ?_; clear HB; intro HB BK1093 GW1093 GE1093; clear hb hbox hg) | ((with_reducible refine gate_callee (f := 79) rfl ?_); refine gl_ (some 13) Tryd.func79 #[.slice A0 l0.length c0, .slice A1 l1.length c1] ?_; (with_reducible refine (attestorref02_gcd.calls k (fun k_ => k_ < w.heap.size) _ _ l0 (fun k_ => k_ < w.heap.size) _ _ l1 t1094 _ ?side1 ?side2 A3.out).mono ?_); (case side1 => exact V_mk HC0.out (F_below (C_F (heap_int .u32) HR0.out) sU_)); (case side2 => exact V_mk HC1.out (F_below (C_F (heap_int .u32) HR1.out) sU_)); rintro e w24 ⟨v1095, rfl, ho0, hb⟩; refine ⟨_, rfl, ?_⟩; refine nx3_ (R_lower (R_mono (ok' := fun k_ => True) ho0 (fun _ hk_ => trivial)) (below_size sU_)) (blk_below (kU_ BK1093.out) hb) (below_step sU_ hb) ?_; clear BK1093 HB; intro HO1096 BK1093 HB; clear hb ho0; obtain ⟨Ao25, co25, eo25⟩ := R_slice HO1096.out; subst eo25) | ((with_reducible refine gate_callee (f := 83) rfl ?_); refine gl_ (some 17) Tryd.func83 #[.slice A0 l0.length c0, .slice Ao25 t1094.length co25] ?_; (with_reducible refine (attestorref02_quotient.calls k _ _ l0 _ _ t1094 t1097 t1098 _ ?side1 ?side2 ?side3 ?side4 A4.out).mono ?_); (case side1 => exact cU_ (C_below HR0.out HB.out)); (case side2 => exact HC0.out); (case side3 => exact cU_ ((R_reads' HO1096.out).2.2)); (case side4 => exact (R_reads' HO1096.out).2.1); rintro e w26 ⟨v1099, v1101, rfl, ho0, ho1, hb⟩; refine ⟨_, rfl, ?_⟩; refine nx5_ (R_mono (Kd.R_told (Kd.R_told (Kd.R_old (rU_ HO1096.out) hb) (R_base ho0)) (R_base ho1)) (fun _ h_ => h_.1)) (R_lower (R_new' ho0 (R_lt (rU_ HO1096.out))) (below_size sU_)) (R_lower (R_new' ho1 (R_lt (rU_ HO1096.out))) (below_size sU_)) (blk_below (kU_ BK1093.out) hb) (below_step sU_ hb) ?_; clear HO1096 BK1093 HB; intro HO1096 HO1100 HO1102 BK1093 HB; clear hb ho0 ho1) | ((with_reducible refine gate_callee (f := 83) rfl ?_); refine gl_ (some 23) Tryd.func83 #[.slice A1 l1.length c1, .slice Ao25 t1094.length co25] ?_; (with_reducible refine (attestorref02_quotient.calls k _ _ l1 _ _ t1094 t1103 t1104 _ ?side1 ?side2 ?side3 ?side4 A5.out).mono ?_); (case side1 => exact cU_ (C_below HR1.out HB.out)); (case side2 => exact HC1.out); (case side3 => exact cU_ ((R_reads' HO1096.out).2.2)); (case side4 => exact (R_reads' HO1096.out).2.1); rintro e w27 ⟨v1105, v1107, rfl, ho0, ho1, hb⟩; refine ⟨_, rfl, ?_⟩; refine nx7_ (R_mono (Kd.R_told (Kd.R_told (Kd.R_old (rU_ HO1096.out) hb) (R_base ho0)) (R_base ho1)) (fun _ h_ => h_.1)) (R_mono (Kd.R_told (Kd.R_told (Kd.R_old (rU_ HO1100.out) hb) (R_base ho0)) (R_base ho1)) (fun _ h_ => h_.1)) (R_mono (Kd.R_told (Kd.R_told (Kd.R_old (rU_ HO1102.out) hb) (R_base ho0)) (R_base ho1)) (fun _ h_ => h_.1)) (R_lower (R_new' (R_new' (R_new' ho0 (R_lt (rU_ HO1096.out))) (R_lt (rU_ HO1100.out))) (R_lt (rU_ HO1102.out))) (below_size sU_)) (R_lower (R_new' (R_new' (R_new' ho1 (R_lt (rU_ HO1096.out))) (R_lt (rU_ HO1100.out))) (R_lt (rU_ HO1102.out))) (below_size sU_)) (blk_below (kU_ BK1093.out) hb) (below_step sU_ hb) ?_; clear HO1096 HO1100 HO1102 BK1093 HB; intro HO1096 HO1100 HO1102 HO1106 HO1108 BK1093 HB; clear hb ho0 ho1; obtain ⟨Ao28, co28, eo28⟩ := R_slice HO1100.out; subst eo28; obtain ⟨Ao29, co29, eo29⟩ := R_slice HO1106.out; subst eo29; have hcz30_0 := bc0_ BK1093.out; have hcz30_1 := bc1_ BK1093.out; have hfz30_0 := blk_frozen BK1093.out 0; have hfz30_1 := blk_frozen BK1093.out 1))
   refine bodyPost_ret (results_ct rfl _ _ gb1093 29 #[.slice Ao28 t1097.length co28, .slice Ao29 t1103.length co29] (0, 0) _ rfl kp_ Tryd.underlying29 rfl (by kernel_rfl)) rfl ?_
   exact ⟨_, _, eW_, by (with_reducible repeat (first | apply Kd.R_alloc | apply Kd.R_drewN | apply R_drew)); exact R_mono (R_far (p := ⟨gb1093, 1, none⟩) (R_far (p := ⟨gb1093, 0, none⟩) (R_types HO1100.out BK1093.out (by decide)) (fun _ hk => hk.2) (.slice Ao28 t1097.length co28)) (fun _ hk => hk.2) (.slice Ao29 t1103.length co29)) (fun _ hk => hk.1.1.2), by (with_reducible repeat (first | apply Kd.R_alloc | apply Kd.R_drewN | apply R_drew)); exact R_mono (R_far (p := ⟨gb1093, 1, none⟩) (R_far (p := ⟨gb1093, 0, none⟩) (R_types HO1106.out BK1093.out (by decide)) (fun _ hk => hk.2) (.slice Ao28 t1097.length co28)) (fun _ hk => hk.2) (.slice Ao29 t1103.length co29)) (fun _ hk => hk.1.1.2), sU_⟩

def attestorref02_New.j0 : Nat → List Int → List Int → Bool → Option (List Int × List Int × Int)
 | 0, _, _, _ => none
 | k + 1, x0, x1, x13 => if x13 = true then (some (([] : List Int), ([] : List Int), 1)) else (if (x1.length : Int) = 0 then (some (([] : List Int), ([] : List Int), 2)) else ((attestorref02_lowest.f k x0 x1).bind fun bt1112 => (some (bt1112.1, bt1112.2.1, bt1112.2.2))))
def attestorref02_New.f (k : Nat) (l0 : List Int) (l1 : List Int) : Option (List Int × List Int × Int) := (attestorref02_ValidNat.f l0).bind fun t1110 => (if t1110 = true then ((attestorref02_ValidNat.f l1).bind fun t1111 => (attestorref02_New.j0 k l0 l1 (!t1111))) else (attestorref02_New.j0 k l0 l1 true))
set_option maxHeartbeats 8000000 in
set_option maxRecDepth 100000 in
theorem attestorref02_New.calls (k : Nat) (A0 : Option Addr) (c0 : Nat) (l0 : List Int) (A1 : Option Addr) (c1 : Nat) (l1 : List Int) (r1 : List Int) (r2 : List Int) (r3 : Int) (w : World) (hr0 : Kd.C (Kd.int .u32) w A0 l0.length l0) (hc0 : l0.length ≤ c0) (hr1 : Kd.C (Kd.int .u32) w A1 l1.length l1) (hc1 : l1.length ≤ c1) (h : attestorref02_New.f k l0 l1 = some (r1, r2, r3)) :
  Calls Tryd.prog 41 #[.slice A0 l0.length c0, .slice A1 l1.length c1] w fun e w' => ∃ v0_ v1_ : Value, e = .returned (.tuple #[.agg #[v0_, v1_], .int .i64 r3]) ∧ Kd.R (Kd.int .u32) 44 w' w.heap.size (fun k_ => some k_ ≠ (v1_ : Value).ownBlock) v0_ r1 ∧ Kd.R (Kd.int .u32) 44 w' w.heap.size (fun k_ => some k_ ≠ (v0_ : Value).ownBlock) v1_ r2 ∧ Below w.heap.size w w' := by
 have hu29 := Tryd.underlying29
 have HR0 := ak hr0
 have HC0 := ak hc0
 clear hr0 hc0
 have HR1 := ak hr1
 have HC1 := ak hc1
 clear hr1 hc1
 have HB := ak (Below.refl w.heap.size w)
 have H := h
 clear h
 unfold attestorref02_New.f at H
 have HC3 := ak H
 clear H
 go_enter Tryd.func41, Tryd.ntmps41
 go_upto_region 1 with (first | ((with_reducible refine gate_dst (N := 4) rfl ?_); refine bx_ 4 29 #[.slice none 0 0, .slice none 0 0] ?_; intro gb1109 hg w4 hbox hb; refine nx4_ (below_step (bU_ HB.out) hb) (hbox) ((hs_ hg (below_size (bU_ HB.out)))) ((hs_ hg (below_size (bU_ HB.out)))) ?_; clear HB; intro HB BK1109 GW1109 GE1109; clear hb hbox hg))
 (try simp only [Act.put, s1_, s2_, s3_])
 go_cut [13] (fun v13 wc => ∃ (kq : Nat) (x13_2 : Bool), v13 = .bool x13_2 ∧ Aside0 (attestorref02_New.j0 kq l0 l1 x13_2 = some (r1, r2, r3)) ∧ Aside0 (kq ≤ k) ∧ Aside0 (wc.heap[gb1109]? = some (.cells #[(.slice none 0 0), (.slice none 0 0)] 29 (0, 0))) ∧ Aside0 (Below w.heap.size w wc))
 case first =>
  have H := HC3.out
  clear HC3
  revert H
  refine bd_ fun t1110 A5 H => ?_
  by_cases c6 : t1110 = true
  ·subst c6
   rw [if_pos rfl] at H
   revert H
   refine bd_ fun t1111 A7 H => ?_
   have H' := ak H
   clear H
   go_wp2_with (first | ((with_reducible refine gate_callee (f := 48) rfl ?_); refine gl_ (some 7) Tryd.func48 #[.slice A0 l0.length c0] ?_; (with_reducible refine (attestorref02_ValidNat.calls _ _ l0 true _ ?side1 ?side2 A5.out).mono ?_); (case side1 => exact cU_ (C_below HR0.out HB.out)); (case side2 => exact HC0.out); rintro e w' ⟨rfl, ⟨nd, rfl⟩⟩; refine ⟨_, rfl, ?_⟩) | (go_at_call 48; (with_reducible refine (attestorref02_ValidNat.calls _ _ l1 t1111 _ ?side1 ?side2 A7.out).mono ?_); (case side1 => repeat (first | exact (C_below HR1.out sU_) | (with_reducible refine Kd.C_alloc ?_ _) | (with_reducible refine Kd.C_drewN ?_ _) | (with_reducible refine Kd.C_drew ?_))); (case side2 => exact HC1.out); rintro e w' ⟨rfl, ⟨nd, rfl⟩⟩))
   go_meet
   case rel => exact ⟨_, (!t1111), gb_, H', ⟨by first | omega | exact Nat.le_refl _⟩, ⟨by (with_reducible repeat (first | refine blk_drewN ?_ _ | refine blk_drew ?_ | refine blk_alloc ?_ _)); exact BK1109.out⟩, ⟨sU_⟩⟩
  ·replace c6 := Bool.eq_false_iff.mpr c6
   subst c6
   rw [if_neg (show ¬ (false = true) by decide)] at H
   have H' := ak H
   clear H
   go_wp2_with (first | ((with_reducible refine gate_callee (f := 48) rfl ?_); refine gl_ (some 7) Tryd.func48 #[.slice A0 l0.length c0] ?_; (with_reducible refine (attestorref02_ValidNat.calls _ _ l0 false _ ?side1 ?side2 A5.out).mono ?_); (case side1 => exact cU_ (C_below HR0.out HB.out)); (case side2 => exact HC0.out); rintro e w' ⟨rfl, ⟨nd, rfl⟩⟩; refine ⟨_, rfl, ?_⟩))
   go_meet
   case rel => exact ⟨_, (true), gb_, H', ⟨by first | omega | exact Nat.le_refl _⟩, ⟨by (with_reducible repeat (first | refine blk_drewN ?_ _ | refine blk_drew ?_ | refine blk_alloc ?_ _)); exact BK1109.out⟩, ⟨sU_⟩⟩
 case rest =>
  clear HC3
  (try clear c1); (try clear p2); (try clear c4); (try clear c6)
  obtain ⟨kq, x13_2, rfl, HA, HJ2, BK1109, HB⟩ := hcut
  cases kq with
  | zero => exact absurd HA.out (by simp [attestorref02_New.j0])
  | succ kj2 =>
   have H := HA.out
   clear HA
   simp only [attestorref02_New.j0] at H
   by_cases c8 : x13_2 = true
   ·subst c8
    rw [if_pos rfl] at H
    simp only [Option.some.injEq, Prod.mk.injEq] at H
    obtain ⟨rfl, rfl, rfl⟩ := H
    have hcz9_0 := bc0_ BK1109.out
    have hcz9_1 := bc1_ BK1109.out
    have hfz9_0 := blk_frozen BK1109.out 0
    have hfz9_1 := blk_frozen BK1109.out 1
    go_wp2
    refine bodyPost_ret (results_ct rfl _ _ gb1109 29 #[.slice none 0 0, .slice none 0 0] (0, 0) _ rfl kp_ Tryd.underlying29 rfl (by kernel_rfl)) rfl ?_
    exact ⟨_, _, eW_, by first | exact Kd.R_nil _ _ _ _ _ | exact Kd.N_nil _ _ _ _ _ | exact Kd.V_nil _ _ _ _ _ | exact Kd.Q_nil _ _ _ _ _ | exact Kd.S_nil _ _ _ _ _, by first | exact Kd.R_nil _ _ _ _ _ | exact Kd.N_nil _ _ _ _ _ | exact Kd.V_nil _ _ _ _ _ | exact Kd.Q_nil _ _ _ _ _ | exact Kd.S_nil _ _ _ _ _, sU_⟩
   ·replace c8 := Bool.eq_false_iff.mpr c8
    subst c8
    rw [if_neg (show ¬ (false = true) by decide)] at H
    by_cases c10 : (l1.length : Int) = 0
    ·rw [if_pos c10] at H
     have c10b0 := beq_iff_eq.mpr c10
     have c10b1 := bne_eq_false_iff_eq.mpr c10
     clear c10
     simp only [Option.some.injEq, Prod.mk.injEq] at H
     obtain ⟨rfl, rfl, rfl⟩ := H
     have hcz11_0 := bc0_ BK1109.out
     have hcz11_1 := bc1_ BK1109.out
     have hfz11_0 := blk_frozen BK1109.out 0
     have hfz11_1 := blk_frozen BK1109.out 1
     go_wp2
     refine bodyPost_ret (results_ct rfl _ _ gb1109 29 #[.slice none 0 0, .slice none 0 0] (0, 0) _ rfl kp_ Tryd.underlying29 rfl (by kernel_rfl)) rfl ?_
     exact ⟨_, _, eW_, by first | exact Kd.R_nil _ _ _ _ _ | exact Kd.N_nil _ _ _ _ _ | exact Kd.V_nil _ _ _ _ _ | exact Kd.Q_nil _ _ _ _ _ | exact Kd.S_nil _ _ _ _ _, by first | exact Kd.R_nil _ _ _ _ _ | exact Kd.N_nil _ _ _ _ _ | exact Kd.V_nil _ _ _ _ _ | exact Kd.Q_nil _ _ _ _ _ | exact Kd.S_nil _ _ _ _ _, sU_⟩
    ·rw [if_neg c10] at H
     have c10b0 := beq_eq_false_iff_ne.mpr c10
     have c10b1 := bne_iff_ne.mpr c10
     have c10b2 : ¬ (l1 = []) := fun h_ => c10 (by rw [h_]; rfl)
     revert H
     refine bd3_ fun t1112 t1115 t1118 A12 H => ?_
     try dsimp only at H
     simp only [Option.some.injEq, Prod.mk.injEq] at H
     obtain ⟨rfl, rfl, rfl⟩ := H
     go_wp2_with (first | ((with_reducible refine gate_callee (f := 81) rfl ?_); refine gl_ (some 21) Tryd.func81 #[.slice A0 l0.length c0, .slice A1 l1.length c1] ?_; (with_reducible refine (attestorref02_lowest.calls kj2 _ _ l0 _ _ l1 t1112 t1115 t1118 _ ?side1 ?side2 ?side3 ?side4 A12.out).mono ?_); (case side1 => exact cU_ (C_below HR0.out HB.out)); (case side2 => exact HC0.out); (case side3 => exact cU_ (C_below HR1.out HB.out)); (case side4 => exact HC1.out); rintro e w13 ⟨v1113, v1116, rfl, ho0, ho1, hb⟩; refine ⟨_, rfl, ?_⟩; refine nx4_ (R_lower ho0 (below_size sU_)) (R_lower ho1 (below_size sU_)) (blk_below (kU_ BK1109.out) hb) (below_step sU_ hb) ?_; clear BK1109 HB; intro HO1114 HO1117 BK1109 HB; clear hb ho0 ho1; obtain ⟨Ao14, co14, eo14⟩ := R_slice HO1114.out; subst eo14; have hcz15_0 := bc0_ BK1109.out; have hcz15_1 := bc1_ BK1109.out; have hfz15_0 := blk_frozen BK1109.out 0; have hfz15_1 := blk_frozen BK1109.out 1; obtain ⟨Ao16, co16, eo16⟩ := R_slice HO1117.out; subst eo16))
     refine bodyPost_ret (results_ct rfl _ _ gb1109 29 #[.slice Ao14 t1112.length co14, .slice Ao16 t1115.length co16] (0, 0) _ rfl kp_ Tryd.underlying29 rfl (by kernel_rfl)) rfl ?_
     exact ⟨_, _, eW_, by (with_reducible repeat (first | apply Kd.R_alloc | apply Kd.R_drewN | apply R_drew)); exact R_mono (R_far (p := ⟨gb1109, 1, none⟩) (R_far (p := ⟨gb1109, 0, none⟩) (R_types HO1114.out BK1109.out (by decide)) (fun _ hk => hk.2) (.slice Ao14 t1112.length co14)) (fun _ hk => hk.2) (.slice Ao16 t1115.length co16)) (fun _ hk => hk.1), by (with_reducible repeat (first | apply Kd.R_alloc | apply Kd.R_drewN | apply R_drew)); exact R_mono (R_far (p := ⟨gb1109, 1, none⟩) (R_far (p := ⟨gb1109, 0, none⟩) (R_types HO1117.out BK1109.out (by decide)) (fun _ hk => hk.2) (.slice Ao14 t1112.length co14)) (fun _ hk => hk.2) (.slice Ao16 t1115.length co16)) (fun _ hk => hk.1), sU_⟩

def attestorref02_Same.f (k : Nat) (l0_0 : List Int) (l0_1 : List Int) (l1_0 : List Int) (l1_1 : List Int) : Option (Bool) := (attestorref02_SameNat.f k l0_0 l1_0).bind fun t1141 => (if t1141 = true then ((attestorref02_SameNat.f k l0_1 l1_1).bind fun t1142 => (some t1142)) else (some false))
set_option maxHeartbeats 8000000 in
set_option maxRecDepth 100000 in
theorem attestorref02_Same.calls (k : Nat) (A0_0 : Option Addr) (c0_0 : Nat) (l0_0 : List Int) (A0_1 : Option Addr) (c0_1 : Nat) (l0_1 : List Int) (A1_0 : Option Addr) (c1_0 : Nat) (l1_0 : List Int) (A1_1 : Option Addr) (c1_1 : Nat) (l1_1 : List Int) (r : Bool) (w : World) (hr0_0 : Kd.C (Kd.int .u32) w A0_0 l0_0.length l0_0) (hc0_0 : l0_0.length ≤ c0_0) (hr0_1 : Kd.C (Kd.int .u32) w A0_1 l0_1.length l0_1) (hc0_1 : l0_1.length ≤ c0_1) (hr1_0 : Kd.C (Kd.int .u32) w A1_0 l1_0.length l1_0) (hc1_0 : l1_0.length ≤ c1_0) (hr1_1 : Kd.C (Kd.int .u32) w A1_1 l1_1.length l1_1) (hc1_1 : l1_1.length ≤ c1_1) (h : attestorref02_Same.f k l0_0 l0_1 l1_0 l1_1 = some r) :
  Calls Tryd.prog 18 #[.agg #[.slice A0_0 l0_0.length c0_0, .slice A0_1 l0_1.length c0_1], .agg #[.slice A1_0 l1_0.length c1_0, .slice A1_1 l1_1.length c1_1]] w fun e w' => e = .returned (.bool r) ∧ Below w.heap.size w w' := by
 have hu29 := Tryd.underlying29
 have HR0_0 := ak hr0_0
 have HC0_0 := ak hc0_0
 clear hr0_0 hc0_0
 have HR0_1 := ak hr0_1
 have HC0_1 := ak hc0_1
 clear hr0_1 hc0_1
 have HR1_0 := ak hr1_0
 have HC1_0 := ak hc1_0
 clear hr1_0 hc1_0
 have HR1_1 := ak hr1_1
 have HC1_1 := ak hc1_1
 clear hr1_1 hc1_1
 have HB := ak (Below.refl w.heap.size w)
 have H := h
 clear h
 unfold attestorref02_Same.f at H
 revert H
 refine bd_ fun t1141 A3 H => ?_
 by_cases c4 : t1141 = true
 ·subst c4
  rw [if_pos rfl] at H
  revert H
  refine bd_ fun t1142 A5 H => ?_
  obtain rfl := Option.some.inj H
  go_enter Tryd.func18, Tryd.ntmps18
  go_wp2_with (first | ((with_reducible refine gate_dst (N := 2) rfl ?_); refine bx_ 2 29 #[.slice A0_0 l0_0.length c0_0, .slice A0_1 l0_1.length c0_1] ?_; intro gb1139 hg w6 hbox hb; refine nx4_ (below_step (bU_ HB.out) hb) (hbox) ((hs_ hg (below_size (bU_ HB.out)))) ((hs_ hg (below_size (bU_ HB.out)))) ?_; clear HB; intro HB BK1139 GW1139 GE1139; clear hb hbox hg) | ((with_reducible refine gate_dst (N := 3) rfl ?_); refine bx_ 3 29 #[.slice A1_0 l1_0.length c1_0, .slice A1_1 l1_1.length c1_1] ?_; intro gb1140 hg w7 hbox hb; refine nx7_ (blk_below (kU_ BK1139.out) hb) (below_step sU_ hb) (hbox) ((hs_ hg (below_size sU_) : w.heap.size ≤ gb1140)) ((hs_ hg (below_size sU_) : w.heap.size ≤ gb1140)) ((hl_ hg (kU_ BK1139.out))) ((hm_ hg (kU_ BK1139.out))) ?_; clear BK1139 HB; intro BK1139 HB BK1140 GW1140 GE1140 NB1139_1140 NB1140_1139; clear hb hbox hg; have hnb8 := NB1139_1140.out; have hnc8 := NB1140_1139.out; have hcz9_0 := bc0_ BK1139.out; have hcz9_1 := bc1_ BK1139.out; have hfz9_0 := blk_frozen BK1139.out 0; have hfz9_1 := blk_frozen BK1139.out 1; have hcz10_0 := bc0_ BK1140.out; have hcz10_1 := bc1_ BK1140.out; have hfz10_0 := blk_frozen BK1140.out 0; have hfz10_1 := blk_frozen BK1140.out 1) | ((with_reducible refine gate_callee (f := 15) rfl ?_); refine gl_ (some 9) Tryd.func15 #[.slice A0_0 l0_0.length c0_0, .slice A1_0 l1_0.length c1_0] ?_; (with_reducible refine (attestorref02_SameNat.calls k _ _ l0_0 _ _ l1_0 true _ ?side1 ?side2 ?side3 ?side4 A3.out).mono ?_); (case side1 => exact cU_ (C_below HR0_0.out HB.out)); (case side2 => exact HC0_0.out); (case side3 => exact cU_ (C_below HR1_0.out HB.out)); (case side4 => exact HC1_0.out); rintro e w' ⟨rfl, ⟨nd, rfl⟩⟩; refine ⟨_, rfl, ?_⟩) | (go_at_call 15; (with_reducible refine (attestorref02_SameNat.calls k _ _ l0_1 _ _ l1_1 t1142 _ ?side1 ?side2 ?side3 ?side4 A5.out).mono ?_); (case side1 => repeat (first | exact (C_below HR0_1.out sU_) | (with_reducible refine Kd.C_alloc ?_ _) | (with_reducible refine Kd.C_drewN ?_ _) | (with_reducible refine Kd.C_drew ?_))); (case side2 => exact HC0_1.out); (case side3 => repeat (first | exact (C_below HR1_1.out sU_) | (with_reducible refine Kd.C_alloc ?_ _) | (with_reducible refine Kd.C_drewN ?_ _) | (with_reducible refine Kd.C_drew ?_))); (case side4 => exact HC1_1.out); rintro e w' ⟨rfl, ⟨nd, rfl⟩⟩))
  go_ret
  exact ⟨eW_, sU_⟩
 ·replace c4 := Bool.eq_false_iff.mpr c4
  subst c4
  rw [if_neg (show ¬ (false = true) by decide)] at H
  obtain rfl := Option.some.inj H
  go_enter Tryd.func18, Tryd.ntmps18
  go_wp2_with (first | ((with_reducible refine gate_dst (N := 2) rfl ?_); refine bx_ 2 29 #[.slice A0_0 l0_0.length c0_0, .slice A0_1 l0_1.length c0_1] ?_; intro gb1139 hg w11 hbox hb; refine nx4_ (below_step (bU_ HB.out) hb) (hbox) ((hs_ hg (below_size (bU_ HB.out)))) ((hs_ hg (below_size (bU_ HB.out)))) ?_; clear HB; intro HB BK1139 GW1139 GE1139; clear hb hbox hg) | ((with_reducible refine gate_dst (N := 3) rfl ?_); refine bx_ 3 29 #[.slice A1_0 l1_0.length c1_0, .slice A1_1 l1_1.length c1_1] ?_; intro gb1140 hg w12 hbox hb; refine nx7_ (blk_below (kU_ BK1139.out) hb) (below_step sU_ hb) (hbox) ((hs_ hg (below_size sU_) : w.heap.size ≤ gb1140)) ((hs_ hg (below_size sU_) : w.heap.size ≤ gb1140)) ((hl_ hg (kU_ BK1139.out))) ((hm_ hg (kU_ BK1139.out))) ?_; clear BK1139 HB; intro BK1139 HB BK1140 GW1140 GE1140 NB1139_1140 NB1140_1139; clear hb hbox hg; have hnb13 := NB1139_1140.out; have hnc13 := NB1140_1139.out; have hcz14_0 := bc0_ BK1139.out; have hcz14_1 := bc1_ BK1139.out; have hfz14_0 := blk_frozen BK1139.out 0; have hfz14_1 := blk_frozen BK1139.out 1; have hcz15_0 := bc0_ BK1140.out; have hcz15_1 := bc1_ BK1140.out; have hfz15_0 := blk_frozen BK1140.out 0; have hfz15_1 := blk_frozen BK1140.out 1) | ((with_reducible refine gate_callee (f := 15) rfl ?_); refine gl_ (some 9) Tryd.func15 #[.slice A0_0 l0_0.length c0_0, .slice A1_0 l1_0.length c1_0] ?_; (with_reducible refine (attestorref02_SameNat.calls k _ _ l0_0 _ _ l1_0 false _ ?side1 ?side2 ?side3 ?side4 A3.out).mono ?_); (case side1 => exact cU_ (C_below HR0_0.out HB.out)); (case side2 => exact HC0_0.out); (case side3 => exact cU_ (C_below HR1_0.out HB.out)); (case side4 => exact HC1_0.out); rintro e w' ⟨rfl, ⟨nd, rfl⟩⟩; refine ⟨_, rfl, ?_⟩))
  go_ret
  exact ⟨eW_, sU_⟩

end Go.Proofs.YtjjjoepnlhpjdaaDoor.Q

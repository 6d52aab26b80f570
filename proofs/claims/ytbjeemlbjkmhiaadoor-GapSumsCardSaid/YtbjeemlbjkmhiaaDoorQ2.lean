import Derived.Test.YtbjeemlbjkmhiaaDoorQ0
import Derived.Test.YtbjeemlbjkmhiaaDoorQ1
namespace Go.Proofs.YtbjeemlbjkmhiaaDoor.Q
open Go.RowKit Go.Proofs.YtbjeemlbjkmhiaaDoorW.PrintWords Go.Proofs.YtbjeemlbjkmhiaaDoorW.PrintLast Go.Proofs.YtbjeemlbjkmhiaaDoorW.PrintMore
open Kd (R_below R_mono R_far R_types R_lower R_new' R_newM R_elder' R_base R_lt R_slice R_reads' R_V R_tight R_lit R_make V_below V_mono V_far V_lower V_slice V_reads' V_mk C_below F_below C_F fresh' freshB R_drew V_drew heap_int)
attribute [local go_sem] max2_int min2_int max_two min_two max_three min_three max_four min_four   -- for this text's walks alone
set_option linter.unusedVariables false
set_option linter.unusedSimpArgs false

def ratio_lowest.f (k : Nat) (l0 : List Int) (l1 : List Int) : Option (List Int × List Int × Int) := (ratio_gcd.f k l0 l1).bind fun t174 => ((ratio_div.f k l0 t174).bind fun bt177 => ((ratio_div.f k l1 t174).bind fun bt183 => (if (bt177.1.length : Int) > 64 then (some (([] : List Int), ([] : List Int), 3)) else (if (bt183.1.length : Int) > 64 then (some (([] : List Int), ([] : List Int), 3)) else (some (bt177.1, bt183.1, 0))))))
theorem ratio_lowest.mono : ∀ a0 a1 k, LeO (ratio_lowest.f k a0 a1) (ratio_lowest.f (k + 1) a0 a1) := by
 intro a0 a1 k
 unfold ratio_lowest.f
 with_reducible repeat' first | apply ratio_div.mono | apply ratio_gcd.mono | exact LeO.refl _ | exact LeO.none _ | refine LeO.ite ?_ ?_ | refine LeO.bind ?_ (fun _ => ?_)
set_option maxHeartbeats 8000000 in
set_option maxRecDepth 100000 in
theorem ratio_lowest.calls (k : Nat) (A0 : Option Addr) (c0 : Nat) (l0 : List Int) (A1 : Option Addr) (c1 : Nat) (l1 : List Int) (r1 : List Int) (r2 : List Int) (r3 : Int) (w : World) (hr0 : Kd.C (Kd.int .u32) w A0 l0.length l0) (hc0 : l0.length ≤ c0) (hr1 : Kd.C (Kd.int .u32) w A1 l1.length l1) (hc1 : l1.length ≤ c1) (h : ratio_lowest.f k l0 l1 = some (r1, r2, r3)) :
  Calls Tryd.prog 98 #[.slice A0 l0.length c0, .slice A1 l1.length c1] w fun e w' => ∃ v0_ v1_ : Value, e = .returned (.tuple #[.agg #[v0_, v1_], .int .i64 r3]) ∧ Kd.V (Kd.int .u32) 115 w' w.heap.size (fun k_ => (w.heap.size ≤ k_)) v0_ r1 ∧ Kd.V (Kd.int .u32) 115 w' w.heap.size (fun k_ => (w.heap.size ≤ k_)) v1_ r2 ∧ Below w.heap.size w w' := by
 have hu26 := Tryd.underlying26
 have HR0 := ak hr0
 have HC0 := ak hc0
 clear hr0 hc0
 have HR1 := ak hr1
 have HC1 := ak hc1
 clear hr1 hc1
 have HB := ak (Below.refl w.heap.size w)
 have H := h
 clear h
 unfold ratio_lowest.f at H
 revert H
 refine bd_ fun t174 A3 H => ?_
 revert H
 refine bd2_ fun t177 t180 A4 H => ?_
 try dsimp only at H
 revert H
 refine bd2_ fun t183 t186 A5 H => ?_
 try dsimp only at H
 by_cases c6 : (t177.length : Int) > 64
 ·rw [if_pos c6] at H
  have c6b0 : decide (64 < (t177.length : Int)) = true := decide_eq_true c6
  have c6b1 : decide (64 < t177.length) = true := decide_eq_true (by omega)
  clear c6
  simp only [Option.some.injEq, Prod.mk.injEq] at H
  obtain ⟨rfl, rfl, rfl⟩ := H
  go_enter Tryd.func98, Tryd.ntmps98
  go_wp2_with (first | ((with_reducible refine gate_dst (N := 4) rfl ?_); (try (refine gate_guard (by rfl) ?_; dsimp only)); refine bx_ 4 26 #[.slice none 0 0, .slice none 0 0] ?_; intro gb173 hg w7 hbox hb; refine nx4_ (below_step (bU_ HB.out) hb) (hbox) ((hs_ hg (below_size (bU_ HB.out)))) ((hs_ hg (below_size (bU_ HB.out)))) ?_; clear HB; intro HB BK173 GW173 GE173; clear hb hbox hg) | ((with_reducible refine gate_callee (f := 92) rfl ?_); refine gl_ (some 13) Tryd.func92 #[.slice A0 l0.length c0, .slice A1 l1.length c1] ?_; (with_reducible refine (ratio_gcd.calls k (fun k_ => k_ < w.heap.size) _ _ l0 (fun k_ => k_ < w.heap.size) _ _ l1 t174 _ ?side1 ?side2 A3.out).mono ?_); (case side1 => exact V_mk HC0.out (F_below (C_F (heap_int .u32) HR0.out) sU_)); (case side2 => exact V_mk HC1.out (F_below (C_F (heap_int .u32) HR1.out) sU_)); rintro e w8 ⟨v175, rfl, ho0, hb⟩; refine ⟨_, rfl, ?_⟩; refine nx3_ (R_lower (R_newM (M := fun k_ => (w.heap.size ≤ k_)) (R_mono (ok' := fun k_ => True) ho0 (fun _ hk_ => trivial)) (below_size sU_) (fun k_ h_ => h_)) (below_size sU_)) (blk_below (kU_ BK173.out) hb) (below_step sU_ hb) ?_; clear BK173 HB; intro HO176 BK173 HB; clear hb ho0; obtain ⟨Ao9, co9, eo9⟩ := R_slice HO176.out; subst eo9) | ((with_reducible refine gate_callee (f := 122) rfl ?_); refine gl_ (some 17) Tryd.func122 #[.slice A0 l0.length c0, .slice Ao9 t174.length co9] ?_; (with_reducible refine (ratio_div.calls k _ _ l0 _ _ t174 t177 t180 _ ?side1 ?side2 ?side3 ?side4 A4.out).mono ?_); (case side1 => exact cU_ (C_below HR0.out HB.out)); (case side2 => exact HC0.out); (case side3 => exact cU_ ((R_reads' HO176.out).2.2)); (case side4 => exact (R_reads' HO176.out).2.1); rintro e w10 ⟨v178, v181, rfl, ho0, ho1, hb⟩; refine ⟨_, rfl, ?_⟩; refine nx5_ (R_below (rU_ HO176.out) hb) (V_lower (V_mono (ok' := fun k_ => (w.heap.size ≤ k_) ∧ some k_ ≠ (.slice Ao9 t174.length co9 : Value).ownBlock ∧ k_ ≠ gb173) ho0 (fun k_ hk_ => ⟨(Nat.le_trans (below_size sU_) hk_), (fresh' (R_lt (rU_ HO176.out)) k_ hk_), (freshB (kU_ BK173.out) k_ hk_)⟩)) (below_size sU_)) (V_lower (V_mono (ok' := fun k_ => (w.heap.size ≤ k_) ∧ some k_ ≠ (.slice Ao9 t174.length co9 : Value).ownBlock ∧ k_ ≠ gb173) ho1 (fun k_ hk_ => ⟨(Nat.le_trans (below_size sU_) hk_), (fresh' (R_lt (rU_ HO176.out)) k_ hk_), (freshB (kU_ BK173.out) k_ hk_)⟩)) (below_size sU_)) (blk_below (kU_ BK173.out) hb) (below_step sU_ hb) ?_; clear HO176 BK173 HB; intro HO176 HO179 HO182 BK173 HB; clear hb ho0 ho1) | ((with_reducible refine gate_callee (f := 122) rfl ?_); refine gl_ (some 23) Tryd.func122 #[.slice A1 l1.length c1, .slice Ao9 t174.length co9] ?_; (with_reducible refine (ratio_div.calls k _ _ l1 _ _ t174 t183 t186 _ ?side1 ?side2 ?side3 ?side4 A5.out).mono ?_); (case side1 => exact cU_ (C_below HR1.out HB.out)); (case side2 => exact HC1.out); (case side3 => exact cU_ ((R_reads' HO176.out).2.2)); (case side4 => exact (R_reads' HO176.out).2.1); rintro e w11 ⟨v184, v187, rfl, ho0, ho1, hb⟩; refine ⟨_, rfl, ?_⟩; refine nx7_ (R_below (rU_ HO176.out) hb) (V_below (vU_ HO179.out) hb) (V_below (vU_ HO182.out) hb) (V_lower (V_mono (ok' := fun k_ => (w.heap.size ≤ k_) ∧ some k_ ≠ (.slice Ao9 t174.length co9 : Value).ownBlock ∧ k_ ≠ gb173) ho0 (fun k_ hk_ => ⟨(Nat.le_trans (below_size sU_) hk_), (fresh' (R_lt (rU_ HO176.out)) k_ hk_), (freshB (kU_ BK173.out) k_ hk_)⟩)) (below_size sU_)) (V_lower (V_mono (ok' := fun k_ => (w.heap.size ≤ k_) ∧ some k_ ≠ (.slice Ao9 t174.length co9 : Value).ownBlock ∧ k_ ≠ gb173) ho1 (fun k_ hk_ => ⟨(Nat.le_trans (below_size sU_) hk_), (fresh' (R_lt (rU_ HO176.out)) k_ hk_), (freshB (kU_ BK173.out) k_ hk_)⟩)) (below_size sU_)) (blk_below (kU_ BK173.out) hb) (below_step sU_ hb) ?_; clear HO176 HO179 HO182 BK173 HB; intro HO176 HO179 HO182 HO185 HO188 BK173 HB; clear hb ho0 ho1; obtain ⟨Ao12, co12, eo12⟩ := V_slice HO179.out; subst eo12; have hcz13_0 := bc0_ BK173.out; have hcz13_1 := bc1_ BK173.out; have hfz13_0 := bkf9_ BK173.out 0; have hfz13_1 := bkf9_ BK173.out 1))
  refine bodyPost_ret (results_ct rfl _ _ gb173 26 #[.slice none 0 0, .slice none 0 0] (0, 0) _ rfl kp_ Tryd.underlying26 rfl (by kernel_rfl)) rfl ?_
  exact ⟨_, _, eW_, Kd.V_nil _ _ _ _ _, Kd.V_nil _ _ _ _ _, sU_⟩
 rw [if_neg c6] at H
 have c6b0 : decide (64 < (t177.length : Int)) = false := decide_eq_false c6
 have c6b1 : decide (64 < t177.length) = false := decide_eq_false (by omega)
 clear c6
 by_cases c14 : (t183.length : Int) > 64
 ·rw [if_pos c14] at H
  have c14b0 : decide (64 < (t183.length : Int)) = true := decide_eq_true c14
  have c14b1 : decide (64 < t183.length) = true := decide_eq_true (by omega)
  clear c14
  simp only [Option.some.injEq, Prod.mk.injEq] at H
  obtain ⟨rfl, rfl, rfl⟩ := H
  go_enter Tryd.func98, Tryd.ntmps98
  go_wp2_with (first | ((with_reducible refine gate_dst (N := 4) rfl ?_); (try (refine gate_guard (by rfl) ?_; dsimp only)); refine bx_ 4 26 #[.slice none 0 0, .slice none 0 0] ?_; intro gb173 hg w15 hbox hb; refine nx4_ (below_step (bU_ HB.out) hb) (hbox) ((hs_ hg (below_size (bU_ HB.out)))) ((hs_ hg (below_size (bU_ HB.out)))) ?_; clear HB; intro HB BK173 GW173 GE173; clear hb hbox hg) | ((with_reducible refine gate_callee (f := 92) rfl ?_); refine gl_ (some 13) Tryd.func92 #[.slice A0 l0.length c0, .slice A1 l1.length c1] ?_; (with_reducible refine (ratio_gcd.calls k (fun k_ => k_ < w.heap.size) _ _ l0 (fun k_ => k_ < w.heap.size) _ _ l1 t174 _ ?side1 ?side2 A3.out).mono ?_); (case side1 => exact V_mk HC0.out (F_below (C_F (heap_int .u32) HR0.out) sU_)); (case side2 => exact V_mk HC1.out (F_below (C_F (heap_int .u32) HR1.out) sU_)); rintro e w16 ⟨v175, rfl, ho0, hb⟩; refine ⟨_, rfl, ?_⟩; refine nx3_ (R_lower (R_newM (M := fun k_ => (w.heap.size ≤ k_)) (R_mono (ok' := fun k_ => True) ho0 (fun _ hk_ => trivial)) (below_size sU_) (fun k_ h_ => h_)) (below_size sU_)) (blk_below (kU_ BK173.out) hb) (below_step sU_ hb) ?_; clear BK173 HB; intro HO176 BK173 HB; clear hb ho0; obtain ⟨Ao17, co17, eo17⟩ := R_slice HO176.out; subst eo17) | ((with_reducible refine gate_callee (f := 122) rfl ?_); refine gl_ (some 17) Tryd.func122 #[.slice A0 l0.length c0, .slice Ao17 t174.length co17] ?_; (with_reducible refine (ratio_div.calls k _ _ l0 _ _ t174 t177 t180 _ ?side1 ?side2 ?side3 ?side4 A4.out).mono ?_); (case side1 => exact cU_ (C_below HR0.out HB.out)); (case side2 => exact HC0.out); (case side3 => exact cU_ ((R_reads' HO176.out).2.2)); (case side4 => exact (R_reads' HO176.out).2.1); rintro e w18 ⟨v178, v181, rfl, ho0, ho1, hb⟩; refine ⟨_, rfl, ?_⟩; refine nx5_ (R_below (rU_ HO176.out) hb) (V_lower (V_mono (ok' := fun k_ => (w.heap.size ≤ k_) ∧ some k_ ≠ (.slice Ao17 t174.length co17 : Value).ownBlock ∧ k_ ≠ gb173) ho0 (fun k_ hk_ => ⟨(Nat.le_trans (below_size sU_) hk_), (fresh' (R_lt (rU_ HO176.out)) k_ hk_), (freshB (kU_ BK173.out) k_ hk_)⟩)) (below_size sU_)) (V_lower (V_mono (ok' := fun k_ => (w.heap.size ≤ k_) ∧ some k_ ≠ (.slice Ao17 t174.length co17 : Value).ownBlock ∧ k_ ≠ gb173) ho1 (fun k_ hk_ => ⟨(Nat.le_trans (below_size sU_) hk_), (fresh' (R_lt (rU_ HO176.out)) k_ hk_), (freshB (kU_ BK173.out) k_ hk_)⟩)) (below_size sU_)) (blk_below (kU_ BK173.out) hb) (below_step sU_ hb) ?_; clear HO176 BK173 HB; intro HO176 HO179 HO182 BK173 HB; clear hb ho0 ho1) | ((with_reducible refine gate_callee (f := 122) rfl ?_); refine gl_ (some 23) Tryd.func122 #[.slice A1 l1.length c1, .slice Ao17 t174.length co17] ?_; (with_reducible refine (ratio_div.calls k _ _ l1 _ _ t174 t183 t186 _ ?side1 ?side2 ?side3 ?side4 A5.out).mono ?_); (case side1 => exact cU_ (C_below HR1.out HB.out)); (case side2 => exact HC1.out); (case side3 => exact cU_ ((R_reads' HO176.out).2.2)); (case side4 => exact (R_reads' HO176.out).2.1); rintro e w19 ⟨v184, v187, rfl, ho0, ho1, hb⟩; refine ⟨_, rfl, ?_⟩; refine nx7_ (R_below (rU_ HO176.out) hb) (V_below (vU_ HO179.out) hb) (V_below (vU_ HO182.out) hb) (V_lower (V_mono (ok' := fun k_ => (w.heap.size ≤ k_) ∧ some k_ ≠ (.slice Ao17 t174.length co17 : Value).ownBlock ∧ k_ ≠ gb173) ho0 (fun k_ hk_ => ⟨(Nat.le_trans (below_size sU_) hk_), (fresh' (R_lt (rU_ HO176.out)) k_ hk_), (freshB (kU_ BK173.out) k_ hk_)⟩)) (below_size sU_)) (V_lower (V_mono (ok' := fun k_ => (w.heap.size ≤ k_) ∧ some k_ ≠ (.slice Ao17 t174.length co17 : Value).ownBlock ∧ k_ ≠ gb173) ho1 (fun k_ hk_ => ⟨(Nat.le_trans (below_size sU_) hk_), (fresh' (R_lt (rU_ HO176.out)) k_ hk_), (freshB (kU_ BK173.out) k_ hk_)⟩)) (below_size sU_)) (blk_below (kU_ BK173.out) hb) (below_step sU_ hb) ?_; clear HO176 HO179 HO182 BK173 HB; intro HO176 HO179 HO182 HO185 HO188 BK173 HB; clear hb ho0 ho1; obtain ⟨Ao20, co20, eo20⟩ := V_slice HO179.out; subst eo20; obtain ⟨Ao21, co21, eo21⟩ := V_slice HO185.out; subst eo21; have hcz22_0 := bc0_ BK173.out; have hcz22_1 := bc1_ BK173.out; have hfz22_0 := bkf9_ BK173.out 0; have hfz22_1 := bkf9_ BK173.out 1))
  refine bodyPost_ret (results_ct rfl _ _ gb173 26 #[.slice none 0 0, .slice none 0 0] (0, 0) _ rfl kp_ Tryd.underlying26 rfl (by kernel_rfl)) rfl ?_
  exact ⟨_, _, eW_, Kd.V_nil _ _ _ _ _, Kd.V_nil _ _ _ _ _, sU_⟩
 rw [if_neg c14] at H
 have c14b0 : decide (64 < (t183.length : Int)) = false := decide_eq_false c14
 have c14b1 : decide (64 < t183.length) = false := decide_eq_false (by omega)
 clear c14
 simp only [Option.some.injEq, Prod.mk.injEq] at H
 obtain ⟨rfl, rfl, rfl⟩ := H
 go_enter Tryd.func98, Tryd.ntmps98
 go_wp2_with (first | ((with_reducible refine gate_dst (N := 4) rfl ?_); (try (refine gate_guard (by rfl) ?_; dsimp only)); refine bx_ 4 26 #[.slice none 0 0, .slice none 0 0] ?_; intro gb173 hg w23 hbox hb; refine nx4_ (below_step (bU_ HB.out) hb) (hbox) ((hs_ hg (below_size (bU_ HB.out)))) ((hs_ hg (below_size (bU_ HB.out)))) ?_; clear HB; intro HB BK173 GW173 GE173; clear hb hbox hg) | ((with_reducible refine gate_callee (f := 92) rfl ?_); refine gl_ (some 13) Tryd.func92 #[.slice A0 l0.length c0, .slice A1 l1.length c1] ?_; (with_reducible refine (ratio_gcd.calls k (fun k_ => k_ < w.heap.size) _ _ l0 (fun k_ => k_ < w.heap.size) _ _ l1 t174 _ ?side1 ?side2 A3.out).mono ?_); (case side1 => exact V_mk HC0.out (F_below (C_F (heap_int .u32) HR0.out) sU_)); (case side2 => exact V_mk HC1.out (F_below (C_F (heap_int .u32) HR1.out) sU_)); rintro e w24 ⟨v175, rfl, ho0, hb⟩; refine ⟨_, rfl, ?_⟩; refine nx3_ (R_lower (R_newM (M := fun k_ => (w.heap.size ≤ k_)) (R_mono (ok' := fun k_ => True) ho0 (fun _ hk_ => trivial)) (below_size sU_) (fun k_ h_ => h_)) (below_size sU_)) (blk_below (kU_ BK173.out) hb) (below_step sU_ hb) ?_; clear BK173 HB; intro HO176 BK173 HB; clear hb ho0; obtain ⟨Ao25, co25, eo25⟩ := R_slice HO176.out; subst eo25) | ((with_reducible refine gate_callee (f := 122) rfl ?_); refine gl_ (some 17) Tryd.func122 #[.slice A0 l0.length c0, .slice Ao25 t174.length co25] ?_; (with_reducible refine (ratio_div.calls k _ _ l0 _ _ t174 t177 t180 _ ?side1 ?side2 ?side3 ?side4 A4.out).mono ?_); (case side1 => exact cU_ (C_below HR0.out HB.out)); (case side2 => exact HC0.out); (case side3 => exact cU_ ((R_reads' HO176.out).2.2)); (case side4 => exact (R_reads' HO176.out).2.1); rintro e w26 ⟨v178, v181, rfl, ho0, ho1, hb⟩; refine ⟨_, rfl, ?_⟩; refine nx5_ (R_below (rU_ HO176.out) hb) (V_lower (V_mono (ok' := fun k_ => (w.heap.size ≤ k_) ∧ some k_ ≠ (.slice Ao25 t174.length co25 : Value).ownBlock ∧ k_ ≠ gb173) ho0 (fun k_ hk_ => ⟨(Nat.le_trans (below_size sU_) hk_), (fresh' (R_lt (rU_ HO176.out)) k_ hk_), (freshB (kU_ BK173.out) k_ hk_)⟩)) (below_size sU_)) (V_lower (V_mono (ok' := fun k_ => (w.heap.size ≤ k_) ∧ some k_ ≠ (.slice Ao25 t174.length co25 : Value).ownBlock ∧ k_ ≠ gb173) ho1 (fun k_ hk_ => ⟨(Nat.le_trans (below_size sU_) hk_), (fresh' (R_lt (rU_ HO176.out)) k_ hk_), (freshB (kU_ BK173.out) k_ hk_)⟩)) (below_size sU_)) (blk_below (kU_ BK173.out) hb) (below_step sU_ hb) ?_; clear HO176 BK173 HB; intro HO176 HO179 HO182 BK173 HB; clear hb ho0 ho1) | ((with_reducible refine gate_callee (f := 122) rfl ?_); refine gl_ (some 23) Tryd.func122 #[.slice A1 l1.length c1, .slice Ao25 t174.length co25] ?_; (with_reducible refine (ratio_div.calls k _ _ l1 _ _ t174 t183 t186 _ ?side1 ?side2 ?side3 ?side4 A5.out).mono ?_); (case side1 => exact cU_ (C_below HR1.out HB.out)); (case side2 => exact HC1.out); (case side3 => exact cU_ ((R_reads' HO176.out).2.2)); (case side4 => exact (R_reads' HO176.out).2.1); rintro e w27 ⟨v184, v187, rfl, ho0, ho1, hb⟩; refine ⟨_, rfl, ?_⟩; refine nx7_ (R_below (rU_ HO176.out) hb) (V_below (vU_ HO179.out) hb) (V_below (vU_ HO182.out) hb) (V_lower (V_mono (ok' := fun k_ => (w.heap.size ≤ k_) ∧ some k_ ≠ (.slice Ao25 t174.length co25 : Value).ownBlock ∧ k_ ≠ gb173) ho0 (fun k_ hk_ => ⟨(Nat.le_trans (below_size sU_) hk_), (fresh' (R_lt (rU_ HO176.out)) k_ hk_), (freshB (kU_ BK173.out) k_ hk_)⟩)) (below_size sU_)) (V_lower (V_mono (ok' := fun k_ => (w.heap.size ≤ k_) ∧ some k_ ≠ (.slice Ao25 t174.length co25 : Value).ownBlock ∧ k_ ≠ gb173) ho1 (fun k_ hk_ => ⟨(Nat.le_trans (below_size sU_) hk_), (fresh' (R_lt (rU_ HO176.out)) k_ hk_), (freshB (kU_ BK173.out) k_ hk_)⟩)) (below_size sU_)) (blk_below (kU_ BK173.out) hb) (below_step sU_ hb) ?_; clear HO176 HO179 HO182 BK173 HB; intro HO176 HO179 HO182 HO185 HO188 BK173 HB; clear hb ho0 ho1; obtain ⟨Ao28, co28, eo28⟩ := V_slice HO179.out; subst eo28; obtain ⟨Ao29, co29, eo29⟩ := V_slice HO185.out; subst eo29; have hcz30_0 := bc0_ BK173.out; have hcz30_1 := bc1_ BK173.out; have hfz30_0 := bkf9_ BK173.out 0; have hfz30_1 := bkf9_ BK173.out 1))
 refine bodyPost_ret (results_ct rfl _ _ gb173 26 #[.slice Ao28 t177.length co28, .slice Ao29 t183.length co29] (0, 0) _ rfl kp_ Tryd.underlying26 rfl (by kernel_rfl)) rfl ?_
 exact ⟨_, _, eW_, by (with_reducible repeat (first | apply Kd.V_alloc | apply Kd.V_drewN | apply V_drew)); exact V_mono (V_far (p := ⟨gb173, 1, none⟩) (V_far (p := ⟨gb173, 0, none⟩) (V_mono HO179.out (fun k_ hk => (⟨hk, hk.2.2⟩ : _ ∧ k_ ≠ gb173))) (fun _ hk => hk.2) (.slice Ao28 t177.length co28)) (fun _ hk => hk.2) (.slice Ao29 t183.length co29)) (fun _ hk => hk.1.1), by (with_reducible repeat (first | apply Kd.V_alloc | apply Kd.V_drewN | apply V_drew)); exact V_mono (V_far (p := ⟨gb173, 1, none⟩) (V_far (p := ⟨gb173, 0, none⟩) (V_mono HO185.out (fun k_ hk => (⟨hk, hk.2.2⟩ : _ ∧ k_ ≠ gb173))) (fun _ hk => hk.2) (.slice Ao28 t177.length co28)) (fun _ hk => hk.2) (.slice Ao29 t183.length co29)) (fun _ hk => hk.1.1), sU_⟩

def ratio_New.j0 : Nat → List Int → List Int → Bool → Option (List Int × List Int × Int)
 | 0, _, _, _ => none
 | k + 1, x0, x1, x6 => if x6 = true then (some (([] : List Int), ([] : List Int), 1)) else (if (x1.length : Int) = 0 then (some (([] : List Int), ([] : List Int), 2)) else ((ratio_lowest.f k x0 x1).bind fun bt192 => (some (bt192.1, bt192.2.1, bt192.2.2))))
def ratio_New.f (k : Nat) (l0 : List Int) (l1 : List Int) : Option (List Int × List Int × Int) := (ratio_ValidNat.f k l0).bind fun t190 => (if t190 = true then ((ratio_ValidNat.f k l1).bind fun t191 => (ratio_New.j0 k l0 l1 (!t191))) else (ratio_New.j0 k l0 l1 true))
theorem ratio_New.mono_l : ∀ k, (∀ y0 y1 y2, LeO (ratio_New.j0 k y0 y1 y2) (ratio_New.j0 (k + 1) y0 y1 y2))
 | 0 => fun _ _ _ r h => by simp [ratio_New.j0] at h
 | k + 1 => by
  have ih0 := ratio_New.mono_l k
  ·intro y0 y1 y2
   unfold ratio_New.j0
   with_reducible repeat' first | apply ih0 | apply ratio_ValidNat.mono | apply ratio_lowest.mono | exact LeO.refl _ | exact LeO.none _ | refine LeO.ite ?_ ?_ | refine LeO.bind ?_ (fun _ => ?_)
theorem ratio_New.mono : ∀ a0 a1 k, LeO (ratio_New.f k a0 a1) (ratio_New.f (k + 1) a0 a1) := by
 intro a0 a1 k
 have ih0 := ratio_New.mono_l k
 unfold ratio_New.f
 with_reducible repeat' first | apply ih0 | apply ratio_ValidNat.mono | apply ratio_lowest.mono | exact LeO.refl _ | exact LeO.none _ | refine LeO.ite ?_ ?_ | refine LeO.bind ?_ (fun _ => ?_)
set_option maxHeartbeats 8000000 in
set_option maxRecDepth 100000 in
theorem ratio_New.calls (k : Nat) (A0 : Option Addr) (c0 : Nat) (l0 : List Int) (A1 : Option Addr) (c1 : Nat) (l1 : List Int) (r1 : List Int) (r2 : List Int) (r3 : Int) (w : World) (hr0 : Kd.C (Kd.int .u32) w A0 l0.length l0) (hc0 : l0.length ≤ c0) (hr1 : Kd.C (Kd.int .u32) w A1 l1.length l1) (hc1 : l1.length ≤ c1) (h : ratio_New.f k l0 l1 = some (r1, r2, r3)) :
  Calls Tryd.prog 95 #[.slice A0 l0.length c0, .slice A1 l1.length c1] w fun e w' => ∃ v0_ v1_ : Value, e = .returned (.tuple #[.agg #[v0_, v1_], .int .i64 r3]) ∧ Kd.V (Kd.int .u32) 115 w' w.heap.size (fun k_ => (w.heap.size ≤ k_)) v0_ r1 ∧ Kd.V (Kd.int .u32) 115 w' w.heap.size (fun k_ => (w.heap.size ≤ k_)) v1_ r2 ∧ Below w.heap.size w w' := by
 have hu26 := Tryd.underlying26
 have HR0 := ak hr0
 have HC0 := ak hc0
 clear hr0 hc0
 have HR1 := ak hr1
 have HC1 := ak hc1
 clear hr1 hc1
 have HB := ak (Below.refl w.heap.size w)
 have H := h
 clear h
 unfold ratio_New.f at H
 have HC3 := ak H
 clear H
 go_enter Tryd.func95, Tryd.ntmps95
 go_upto_region 1 with (first | ((with_reducible refine gate_dst (N := 4) rfl ?_); refine bx_ 4 26 #[.slice none 0 0, .slice none 0 0] ?_; intro gb189 hg w4 hbox hb; refine nx4_ (below_step (bU_ HB.out) hb) (hbox) ((hs_ hg (below_size (bU_ HB.out)))) ((hs_ hg (below_size (bU_ HB.out)))) ?_; clear HB; intro HB BK189 GW189 GE189; clear hb hbox hg))
 (try simp only [Act.put, s1_, s2_, s3_])
 go_cut [6] (fun v6 wc => ∃ (kq : Nat) (x6_2 : Bool), v6 = .bool x6_2 ∧ Aside0 (ratio_New.j0 kq l0 l1 x6_2 = some (r1, r2, r3)) ∧ Aside0 (kq ≤ k) ∧ Aside0 (wc.heap[gb189]? = some (.cells #[(.slice none 0 0), (.slice none 0 0)] 26 (0, 0))) ∧ Aside0 (Below w.heap.size w wc))
 case first =>
  have H := HC3.out
  clear HC3
  revert H
  refine bd_ fun t190 A5 H => ?_
  by_cases c6 : t190 = true
  ·subst c6
   rw [if_pos rfl] at H
   revert H
   refine bd_ fun t191 A7 H => ?_
   have H' := ak H
   clear H
   go_wp2_with (first | ((with_reducible refine gate_callee (f := 90) rfl ?_); refine gl_ (some 8) Tryd.func90 #[.slice A0 l0.length c0] ?_; (with_reducible refine (ratio_ValidNat.calls k _ _ l0 true _ ?side1 ?side2 A5.out).mono ?_); (case side1 => exact cU_ (C_below HR0.out HB.out)); (case side2 => exact HC0.out); rintro e w8 ⟨rfl, hb⟩; refine ⟨_, rfl, ?_⟩; refine nx2_ (blk_below (kU_ BK189.out) hb) (below_step sU_ hb) ?_; clear BK189 HB; intro BK189 HB; clear hb) | (go_at_call 90; (with_reducible refine (ratio_ValidNat.calls k _ _ l1 t191 _ ?side1 ?side2 A7.out).mono ?_); (case side1 => exact cU_ (C_below HR1.out HB.out)); (case side2 => exact HC1.out); rintro e w9 ⟨rfl, hb⟩; refine nx2_ (blk_below (kU_ BK189.out) hb) (below_step sU_ hb) ?_; clear BK189 HB; intro BK189 HB; clear hb))
   go_meet
   case rel => exact ⟨_, (!t191), gb_, H', ⟨by first | omega | exact Nat.le_refl _⟩, ⟨by (with_reducible repeat (first | refine blk_drewN ?_ _ | refine blk_drew ?_ | refine blk_alloc ?_ _)); exact BK189.out⟩, ⟨sU_⟩⟩
  replace c6 := Bool.eq_false_iff.mpr c6
  subst c6
  rw [if_neg (show ¬ (false = true) by decide)] at H
  have H' := ak H
  clear H
  go_wp2_with (first | ((with_reducible refine gate_callee (f := 90) rfl ?_); refine gl_ (some 8) Tryd.func90 #[.slice A0 l0.length c0] ?_; (with_reducible refine (ratio_ValidNat.calls k _ _ l0 false _ ?side1 ?side2 A5.out).mono ?_); (case side1 => exact cU_ (C_below HR0.out HB.out)); (case side2 => exact HC0.out); rintro e w10 ⟨rfl, hb⟩; refine ⟨_, rfl, ?_⟩; refine nx2_ (blk_below (kU_ BK189.out) hb) (below_step sU_ hb) ?_; clear BK189 HB; intro BK189 HB; clear hb))
  go_meet
  case rel => exact ⟨_, (true), gb_, H', ⟨by first | omega | exact Nat.le_refl _⟩, ⟨by (with_reducible repeat (first | refine blk_drewN ?_ _ | refine blk_drew ?_ | refine blk_alloc ?_ _)); exact BK189.out⟩, ⟨sU_⟩⟩
 case rest =>
  clear HC3
  (try clear c1); (try clear p2); (try clear c6); (try clear c9)
  obtain ⟨kq, x6_2, rfl, HA, HJ2, BK189, HB⟩ := hcut
  cases kq with
  | zero => exact absurd HA.out (by simp [ratio_New.j0])
  | succ kj2 =>
   have H := HA.out
   clear HA
   simp only [ratio_New.j0] at H
   by_cases c11 : x6_2 = true
   ·subst c11
    rw [if_pos rfl] at H
    simp only [Option.some.injEq, Prod.mk.injEq] at H
    obtain ⟨rfl, rfl, rfl⟩ := H
    have hcz12_0 := bc0_ BK189.out
    have hcz12_1 := bc1_ BK189.out
    have hfz12_0 := bkf9_ BK189.out 0
    have hfz12_1 := bkf9_ BK189.out 1
    go_wp2
    refine bodyPost_ret (results_ct rfl _ _ gb189 26 #[.slice none 0 0, .slice none 0 0] (0, 0) _ rfl kp_ Tryd.underlying26 rfl (by kernel_rfl)) rfl ?_
    exact ⟨_, _, eW_, Kd.V_nil _ _ _ _ _, Kd.V_nil _ _ _ _ _, sU_⟩
   replace c11 := Bool.eq_false_iff.mpr c11
   subst c11
   rw [if_neg (show ¬ (false = true) by decide)] at H
   by_cases c13 : (l1.length : Int) = 0
   ·rw [if_pos c13] at H
    have c13b0 := beq_iff_eq.mpr c13
    have c13b1 := bne_eq_false_iff_eq.mpr c13
    clear c13
    simp only [Option.some.injEq, Prod.mk.injEq] at H
    obtain ⟨rfl, rfl, rfl⟩ := H
    have hcz14_0 := bc0_ BK189.out
    have hcz14_1 := bc1_ BK189.out
    have hfz14_0 := bkf9_ BK189.out 0
    have hfz14_1 := bkf9_ BK189.out 1
    go_wp2
    refine bodyPost_ret (results_ct rfl _ _ gb189 26 #[.slice none 0 0, .slice none 0 0] (0, 0) _ rfl kp_ Tryd.underlying26 rfl (by kernel_rfl)) rfl ?_
    exact ⟨_, _, eW_, Kd.V_nil _ _ _ _ _, Kd.V_nil _ _ _ _ _, sU_⟩
   rw [if_neg c13] at H
   have c13b0 := beq_eq_false_iff_ne.mpr c13
   have c13b1 := bne_iff_ne.mpr c13
   have c13b2 : ¬ (l1 = []) := fun h_ => c13 (by rw [h_]; rfl)
   revert H
   refine bd3_ fun t192 t195 t198 A15 H => ?_
   try dsimp only at H
   simp only [Option.some.injEq, Prod.mk.injEq] at H
   obtain ⟨rfl, rfl, rfl⟩ := H
   go_wp2_with (first | ((with_reducible refine gate_callee (f := 98) rfl ?_); refine gl_ (some 23) Tryd.func98 #[.slice A0 l0.length c0, .slice A1 l1.length c1] ?_; (with_reducible refine (ratio_lowest.calls kj2 _ _ l0 _ _ l1 t192 t195 t198 _ ?side1 ?side2 ?side3 ?side4 A15.out).mono ?_); (case side1 => exact cU_ (C_below HR0.out HB.out)); (case side2 => exact HC0.out); (case side3 => exact cU_ (C_below HR1.out HB.out)); (case side4 => exact HC1.out); rintro e w16 ⟨v193, v196, rfl, ho0, ho1, hb⟩; refine ⟨_, rfl, ?_⟩; refine nx4_ (V_lower (V_mono (ok' := fun k_ => (w.heap.size ≤ k_) ∧ k_ ≠ gb189) ho0 (fun k_ hk_ => ⟨(Nat.le_trans (below_size sU_) hk_), (freshB (kU_ BK189.out) k_ hk_)⟩)) (below_size sU_)) (V_lower (V_mono (ok' := fun k_ => (w.heap.size ≤ k_) ∧ k_ ≠ gb189) ho1 (fun k_ hk_ => ⟨(Nat.le_trans (below_size sU_) hk_), (freshB (kU_ BK189.out) k_ hk_)⟩)) (below_size sU_)) (blk_below (kU_ BK189.out) hb) (below_step sU_ hb) ?_; clear BK189 HB; intro HO194 HO197 BK189 HB; clear hb ho0 ho1; obtain ⟨Ao17, co17, eo17⟩ := V_slice HO194.out; subst eo17; have hcz18_0 := bc0_ BK189.out; have hcz18_1 := bc1_ BK189.out; have hfz18_0 := bkf9_ BK189.out 0; have hfz18_1 := bkf9_ BK189.out 1; obtain ⟨Ao19, co19, eo19⟩ := V_slice HO197.out; subst eo19))
   refine bodyPost_ret (results_ct rfl _ _ gb189 26 #[.slice Ao17 t192.length co17, .slice Ao19 t195.length co19] (0, 0) _ rfl kp_ Tryd.underlying26 rfl (by kernel_rfl)) rfl ?_
   exact ⟨_, _, eW_, by (with_reducible repeat (first | apply Kd.V_alloc | apply Kd.V_drewN | apply V_drew)); exact V_mono (V_far (p := ⟨gb189, 1, none⟩) (V_far (p := ⟨gb189, 0, none⟩) (V_mono HO194.out (fun k_ hk => (⟨hk, hk.2⟩ : _ ∧ k_ ≠ gb189))) (fun _ hk => hk.2) (.slice Ao17 t192.length co17)) (fun _ hk => hk.2) (.slice Ao19 t195.length co19)) (fun _ hk => hk.1.1), by (with_reducible repeat (first | apply Kd.V_alloc | apply Kd.V_drewN | apply V_drew)); exact V_mono (V_far (p := ⟨gb189, 1, none⟩) (V_far (p := ⟨gb189, 0, none⟩) (V_mono HO197.out (fun k_ hk => (⟨hk, hk.2⟩ : _ ∧ k_ ≠ gb189))) (fun _ hk => hk.2) (.slice Ao17 t192.length co17)) (fun _ hk => hk.2) (.slice Ao19 t195.length co19)) (fun _ hk => hk.1.1), sU_⟩

def ratio_Of.f (k : Nat) (a0 : Int) (a1 : Int) : Option (List Int × List Int × Int) := (ratio_Nat.f k a0).bind fun t200 => ((ratio_Nat.f k a1).bind fun t203 => ((ratio_New.f k t200 t203).bind fun bt206 => (some (bt206.1, bt206.2.1, bt206.2.2))))
theorem ratio_Of.mono : ∀ a0 a1 k, LeO (ratio_Of.f k a0 a1) (ratio_Of.f (k + 1) a0 a1) := by
 intro a0 a1 k
 unfold ratio_Of.f
 with_reducible repeat' first | apply ratio_Nat.mono | apply ratio_New.mono | exact LeO.refl _ | exact LeO.none _ | refine LeO.ite ?_ ?_ | refine LeO.bind ?_ (fun _ => ?_)
set_option maxHeartbeats 8000000 in
set_option maxRecDepth 100000 in
theorem ratio_Of.calls (k : Nat) (a0 : Int) (a1 : Int) (r1 : List Int) (r2 : List Int) (r3 : Int) (w : World) (h : ratio_Of.f k a0 a1 = some (r1, r2, r3)) :
  Calls Tryd.prog 45 #[.int .u64 a0, .int .u64 a1] w fun e w' => ∃ v0_ v1_ : Value, e = .returned (.tuple #[.agg #[v0_, v1_], .int .i64 r3]) ∧ Kd.V (Kd.int .u32) 115 w' w.heap.size (fun k_ => (w.heap.size ≤ k_)) v0_ r1 ∧ Kd.V (Kd.int .u32) 115 w' w.heap.size (fun k_ => (w.heap.size ≤ k_)) v1_ r2 ∧ Below w.heap.size w w' := by
 have hu26 := Tryd.underlying26
 have HB := ak (Below.refl w.heap.size w)
 have H := h
 clear h
 unfold ratio_Of.f at H
 revert H
 refine bd_ fun t200 A3 H => ?_
 revert H
 refine bd_ fun t203 A4 H => ?_
 revert H
 refine bd3_ fun t206 t209 t212 A5 H => ?_
 try dsimp only at H
 simp only [Option.some.injEq, Prod.mk.injEq] at H
 obtain ⟨rfl, rfl, rfl⟩ := H
 go_enter Tryd.func45, Tryd.ntmps45
 go_wp2_with (first | ((with_reducible refine gate_dst (N := 4) rfl ?_); refine bx_ 4 26 #[.slice none 0 0, .slice none 0 0] ?_; intro gb199 hg w6 hbox hb; refine nx4_ (below_step (bU_ HB.out) hb) (hbox) ((hs_ hg (below_size (bU_ HB.out)))) ((hs_ hg (below_size (bU_ HB.out)))) ?_; clear HB; intro HB BK199 GW199 GE199; clear hb hbox hg) | ((with_reducible refine gate_callee (f := 96) rfl ?_); refine gl_ (some 7) Tryd.func96 #[.int .u64 a0] ?_; (with_reducible refine (ratio_Nat.calls k a0 t200 _ A3.out).mono ?_); rintro e w7 ⟨v201, rfl, ho0, hb⟩; refine ⟨_, rfl, ?_⟩; refine nx3_ (V_lower (V_mono (ok' := fun k_ => (w.heap.size ≤ k_) ∧ k_ ≠ gb199) ho0 (fun k_ hk_ => ⟨(Nat.le_trans (below_size sU_) hk_), (freshB (kU_ BK199.out) k_ hk_)⟩)) (below_size sU_)) (blk_below (kU_ BK199.out) hb) (below_step sU_ hb) ?_; clear BK199 HB; intro HO202 BK199 HB; clear hb ho0) | ((with_reducible refine gate_callee (f := 96) rfl ?_); refine gl_ (some 9) Tryd.func96 #[.int .u64 a1] ?_; (with_reducible refine (ratio_Nat.calls k a1 t203 _ A4.out).mono ?_); rintro e w8 ⟨v204, rfl, ho0, hb⟩; refine ⟨_, rfl, ?_⟩; refine nx4_ (V_below (vU_ HO202.out) hb) (V_lower (V_mono (ok' := fun k_ => (w.heap.size ≤ k_) ∧ k_ ≠ gb199) ho0 (fun k_ hk_ => ⟨(Nat.le_trans (below_size sU_) hk_), (freshB (kU_ BK199.out) k_ hk_)⟩)) (below_size sU_)) (blk_below (kU_ BK199.out) hb) (below_step sU_ hb) ?_; clear HO202 BK199 HB; intro HO202 HO205 BK199 HB; clear hb ho0; obtain ⟨Ao9, co9, eo9⟩ := V_slice HO202.out; subst eo9; obtain ⟨Ao10, co10, eo10⟩ := V_slice HO205.out; subst eo10) | ((with_reducible refine gate_callee (f := 95) rfl ?_); refine gl_ (some 10) Tryd.func95 #[.slice Ao9 t200.length co9, .slice Ao10 t203.length co10] ?_; (with_reducible refine (ratio_New.calls k _ _ t200 _ _ t203 t206 t209 t212 _ ?side1 ?side2 ?side3 ?side4 A5.out).mono ?_); (case side1 => exact cU_ ((V_reads' HO202.out).2.2)); (case side2 => exact (V_reads' HO202.out).2.1); (case side3 => exact cU_ ((V_reads' HO205.out).2.2)); (case side4 => exact (V_reads' HO205.out).2.1); rintro e w11 ⟨v207, v210, rfl, ho0, ho1, hb⟩; refine ⟨_, rfl, ?_⟩; refine nx6_ (V_below (vU_ HO202.out) hb) (V_below (vU_ HO205.out) hb) (V_lower (V_mono (ok' := fun k_ => (w.heap.size ≤ k_) ∧ k_ ≠ gb199) ho0 (fun k_ hk_ => ⟨(Nat.le_trans (below_size sU_) hk_), (freshB (kU_ BK199.out) k_ hk_)⟩)) (below_size sU_)) (V_lower (V_mono (ok' := fun k_ => (w.heap.size ≤ k_) ∧ k_ ≠ gb199) ho1 (fun k_ hk_ => ⟨(Nat.le_trans (below_size sU_) hk_), (freshB (kU_ BK199.out) k_ hk_)⟩)) (below_size sU_)) (blk_below (kU_ BK199.out) hb) (below_step sU_ hb) ?_; clear HO202 HO205 BK199 HB; intro HO202 HO205 HO208 HO211 BK199 HB; clear hb ho0 ho1; obtain ⟨Ao12, co12, eo12⟩ := V_slice HO208.out; subst eo12; have hcz13_0 := bc0_ BK199.out; have hcz13_1 := bc1_ BK199.out; have hfz13_0 := bkf9_ BK199.out 0; have hfz13_1 := bkf9_ BK199.out 1; obtain ⟨Ao14, co14, eo14⟩ := V_slice HO211.out; subst eo14))
 refine bodyPost_ret (results_ct rfl _ _ gb199 26 #[.slice Ao12 t206.length co12, .slice Ao14 t209.length co14] (0, 0) _ rfl kp_ Tryd.underlying26 rfl (by kernel_rfl)) rfl ?_
 exact ⟨_, _, eW_, by (with_reducible repeat (first | apply Kd.V_alloc | apply Kd.V_drewN | apply V_drew)); exact V_mono (V_far (p := ⟨gb199, 1, none⟩) (V_far (p := ⟨gb199, 0, none⟩) (V_mono HO208.out (fun k_ hk => (⟨hk, hk.2⟩ : _ ∧ k_ ≠ gb199))) (fun _ hk => hk.2) (.slice Ao12 t206.length co12)) (fun _ hk => hk.2) (.slice Ao14 t209.length co14)) (fun _ hk => hk.1.1), by (with_reducible repeat (first | apply Kd.V_alloc | apply Kd.V_drewN | apply V_drew)); exact V_mono (V_far (p := ⟨gb199, 1, none⟩) (V_far (p := ⟨gb199, 0, none⟩) (V_mono HO211.out (fun k_ hk => (⟨hk, hk.2⟩ : _ ∧ k_ ≠ gb199))) (fun _ hk => hk.2) (.slice Ao12 t206.length co12)) (fun _ hk => hk.2) (.slice Ao14 t209.length co14)) (fun _ hk => hk.1.1), sU_⟩

def gap_choose.l0 : Nat → Int → Int → Int → Int → Option (Int)
 | 0, _, _, _, _ => none
 | k + 1, x0, x5, x10, x11 => if x11 < x10 then (if (wrap64 (x11 + 1)) = 0 then (none) else (gap_choose.l0 k x0 (wrap64 (Int.tdiv (wrap64 (x5 * (wrap64 (x0 - x11)))) (wrap64 (x11 + 1)))) x10 (wrap64 (x11 + 1)))) else (some x5)
def gap_choose.f (k : Nat) (a0 : Int) (a1 : Int) : Option (Int) := if a1 > a0 then (some 0) else (gap_choose.l0 k a0 1 a1 0)
theorem gap_choose.mono_l : ∀ k, (∀ y0 y1 y2 y3, LeO (gap_choose.l0 k y0 y1 y2 y3) (gap_choose.l0 (k + 1) y0 y1 y2 y3))
 | 0 => fun _ _ _ _ r h => by simp [gap_choose.l0] at h
 | k + 1 => by
  have ih0 := gap_choose.mono_l k
  ·intro y0 y1 y2 y3
   unfold gap_choose.l0
   with_reducible repeat' first | apply ih0 | exact LeO.refl _ | exact LeO.none _ | refine LeO.ite ?_ ?_ | refine LeO.bind ?_ (fun _ => ?_)
theorem gap_choose.mono : ∀ a0 a1 k, LeO (gap_choose.f k a0 a1) (gap_choose.f (k + 1) a0 a1) := by
 intro a0 a1 k
 have ih0 := gap_choose.mono_l k
 unfold gap_choose.f
 with_reducible repeat' first | apply ih0 | exact LeO.refl _ | exact LeO.none _ | refine LeO.ite ?_ ?_ | refine LeO.bind ?_ (fun _ => ?_)
set_option maxHeartbeats 8000000 in
set_option maxRecDepth 100000 in
theorem gap_choose.calls (k : Nat) (a0 : Int) (a1 : Int) (r : Int) (w : World) (h : gap_choose.f k a0 a1 = some r) :
  Calls Tryd.prog 46 #[.int .i64 a0, .int .i64 a1] w fun e w' => e = .returned (.int .i64 r) ∧ Drawn0 w w' := by
 have H : (if a1 > a0 then (some 0) else (gap_choose.l0 k a0 1 a1 0)) = some r := h
 clear h
 by_cases c3 : a1 > a0
 ·rw [if_pos c3] at H
  have c3b0 : decide (a0 < a1) = true := decide_eq_true c3
  clear c3
  obtain rfl := Option.some.inj H
  go_enter Tryd.func46, Tryd.ntmps46
  go_wp2
  go_ret
  exact ⟨by first | rfl | (simp; done) | (simp [*]; done), by repeat (first | exact Drawn0.refl _ | apply Drawn0.step)⟩
 rw [if_neg c3] at H
 have c3b0 : decide (a0 < a1) = false := decide_eq_false c3
 clear c3
 have H' := ak H
 clear H
 go_enter Tryd.func46, Tryd.ntmps46
 go_wp2
 go_loopg [5, 11] k (fun kq v5 v11 w' => ∃ (x5_1 : Int) (x11_1 : Int), v5 = .int .i64 x5_1 ∧ v11 = .int .i64 x11_1 ∧ Aside0 (gap_choose.l0 kq a0 x5_1 a1 x11_1 = some r) ∧ Aside0 (kq ≤ k) ∧ Drawn0 w w')
 case atStart => exact ⟨(1), (0), gb_, gb_, H', ⟨Nat.le_refl _⟩, by repeat (first | exact Drawn0.refl _ | apply Drawn0.step)⟩
 case round =>
  clear H'
  (try clear p2); (try clear c3); (try clear c3b0)
  obtain ⟨x5_1, x11_1, rfl, rfl, HA, HK1, ⟨m1, rfl⟩⟩ := hrel
  cases gk with
  | zero => exact absurd HA.out (by simp [gap_choose.l0])
  | succ k1 =>
   have H := HA.out
   clear HA
   simp only [gap_choose.l0] at H
   by_cases c4 : x11_1 < a1
   ·rw [if_pos c4] at H
    have c4b0 := decide_eq_true c4
    clear c4
    by_cases c5 : (wrap64 (x11_1 + 1)) = 0
    ·rw [if_pos c5] at H
     exact absurd H (by simp)
    rw [if_neg c5] at H
    have c5b0 := beq_eq_false_iff_ne.mpr c5
    have c5b1 := bne_iff_ne.mpr c5
    have H' := ak H
    clear H
    go_wp2
    go_roundg k1
    case measure => have := HK1.out; omega
    case rel => exact ⟨(wrap64 (Int.tdiv (wrap64 (x5_1 * (wrap64 (a0 - x11_1)))) (wrap64 (x11_1 + 1)))), (wrap64 (x11_1 + 1)), gb_, gb_, H', ⟨by have := HK1.out; omega⟩, by repeat (first | exact Drawn0.refl _ | apply Drawn0.step)⟩
   rw [if_neg c4] at H
   have c4b0 := decide_eq_false c4
   clear c4
   obtain rfl := Option.some.inj H
   go_wp2
   go_ret
   exact ⟨by first | rfl | (simp; done) | (simp [*]; done), by repeat (first | exact Drawn0.refl _ | apply Drawn0.step)⟩


def field_P.f (a0 : Int) : Option (Int) := some (pOf a0)
theorem field_P.calls (a0 : Int) (r : Int) (w : World) (hG : Fld w) (h : field_P.f a0 = some r) :
  Calls Tryd.prog 47 #[.int .i64 a0] w fun e w' => e = .returned (.int .u64 r) ∧ Below w.heap.size w w' := by
 obtain rfl := Option.some.inj h
 clear h
 have hfl := fld0
 go_enter Tryd.func47, Tryd.ntmps47
 go_wp2_with (go_at_call 97; (with_reducible refine (of_any a0 _ hG).mono ?_); rintro e w' ⟨va, vn, vc, rfl, hb⟩)
 go_ret
 exact ⟨rfl, hb⟩

def ratio_isOne.f (l0 : List Int) : Option (Bool) := if (l0.length : Int) = 1 then (if 0 < (l0.length : Int) then (some ((rd l0 0) == 1)) else (none)) else (some false)
set_option maxHeartbeats 8000000 in
set_option maxRecDepth 100000 in
theorem ratio_isOne.calls (A0 : Option Addr) (c0 : Nat) (l0 : List Int) (r : Bool) (w : World) (hr0 : Kd.C (Kd.int .u32) w A0 l0.length l0) (hc0 : l0.length ≤ c0) (h : ratio_isOne.f l0 = some r) :
  Calls Tryd.prog 91 #[.slice A0 l0.length c0] w fun e w' => e = .returned (.bool r) ∧ Drawn0 w w' := by
 have HR0 := ak hr0
 have HC0 := ak hc0
 clear hr0 hc0
 have H := h
 clear h
 unfold ratio_isOne.f at H
 by_cases c2 : (l0.length : Int) = 1
 ·rw [if_pos c2] at H
  have c2b0 := beq_iff_eq.mpr c2
  have c2b1 := bne_eq_false_iff_eq.mpr c2
  clear c2
  obtain ⟨c3, H⟩ : (0 < (l0.length : Int)) ∧ _ := it_ H
  have c3b0 := decide_eq_true c3
  have c3b1 : decide (0 < l0.length) = true := decide_eq_true (by omega)
  clear c3
  obtain rfl := Option.some.inj H
  have p215 : 0 ≤ (0 : Int) := (by omega)
  have q215 : 0 < (l0.length : Int) := od_
  obtain ⟨ad215, e215, hx215_0⟩ := Kd.at_int HR0.out 0 p215 q215
  cases e215
  have qi215 : (0 < l0.length) = True := eq_true (by omega)
  (try rw [show ((0 : Int)).toNat = 0 from rfl] at hx215_0)
  (try rw [Addr.add_zero'] at hx215_0)
  replace p215 := eq_true p215
  replace q215 := eq_true q215
  go_enter Tryd.func91, Tryd.ntmps91
  go_wp2
  go_ret
  exact ⟨by first | rfl | (simp; done) | (simp [*]; done), by repeat (first | exact Drawn0.refl _ | apply Drawn0.step)⟩
 rw [if_neg c2] at H
 have c2b0 := beq_eq_false_iff_ne.mpr c2
 have c2b1 := bne_iff_ne.mpr c2
 obtain rfl := Option.some.inj H
 go_enter Tryd.func91, Tryd.ntmps91
 go_wp2
 go_ret
 exact ⟨by first | rfl | (simp; done) | (simp [*]; done), by repeat (first | exact Drawn0.refl _ | apply Drawn0.step)⟩

def ratio_Valid.f (k : Nat) (l0_0 : List Int) (l0_1 : List Int) : Option (Bool) := (ratio_ValidNat.f k l0_0).bind fun t217 => (if t217 = true then ((ratio_ValidNat.f k l0_1).bind fun t218 => (if t218 = true then (if (l0_1.length : Int) > 0 then ((ratio_gcd.f k l0_0 l0_1).bind fun t219 => ((ratio_isOne.f t219).bind fun t222 => (some t222))) else (some false)) else (some false))) else (some false))
theorem ratio_Valid.mono : ∀ a0 a1 k, LeO (ratio_Valid.f k a0 a1) (ratio_Valid.f (k + 1) a0 a1) := by
 intro a0 a1 k
 unfold ratio_Valid.f
 with_reducible repeat' first | apply ratio_ValidNat.mono | apply ratio_gcd.mono | exact LeO.refl _ | exact LeO.none _ | refine LeO.ite ?_ ?_ | refine LeO.bind ?_ (fun _ => ?_)
set_option maxHeartbeats 8000000 in
set_option maxRecDepth 100000 in
theorem ratio_Valid.calls (k : Nat) (A0_0 : Option Addr) (c0_0 : Nat) (l0_0 : List Int) (A0_1 : Option Addr) (c0_1 : Nat) (l0_1 : List Int) (r : Bool) (w : World) (hr0_0 : Kd.C (Kd.int .u32) w A0_0 l0_0.length l0_0) (hc0_0 : l0_0.length ≤ c0_0) (hr0_1 : Kd.C (Kd.int .u32) w A0_1 l0_1.length l0_1) (hc0_1 : l0_1.length ≤ c0_1) (h : ratio_Valid.f k l0_0 l0_1 = some r) :
  Calls Tryd.prog 41 #[.agg #[.slice A0_0 l0_0.length c0_0, .slice A0_1 l0_1.length c0_1]] w fun e w' => e = .returned (.bool r) ∧ Below w.heap.size w w' := by
 have hu26 := Tryd.underlying26
 have HR0_0 := ak hr0_0
 have HC0_0 := ak hc0_0
 clear hr0_0 hc0_0
 have HR0_1 := ak hr0_1
 have HC0_1 := ak hc0_1
 clear hr0_1 hc0_1
 have HB := ak (Below.refl w.heap.size w)
 have H := h
 clear h
 unfold ratio_Valid.f at H
 revert H
 refine bd_ fun t217 A2 H => ?_
 by_cases c3 : t217 = true
 ·subst c3
  rw [if_pos rfl] at H
  revert H
  refine bd_ fun t218 A4 H => ?_
  by_cases c5 : t218 = true
  ·subst c5
   rw [if_pos rfl] at H
   by_cases c6 : (l0_1.length : Int) > 0
   ·rw [if_pos c6] at H
    have c6b0 : decide (0 < (l0_1.length : Int)) = true := decide_eq_true c6
    have c6b1 : decide (0 < l0_1.length) = true := decide_eq_true (by omega)
    clear c6
    revert H
    refine bd_ fun t219 A7 H => ?_
    revert H
    refine bd_ fun t222 A8 H => ?_
    obtain rfl := Option.some.inj H
    go_enter Tryd.func41, Tryd.ntmps41
    go_wp2_with (first | ((with_reducible refine gate_dst (N := 1) rfl ?_); (try (refine gate_guard (by rfl) ?_; dsimp only)); refine bx_ 1 26 #[.slice A0_0 l0_0.length c0_0, .slice A0_1 l0_1.length c0_1] ?_; intro gb216 hg w9 hbox hb; refine nx4_ (below_step (bU_ HB.out) hb) (hbox) ((hs_ hg (below_size (bU_ HB.out)))) ((hs_ hg (below_size (bU_ HB.out)))) ?_; clear HB; intro HB BK216 GW216 GE216; clear hb hbox hg; have hcz10_0 := bc0_ BK216.out; have hcz10_1 := bc1_ BK216.out; have hfz10_0 := bkf9_ BK216.out 0; have hfz10_1 := bkf9_ BK216.out 1) | ((with_reducible refine gate_callee (f := 90) rfl ?_); refine gl_ (some 5) Tryd.func90 #[.slice A0_0 l0_0.length c0_0] ?_; (with_reducible refine (ratio_ValidNat.calls k _ _ l0_0 true _ ?side1 ?side2 A2.out).mono ?_); (case side1 => exact cU_ (C_below HR0_0.out HB.out)); (case side2 => exact HC0_0.out); rintro e w11 ⟨rfl, hb⟩; refine ⟨_, rfl, ?_⟩; refine nx2_ (blk_below (kU_ BK216.out) hb) (below_step sU_ hb) ?_; clear BK216 HB; intro BK216 HB; clear hb; have hcz12_0 := bc0_ BK216.out; have hcz12_1 := bc1_ BK216.out; have hfz12_0 := bkf9_ BK216.out 0; have hfz12_1 := bkf9_ BK216.out 1) | (go_at_call 90; (with_reducible refine (ratio_ValidNat.calls k _ _ l0_1 true _ ?side1 ?side2 A4.out).mono ?_); (case side1 => exact cU_ (C_below HR0_1.out HB.out)); (case side2 => exact HC0_1.out); rintro e w13 ⟨rfl, hb⟩; refine nx2_ (blk_below (kU_ BK216.out) hb) (below_step sU_ hb) ?_; clear BK216 HB; intro BK216 HB; clear hb; have hcz14_0 := bc0_ BK216.out; have hcz14_1 := bc1_ BK216.out; have hfz14_0 := bkf9_ BK216.out 0; have hfz14_1 := bkf9_ BK216.out 1) | (go_at_call 92; (with_reducible refine (ratio_gcd.calls k (fun k_ => k_ < w.heap.size) _ _ l0_0 (fun k_ => k_ < w.heap.size) _ _ l0_1 t219 _ ?side1 ?side2 A7.out).mono ?_); (case side1 => exact V_mk HC0_0.out (F_below (C_F (heap_int .u32) HR0_0.out) sU_)); (case side2 => exact V_mk HC0_1.out (F_below (C_F (heap_int .u32) HR0_1.out) sU_)); rintro e w15 ⟨v220, rfl, ho0, hb⟩; refine nx3_ (R_lower (R_mono (ok' := fun k_ => True) ho0 (fun _ hk_ => trivial)) (below_size sU_)) (blk_below (kU_ BK216.out) hb) (below_step sU_ hb) ?_; clear BK216 HB; intro HO221 BK216 HB; clear hb ho0; obtain ⟨Ao16, co16, eo16⟩ := R_slice HO221.out; subst eo16) | (go_at_call 91; (with_reducible refine (ratio_isOne.calls _ _ t219 t222 _ ?side1 ?side2 A8.out).mono ?_); (case side1 => exact cU_ ((R_reads' HO221.out).2.2)); (case side2 => exact (R_reads' HO221.out).2.1); rintro e w' ⟨rfl, ⟨nd, rfl⟩⟩))
    go_ret
    exact ⟨eW_, sU_⟩
   rw [if_neg c6] at H
   have c6b0 : decide (0 < (l0_1.length : Int)) = false := decide_eq_false c6
   have c6b1 : decide (0 < l0_1.length) = false := decide_eq_false (by omega)
   clear c6
   obtain rfl := Option.some.inj H
   go_enter Tryd.func41, Tryd.ntmps41
   go_wp2_with (first | ((with_reducible refine gate_dst (N := 1) rfl ?_); (try (refine gate_guard (by rfl) ?_; dsimp only)); refine bx_ 1 26 #[.slice A0_0 l0_0.length c0_0, .slice A0_1 l0_1.length c0_1] ?_; intro gb216 hg w17 hbox hb; refine nx4_ (below_step (bU_ HB.out) hb) (hbox) ((hs_ hg (below_size (bU_ HB.out)))) ((hs_ hg (below_size (bU_ HB.out)))) ?_; clear HB; intro HB BK216 GW216 GE216; clear hb hbox hg; have hcz18_0 := bc0_ BK216.out; have hcz18_1 := bc1_ BK216.out; have hfz18_0 := bkf9_ BK216.out 0; have hfz18_1 := bkf9_ BK216.out 1) | ((with_reducible refine gate_callee (f := 90) rfl ?_); refine gl_ (some 5) Tryd.func90 #[.slice A0_0 l0_0.length c0_0] ?_; (with_reducible refine (ratio_ValidNat.calls k _ _ l0_0 true _ ?side1 ?side2 A2.out).mono ?_); (case side1 => exact cU_ (C_below HR0_0.out HB.out)); (case side2 => exact HC0_0.out); rintro e w19 ⟨rfl, hb⟩; refine ⟨_, rfl, ?_⟩; refine nx2_ (blk_below (kU_ BK216.out) hb) (below_step sU_ hb) ?_; clear BK216 HB; intro BK216 HB; clear hb; have hcz20_0 := bc0_ BK216.out; have hcz20_1 := bc1_ BK216.out; have hfz20_0 := bkf9_ BK216.out 0; have hfz20_1 := bkf9_ BK216.out 1) | (go_at_call 90; (with_reducible refine (ratio_ValidNat.calls k _ _ l0_1 true _ ?side1 ?side2 A4.out).mono ?_); (case side1 => exact cU_ (C_below HR0_1.out HB.out)); (case side2 => exact HC0_1.out); rintro e w21 ⟨rfl, hb⟩; refine nx2_ (blk_below (kU_ BK216.out) hb) (below_step sU_ hb) ?_; clear BK216 HB; intro BK216 HB; clear hb; have hcz22_0 := bc0_ BK216.out; have hcz22_1 := bc1_ BK216.out; have hfz22_0 := bkf9_ BK216.out 0; have hfz22_1 := bkf9_ BK216.out 1))
   go_ret
   exact ⟨eW_, sU_⟩
  replace c5 := Bool.eq_false_iff.mpr c5
  subst c5
  rw [if_neg (show ¬ (false = true) by decide)] at H
  obtain rfl := Option.some.inj H
  go_enter Tryd.func41, Tryd.ntmps41
  go_wp2_with (first | ((with_reducible refine gate_dst (N := 1) rfl ?_); (try (refine gate_guard (by rfl) ?_; dsimp only)); refine bx_ 1 26 #[.slice A0_0 l0_0.length c0_0, .slice A0_1 l0_1.length c0_1] ?_; intro gb216 hg w23 hbox hb; refine nx4_ (below_step (bU_ HB.out) hb) (hbox) ((hs_ hg (below_size (bU_ HB.out)))) ((hs_ hg (below_size (bU_ HB.out)))) ?_; clear HB; intro HB BK216 GW216 GE216; clear hb hbox hg; have hcz24_0 := bc0_ BK216.out; have hcz24_1 := bc1_ BK216.out; have hfz24_0 := bkf9_ BK216.out 0; have hfz24_1 := bkf9_ BK216.out 1) | ((with_reducible refine gate_callee (f := 90) rfl ?_); refine gl_ (some 5) Tryd.func90 #[.slice A0_0 l0_0.length c0_0] ?_; (with_reducible refine (ratio_ValidNat.calls k _ _ l0_0 true _ ?side1 ?side2 A2.out).mono ?_); (case side1 => exact cU_ (C_below HR0_0.out HB.out)); (case side2 => exact HC0_0.out); rintro e w25 ⟨rfl, hb⟩; refine ⟨_, rfl, ?_⟩; refine nx2_ (blk_below (kU_ BK216.out) hb) (below_step sU_ hb) ?_; clear BK216 HB; intro BK216 HB; clear hb; have hcz26_0 := bc0_ BK216.out; have hcz26_1 := bc1_ BK216.out; have hfz26_0 := bkf9_ BK216.out 0; have hfz26_1 := bkf9_ BK216.out 1) | (go_at_call 90; (with_reducible refine (ratio_ValidNat.calls k _ _ l0_1 false _ ?side1 ?side2 A4.out).mono ?_); (case side1 => exact cU_ (C_below HR0_1.out HB.out)); (case side2 => exact HC0_1.out); rintro e w27 ⟨rfl, hb⟩; refine nx2_ (blk_below (kU_ BK216.out) hb) (below_step sU_ hb) ?_; clear BK216 HB; intro BK216 HB; clear hb))
  go_ret
  exact ⟨eW_, sU_⟩
 replace c3 := Bool.eq_false_iff.mpr c3
 subst c3
 rw [if_neg (show ¬ (false = true) by decide)] at H
 obtain rfl := Option.some.inj H
 go_enter Tryd.func41, Tryd.ntmps41
 go_wp2_with (first | ((with_reducible refine gate_dst (N := 1) rfl ?_); (try (refine gate_guard (by rfl) ?_; dsimp only)); refine bx_ 1 26 #[.slice A0_0 l0_0.length c0_0, .slice A0_1 l0_1.length c0_1] ?_; intro gb216 hg w28 hbox hb; refine nx4_ (below_step (bU_ HB.out) hb) (hbox) ((hs_ hg (below_size (bU_ HB.out)))) ((hs_ hg (below_size (bU_ HB.out)))) ?_; clear HB; intro HB BK216 GW216 GE216; clear hb hbox hg; have hcz29_0 := bc0_ BK216.out; have hcz29_1 := bc1_ BK216.out; have hfz29_0 := bkf9_ BK216.out 0; have hfz29_1 := bkf9_ BK216.out 1) | ((with_reducible refine gate_callee (f := 90) rfl ?_); refine gl_ (some 5) Tryd.func90 #[.slice A0_0 l0_0.length c0_0] ?_; (with_reducible refine (ratio_ValidNat.calls k _ _ l0_0 false _ ?side1 ?side2 A2.out).mono ?_); (case side1 => exact cU_ (C_below HR0_0.out HB.out)); (case side2 => exact HC0_0.out); rintro e w30 ⟨rfl, hb⟩; refine ⟨_, rfl, ?_⟩; refine nx2_ (blk_below (kU_ BK216.out) hb) (below_step sU_ hb) ?_; clear BK216 HB; intro BK216 HB; clear hb))
 go_ret
 exact ⟨eW_, sU_⟩

mutual
def ratio_mul.l0 : Nat → List Int → List Int → List Int → Int → Int → Option (List Int)
 | 0, _, _, _, _, _ => none
 | k + 1, x1, x5, x18, x19, x20 => if x20 < x19 then (if 0 ≤ x20 then (if x20 < (x18.length : Int) then (ratio_mul.l1 k x1 x5 x20 (rd x18 x20) 0 x18 x19 x20 x1 (x1.length : Int) 0) else (none)) else (none)) else ((ratio_trim.f k x5).bind fun t226 => (some t226))
def ratio_mul.l1 : Nat → List Int → List Int → Int → Int → Int → List Int → Int → Int → List Int → Int → Int → Option (List Int)
 | 0, _, _, _, _, _, _, _, _, _, _, _ => none
 | k + 1, x1, x5, x6, x7, x8, x18, x19, x20, x25, x26, x27 => if x27 < x26 then (if 0 ≤ x27 then (if x27 < (x25.length : Int) then (if 0 ≤ (wrap64 (x6 + x27)) then (if (wrap64 (x6 + x27)) < (x5.length : Int) then (ratio_mul.l1 k x1 (x5.set ((wrap64 (x6 + x27)) : Int).toNat ((IntKind.u64.wrap ((IntKind.u64.wrap ((IntKind.u64.wrap ((IntKind.u64.wrap (x7)) * (IntKind.u64.wrap (rd x25 x27)))) + (IntKind.u64.wrap (rd x5 (wrap64 (x6 + x27)))))) + x8)) % 4294967296)) x6 x7 ((IntKind.u64.wrap ((IntKind.u64.wrap ((IntKind.u64.wrap ((IntKind.u64.wrap (x7)) * (IntKind.u64.wrap (rd x25 x27)))) + (IntKind.u64.wrap (rd x5 (wrap64 (x6 + x27)))))) + x8)) / 4294967296) x18 x19 x20 x25 x26 (wrap64 (x27 + 1))) else (none)) else (none)) else (none)) else (none)) else (if 0 ≤ (wrap64 (x6 + (x1.length : Int))) then (if (wrap64 (x6 + (x1.length : Int))) < (x5.length : Int) then (ratio_mul.l0 k x1 (x5.set ((wrap64 (x6 + (x1.length : Int))) : Int).toNat ((x8) % 4294967296)) x18 x19 (wrap64 (x20 + 1))) else (none)) else (none))
end
def ratio_mul.f (k : Nat) (l0 : List Int) (l1 : List Int) : Option (List Int) := if 0 ≤ (wrap64 ((l0.length : Int) + (l1.length : Int))) then (if (wrap64 ((l0.length : Int) + (l1.length : Int)) : Int).toNat ≤ 70368744177664 then (ratio_mul.l0 k l1 (List.replicate (wrap64 ((l0.length : Int) + (l1.length : Int)) : Int).toNat 0) l0 (l0.length : Int) 0) else (none)) else (none)
theorem ratio_mul.mono_l : ∀ k, (∀ y0 y1 y2 y3 y4, LeO (ratio_mul.l0 k y0 y1 y2 y3 y4) (ratio_mul.l0 (k + 1) y0 y1 y2 y3 y4)) ∧ (∀ y0 y1 y2 y3 y4 y5 y6 y7 y8 y9 y10, LeO (ratio_mul.l1 k y0 y1 y2 y3 y4 y5 y6 y7 y8 y9 y10) (ratio_mul.l1 (k + 1) y0 y1 y2 y3 y4 y5 y6 y7 y8 y9 y10))
 | 0 => ⟨fun _ _ _ _ _ r h => by simp [ratio_mul.l0] at h, fun _ _ _ _ _ _ _ _ _ _ _ r h => by simp [ratio_mul.l1] at h⟩
 | k + 1 => by
  obtain ⟨ih0, ih1⟩ := ratio_mul.mono_l k
  refine ⟨?_, ?_⟩
  ·intro y0 y1 y2 y3 y4
   unfold ratio_mul.l0
   with_reducible repeat' first | apply ih0 | apply ih1 | apply ratio_trim.mono | exact LeO.refl _ | exact LeO.none _ | refine LeO.ite ?_ ?_ | refine LeO.bind ?_ (fun _ => ?_)
  intro y0 y1 y2 y3 y4 y5 y6 y7 y8 y9 y10
  unfold ratio_mul.l1
  with_reducible repeat' first | apply ih0 | apply ih1 | apply ratio_trim.mono | exact LeO.refl _ | exact LeO.none _ | refine LeO.ite ?_ ?_ | refine LeO.bind ?_ (fun _ => ?_)
theorem ratio_mul.mono : ∀ a0 a1 k, LeO (ratio_mul.f k a0 a1) (ratio_mul.f (k + 1) a0 a1) := by
 intro a0 a1 k
 obtain ⟨ih0, ih1⟩ := ratio_mul.mono_l k
 unfold ratio_mul.f
 with_reducible repeat' first | apply ih0 | apply ih1 | apply ratio_trim.mono | exact LeO.refl _ | exact LeO.none _ | refine LeO.ite ?_ ?_ | refine LeO.bind ?_ (fun _ => ?_)
set_option maxHeartbeats 8000000 in
set_option maxRecDepth 100000 in
theorem ratio_mul.calls (k : Nat) (A0 : Option Addr) (c0 : Nat) (l0 : List Int) (A1 : Option Addr) (c1 : Nat) (l1 : List Int) (r : List Int) (w : World) (hr0 : Kd.C (Kd.int .u32) w A0 l0.length l0) (hc0 : l0.length ≤ c0) (hr1 : Kd.C (Kd.int .u32) w A1 l1.length l1) (hc1 : l1.length ≤ c1) (h : ratio_mul.f k l0 l1 = some r) :
  Calls Tryd.prog 94 #[.slice A0 l0.length c0, .slice A1 l1.length c1] w fun e w' => ∃ v0_ : Value, e = .returned (v0_) ∧ Kd.V (Kd.int .u32) 115 w' w.heap.size (fun k_ => (w.heap.size ≤ k_)) v0_ r ∧ Below w.heap.size w w' := by
 have HR0 := ak hr0
 have HC0 := ak hc0
 clear hr0 hc0
 have HR1 := ak hr1
 have HC1 := ak hc1
 clear hr1 hc1
 have HB := ak (Below.refl w.heap.size w)
 have H := h
 clear h
 unfold ratio_mul.f at H
 obtain ⟨ji3, hji3⟩ : ∃ j_ : Int, (wrap64 ((l0.length : Int) + (l1.length : Int))) = j_ := ⟨_, rfl⟩
 first | rw [hji3] at H | simp only [hji3] at H
 have hji3w : (IntKind.i64.wrap ((l0.length : Int) + (l1.length : Int))) = ji3 := (i64_w _).trans hji3
 obtain ⟨c4, H⟩ : (0 ≤ (ji3)) ∧ _ := it_ H
 have c4b0 := eq_true c4
 have c4b1 := decide_eq_true c4
 clear c4
 obtain ⟨c5, H⟩ : ((ji3 : Int).toNat ≤ 70368744177664) ∧ _ := it_ H
 have c5b0 := eq_true c5
 have c5b1 := decide_eq_true c5
 clear c5
 obtain ⟨y223, hy223⟩ : ∃ y_ : List Int, y_ = (List.replicate (ji3 : Int).toNat 0) := ⟨_, rfl⟩
 first | rw [Option.bind_some, ← hy223] at H | rw [← hy223] at H
 have Ny223 := ak hy223
 clear hy223
 have H' := ak H
 clear H
 go_enter Tryd.func94, Tryd.ntmps94
 go_wp2_with (first | ((with_reducible refine gate_dst (N := 17) rfl ?_); refine R_make (Kd.int .u32) _ 115 rfl (N := 17) rfl 23 _ _ rfl ji3 ?hx ?hy Tryd.underlying23 (.int .u32 0) 4 info115 rfl (by decide) (by omega) 0 (ok := fun _ => True) (okp := fun _ => True) rfl (fun _ hk => hk) trivial od_ (Nat.le_trans (Nat.mul_le_mul_right _ (od_ : ji3.toNat ≤ 70368744177664)) (by omega)) (Below.refl _ _) (Nat.le_refl _) ?_; (case hx => first | rfl | (simp only [hji3]; rfl)); (case hy => first | rfl | (simp only [hji3]; rfl)); intro v224 w6 ho7 hb hg_ hnew_; clear hg_ hnew_; (first | rw [← Ny223.out] at ho7 | (simp only [Int.reduceToNat] at ho7; rw [← Ny223.out] at ho7)); refine nx2_ (R_lower (R_newM (M := fun k_ => (w.heap.size ≤ k_)) ho7 (below_size (bU_ HB.out)) (fun k_ h_ => h_)) (below_size (bU_ HB.out))) (below_step (bU_ HB.out) hb) ?_; clear HB; intro HO225 HB; clear hb ho7))
 go_loopg [20] k (fun kq v20 w' => ∃ (x5_1 : List Int) (x20_1 : Int), v20 = .int .i64 x20_1 ∧ Aside0 (ratio_mul.l0 kq l1 x5_1 l0 (l0.length : Int) x20_1 = some r) ∧ Aside0 (kq ≤ k) ∧ Aside0 (Kd.R (Kd.int .u32) 115 w' w.heap.size (fun k_ => (w.heap.size ≤ k_)) v224 x5_1) ∧ Aside0 (Below w.heap.size w w'))
 case atStart => exact ⟨(y223), (0), gb_, H', ⟨Nat.le_refl _⟩, ⟨R_mono (rU_ HO225.out) (fun _ hk => hk.1)⟩, ⟨bU_ HB.out⟩⟩
 case round =>
  clear H'
  (try clear c1); (try clear p2); (try clear c4); (try clear c4b0); (try clear c4b1); (try clear c5); (try clear c5b0); (try clear c5b1); (try clear p6)
  obtain ⟨x5_1, x20_1, rfl, HA, HK1, HO_5, HB⟩ := hrel
  cases gk with
  | zero => exact absurd HA.out (by simp [ratio_mul.l0])
  | succ k1 =>
   have H := HA.out
   clear HA
   simp only [ratio_mul.l0] at H
   by_cases c8 : x20_1 < (l0.length : Int)
   ·rw [if_pos c8] at H
    have c8b0 := decide_eq_true c8
    clear c8
    obtain ⟨c9, H⟩ : (0 ≤ x20_1) ∧ _ := it_ H
    have c9b0 := decide_eq_true c9
    clear c9
    obtain ⟨c10, H⟩ : (x20_1 < (l0.length : Int)) ∧ _ := it_ H
    have c10b0 := decide_eq_true c10
    clear c10
    have H' := ak H
    clear H
    have p229 : 0 ≤ (x20_1 : Int) := od_
    have q229 : x20_1 < (l0.length : Int) := od_
    obtain ⟨ad229, e229, hx229_0⟩ := Kd.at_int HR0.out x20_1 p229 q229
    cases e229
    replace hx229_0 := (HB.out.cell (World.block_lt_of_cell? w _ hx229_0)).trans hx229_0
    replace p229 := eq_true p229
    replace q229 := eq_true q229
    go_wp2
    go_loopg [8, 27] k1 (fun kq v8 v27 w' => ∃ (x5_2 : List Int) (x8_2 : Int) (x27_2 : Int), v8 = .int .u64 x8_2 ∧ v27 = .int .i64 x27_2 ∧ Aside0 (ratio_mul.l1 kq l1 x5_2 x20_1 (rd l0 x20_1) x8_2 l0 (l0.length : Int) x20_1 l1 (l1.length : Int) x27_2 = some r) ∧ Aside0 (kq ≤ k1) ∧ Aside0 (Kd.R (Kd.int .u32) 115 w' w.heap.size (fun k_ => (w.heap.size ≤ k_)) v224 x5_2) ∧ Aside0 (Below w.heap.size w w'))
    case atStart => exact ⟨(x5_1), (0), (0), gb_, gb_, H', ⟨Nat.le_refl _⟩, ⟨rU_ HO_5.out⟩, ⟨bU_ HB.out⟩⟩
    case round =>
     clear H'
     (try clear c1); (try clear p2); (try clear q2); (try clear hx2); (try clear c4); (try clear c4b0); (try clear c4b1); (try clear c5); (try clear c5b0); (try clear c5b1); (try clear p6); (try clear c8); (try clear c8b0); (try clear c9); (try clear c9b0); (try clear c10); (try clear c10b0); (try clear hx229_0); (try clear p229); (try clear q229)
     obtain ⟨x5_2, x8_2, x27_2, rfl, rfl, HA, HK2, HO_5, HB⟩ := hrel
     cases gk with
     | zero => exact absurd HA.out (by simp [ratio_mul.l1])
     | succ k2 =>
      have H := HA.out
      clear HA
      simp only [ratio_mul.l1] at H
      by_cases c11 : x27_2 < (l1.length : Int)
      ·rw [if_pos c11] at H
       have c11b0 := decide_eq_true c11
       clear c11
       obtain ⟨c12, H⟩ : (0 ≤ x27_2) ∧ _ := it_ H
       have c12b0 := decide_eq_true c12
       clear c12
       obtain ⟨c13, H⟩ : (x27_2 < (l1.length : Int)) ∧ _ := it_ H
       have c13b0 := decide_eq_true c13
       clear c13
       obtain ⟨ji14, hji14⟩ : ∃ j_ : Int, (wrap64 (x20_1 + x27_2)) = j_ := ⟨_, rfl⟩
       first | rw [hji14] at H | simp only [hji14] at H
       have hji14w : (IntKind.i64.wrap (x20_1 + x27_2)) = ji14 := (i64_w _).trans hji14
       obtain ⟨c15, H⟩ : (0 ≤ (ji14)) ∧ _ := it_ H
       have c15b0 := decide_eq_true c15
       clear c15
       obtain ⟨c16, H⟩ : ((ji14) < (x5_2.length : Int)) ∧ _ := it_ H
       have c16b0 := decide_eq_true c16
       clear c16
       obtain ⟨y232, hy232⟩ : ∃ y_ : List Int, y_ = (x5_2.set ((ji14) : Int).toNat ((IntKind.u64.wrap ((IntKind.u64.wrap ((IntKind.u64.wrap ((IntKind.u64.wrap ((rd l0 x20_1))) * (IntKind.u64.wrap (rd l1 x27_2)))) + (IntKind.u64.wrap (rd x5_2 (ji14))))) + x8_2)) % 4294967296)) := ⟨_, rfl⟩
       first | rw [Option.bind_some, ← hy232] at H | rw [← hy232] at H
       have Ny232 := ak hy232
       clear hy232
       have H' := ak H
       clear H
       have p230 : 0 ≤ (x27_2 : Int) := od_
       have q230 : x27_2 < (l1.length : Int) := od_
       obtain ⟨ad230, e230, hx230_0⟩ := Kd.at_int HR1.out x27_2 p230 q230
       cases e230
       replace hx230_0 := (HB.out.cell (World.block_lt_of_cell? w _ hx230_0)).trans hx230_0
       replace p230 := eq_true p230
       replace q230 := eq_true q230
       obtain ⟨Ao19, co19, eo19⟩ := R_slice HO_5.out
       subst eo19
       have pfr18 : 0 ≤ ((ji14) : Int) := od_
       have qfr18 : ((ji14) : Int) < ((x5_2.length : Int) : Int) := od_
       obtain ⟨gofr18, cofr18, eofr18, gbfr18, glfr18, clfr18, HGfr18⟩ := Kd.R_form HO_5.out (by omega)
       (first | cases eofr18 | (injection eofr18 with ea_ en_ ec_; (first | subst ea_ | (injection ea_ with ea_; subst ea_)); subst ec_; clear en_))
       have GBfr18 := ak gbfr18
       have GGfr18 := ak HGfr18
       clear gbfr18 glfr18 HGfr18
       clear pfr18 qfr18
       have p231 : 0 ≤ ((ji14) : Int) := od_
       have q231 : (ji14) < (x5_2.length : Int) := od_
       obtain ⟨ad231, e231, hx231_0⟩ := Kd.at_int (R_reads' HO_5.out).2.2 (ji14) p231 q231
       obtain rfl : (⟨gofr18, 0, none⟩ : Addr) = ad231 := (by injection e231)
       (first | simp only [add_plain] at hx231_0 | simp only [add_at] at hx231_0 | simp only [Addr.add, Nat.zero_add] at hx231_0 | skip)
       replace p231 := eq_true p231
       replace q231 := eq_true q231
       have p17 : 0 ≤ ((ji14) : Int) := od_
       have q17 : ((ji14) : Int) < ((x5_2.length : Int) : Int) := od_
       obtain ⟨hx17_0, hf17_0⟩ := Kd.R_celln 0 HO_5.out ((ji14) : Int) p17 q17
       replace p17 := eq_true p17
       replace q17 := eq_true q17
       have HP20 := Kd.R_putg HO_5.out ((ji14) : Int) ((IntKind.u64.wrap ((IntKind.u64.wrap ((IntKind.u64.wrap ((IntKind.u64.wrap ((rd l0 x20_1))) * (IntKind.u64.wrap (rd l1 x27_2)))) + (IntKind.u64.wrap (rd x5_2 (ji14))))) + x8_2)) % 4294967296)
       go_wp2_with (first | ((with_reducible refine gate_store (t := 115) (p := 55) rfl ?_); refine store_event (t := 115) (p := 55) (v := ?vo_w21) (w1 := (wr.setCell ⟨gofr18, ((ji14) : Int).toNat, none⟩ (.int .u32 ((IntKind.u64.wrap ((IntKind.u64.wrap ((IntKind.u64.wrap ((IntKind.u64.wrap ((rd l0 x20_1))) * (IntKind.u64.wrap (rd l1 x27_2)))) + (IntKind.u64.wrap (rd x5_2 (ji14))))) + x8_2)) % 4294967296)))) ?hg ?ho ?hn ?hr ?_; (case ho => rfl); (case hg => rfl); (case hn => rfl); (case hr => first | (go_simp; done) | (go_simp; rfl)); intro w21 hw; have hg : wr.grownBy w21 (some gofr18) := (by rw [hw]; exact HP20.2); have hp_ : Kd.R (Kd.int .u32) 115 w21 w.heap.size (fun k_ => (w.heap.size ≤ k_)) (.slice (some ⟨gofr18, 0, none⟩) x5_2.length co19) y232 := (by rw [hw, Ny232.out]; exact HP20.1); clear HP20; refine nx2_ (hp_) ((by rw [hw]; exact below_set (HB.out) GBfr18.out : Below w.heap.size w w21)) ?_; clear HO_5 HB; intro HO_5 HB; clear hg hw hp_))
       go_roundg k2
       case measure => have := HK1.out; have := HK2.out; omega
       case rel => exact ⟨(y232), ((IntKind.u64.wrap ((IntKind.u64.wrap ((IntKind.u64.wrap ((IntKind.u64.wrap ((rd l0 x20_1))) * (IntKind.u64.wrap (rd l1 x27_2)))) + (IntKind.u64.wrap (rd x5_2 (ji14))))) + x8_2)) / 4294967296), (wrap64 (x27_2 + 1)), (by first | rfl | (simp; done) | (simp only [← hji14] <;> (first | rfl | simp)) | (simp [*]; done)), gb_, H', ⟨by have := HK1.out; have := HK2.out; omega⟩, ⟨rU_ HO_5.out⟩, ⟨bU_ HB.out⟩⟩
      rw [if_neg c11] at H
      have c11b0 := decide_eq_false c11
      clear c11
      obtain ⟨ji22, hji22⟩ : ∃ j_ : Int, (wrap64 (x20_1 + (l1.length : Int))) = j_ := ⟨_, rfl⟩
      first | rw [hji22] at H | simp only [hji22] at H
      have hji22w : (IntKind.i64.wrap (x20_1 + (l1.length : Int))) = ji22 := (i64_w _).trans hji22
      obtain ⟨c23, H⟩ : (0 ≤ (ji22)) ∧ _ := it_ H
      have c23b0 := decide_eq_true c23
      clear c23
      obtain ⟨c24, H⟩ : ((ji22) < (x5_2.length : Int)) ∧ _ := it_ H
      have c24b0 := decide_eq_true c24
      clear c24
      obtain ⟨y233, hy233⟩ : ∃ y_ : List Int, y_ = (x5_2.set ((ji22) : Int).toNat ((x8_2) % 4294967296)) := ⟨_, rfl⟩
      first | rw [Option.bind_some, ← hy233] at H | rw [← hy233] at H
      have Ny233 := ak hy233
      clear hy233
      have H' := ak H
      clear H
      have p25 : 0 ≤ ((ji22) : Int) := od_
      have q25 : ((ji22) : Int) < ((x5_2.length : Int) : Int) := od_
      obtain ⟨go25, co25, eo25, gb25, gl25, cl25, HG25⟩ := Kd.R_form HO_5.out (by omega)
      (first | cases eo25 | (injection eo25 with ea_ en_ ec_; (first | subst ea_ | (injection ea_ with ea_; subst ea_)); subst ec_; clear en_))
      have GB25 := ak gb25
      have GG25 := ak HG25
      clear gb25 gl25 HG25
      obtain ⟨hx25_0, hf25_0⟩ := Kd.R_celln 0 HO_5.out ((ji22) : Int) p25 q25
      replace p25 := eq_true p25
      replace q25 := eq_true q25
      have HP26 := Kd.R_putg HO_5.out ((ji22) : Int) ((x8_2) % 4294967296)
      go_wp2_with (first | ((with_reducible refine gate_store (t := 115) (p := 64) rfl ?_); refine store_event (t := 115) (p := 64) (v := ?vo_w27) (w1 := (wr.setCell ⟨go25, ((ji22) : Int).toNat, none⟩ (.int .u32 ((x8_2) % 4294967296)))) ?hg ?ho ?hn ?hr ?_; (case ho => rfl); (case hg => rfl); (case hn => rfl); (case hr => first | (go_simp; done) | (go_simp; rfl)); intro w27 hw; have hg : wr.grownBy w27 (some go25) := (by rw [hw]; exact HP26.2); have hp_ : Kd.R (Kd.int .u32) 115 w27 w.heap.size (fun k_ => (w.heap.size ≤ k_)) (.slice (some ⟨go25, 0, none⟩) x5_2.length co25) y233 := (by rw [hw, Ny233.out]; exact HP26.1); clear HP26; refine nx2_ (hp_) ((by rw [hw]; exact below_set (HB.out) GB25.out : Below w.heap.size w w27)) ?_; clear HO_5 HB; intro HO_5 HB; clear hg hw hp_))
      go_roundg k2
      case measure => have := HK1.out; have := HK2.out; omega
      case rel => exact ⟨(y233), (wrap64 (x20_1 + 1)), gb_, H', ⟨by have := HK1.out; have := HK2.out; omega⟩, ⟨rU_ HO_5.out⟩, ⟨bU_ HB.out⟩⟩
   rw [if_neg c8] at H
   have c8b0 := decide_eq_false c8
   clear c8
   revert H
   refine bd_ fun t226 A28 H => ?_
   obtain rfl := Option.some.inj H
   obtain ⟨Ao29, co29, eo29⟩ := R_slice HO_5.out
   subst eo29
   go_wp2_with (first | ((with_reducible refine gate_callee (f := 121) rfl ?_); refine gl_ (some 67) Tryd.func121 #[.slice Ao29 x5_1.length co29] ?_; (with_reducible refine (ratio_trim.calls k1 (fun k_ => some k_ = (.slice Ao29 x5_1.length co29 : Value).ownBlock) _ _ x5_1 t226 _ ?side1 A28.out).mono ?_); (case side1 => exact R_V (R_tight rfl (HO_5.out))); rintro e w30 ⟨v227, rfl, ho0, hb⟩; refine ⟨_, rfl, ?_⟩; refine nx3_ (R_below (rU_ HO_5.out) hb) (V_lower (V_mono (ok' := fun k_ => (w.heap.size ≤ k_)) ho0 (fun k_ hk_ => Or.elim hk_ (fun hs_ => ((HO_5.out).1 k_ hs_.symm)) (fun hn_ => (Nat.le_trans (below_size (bU_ HB.out)) hn_)))) (below_size (bU_ HB.out))) (below_step (bU_ HB.out) hb) ?_; clear HO_5 HB; intro HO_5 HO228 HB; clear hb ho0))
   go_ret
   exact ⟨_, by first | rfl | (simp [errW_none, errW_some] <;> rfl) | (simp only [← hji3]; first | rfl | (simp [errW_none, errW_some] <;> rfl)) | (simp [*, errW_none, errW_some] <;> rfl), vU_ HO228.out, bU_ HB.out⟩

def ratio_Power.l0 : Nat → Int → Int → List Int → List Int → List Int → List Int → Option (List Int × List Int × Int)
 | 0, _, _, _, _, _, _ => none
 | k + 1, x23, x24, x235000, x235001, x244000, x244001 => if x24 < x23 then ((ratio_mul.f k x244000 x235000).bind fun t244 => ((ratio_mul.f k x244001 x235001).bind fun t247 => (if (t244.length : Int) > 64 then (some (([] : List Int), ([] : List Int), 3)) else (if (t247.length : Int) > 64 then (some (([] : List Int), ([] : List Int), 3)) else (ratio_Power.l0 k x23 (wrap64 (x24 + 1)) x235000 x235001 t244 t247))))) else (some (x244000, x244001, 0))
def ratio_Power.f (k : Nat) (l0_0 : List Int) (l0_1 : List Int) (a1 : Int) : Option (List Int × List Int × Int) := (ratio_Valid.f k l0_0 l0_1).bind fun t236 => (if t236 = true then (if a1 < 0 then (some (([] : List Int), ([] : List Int), 2)) else (if a1 > 1000 then (some (([] : List Int), ([] : List Int), 2)) else (ratio_Power.l0 k a1 0 l0_0 l0_1 (([1] : List Int)) (([1] : List Int))))) else (some (([] : List Int), ([] : List Int), 1)))
theorem ratio_Power.mono_l : ∀ k, (∀ y0 y1 y2 y3 y4 y5, LeO (ratio_Power.l0 k y0 y1 y2 y3 y4 y5) (ratio_Power.l0 (k + 1) y0 y1 y2 y3 y4 y5))
 | 0 => fun _ _ _ _ _ _ r h => by simp [ratio_Power.l0] at h
 | k + 1 => by
  have ih0 := ratio_Power.mono_l k
  ·intro y0 y1 y2 y3 y4 y5
   unfold ratio_Power.l0
   with_reducible repeat' first | apply ih0 | apply ratio_Valid.mono | apply ratio_mul.mono | exact LeO.refl _ | exact LeO.none _ | refine LeO.ite ?_ ?_ | refine LeO.bind ?_ (fun _ => ?_)
theorem ratio_Power.mono : ∀ a0 a1 a2 k, LeO (ratio_Power.f k a0 a1 a2) (ratio_Power.f (k + 1) a0 a1 a2) := by
 intro a0 a1 a2 k
 have ih0 := ratio_Power.mono_l k
 unfold ratio_Power.f
 with_reducible repeat' first | apply ih0 | apply ratio_Valid.mono | apply ratio_mul.mono | exact LeO.refl _ | exact LeO.none _ | refine LeO.ite ?_ ?_ | refine LeO.bind ?_ (fun _ => ?_)
def ratio_Power.T8 : Bool × List (List Nat × List Nat) := (true, [([], []), ([0], [0]), ([], []), ([2], [2]), ([1, 3], [1, 3]), ([], []), ([5], [5]), ([], []), ([7], [7]), ([6, 8, 4], [6, 8]), ([0, 1, 2, 3, 4, 5, 6], []), ([10, 4, 9, 0, 1, 2, 3, 4, 5, 6], [4, 10]), ([0, 1, 2, 3, 4, 5, 6, 7, 8, 9, 10, 11], []), ([12, 9, 11, 0, 1, 2, 3, 4, 5, 6, 7, 8, 9, 10, 11], [9, 12])])
def ratio_Power.B8 : List Nat := [0, 1, 0, 4, 15, 0, 32, 0, 128, 511, 127, 2047, 4095, 8191]
theorem ratio_Power.tab8 : rtab .any (opsOf Tryd.f48 8) = ratio_Power.T8 := by kernel_rfl
theorem ratio_Power.bits8 : waitsOk ratio_Power.T8.2 ratio_Power.B8 = true := by kernel_rfl
set_option maxHeartbeats 8000000 in
set_option maxRecDepth 100000 in
theorem ratio_Power.calls (k : Nat) (A0_0 : Option Addr) (c0_0 : Nat) (l0_0 : List Int) (A0_1 : Option Addr) (c0_1 : Nat) (l0_1 : List Int) (a1 : Int) (r1 : List Int) (r2 : List Int) (r3 : Int) (w : World) (hr0_0 : Kd.C (Kd.int .u32) w A0_0 l0_0.length l0_0) (hc0_0 : l0_0.length ≤ c0_0) (hr0_1 : Kd.C (Kd.int .u32) w A0_1 l0_1.length l0_1) (hc0_1 : l0_1.length ≤ c0_1) (h : ratio_Power.f k l0_0 l0_1 a1 = some (r1, r2, r3)) :
  Calls Tryd.prog 48 #[.agg #[.slice A0_0 l0_0.length c0_0, .slice A0_1 l0_1.length c0_1], .int .i64 a1] w fun e w' => ∃ v0_ v1_ : Value, e = .returned (.tuple #[.agg #[v0_, v1_], .int .i64 r3]) ∧ Kd.V (Kd.int .u32) 115 w' w.heap.size (fun k_ => (w.heap.size ≤ k_)) v0_ r1 ∧ Kd.V (Kd.int .u32) 115 w' w.heap.size (fun k_ => (w.heap.size ≤ k_)) v1_ r2 ∧ Below w.heap.size w w' := by
 have hu26 := Tryd.underlying26
 have HR0_0 := ak hr0_0
 have HC0_0 := ak hc0_0
 clear hr0_0 hc0_0
 have HR0_1 := ak hr0_1
 have HC0_1 := ak hc0_1
 clear hr0_1 hc0_1
 have HB := ak (Below.refl w.heap.size w)
 have H := h
 clear h
 unfold ratio_Power.f at H
 revert H
 refine bd_ fun t236 A3 H => ?_
 by_cases c4 : t236 = true
 ·subst c4
  rw [if_pos rfl] at H
  by_cases c5 : a1 < 0
  ·rw [if_pos c5] at H
   have c5b0 := decide_eq_true c5
   clear c5
   simp only [Option.some.injEq, Prod.mk.injEq] at H
   obtain ⟨rfl, rfl, rfl⟩ := H
   go_enter Tryd.func48, Tryd.ntmps48
   go_wp2_with (first | ((with_reducible refine gate_dst (N := 2) rfl ?_); (try (refine gate_guard (by rfl) ?_; dsimp only)); refine bx_ 2 26 #[.slice A0_0 l0_0.length c0_0, .slice A0_1 l0_1.length c0_1] ?_; intro gb234 hg w6 hbox hb; refine nx4_ (below_step (bU_ HB.out) hb) (hbox) ((hs_ hg (below_size (bU_ HB.out)))) ((hs_ hg (below_size (bU_ HB.out)))) ?_; clear HB; intro HB BK234 GW234 GE234; clear hb hbox hg) | ((with_reducible refine gate_dst (N := 4) rfl ?_); (try (refine gate_guard (by rfl) ?_; dsimp only)); refine bx_ 4 26 #[.slice none 0 0, .slice none 0 0] ?_; intro gb235 hg w7 hbox hb; refine nx7_ (blk_below (kU_ BK234.out) hb) (below_step sU_ hb) (hbox) ((hs_ hg (below_size sU_) : w.heap.size ≤ gb235)) ((hs_ hg (below_size sU_) : w.heap.size ≤ gb235)) ((hl_ hg (kU_ BK234.out))) ((hm_ hg (kU_ BK234.out))) ?_; clear BK234 HB; intro BK234 HB BK235 GW235 GE235 NB234_235 NB235_234; clear hb hbox hg; have hnb8 := NB234_235.out; have hnc8 := NB235_234.out; have hcz9_0 := bc0_ BK234.out; have hcz9_1 := bc1_ BK234.out; have hfz9_0 := bkf9_ BK234.out 0; have hfz9_1 := bkf9_ BK234.out 1) | ((with_reducible refine gate_callee (f := 41) rfl ?_); refine gl_ (some 9) Tryd.func41 #[.agg #[.slice A0_0 l0_0.length c0_0, .slice A0_1 l0_1.length c0_1]] ?_; (with_reducible refine (ratio_Valid.calls k _ _ l0_0 _ _ l0_1 true _ ?side1 ?side2 ?side3 ?side4 A3.out).mono ?_); (case side1 => exact cU_ (C_below HR0_0.out HB.out)); (case side2 => exact HC0_0.out); (case side3 => exact cU_ (C_below HR0_1.out HB.out)); (case side4 => exact HC0_1.out); rintro e w10 ⟨rfl, hb⟩; refine ⟨_, rfl, ?_⟩; refine nx3_ (blk_below (kU_ BK234.out) hb) (blk_below (kU_ BK235.out) hb) (below_step sU_ hb) ?_; clear BK234 BK235 HB; intro BK234 BK235 HB; clear hb; have hcz11_0 := bc0_ BK235.out; have hcz11_1 := bc1_ BK235.out; have hfz11_0 := bkf9_ BK235.out 0; have hfz11_1 := bkf9_ BK235.out 1))
   refine bodyPost_ret (results_ct rfl _ _ gb235 26 #[.slice none 0 0, .slice none 0 0] (0, 0) _ rfl kp_ Tryd.underlying26 rfl (by kernel_rfl)) rfl ?_
   exact ⟨_, _, eW_, Kd.V_nil _ _ _ _ _, Kd.V_nil _ _ _ _ _, sU_⟩
  rw [if_neg c5] at H
  have c5b0 := decide_eq_false c5
  clear c5
  by_cases c12 : a1 > 1000
  ·rw [if_pos c12] at H
   have c12b0 : decide (1000 < a1) = true := decide_eq_true c12
   clear c12
   simp only [Option.some.injEq, Prod.mk.injEq] at H
   obtain ⟨rfl, rfl, rfl⟩ := H
   go_enter Tryd.func48, Tryd.ntmps48
   go_wp2_with (first | ((with_reducible refine gate_dst (N := 2) rfl ?_); (try (refine gate_guard (by rfl) ?_; dsimp only)); refine bx_ 2 26 #[.slice A0_0 l0_0.length c0_0, .slice A0_1 l0_1.length c0_1] ?_; intro gb234 hg w13 hbox hb; refine nx4_ (below_step (bU_ HB.out) hb) (hbox) ((hs_ hg (below_size (bU_ HB.out)))) ((hs_ hg (below_size (bU_ HB.out)))) ?_; clear HB; intro HB BK234 GW234 GE234; clear hb hbox hg) | ((with_reducible refine gate_dst (N := 4) rfl ?_); (try (refine gate_guard (by rfl) ?_; dsimp only)); refine bx_ 4 26 #[.slice none 0 0, .slice none 0 0] ?_; intro gb235 hg w14 hbox hb; refine nx7_ (blk_below (kU_ BK234.out) hb) (below_step sU_ hb) (hbox) ((hs_ hg (below_size sU_) : w.heap.size ≤ gb235)) ((hs_ hg (below_size sU_) : w.heap.size ≤ gb235)) ((hl_ hg (kU_ BK234.out))) ((hm_ hg (kU_ BK234.out))) ?_; clear BK234 HB; intro BK234 HB BK235 GW235 GE235 NB234_235 NB235_234; clear hb hbox hg; have hnb15 := NB234_235.out; have hnc15 := NB235_234.out; have hcz16_0 := bc0_ BK234.out; have hcz16_1 := bc1_ BK234.out; have hfz16_0 := bkf9_ BK234.out 0; have hfz16_1 := bkf9_ BK234.out 1) | ((with_reducible refine gate_callee (f := 41) rfl ?_); refine gl_ (some 9) Tryd.func41 #[.agg #[.slice A0_0 l0_0.length c0_0, .slice A0_1 l0_1.length c0_1]] ?_; (with_reducible refine (ratio_Valid.calls k _ _ l0_0 _ _ l0_1 true _ ?side1 ?side2 ?side3 ?side4 A3.out).mono ?_); (case side1 => exact cU_ (C_below HR0_0.out HB.out)); (case side2 => exact HC0_0.out); (case side3 => exact cU_ (C_below HR0_1.out HB.out)); (case side4 => exact HC0_1.out); rintro e w17 ⟨rfl, hb⟩; refine ⟨_, rfl, ?_⟩; refine nx3_ (blk_below (kU_ BK234.out) hb) (blk_below (kU_ BK235.out) hb) (below_step sU_ hb) ?_; clear BK234 BK235 HB; intro BK234 BK235 HB; clear hb; have hcz18_0 := bc0_ BK235.out; have hcz18_1 := bc1_ BK235.out; have hfz18_0 := bkf9_ BK235.out 0; have hfz18_1 := bkf9_ BK235.out 1))
   refine bodyPost_ret (results_ct rfl _ _ gb235 26 #[.slice none 0 0, .slice none 0 0] (0, 0) _ rfl kp_ Tryd.underlying26 rfl (by kernel_rfl)) rfl ?_
   exact ⟨_, _, eW_, Kd.V_nil _ _ _ _ _, Kd.V_nil _ _ _ _ _, sU_⟩
  rw [if_neg c12] at H
  have c12b0 : decide (1000 < a1) = false := decide_eq_false c12
  clear c12
  obtain ⟨y237, hy237⟩ : ∃ y_ : List Int, y_ = (([1] : List Int)) := ⟨_, rfl⟩
  replace H : (ratio_Power.l0 k a1 0 l0_0 l0_1 y237 (([1] : List Int))) = some (r1, r2, r3) := by first | (rw [hy237]; with_reducible exact H) | (have H2_ := (Option.bind_some _ _).symm.trans H; rw [hy237]; with_reducible exact H2_) | (have H2_ := (Option.bind_some _ _).symm.trans H; with_reducible exact H2_) | with_reducible exact H | (rw [hy237]; exact H) | exact H
  have Ny237 := ak hy237
  clear hy237
  obtain ⟨y240, hy240⟩ : ∃ y_ : List Int, y_ = (([1] : List Int)) := ⟨_, rfl⟩
  replace H : (ratio_Power.l0 k a1 0 l0_0 l0_1 y237 y240) = some (r1, r2, r3) := by first | (rw [hy240]; with_reducible exact H) | (have H2_ := (Option.bind_some _ _).symm.trans H; rw [hy240]; with_reducible exact H2_) | (have H2_ := (Option.bind_some _ _).symm.trans H; with_reducible exact H2_) | with_reducible exact H | (rw [hy240]; exact H) | exact H
  have Ny240 := ak hy240
  clear hy240
  have H' := ak H
  clear H
  go_enter Tryd.func48, Tryd.ntmps48
  go_wp2_with (first | ((with_reducible refine gate_dst (N := 2) rfl ?_); (try (refine gate_guard (by rfl) ?_; dsimp only)); refine bx_ 2 26 #[.slice A0_0 l0_0.length c0_0, .slice A0_1 l0_1.length c0_1] ?_; intro gb234 hg w19 hbox hb; refine nx4_ (below_step (bU_ HB.out) hb) (hbox) ((hs_ hg (below_size (bU_ HB.out)))) ((hs_ hg (below_size (bU_ HB.out)))) ?_; clear HB; intro HB BK234 GW234 GE234; clear hb hbox hg) | ((with_reducible refine gate_dst (N := 4) rfl ?_); (try (refine gate_guard (by rfl) ?_; dsimp only)); refine bx_ 4 26 #[.slice none 0 0, .slice none 0 0] ?_; intro gb235 hg w20 hbox hb; refine nx7_ (blk_below (kU_ BK234.out) hb) (below_step sU_ hb) (hbox) ((hs_ hg (below_size sU_) : w.heap.size ≤ gb235)) ((hs_ hg (below_size sU_) : w.heap.size ≤ gb235)) ((hl_ hg (kU_ BK234.out))) ((hm_ hg (kU_ BK234.out))) ?_; clear BK234 HB; intro BK234 HB BK235 GW235 GE235 NB234_235 NB235_234; clear hb hbox hg; have hnb21 := NB234_235.out; have hnc21 := NB235_234.out; have hcz22_0 := bc0_ BK234.out; have hcz22_1 := bc1_ BK234.out; have hfz22_0 := bkf9_ BK234.out 0; have hfz22_1 := bkf9_ BK234.out 1) | ((with_reducible refine gate_callee (f := 41) rfl ?_); refine gl_ (some 9) Tryd.func41 #[.agg #[.slice A0_0 l0_0.length c0_0, .slice A0_1 l0_1.length c0_1]] ?_; (with_reducible refine (ratio_Valid.calls k _ _ l0_0 _ _ l0_1 true _ ?side1 ?side2 ?side3 ?side4 A3.out).mono ?_); (case side1 => exact cU_ (C_below HR0_0.out HB.out)); (case side2 => exact HC0_0.out); (case side3 => exact cU_ (C_below HR0_1.out HB.out)); (case side4 => exact HC0_1.out); rintro e w23 ⟨rfl, hb⟩; refine ⟨_, rfl, ?_⟩; refine nx3_ (blk_below (kU_ BK234.out) hb) (blk_below (kU_ BK235.out) hb) (below_step sU_ hb) ?_; clear BK234 BK235 HB; intro BK234 BK235 HB; clear hb) | ((with_reducible refine gate_dst (N := 20) rfl ?_); (try (refine gate_guard (by rfl) ?_; dsimp only)); refine R_lit (Kd.int .u32) _ 115 ?hg (N := 20) ?hd (xs := ([1] : List Int)) (inner := [.int .u32 1]) (ok := fun _ => True) (okp := fun _ => True) ?hr ?hp (fun _ hk => hk) trivial (Below.refl _ _) (Nat.le_refl _) (by simp) ?_; (case hd => rfl); (case hg => rfl); (case hr => first | (go_simp; done) | (go_simp; rfl)); (case hp => exact (Reps.one (show Kd.M (Kd.int .u32) _ _ _ 1 [.int .u32 1] from rfl) (Reps.none _ _))); intro v238 w24 ho25 hb hg_ hnew_; clear hg_ hnew_; (first | rw [← Ny237.out] at ho25 | (simp only [Int.reduceToNat] at ho25; rw [← Ny237.out] at ho25)); refine nx4_ (R_lower (R_newM (M := fun k_ => (w.heap.size ≤ k_)) ho25 (below_size sU_) (fun k_ h_ => h_)) (below_size sU_)) (blk_below (kU_ BK234.out) hb) (blk_below (kU_ BK235.out) hb) (below_step sU_ hb) ?_; clear BK234 BK235 HB; intro HO239 BK234 BK235 HB; clear hb ho25) | ((with_reducible refine gate_dst (N := 21) rfl ?_); (try (refine gate_guard (by rfl) ?_; dsimp only)); refine R_lit (Kd.int .u32) _ 115 ?hg (N := 21) ?hd (xs := ([1] : List Int)) (inner := [.int .u32 1]) (ok := fun _ => True) (okp := fun _ => True) ?hr ?hp (fun _ hk => hk) trivial (Below.refl _ _) (Nat.le_refl _) (by simp) ?_; (case hd => rfl); (case hg => rfl); (case hr => first | (go_simp; done) | (go_simp; rfl)); (case hp => exact (Reps.one (show Kd.M (Kd.int .u32) _ _ _ 1 [.int .u32 1] from rfl) (Reps.none _ _))); intro v241 w26 ho27 hb hg_ hnew_; clear hg_ hnew_; (first | rw [← Ny240.out] at ho27 | (simp only [Int.reduceToNat] at ho27; rw [← Ny240.out] at ho27)); refine nx5_ (R_elder' (rU_ HO239.out) (R_base ho27) hb) (R_lower (R_new' (R_newM (M := fun k_ => (w.heap.size ≤ k_)) ho27 (below_size sU_) (fun k_ h_ => h_)) (R_lt (rU_ HO239.out))) (below_size sU_)) (blk_below (kU_ BK234.out) hb) (blk_below (kU_ BK235.out) hb) (below_step sU_ hb) ?_; clear HO239 BK234 BK235 HB; intro HO239 HO242 BK234 BK235 HB; clear hb ho27; obtain ⟨Ao28, co28, eo28⟩ := R_slice HO242.out; subst eo28; obtain ⟨Ao29, co29, eo29⟩ := R_slice HO239.out; subst eo29) | ((with_reducible refine gate_dst (N := 6) rfl ?_); (try (refine gate_guard (by rfl) ?_; dsimp only)); refine bx_ 6 26 #[.slice none 0 0, .slice none 0 0] ?_; intro gb243 hg w30 hbox hb; refine nx12_ (R_below (rU_ HO239.out) hb) (R_below (rU_ HO242.out) hb) (blk_below (kU_ BK234.out) hb) (blk_below (kU_ BK235.out) hb) (below_step sU_ hb) (hbox) ((hs_ hg (below_size sU_) : w.heap.size ≤ gb243)) ((hs_ hg (below_size sU_) : w.heap.size ≤ gb243)) ((hl_ hg (kU_ BK234.out))) ((hm_ hg (kU_ BK234.out))) ((hl_ hg (kU_ BK235.out))) ((hm_ hg (kU_ BK235.out))) ?_; clear HO239 HO242 BK234 BK235 HB; intro HO239 HO242 BK234 BK235 HB BK243 GW243 GE243 NB234_243 NB243_234 NB235_243 NB243_235; clear hb hbox hg; have hnb31 := NB243_234.out; have hnc31 := NB234_243.out; have hnb32 := NB243_235.out; have hnc32 := NB235_243.out; have hcz33_0 := bc0_ BK243.out; have hcz33_1 := bc1_ BK243.out; have hfz33_0 := bkf9_ BK243.out 0; have hfz33_1 := bkf9_ BK243.out 1))
  go_loopg [24] k (fun kq v24 w' => ∃ (x24_1 : Int) (x244000_1 : List Int) (x244001_1 : List Int) (u244000 : Value) (u244001 : Value), v24 = .int .i64 x24_1 ∧ Aside0 (ratio_Power.l0 kq a1 x24_1 l0_0 l0_1 x244000_1 x244001_1 = some (r1, r2, r3)) ∧ Aside0 (kq ≤ k) ∧ Aside0 (Kd.V (Kd.int .u32) 115 w' w.heap.size (fun k_ => (w.heap.size ≤ k_) ∧ k_ ≠ gb234 ∧ k_ ≠ gb235 ∧ k_ ≠ gb243) u244000 x244000_1) ∧ Aside0 (Kd.V (Kd.int .u32) 115 w' w.heap.size (fun k_ => (w.heap.size ≤ k_) ∧ k_ ≠ gb234 ∧ k_ ≠ gb235 ∧ k_ ≠ gb243) u244001 x244001_1) ∧ Aside0 (w'.heap[gb234]? = some (.cells #[(.slice A0_0 l0_0.length c0_0), (.slice A0_1 l0_1.length c0_1)] 26 (0, 0))) ∧ Aside0 (w'.heap[gb235]? = some (.cells #[(.slice none 0 0), (.slice none 0 0)] 26 (0, 0))) ∧ Aside0 (w'.heap[gb243]? = some (.cells #[u244000, u244001] 26 (0, 0))) ∧ Aside0 (Below w.heap.size w w'))
  case atStart => exact ⟨(0), (y237), (y240), (.slice Ao29 y237.length co29), (.slice Ao28 y240.length co28), gb_, H', ⟨Nat.le_refl _⟩, ⟨R_V (by (with_reducible repeat (first | apply Kd.R_alloc | apply Kd.R_drewN | apply R_drew)); exact R_mono (R_far (p := ⟨gb243, 1, none⟩) (R_far (p := ⟨gb243, 0, none⟩) (R_types (R_types (R_types (R_types HO239.out BK234.out (by decide)) BK235.out (by decide)) BK243.out (by decide)) BK243.out (by decide)) (fun _ hk => hk.2) (.slice Ao29 y237.length co29)) (fun _ hk => hk.2) (.slice Ao28 y240.length co28)) (fun _ hk => ⟨hk.1.1.1.1.1.1, ⟨hk.1.1.1.2, ⟨hk.1.1.2, hk.1.2⟩⟩⟩))⟩, ⟨R_V (by (with_reducible repeat (first | apply Kd.R_alloc | apply Kd.R_drewN | apply R_drew)); exact R_mono (R_far (p := ⟨gb243, 1, none⟩) (R_far (p := ⟨gb243, 0, none⟩) (R_types (R_types (R_types (R_types HO242.out BK234.out (by decide)) BK235.out (by decide)) BK243.out (by decide)) BK243.out (by decide)) (fun _ hk => hk.2) (.slice Ao29 y237.length co29)) (fun _ hk => hk.2) (.slice Ao28 y240.length co28)) (fun _ hk => ⟨hk.1.1.1.1.1.1, ⟨hk.1.1.1.2, ⟨hk.1.1.2, hk.1.2⟩⟩⟩))⟩, ⟨by (with_reducible repeat (first | refine blk_drewN ?_ _ | refine blk_drew ?_ | refine blk_alloc ?_ _)); refine blk_far ?_ NB234_243.out _; (with_reducible repeat (first | refine blk_drewN ?_ _ | refine blk_drew ?_ | refine blk_alloc ?_ _)); refine blk_far ?_ NB234_243.out _; (with_reducible repeat (first | refine blk_drewN ?_ _ | refine blk_drew ?_ | refine blk_alloc ?_ _)); exact BK234.out⟩, ⟨by (with_reducible repeat (first | refine blk_drewN ?_ _ | refine blk_drew ?_ | refine blk_alloc ?_ _)); refine blk_far ?_ NB235_243.out _; (with_reducible repeat (first | refine blk_drewN ?_ _ | refine blk_drew ?_ | refine blk_alloc ?_ _)); refine blk_far ?_ NB235_243.out _; (with_reducible repeat (first | refine blk_drewN ?_ _ | refine blk_drew ?_ | refine blk_alloc ?_ _)); exact BK235.out⟩, ⟨by (with_reducible repeat (first | refine blk_drewN ?_ _ | refine blk_drew ?_ | refine blk_alloc ?_ _)); refine blk_put (cs := #[.slice Ao29 y237.length co29, .slice none 0 0]) ?_ 1 _ rfl; (with_reducible repeat (first | refine blk_drewN ?_ _ | refine blk_drew ?_ | refine blk_alloc ?_ _)); refine blk_put (cs := #[.slice none 0 0, .slice none 0 0]) ?_ 0 _ rfl; (with_reducible repeat (first | refine blk_drewN ?_ _ | refine blk_drew ?_ | refine blk_alloc ?_ _)); exact BK243.out⟩, ⟨sU_⟩⟩
  case round =>
   clear H'
   (try clear c1); (try clear c2); (try clear p2); (try clear c3); (try clear c4); (try clear c5); (try clear c5b0); (try clear c8); (try clear c12); (try clear c12b0); (try clear c15); (try clear c21); (try clear c31); (try clear c32); (try clear hcz11_0); (try clear hcz11_1); (try clear hcz16_0); (try clear hcz16_1); (try clear hcz18_0); (try clear hcz18_1); (try clear hcz22_0); (try clear hcz22_1); (try clear hcz33_0); (try clear hcz33_1); (try clear hcz9_0); (try clear hcz9_1); (try clear hfz11_0); (try clear hfz11_1); (try clear hfz16_0); (try clear hfz16_1); (try clear hfz18_0); (try clear hfz18_1); (try clear hfz22_0); (try clear hfz22_1); (try clear hfz33_0); (try clear hfz33_1); (try clear hfz9_0); (try clear hfz9_1)
   obtain ⟨x24_1, x244000_1, x244001_1, u244000, u244001, rfl, HA, HK1, HO_244000, HO_244001, BK234, BK235, BK243, HB⟩ := hrel
   cases gk with
   | zero => exact absurd HA.out (by simp [ratio_Power.l0])
   | succ k1 =>
    have H := HA.out
    clear HA
    simp only [ratio_Power.l0] at H
    by_cases c34 : x24_1 < a1
    ·rw [if_pos c34] at H
     have c34b0 := decide_eq_true c34
     clear c34
     revert H
     refine bd_ fun t244 A35 H => ?_
     revert H
     refine bd_ fun t247 A36 H => ?_
     by_cases c37 : (t244.length : Int) > 64
     ·rw [if_pos c37] at H
      have c37b0 : decide (64 < (t244.length : Int)) = true := decide_eq_true c37
      have c37b1 : decide (64 < t244.length) = true := decide_eq_true (by omega)
      clear c37
      simp only [Option.some.injEq, Prod.mk.injEq] at H
      obtain ⟨rfl, rfl, rfl⟩ := H
      try go_wp2
      refine nx6_ (V_drew HO_244000.out) (V_drew HO_244001.out) (blk_drew BK234.out) (blk_drew BK235.out) (blk_drew BK243.out) (below_drew1 HB.out) ?_
      clear HO_244000 HO_244001 BK234 BK235 BK243 HB
      intro HO_244000 HO_244001 BK234 BK235 BK243 HB
      obtain ⟨Ao39, co39, eo39⟩ := V_slice HO_244000.out
      (first | subst eo39 | (injection eo39 with f1_ f2_ f3_; have f4_ := f1_.symm; have f5_ := f3_.symm; clear f1_ f2_ f3_; subst f4_; subst f5_))
      refine start_ (n := 14) (S := fun w' => w'.cell? ⟨gb243, 0, none⟩ = some (.slice Ao39 x244000_1.length co39) ∧ w'.cell? ⟨gb243, 1, none⟩ = some (u244001) ∧ w'.cell? ⟨gb234, 0, none⟩ = some (.slice A0_0 l0_0.length c0_0) ∧ w'.cell? ⟨gb234, 1, none⟩ = some (.slice A0_1 l0_1.length c0_1)) (ds := [11, 13]) (bv 14 0) (by kernel_rfl) rfl rfl ⟨bc0_ BK243.out, bc1_ BK243.out, bc0_ BK234.out, bc1_ BK234.out⟩ (fun hHeld => ?_); refine with_tabW ratio_Power.tab8 ratio_Power.bits8 (fun HT_ HW_ => ?_)
      generalize wr.drew = w38 at HO_244000 HO_244001 BK234 BK235 BK243 HB hHeld ⊢
      refine pq_ 0 26 14 1 HT_.out ?_
      refine pq_ 2 28 14 5 HT_.out ?_
      refine pq_ 5 31 14 37 HT_.out ?_
      refine pq_ 7 33 14 165 HT_.out ?_
      refine tq_ 1 27 14 167 HT_.out HW_.out hHeld ?_
      refine tq_ 3 29 14 175 HT_.out HW_.out hHeld ?_
      refine tq_ 6 32 14 239 HT_.out HW_.out hHeld ?_
      refine tq_ 8 34 14 495 HT_.out HW_.out hHeld ?_
      refine oq_ 4 30 14 511 HT_.out fun K hK => ?_
      refine gs_ Tryd.func94 #[.slice Ao39 x244000_1.length co39, .slice A0_0 l0_0.length c0_0] ?_
      with_reducible refine (ratio_mul.calls k1 _ _ x244000_1 _ _ l0_0 t244 _ ?side1 ?side2 ?side3 ?side4 A35.out).mono ?_
      (case side1 => exact cU_ ((V_reads' HO_244000.out).2.2))
      (case side2 => exact (V_reads' HO_244000.out).2.1)
      (case side3 => exact cU_ (C_below HR0_0.out HB.out))
      (case side4 => exact HC0_0.out)
      rintro e w40 ⟨v245, rfl, ho0, hb⟩
      refine ⟨_, rfl, ?_⟩
      refine nx7_ (V_below (vU_ HO_244000.out) hb) (V_below (vU_ HO_244001.out) hb) (V_lower (V_mono (ok' := fun k_ => (w.heap.size ≤ k_) ∧ k_ ≠ gb234 ∧ k_ ≠ gb235 ∧ k_ ≠ gb243) ho0 (fun k_ hk_ => ⟨(Nat.le_trans (below_size sU_) hk_), (freshB (kU_ BK234.out) k_ hk_), (freshB (kU_ BK235.out) k_ hk_), (freshB (kU_ BK243.out) k_ hk_)⟩)) (below_size sU_)) (blk_below (kU_ BK234.out) hb) (blk_below (kU_ BK235.out) hb) (blk_below (kU_ BK243.out) hb) (below_step sU_ hb) ?_
      clear HO_244000 HO_244001 BK234 BK235 BK243 HB
      intro HO_244000 HO_244001 HO246 BK234 BK235 BK243 HB
      (try clear hb)
      (try clear hb2)
      (try clear hk)
      (try clear hi)
      (try clear ho0)
      obtain ⟨Ao41, co41, eo41⟩ := V_slice HO_244001.out
      (first | subst eo41 | (injection eo41 with f1_ f2_ f3_; have f4_ := f1_.symm; have f5_ := f3_.symm; clear f1_ f2_ f3_; subst f4_; subst f5_))
      refine hK.out _ _ ⟨bc0_ BK243.out, bc1_ BK243.out, bc0_ BK234.out, bc1_ BK234.out⟩ (fun hHeld => ?_)
      clear hK K
      refine norm_ (a' := ?_) ?_ ?_
      rotate_left
      ·show Act.put _ (some 30) _ = _
       simp only [Act.put, s1_, s2_, s3_, i64_w, i32_w]
       rfl
      refine pq_ 10 36 14 1535 HT_.out ?_
      refine oq_ 9 35 14 2047 HT_.out fun K hK => ?_
      refine gs_ Tryd.func94 #[.slice Ao41 x244001_1.length co41, .slice A0_1 l0_1.length c0_1] ?_
      with_reducible refine (ratio_mul.calls k1 _ _ x244001_1 _ _ l0_1 t247 _ ?side1 ?side2 ?side3 ?side4 A36.out).mono ?_
      (case side1 => exact cU_ ((V_reads' HO_244001.out).2.2))
      (case side2 => exact (V_reads' HO_244001.out).2.1)
      (case side3 => exact cU_ (C_below HR0_1.out HB.out))
      (case side4 => exact HC0_1.out)
      rintro e w42 ⟨v248, rfl, ho0, hb⟩
      refine ⟨_, rfl, ?_⟩
      refine nx8_ (V_below (vU_ HO_244000.out) hb) (V_below (vU_ HO_244001.out) hb) (V_below (vU_ HO246.out) hb) (V_lower (V_mono (ok' := fun k_ => (w.heap.size ≤ k_) ∧ k_ ≠ gb234 ∧ k_ ≠ gb235 ∧ k_ ≠ gb243) ho0 (fun k_ hk_ => ⟨(Nat.le_trans (below_size sU_) hk_), (freshB (kU_ BK234.out) k_ hk_), (freshB (kU_ BK235.out) k_ hk_), (freshB (kU_ BK243.out) k_ hk_)⟩)) (below_size sU_)) (blk_below (kU_ BK234.out) hb) (blk_below (kU_ BK235.out) hb) (blk_below (kU_ BK243.out) hb) (below_step sU_ hb) ?_
      clear HO_244000 HO_244001 HO246 BK234 BK235 BK243 HB
      intro HO_244000 HO_244001 HO246 HO249 BK234 BK235 BK243 HB
      (try clear hb)
      (try clear hb2)
      (try clear hk)
      (try clear hi)
      (try clear ho0)
      obtain ⟨Ao43, co43, eo43⟩ := V_slice HO246.out
      (first | subst eo43 | (injection eo43 with f1_ f2_ f3_; have f4_ := f1_.symm; have f5_ := f3_.symm; clear f1_ f2_ f3_; subst f4_; subst f5_))
      obtain ⟨Ao45, co45, eo45⟩ := V_slice HO249.out
      (first | subst eo45 | (injection eo45 with f1_ f2_ f3_; have f4_ := f1_.symm; have f5_ := f3_.symm; clear f1_ f2_ f3_; subst f4_; subst f5_))
      refine hK.out _ _ ⟨bc0_ BK243.out, bc1_ BK243.out, bc0_ BK234.out, bc1_ BK234.out⟩ (fun hHeld => ?_)
      clear hK K
      refine norm_ (a' := ?_) ?_ ?_
      rotate_left
      ·show Act.put _ (some 35) _ = _
       simp only [Act.put, s1_, s2_, s3_, i64_w, i32_w]
       rfl
      refine last_ (i := 11) (N := none) #[true, true, true, true, true, true, true, true, true, true, true, true, false, false] rfl rfl (one_of HT_.out (by kernel_rfl)) (by decide) (fun K hK => ?_)
      have hs44 : w42.cell? ⟨gb243, 0, none⟩ = some (.slice Ao39 x244000_1.length co39) := bc0_ BK243.out
      have hfs44 := bkf9_ BK243.out 0
      have hns44_0 := NB234_243.out
      have hns44_1 := NB235_243.out
      have hms44_0 := NB243_234.out
      have hms44_1 := NB243_235.out
      refine skip_ (w1 := ?_) (by rfl) rfl ?_ ?_
      rotate_left
      ·go_simp
       rfl
      refine hK.out _ _ ?_
      clear hK K
      refine pq_ 12 37 14 8191 HT_.out ?_
      refine last_ (i := 13) (N := none) #[true, true, true, true, true, true, true, true, true, true, true, true, true, true] rfl rfl (one_of HT_.out (by kernel_rfl)) (by decide) (fun K hK => ?_)
      have hs46 : w42.cell? ⟨gb243, 1, none⟩ = some (.slice Ao41 x244001_1.length co41) := bc1_ BK243.out
      have hfs46 := bkf9_ BK243.out 1
      have hns46_0 := NB234_243.out
      have hns46_1 := NB235_243.out
      have hms46_0 := NB243_234.out
      have hms46_1 := NB243_235.out
      refine skip_ (w1 := ?_) (by rfl) rfl ?_ ?_
      rotate_left
      ·go_simp
       rfl
      refine hK.out _ _ ?_
      clear hK K
      refine done_ (done_of HT_.out (by kernel_rfl)) ?_
      have hnb47 := NB243_234.out
      have hnc47 := NB234_243.out
      have hnb48 := NB243_235.out
      have hnc48 := NB235_243.out
      have hcz49_0 := bc0_ BK243.out
      have hcz49_1 := bc1_ BK243.out
      have hfz49_0 := bkf9_ BK243.out 0
      have hfz49_1 := bkf9_ BK243.out 1
      have hnb50 := NB235_234.out
      have hnc50 := NB234_235.out
      have hcz51_0 := bc0_ BK235.out
      have hcz51_1 := bc1_ BK235.out
      have hfz51_0 := bkf9_ BK235.out 0
      have hfz51_1 := bkf9_ BK235.out 1
      try go_wp2
      refine bodyPost_ret (results_ct rfl _ _ gb235 26 #[.slice none 0 0, .slice none 0 0] (0, 0) _ rfl kp_ Tryd.underlying26 rfl (by kernel_rfl)) rfl ?_
      exact ⟨_, _, eW_, Kd.V_nil _ _ _ _ _, Kd.V_nil _ _ _ _ _, sU_⟩
     rw [if_neg c37] at H
     have c37b0 : decide (64 < (t244.length : Int)) = false := decide_eq_false c37
     have c37b1 : decide (64 < t244.length) = false := decide_eq_false (by omega)
     clear c37
     by_cases c52 : (t247.length : Int) > 64
     ·rw [if_pos c52] at H
      have c52b0 : decide (64 < (t247.length : Int)) = true := decide_eq_true c52
      have c52b1 : decide (64 < t247.length) = true := decide_eq_true (by omega)
      clear c52
      simp only [Option.some.injEq, Prod.mk.injEq] at H
      obtain ⟨rfl, rfl, rfl⟩ := H
      try go_wp2
      refine nx6_ (V_drew HO_244000.out) (V_drew HO_244001.out) (blk_drew BK234.out) (blk_drew BK235.out) (blk_drew BK243.out) (below_drew1 HB.out) ?_
      clear HO_244000 HO_244001 BK234 BK235 BK243 HB
      intro HO_244000 HO_244001 BK234 BK235 BK243 HB
      obtain ⟨Ao54, co54, eo54⟩ := V_slice HO_244000.out
      (first | subst eo54 | (injection eo54 with f1_ f2_ f3_; have f4_ := f1_.symm; have f5_ := f3_.symm; clear f1_ f2_ f3_; subst f4_; subst f5_))
      refine start_ (n := 14) (S := fun w' => w'.cell? ⟨gb243, 0, none⟩ = some (.slice Ao54 x244000_1.length co54) ∧ w'.cell? ⟨gb243, 1, none⟩ = some (u244001) ∧ w'.cell? ⟨gb234, 0, none⟩ = some (.slice A0_0 l0_0.length c0_0) ∧ w'.cell? ⟨gb234, 1, none⟩ = some (.slice A0_1 l0_1.length c0_1)) (ds := [11, 13]) (bv 14 0) (by kernel_rfl) rfl rfl ⟨bc0_ BK243.out, bc1_ BK243.out, bc0_ BK234.out, bc1_ BK234.out⟩ (fun hHeld => ?_); refine with_tabW ratio_Power.tab8 ratio_Power.bits8 (fun HT_ HW_ => ?_)
      generalize wr.drew = w53 at HO_244000 HO_244001 BK234 BK235 BK243 HB hHeld ⊢
      refine pq_ 0 26 14 1 HT_.out ?_
      refine pq_ 2 28 14 5 HT_.out ?_
      refine pq_ 5 31 14 37 HT_.out ?_
      refine pq_ 7 33 14 165 HT_.out ?_
      refine tq_ 1 27 14 167 HT_.out HW_.out hHeld ?_
      refine tq_ 3 29 14 175 HT_.out HW_.out hHeld ?_
      refine tq_ 6 32 14 239 HT_.out HW_.out hHeld ?_
      refine tq_ 8 34 14 495 HT_.out HW_.out hHeld ?_
      refine oq_ 4 30 14 511 HT_.out fun K hK => ?_
      refine gs_ Tryd.func94 #[.slice Ao54 x244000_1.length co54, .slice A0_0 l0_0.length c0_0] ?_
      with_reducible refine (ratio_mul.calls k1 _ _ x244000_1 _ _ l0_0 t244 _ ?side1 ?side2 ?side3 ?side4 A35.out).mono ?_
      (case side1 => exact cU_ ((V_reads' HO_244000.out).2.2))
      (case side2 => exact (V_reads' HO_244000.out).2.1)
      (case side3 => exact cU_ (C_below HR0_0.out HB.out))
      (case side4 => exact HC0_0.out)
      rintro e w55 ⟨v245, rfl, ho0, hb⟩
      refine ⟨_, rfl, ?_⟩
      refine nx7_ (V_below (vU_ HO_244000.out) hb) (V_below (vU_ HO_244001.out) hb) (V_lower (V_mono (ok' := fun k_ => (w.heap.size ≤ k_) ∧ k_ ≠ gb234 ∧ k_ ≠ gb235 ∧ k_ ≠ gb243) ho0 (fun k_ hk_ => ⟨(Nat.le_trans (below_size sU_) hk_), (freshB (kU_ BK234.out) k_ hk_), (freshB (kU_ BK235.out) k_ hk_), (freshB (kU_ BK243.out) k_ hk_)⟩)) (below_size sU_)) (blk_below (kU_ BK234.out) hb) (blk_below (kU_ BK235.out) hb) (blk_below (kU_ BK243.out) hb) (below_step sU_ hb) ?_
      clear HO_244000 HO_244001 BK234 BK235 BK243 HB
      intro HO_244000 HO_244001 HO246 BK234 BK235 BK243 HB
      (try clear hb)
      (try clear hb2)
      (try clear hk)
      (try clear hi)
      (try clear ho0)
      obtain ⟨Ao56, co56, eo56⟩ := V_slice HO_244001.out
      (first | subst eo56 | (injection eo56 with f1_ f2_ f3_; have f4_ := f1_.symm; have f5_ := f3_.symm; clear f1_ f2_ f3_; subst f4_; subst f5_))
      refine hK.out _ _ ⟨bc0_ BK243.out, bc1_ BK243.out, bc0_ BK234.out, bc1_ BK234.out⟩ (fun hHeld => ?_)
      clear hK K
      refine norm_ (a' := ?_) ?_ ?_
      rotate_left
      ·show Act.put _ (some 30) _ = _
       simp only [Act.put, s1_, s2_, s3_, i64_w, i32_w]
       rfl
      refine pq_ 10 36 14 1535 HT_.out ?_
      refine oq_ 9 35 14 2047 HT_.out fun K hK => ?_
      refine gs_ Tryd.func94 #[.slice Ao56 x244001_1.length co56, .slice A0_1 l0_1.length c0_1] ?_
      with_reducible refine (ratio_mul.calls k1 _ _ x244001_1 _ _ l0_1 t247 _ ?side1 ?side2 ?side3 ?side4 A36.out).mono ?_
      (case side1 => exact cU_ ((V_reads' HO_244001.out).2.2))
      (case side2 => exact (V_reads' HO_244001.out).2.1)
      (case side3 => exact cU_ (C_below HR0_1.out HB.out))
      (case side4 => exact HC0_1.out)
      rintro e w57 ⟨v248, rfl, ho0, hb⟩
      refine ⟨_, rfl, ?_⟩
      refine nx8_ (V_below (vU_ HO_244000.out) hb) (V_below (vU_ HO_244001.out) hb) (V_below (vU_ HO246.out) hb) (V_lower (V_mono (ok' := fun k_ => (w.heap.size ≤ k_) ∧ k_ ≠ gb234 ∧ k_ ≠ gb235 ∧ k_ ≠ gb243) ho0 (fun k_ hk_ => ⟨(Nat.le_trans (below_size sU_) hk_), (freshB (kU_ BK234.out) k_ hk_), (freshB (kU_ BK235.out) k_ hk_), (freshB (kU_ BK243.out) k_ hk_)⟩)) (below_size sU_)) (blk_below (kU_ BK234.out) hb) (blk_below (kU_ BK235.out) hb) (blk_below (kU_ BK243.out) hb) (below_step sU_ hb) ?_
      clear HO_244000 HO_244001 HO246 BK234 BK235 BK243 HB
      intro HO_244000 HO_244001 HO246 HO249 BK234 BK235 BK243 HB
      (try clear hb)
      (try clear hb2)
      (try clear hk)
      (try clear hi)
      (try clear ho0)
      obtain ⟨Ao58, co58, eo58⟩ := V_slice HO246.out
      (first | subst eo58 | (injection eo58 with f1_ f2_ f3_; have f4_ := f1_.symm; have f5_ := f3_.symm; clear f1_ f2_ f3_; subst f4_; subst f5_))
      obtain ⟨Ao60, co60, eo60⟩ := V_slice HO249.out
      (first | subst eo60 | (injection eo60 with f1_ f2_ f3_; have f4_ := f1_.symm; have f5_ := f3_.symm; clear f1_ f2_ f3_; subst f4_; subst f5_))
      refine hK.out _ _ ⟨bc0_ BK243.out, bc1_ BK243.out, bc0_ BK234.out, bc1_ BK234.out⟩ (fun hHeld => ?_)
      clear hK K
      refine norm_ (a' := ?_) ?_ ?_
      rotate_left
      ·show Act.put _ (some 35) _ = _
       simp only [Act.put, s1_, s2_, s3_, i64_w, i32_w]
       rfl
      refine last_ (i := 11) (N := none) #[true, true, true, true, true, true, true, true, true, true, true, true, false, false] rfl rfl (one_of HT_.out (by kernel_rfl)) (by decide) (fun K hK => ?_)
      have hs59 : w57.cell? ⟨gb243, 0, none⟩ = some (.slice Ao54 x244000_1.length co54) := bc0_ BK243.out
      have hfs59 := bkf9_ BK243.out 0
      have hns59_0 := NB234_243.out
      have hns59_1 := NB235_243.out
      have hms59_0 := NB243_234.out
      have hms59_1 := NB243_235.out
      refine skip_ (w1 := ?_) (by rfl) rfl ?_ ?_
      rotate_left
      ·go_simp
       rfl
      refine hK.out _ _ ?_
      clear hK K
      refine pq_ 12 37 14 8191 HT_.out ?_
      refine last_ (i := 13) (N := none) #[true, true, true, true, true, true, true, true, true, true, true, true, true, true] rfl rfl (one_of HT_.out (by kernel_rfl)) (by decide) (fun K hK => ?_)
      have hs61 : w57.cell? ⟨gb243, 1, none⟩ = some (.slice Ao56 x244001_1.length co56) := bc1_ BK243.out
      have hfs61 := bkf9_ BK243.out 1
      have hns61_0 := NB234_243.out
      have hns61_1 := NB235_243.out
      have hms61_0 := NB243_234.out
      have hms61_1 := NB243_235.out
      refine skip_ (w1 := ?_) (by rfl) rfl ?_ ?_
      rotate_left
      ·go_simp
       rfl
      refine hK.out _ _ ?_
      clear hK K
      refine done_ (done_of HT_.out (by kernel_rfl)) ?_
      have hnb62 := NB243_234.out
      have hnc62 := NB234_243.out
      have hnb63 := NB243_235.out
      have hnc63 := NB235_243.out
      have hcz64_0 := bc0_ BK243.out
      have hcz64_1 := bc1_ BK243.out
      have hfz64_0 := bkf9_ BK243.out 0
      have hfz64_1 := bkf9_ BK243.out 1
      have hnb65 := NB235_234.out
      have hnc65 := NB234_235.out
      have hcz66_0 := bc0_ BK235.out
      have hcz66_1 := bc1_ BK235.out
      have hfz66_0 := bkf9_ BK235.out 0
      have hfz66_1 := bkf9_ BK235.out 1
      try go_wp2
      refine bodyPost_ret (results_ct rfl _ _ gb235 26 #[.slice none 0 0, .slice none 0 0] (0, 0) _ rfl kp_ Tryd.underlying26 rfl (by kernel_rfl)) rfl ?_
      exact ⟨_, _, eW_, Kd.V_nil _ _ _ _ _, Kd.V_nil _ _ _ _ _, sU_⟩
     rw [if_neg c52] at H
     have c52b0 : decide (64 < (t247.length : Int)) = false := decide_eq_false c52
     have c52b1 : decide (64 < t247.length) = false := decide_eq_false (by omega)
     clear c52
     have H' := ak H
     clear H
     try go_wp2
     refine nx6_ (V_drew HO_244000.out) (V_drew HO_244001.out) (blk_drew BK234.out) (blk_drew BK235.out) (blk_drew BK243.out) (below_drew1 HB.out) ?_
     clear HO_244000 HO_244001 BK234 BK235 BK243 HB
     intro HO_244000 HO_244001 BK234 BK235 BK243 HB
     obtain ⟨Ao68, co68, eo68⟩ := V_slice HO_244000.out
     (first | subst eo68 | (injection eo68 with f1_ f2_ f3_; have f4_ := f1_.symm; have f5_ := f3_.symm; clear f1_ f2_ f3_; subst f4_; subst f5_))
     refine start_ (n := 14) (S := fun w' => w'.cell? ⟨gb243, 0, none⟩ = some (.slice Ao68 x244000_1.length co68) ∧ w'.cell? ⟨gb243, 1, none⟩ = some (u244001) ∧ w'.cell? ⟨gb234, 0, none⟩ = some (.slice A0_0 l0_0.length c0_0) ∧ w'.cell? ⟨gb234, 1, none⟩ = some (.slice A0_1 l0_1.length c0_1)) (ds := [11, 13]) (bv 14 0) (by kernel_rfl) rfl rfl ⟨bc0_ BK243.out, bc1_ BK243.out, bc0_ BK234.out, bc1_ BK234.out⟩ (fun hHeld => ?_); refine with_tabW ratio_Power.tab8 ratio_Power.bits8 (fun HT_ HW_ => ?_)
     generalize wr.drew = w67 at HO_244000 HO_244001 BK234 BK235 BK243 HB hHeld ⊢
     refine pq_ 0 26 14 1 HT_.out ?_
     refine pq_ 2 28 14 5 HT_.out ?_
     refine pq_ 5 31 14 37 HT_.out ?_
     refine pq_ 7 33 14 165 HT_.out ?_
     refine tq_ 1 27 14 167 HT_.out HW_.out hHeld ?_
     refine tq_ 3 29 14 175 HT_.out HW_.out hHeld ?_
     refine tq_ 6 32 14 239 HT_.out HW_.out hHeld ?_
     refine tq_ 8 34 14 495 HT_.out HW_.out hHeld ?_
     refine oq_ 4 30 14 511 HT_.out fun K hK => ?_
     refine gs_ Tryd.func94 #[.slice Ao68 x244000_1.length co68, .slice A0_0 l0_0.length c0_0] ?_
     with_reducible refine (ratio_mul.calls k1 _ _ x244000_1 _ _ l0_0 t244 _ ?side1 ?side2 ?side3 ?side4 A35.out).mono ?_
     (case side1 => exact cU_ ((V_reads' HO_244000.out).2.2))
     (case side2 => exact (V_reads' HO_244000.out).2.1)
     (case side3 => exact cU_ (C_below HR0_0.out HB.out))
     (case side4 => exact HC0_0.out)
     rintro e w69 ⟨v245, rfl, ho0, hb⟩
     refine ⟨_, rfl, ?_⟩
     refine nx7_ (V_below (vU_ HO_244000.out) hb) (V_below (vU_ HO_244001.out) hb) (V_lower (V_mono (ok' := fun k_ => (w.heap.size ≤ k_) ∧ k_ ≠ gb234 ∧ k_ ≠ gb235 ∧ k_ ≠ gb243) ho0 (fun k_ hk_ => ⟨(Nat.le_trans (below_size sU_) hk_), (freshB (kU_ BK234.out) k_ hk_), (freshB (kU_ BK235.out) k_ hk_), (freshB (kU_ BK243.out) k_ hk_)⟩)) (below_size sU_)) (blk_below (kU_ BK234.out) hb) (blk_below (kU_ BK235.out) hb) (blk_below (kU_ BK243.out) hb) (below_step sU_ hb) ?_
     clear HO_244000 HO_244001 BK234 BK235 BK243 HB
     intro HO_244000 HO_244001 HO246 BK234 BK235 BK243 HB
     (try clear hb)
     (try clear hb2)
     (try clear hk)
     (try clear hi)
     (try clear ho0)
     obtain ⟨Ao70, co70, eo70⟩ := V_slice HO_244001.out
     (first | subst eo70 | (injection eo70 with f1_ f2_ f3_; have f4_ := f1_.symm; have f5_ := f3_.symm; clear f1_ f2_ f3_; subst f4_; subst f5_))
     refine hK.out _ _ ⟨bc0_ BK243.out, bc1_ BK243.out, bc0_ BK234.out, bc1_ BK234.out⟩ (fun hHeld => ?_)
     clear hK K
     refine norm_ (a' := ?_) ?_ ?_
     rotate_left
     ·show Act.put _ (some 30) _ = _
      simp only [Act.put, s1_, s2_, s3_, i64_w, i32_w]
      rfl
     refine pq_ 10 36 14 1535 HT_.out ?_
     refine oq_ 9 35 14 2047 HT_.out fun K hK => ?_
     refine gs_ Tryd.func94 #[.slice Ao70 x244001_1.length co70, .slice A0_1 l0_1.length c0_1] ?_
     with_reducible refine (ratio_mul.calls k1 _ _ x244001_1 _ _ l0_1 t247 _ ?side1 ?side2 ?side3 ?side4 A36.out).mono ?_
     (case side1 => exact cU_ ((V_reads' HO_244001.out).2.2))
     (case side2 => exact (V_reads' HO_244001.out).2.1)
     (case side3 => exact cU_ (C_below HR0_1.out HB.out))
     (case side4 => exact HC0_1.out)
     rintro e w71 ⟨v248, rfl, ho0, hb⟩
     refine ⟨_, rfl, ?_⟩
     refine nx8_ (V_below (vU_ HO_244000.out) hb) (V_below (vU_ HO_244001.out) hb) (V_below (vU_ HO246.out) hb) (V_lower (V_mono (ok' := fun k_ => (w.heap.size ≤ k_) ∧ k_ ≠ gb234 ∧ k_ ≠ gb235 ∧ k_ ≠ gb243) ho0 (fun k_ hk_ => ⟨(Nat.le_trans (below_size sU_) hk_), (freshB (kU_ BK234.out) k_ hk_), (freshB (kU_ BK235.out) k_ hk_), (freshB (kU_ BK243.out) k_ hk_)⟩)) (below_size sU_)) (blk_below (kU_ BK234.out) hb) (blk_below (kU_ BK235.out) hb) (blk_below (kU_ BK243.out) hb) (below_step sU_ hb) ?_
     clear HO_244000 HO_244001 HO246 BK234 BK235 BK243 HB
     intro HO_244000 HO_244001 HO246 HO249 BK234 BK235 BK243 HB
     (try clear hb)
     (try clear hb2)
     (try clear hk)
     (try clear hi)
     (try clear ho0)
     obtain ⟨Ao72, co72, eo72⟩ := V_slice HO246.out
     (first | subst eo72 | (injection eo72 with f1_ f2_ f3_; have f4_ := f1_.symm; have f5_ := f3_.symm; clear f1_ f2_ f3_; subst f4_; subst f5_))
     obtain ⟨Ao74, co74, eo74⟩ := V_slice HO249.out
     (first | subst eo74 | (injection eo74 with f1_ f2_ f3_; have f4_ := f1_.symm; have f5_ := f3_.symm; clear f1_ f2_ f3_; subst f4_; subst f5_))
     refine hK.out _ _ ⟨bc0_ BK243.out, bc1_ BK243.out, bc0_ BK234.out, bc1_ BK234.out⟩ (fun hHeld => ?_)
     clear hK K
     refine norm_ (a' := ?_) ?_ ?_
     rotate_left
     ·show Act.put _ (some 35) _ = _
      simp only [Act.put, s1_, s2_, s3_, i64_w, i32_w]
      rfl
     refine last_ (i := 11) (N := none) #[true, true, true, true, true, true, true, true, true, true, true, true, false, false] rfl rfl (one_of HT_.out (by kernel_rfl)) (by decide) (fun K hK => ?_)
     have hs73 : w71.cell? ⟨gb243, 0, none⟩ = some (.slice Ao68 x244000_1.length co68) := bc0_ BK243.out
     have hfs73 := bkf9_ BK243.out 0
     have hns73_0 := NB234_243.out
     have hns73_1 := NB235_243.out
     have hms73_0 := NB243_234.out
     have hms73_1 := NB243_235.out
     refine skip_ (w1 := ?_) (by rfl) rfl ?_ ?_
     rotate_left
     ·go_simp
      rfl
     refine hK.out _ _ ?_
     clear hK K
     refine pq_ 12 37 14 8191 HT_.out ?_
     refine last_ (i := 13) (N := none) #[true, true, true, true, true, true, true, true, true, true, true, true, true, true] rfl rfl (one_of HT_.out (by kernel_rfl)) (by decide) (fun K hK => ?_)
     have hs75 : w71.cell? ⟨gb243, 1, none⟩ = some (.slice Ao70 x244001_1.length co70) := bc1_ BK243.out
     have hfs75 := bkf9_ BK243.out 1
     have hns75_0 := NB234_243.out
     have hns75_1 := NB235_243.out
     have hms75_0 := NB243_234.out
     have hms75_1 := NB243_235.out
     refine skip_ (w1 := ?_) (by rfl) rfl ?_ ?_
     rotate_left
     ·go_simp
      rfl
     refine hK.out _ _ ?_
     clear hK K
     refine done_ (done_of HT_.out (by kernel_rfl)) ?_
     have hnb76 := NB243_234.out
     have hnc76 := NB234_243.out
     have hnb77 := NB243_235.out
     have hnc77 := NB235_243.out
     have hcz78_0 := bc0_ BK243.out
     have hcz78_1 := bc1_ BK243.out
     have hfz78_0 := bkf9_ BK243.out 0
     have hfz78_1 := bkf9_ BK243.out 1
     try go_wp2
     go_roundg k1
     case measure => have := HK1.out; omega
     case rel => exact ⟨(wrap64 (x24_1 + 1)), (t244), (t247), (.slice Ao72 t244.length co72), (.slice Ao74 t247.length co74), gb_, H', ⟨by have := HK1.out; omega⟩, ⟨by (with_reducible repeat (first | apply Kd.V_alloc | apply Kd.V_drewN | apply V_drew)); exact V_mono (V_far (p := ⟨gb243, 1, none⟩) (V_far (p := ⟨gb243, 0, none⟩) (V_mono HO246.out (fun k_ hk => (⟨hk, hk.2.2.2⟩ : _ ∧ k_ ≠ gb243))) (fun _ hk => hk.2) (.slice Ao72 t244.length co72)) (fun _ hk => hk.2) (.slice Ao74 t247.length co74)) (fun _ hk => ⟨hk.1.1, ⟨hk.1.2.1, ⟨hk.1.2.2.1, hk.1.2.2.2⟩⟩⟩)⟩, ⟨by (with_reducible repeat (first | apply Kd.V_alloc | apply Kd.V_drewN | apply V_drew)); exact V_mono (V_far (p := ⟨gb243, 1, none⟩) (V_far (p := ⟨gb243, 0, none⟩) (V_mono HO249.out (fun k_ hk => (⟨hk, hk.2.2.2⟩ : _ ∧ k_ ≠ gb243))) (fun _ hk => hk.2) (.slice Ao72 t244.length co72)) (fun _ hk => hk.2) (.slice Ao74 t247.length co74)) (fun _ hk => ⟨hk.1.1, ⟨hk.1.2.1, ⟨hk.1.2.2.1, hk.1.2.2.2⟩⟩⟩)⟩, ⟨by (with_reducible repeat (first | refine blk_drewN ?_ _ | refine blk_drew ?_ | refine blk_alloc ?_ _)); refine blk_far ?_ NB234_243.out _; (with_reducible repeat (first | refine blk_drewN ?_ _ | refine blk_drew ?_ | refine blk_alloc ?_ _)); refine blk_far ?_ NB234_243.out _; (with_reducible repeat (first | refine blk_drewN ?_ _ | refine blk_drew ?_ | refine blk_alloc ?_ _)); exact BK234.out⟩, ⟨by (with_reducible repeat (first | refine blk_drewN ?_ _ | refine blk_drew ?_ | refine blk_alloc ?_ _)); refine blk_far ?_ NB235_243.out _; (with_reducible repeat (first | refine blk_drewN ?_ _ | refine blk_drew ?_ | refine blk_alloc ?_ _)); refine blk_far ?_ NB235_243.out _; (with_reducible repeat (first | refine blk_drewN ?_ _ | refine blk_drew ?_ | refine blk_alloc ?_ _)); exact BK235.out⟩, ⟨by (with_reducible repeat (first | refine blk_drewN ?_ _ | refine blk_drew ?_ | refine blk_alloc ?_ _)); refine blk_put (cs := #[.slice Ao72 t244.length co72, .slice Ao70 x244001_1.length co70]) ?_ 1 _ rfl; (with_reducible repeat (first | refine blk_drewN ?_ _ | refine blk_drew ?_ | refine blk_alloc ?_ _)); refine blk_put (cs := #[.slice Ao68 x244000_1.length co68, .slice Ao70 x244001_1.length co70]) ?_ 0 _ rfl; (with_reducible repeat (first | refine blk_drewN ?_ _ | refine blk_drew ?_ | refine blk_alloc ?_ _)); exact BK243.out⟩, ⟨sU_⟩⟩
    rw [if_neg c34] at H
    have c34b0 := decide_eq_false c34
    clear c34
    simp only [Option.some.injEq, Prod.mk.injEq] at H
    obtain ⟨rfl, rfl, rfl⟩ := H
    have hnb79 := NB243_234.out
    have hnc79 := NB234_243.out
    have hnb80 := NB243_235.out
    have hnc80 := NB235_243.out
    have hcz81_0 := bc0_ BK243.out
    have hcz81_1 := bc1_ BK243.out
    have hfz81_0 := bkf9_ BK243.out 0
    have hfz81_1 := bkf9_ BK243.out 1
    obtain ⟨Ao82, co82, eo82⟩ := V_slice HO_244000.out
    subst eo82
    have hnb83 := NB235_234.out
    have hnc83 := NB234_235.out
    have hcz84_0 := bc0_ BK235.out
    have hcz84_1 := bc1_ BK235.out
    have hfz84_0 := bkf9_ BK235.out 0
    have hfz84_1 := bkf9_ BK235.out 1
    obtain ⟨Ao85, co85, eo85⟩ := V_slice HO_244001.out
    subst eo85
    go_wp2
    refine bodyPost_ret (results_ct rfl _ _ gb235 26 #[.slice Ao82 x244000_1.length co82, .slice Ao85 x244001_1.length co85] (0, 0) _ rfl kp_ Tryd.underlying26 rfl (by kernel_rfl)) rfl ?_
    exact ⟨_, _, eW_, by (with_reducible repeat (first | apply Kd.V_alloc | apply Kd.V_drewN | apply V_drew)); exact V_mono (V_far (p := ⟨gb235, 1, none⟩) (V_far (p := ⟨gb235, 0, none⟩) (V_mono HO_244000.out (fun k_ hk => (⟨hk, hk.2.2.1⟩ : _ ∧ k_ ≠ gb235))) (fun _ hk => hk.2) (.slice Ao82 x244000_1.length co82)) (fun _ hk => hk.2) (.slice Ao85 x244001_1.length co85)) (fun _ hk => hk.1.1), by (with_reducible repeat (first | apply Kd.V_alloc | apply Kd.V_drewN | apply V_drew)); exact V_mono (V_far (p := ⟨gb235, 1, none⟩) (V_far (p := ⟨gb235, 0, none⟩) (V_mono HO_244001.out (fun k_ hk => (⟨hk, hk.2.2.1⟩ : _ ∧ k_ ≠ gb235))) (fun _ hk => hk.2) (.slice Ao82 x244000_1.length co82)) (fun _ hk => hk.2) (.slice Ao85 x244001_1.length co85)) (fun _ hk => hk.1.1), sU_⟩
 replace c4 := Bool.eq_false_iff.mpr c4
 subst c4
 rw [if_neg (show ¬ (false = true) by decide)] at H
 simp only [Option.some.injEq, Prod.mk.injEq] at H
 obtain ⟨rfl, rfl, rfl⟩ := H
 go_enter Tryd.func48, Tryd.ntmps48
 go_wp2_with (first | ((with_reducible refine gate_dst (N := 2) rfl ?_); (try (refine gate_guard (by rfl) ?_; dsimp only)); refine bx_ 2 26 #[.slice A0_0 l0_0.length c0_0, .slice A0_1 l0_1.length c0_1] ?_; intro gb234 hg w86 hbox hb; refine nx4_ (below_step (bU_ HB.out) hb) (hbox) ((hs_ hg (below_size (bU_ HB.out)))) ((hs_ hg (below_size (bU_ HB.out)))) ?_; clear HB; intro HB BK234 GW234 GE234; clear hb hbox hg) | ((with_reducible refine gate_dst (N := 4) rfl ?_); (try (refine gate_guard (by rfl) ?_; dsimp only)); refine bx_ 4 26 #[.slice none 0 0, .slice none 0 0] ?_; intro gb235 hg w87 hbox hb; refine nx7_ (blk_below (kU_ BK234.out) hb) (below_step sU_ hb) (hbox) ((hs_ hg (below_size sU_) : w.heap.size ≤ gb235)) ((hs_ hg (below_size sU_) : w.heap.size ≤ gb235)) ((hl_ hg (kU_ BK234.out))) ((hm_ hg (kU_ BK234.out))) ?_; clear BK234 HB; intro BK234 HB BK235 GW235 GE235 NB234_235 NB235_234; clear hb hbox hg; have hnb88 := NB234_235.out; have hnc88 := NB235_234.out; have hcz89_0 := bc0_ BK234.out; have hcz89_1 := bc1_ BK234.out; have hfz89_0 := bkf9_ BK234.out 0; have hfz89_1 := bkf9_ BK234.out 1) | ((with_reducible refine gate_callee (f := 41) rfl ?_); refine gl_ (some 9) Tryd.func41 #[.agg #[.slice A0_0 l0_0.length c0_0, .slice A0_1 l0_1.length c0_1]] ?_; (with_reducible refine (ratio_Valid.calls k _ _ l0_0 _ _ l0_1 false _ ?side1 ?side2 ?side3 ?side4 A3.out).mono ?_); (case side1 => exact cU_ (C_below HR0_0.out HB.out)); (case side2 => exact HC0_0.out); (case side3 => exact cU_ (C_below HR0_1.out HB.out)); (case side4 => exact HC0_1.out); rintro e w90 ⟨rfl, hb⟩; refine ⟨_, rfl, ?_⟩; refine nx3_ (blk_below (kU_ BK234.out) hb) (blk_below (kU_ BK235.out) hb) (below_step sU_ hb) ?_; clear BK234 BK235 HB; intro BK234 BK235 HB; clear hb; have hcz91_0 := bc0_ BK235.out; have hcz91_1 := bc1_ BK235.out; have hfz91_0 := bkf9_ BK235.out 0; have hfz91_1 := bkf9_ BK235.out 1))
 refine bodyPost_ret (results_ct rfl _ _ gb235 26 #[.slice none 0 0, .slice none 0 0] (0, 0) _ rfl kp_ Tryd.underlying26 rfl (by kernel_rfl)) rfl ?_
 exact ⟨_, _, eW_, Kd.V_nil _ _ _ _ _, Kd.V_nil _ _ _ _ _, sU_⟩

def ratio_Order.j0 : Nat → Bool → List Int → List Int → List Int → List Int → Option (Int)
 | 0, _, _, _, _, _ => none
 | k + 1, x12, x251000, x251001, x252000, x252001 => if x12 = true then (some 0) else ((ratio_mul.f k x251000 x252001).bind fun t254 => ((ratio_mul.f k x252000 x251001).bind fun t257 => ((ratio_compare.f k t254 t257).bind fun t260 => (some t260))))
def ratio_Order.f (k : Nat) (l0_0 : List Int) (l0_1 : List Int) (l1_0 : List Int) (l1_1 : List Int) : Option (Int) := (ratio_Valid.f k l0_0 l0_1).bind fun t252 => (if t252 = true then ((ratio_Valid.f k l1_0 l1_1).bind fun t253 => (ratio_Order.j0 k (!t253) l0_0 l0_1 l1_0 l1_1)) else (ratio_Order.j0 k true l0_0 l0_1 l1_0 l1_1))
theorem ratio_Order.mono_l : ∀ k, (∀ y0 y1 y2 y3 y4, LeO (ratio_Order.j0 k y0 y1 y2 y3 y4) (ratio_Order.j0 (k + 1) y0 y1 y2 y3 y4))
 | 0 => fun _ _ _ _ _ r h => by simp [ratio_Order.j0] at h
 | k + 1 => by
  have ih0 := ratio_Order.mono_l k
  ·intro y0 y1 y2 y3 y4
   unfold ratio_Order.j0
   with_reducible repeat' first | apply ih0 | apply ratio_Valid.mono | apply ratio_compare.mono | apply ratio_mul.mono | exact LeO.refl _ | exact LeO.none _ | refine LeO.ite ?_ ?_ | refine LeO.bind ?_ (fun _ => ?_)
theorem ratio_Order.mono : ∀ a0 a1 a2 a3 k, LeO (ratio_Order.f k a0 a1 a2 a3) (ratio_Order.f (k + 1) a0 a1 a2 a3) := by
 intro a0 a1 a2 a3 k
 have ih0 := ratio_Order.mono_l k
 unfold ratio_Order.f
 with_reducible repeat' first | apply ih0 | apply ratio_Valid.mono | apply ratio_compare.mono | apply ratio_mul.mono | exact LeO.refl _ | exact LeO.none _ | refine LeO.ite ?_ ?_ | refine LeO.bind ?_ (fun _ => ?_)
def ratio_Order.T3 : Bool × List (List Nat × List Nat) := (true, [([], []), ([0], [0]), ([], []), ([2], [2]), ([1, 3], [1, 3]), ([], []), ([5], [5]), ([], []), ([7], [7]), ([6, 8, 4], [6, 8]), ([4, 9, 9], [4, 9]), ([10, 10, 0, 1, 2, 3, 4, 5, 6, 7, 8, 9, 10], [10])])
def ratio_Order.B3 : List Nat := [0, 1, 0, 4, 15, 0, 32, 0, 128, 511, 1023, 2047]
theorem ratio_Order.tab3 : rtab .any (opsOf Tryd.f42 3) = ratio_Order.T3 := by kernel_rfl
theorem ratio_Order.bits3 : waitsOk ratio_Order.T3.2 ratio_Order.B3 = true := by kernel_rfl
set_option maxHeartbeats 8000000 in
set_option maxRecDepth 100000 in
theorem ratio_Order.calls (k : Nat) (A0_0 : Option Addr) (c0_0 : Nat) (l0_0 : List Int) (A0_1 : Option Addr) (c0_1 : Nat) (l0_1 : List Int) (A1_0 : Option Addr) (c1_0 : Nat) (l1_0 : List Int) (A1_1 : Option Addr) (c1_1 : Nat) (l1_1 : List Int) (r : Int) (w : World) (hr0_0 : Kd.C (Kd.int .u32) w A0_0 l0_0.length l0_0) (hc0_0 : l0_0.length ≤ c0_0) (hr0_1 : Kd.C (Kd.int .u32) w A0_1 l0_1.length l0_1) (hc0_1 : l0_1.length ≤ c0_1) (hr1_0 : Kd.C (Kd.int .u32) w A1_0 l1_0.length l1_0) (hc1_0 : l1_0.length ≤ c1_0) (hr1_1 : Kd.C (Kd.int .u32) w A1_1 l1_1.length l1_1) (hc1_1 : l1_1.length ≤ c1_1) (h : ratio_Order.f k l0_0 l0_1 l1_0 l1_1 = some r) :
  Calls Tryd.prog 42 #[.agg #[.slice A0_0 l0_0.length c0_0, .slice A0_1 l0_1.length c0_1], .agg #[.slice A1_0 l1_0.length c1_0, .slice A1_1 l1_1.length c1_1]] w fun e w' => e = .returned (.int .i64 r) ∧ Below w.heap.size w w' := by
 have hu26 := Tryd.underlying26
 have HR0_0 := ak hr0_0
 have HC0_0 := ak hc0_0
 clear hr0_0 hc0_0
 have HR0_1 := ak hr0_1
 have HC0_1 := ak hc0_1
 clear hr0_1 hc0_1
 have HR1_0 := ak hr1_0
 have HC1_0 := ak hc1_0
 clear hr1_0 hc1_0
 have HR1_1 := ak hr1_1
 have HC1_1 := ak hc1_1
 clear hr1_1 hc1_1
 have HB := ak (Below.refl w.heap.size w)
 have H := h
 clear h
 unfold ratio_Order.f at H
 have HC3 := ak H
 clear H
 go_enter Tryd.func42, Tryd.ntmps42
 go_upto_region 1 with (first | ((with_reducible refine gate_dst (N := 2) rfl ?_); refine bx_ 2 26 #[.slice A0_0 l0_0.length c0_0, .slice A0_1 l0_1.length c0_1] ?_; intro gb250 hg w4 hbox hb; refine nx4_ (below_step (bU_ HB.out) hb) (hbox) ((hs_ hg (below_size (bU_ HB.out)))) ((hs_ hg (below_size (bU_ HB.out)))) ?_; clear HB; intro HB BK250 GW250 GE250; clear hb hbox hg) | ((with_reducible refine gate_dst (N := 3) rfl ?_); refine bx_ 3 26 #[.slice A1_0 l1_0.length c1_0, .slice A1_1 l1_1.length c1_1] ?_; intro gb251 hg w5 hbox hb; refine nx7_ (blk_below (kU_ BK250.out) hb) (below_step sU_ hb) (hbox) ((hs_ hg (below_size sU_) : w.heap.size ≤ gb251)) ((hs_ hg (below_size sU_) : w.heap.size ≤ gb251)) ((hl_ hg (kU_ BK250.out))) ((hm_ hg (kU_ BK250.out))) ?_; clear BK250 HB; intro BK250 HB BK251 GW251 GE251 NB250_251 NB251_250; clear hb hbox hg))
 (try simp only [Act.put, s1_, s2_, s3_])
 go_cut [12] (fun v12 wc => ∃ (kq : Nat) (x12_2 : Bool), v12 = .bool x12_2 ∧ Aside0 (ratio_Order.j0 kq x12_2 l0_0 l0_1 l1_0 l1_1 = some r) ∧ Aside0 (kq ≤ k) ∧ Aside0 (wc.heap[gb250]? = some (.cells #[(.slice A0_0 l0_0.length c0_0), (.slice A0_1 l0_1.length c0_1)] 26 (0, 0))) ∧ Aside0 (wc.heap[gb251]? = some (.cells #[(.slice A1_0 l1_0.length c1_0), (.slice A1_1 l1_1.length c1_1)] 26 (0, 0))) ∧ Aside0 (Below w.heap.size w wc))
 case first =>
  have H := HC3.out
  clear HC3
  revert H
  refine bd_ fun t252 A6 H => ?_
  by_cases c7 : t252 = true
  ·subst c7
   rw [if_pos rfl] at H
   revert H
   refine bd_ fun t253 A8 H => ?_
   have H' := ak H
   clear H
   have hnb9 := NB250_251.out
   have hnc9 := NB251_250.out
   have hcz10_0 := bc0_ BK250.out
   have hcz10_1 := bc1_ BK250.out
   have hfz10_0 := bkf9_ BK250.out 0
   have hfz10_1 := bkf9_ BK250.out 1
   go_wp2_with (first | ((with_reducible refine gate_callee (f := 41) rfl ?_); refine gl_ (some 6) Tryd.func41 #[.agg #[.slice A0_0 l0_0.length c0_0, .slice A0_1 l0_1.length c0_1]] ?_; (with_reducible refine (ratio_Valid.calls k _ _ l0_0 _ _ l0_1 true _ ?side1 ?side2 ?side3 ?side4 A6.out).mono ?_); (case side1 => exact cU_ (C_below HR0_0.out HB.out)); (case side2 => exact HC0_0.out); (case side3 => exact cU_ (C_below HR0_1.out HB.out)); (case side4 => exact HC0_1.out); rintro e w11 ⟨rfl, hb⟩; refine ⟨_, rfl, ?_⟩; refine nx3_ (blk_below (kU_ BK250.out) hb) (blk_below (kU_ BK251.out) hb) (below_step sU_ hb) ?_; clear BK250 BK251 HB; intro BK250 BK251 HB; clear hb; have hcz12_0 := bc0_ BK251.out; have hcz12_1 := bc1_ BK251.out; have hfz12_0 := bkf9_ BK251.out 0; have hfz12_1 := bkf9_ BK251.out 1) | (go_at_call 41; (with_reducible refine (ratio_Valid.calls k _ _ l1_0 _ _ l1_1 t253 _ ?side1 ?side2 ?side3 ?side4 A8.out).mono ?_); (case side1 => exact cU_ (C_below HR1_0.out HB.out)); (case side2 => exact HC1_0.out); (case side3 => exact cU_ (C_below HR1_1.out HB.out)); (case side4 => exact HC1_1.out); rintro e w13 ⟨rfl, hb⟩; refine nx3_ (blk_below (kU_ BK250.out) hb) (blk_below (kU_ BK251.out) hb) (below_step sU_ hb) ?_; clear BK250 BK251 HB; intro BK250 BK251 HB; clear hb))
   go_meet
   case rel => exact ⟨_, (!t253), gb_, H', ⟨by first | omega | exact Nat.le_refl _⟩, ⟨by (with_reducible repeat (first | refine blk_drewN ?_ _ | refine blk_drew ?_ | refine blk_alloc ?_ _)); exact BK250.out⟩, ⟨by (with_reducible repeat (first | refine blk_drewN ?_ _ | refine blk_drew ?_ | refine blk_alloc ?_ _)); exact BK251.out⟩, ⟨sU_⟩⟩
  replace c7 := Bool.eq_false_iff.mpr c7
  subst c7
  rw [if_neg (show ¬ (false = true) by decide)] at H
  have H' := ak H
  clear H
  have hnb14 := NB250_251.out
  have hnc14 := NB251_250.out
  have hcz15_0 := bc0_ BK250.out
  have hcz15_1 := bc1_ BK250.out
  have hfz15_0 := bkf9_ BK250.out 0
  have hfz15_1 := bkf9_ BK250.out 1
  go_wp2_with (first | ((with_reducible refine gate_callee (f := 41) rfl ?_); refine gl_ (some 6) Tryd.func41 #[.agg #[.slice A0_0 l0_0.length c0_0, .slice A0_1 l0_1.length c0_1]] ?_; (with_reducible refine (ratio_Valid.calls k _ _ l0_0 _ _ l0_1 false _ ?side1 ?side2 ?side3 ?side4 A6.out).mono ?_); (case side1 => exact cU_ (C_below HR0_0.out HB.out)); (case side2 => exact HC0_0.out); (case side3 => exact cU_ (C_below HR0_1.out HB.out)); (case side4 => exact HC0_1.out); rintro e w16 ⟨rfl, hb⟩; refine ⟨_, rfl, ?_⟩; refine nx3_ (blk_below (kU_ BK250.out) hb) (blk_below (kU_ BK251.out) hb) (below_step sU_ hb) ?_; clear BK250 BK251 HB; intro BK250 BK251 HB; clear hb))
  go_meet
  case rel => exact ⟨_, (true), gb_, H', ⟨by first | omega | exact Nat.le_refl _⟩, ⟨by (with_reducible repeat (first | refine blk_drewN ?_ _ | refine blk_drew ?_ | refine blk_alloc ?_ _)); exact BK250.out⟩, ⟨by (with_reducible repeat (first | refine blk_drewN ?_ _ | refine blk_drew ?_ | refine blk_alloc ?_ _)); exact BK251.out⟩, ⟨sU_⟩⟩
 case rest =>
  clear HC3
  (try clear c1); (try clear p2); (try clear c4); (try clear c7); (try clear c9); (try clear c14); (try clear hcz10_0); (try clear hcz10_1); (try clear hcz12_0); (try clear hcz12_1); (try clear hcz15_0); (try clear hcz15_1); (try clear hfz10_0); (try clear hfz10_1); (try clear hfz12_0); (try clear hfz12_1); (try clear hfz15_0); (try clear hfz15_1)
  obtain ⟨kq, x12_2, rfl, HA, HJ2, BK250, BK251, HB⟩ := hcut
  cases kq with
  | zero => exact absurd HA.out (by simp [ratio_Order.j0])
  | succ kj2 =>
   have H := HA.out
   clear HA
   simp only [ratio_Order.j0] at H
   by_cases c17 : x12_2 = true
   ·subst c17
    rw [if_pos rfl] at H
    obtain rfl := Option.some.inj H
    go_wp2
    go_ret
    exact ⟨eW_, sU_⟩
   replace c17 := Bool.eq_false_iff.mpr c17
   subst c17
   rw [if_neg (show ¬ (false = true) by decide)] at H
   revert H
   refine bd_ fun t254 A18 H => ?_
   revert H
   refine bd_ fun t257 A19 H => ?_
   revert H
   refine bd_ fun t260 A20 H => ?_
   obtain rfl := Option.some.inj H
   try go_wp2
   refine nx3_ (blk_drew BK250.out) (blk_drew BK251.out) (below_drew1 HB.out) ?_
   clear BK250 BK251 HB
   intro BK250 BK251 HB
   refine start_ (n := 12) (S := fun w' => w'.cell? ⟨gb250, 0, none⟩ = some (.slice A0_0 l0_0.length c0_0) ∧ w'.cell? ⟨gb250, 1, none⟩ = some (.slice A0_1 l0_1.length c0_1) ∧ w'.cell? ⟨gb251, 0, none⟩ = some (.slice A1_0 l1_0.length c1_0) ∧ w'.cell? ⟨gb251, 1, none⟩ = some (.slice A1_1 l1_1.length c1_1)) (ds := []) (bv 12 0) (by kernel_rfl) rfl rfl ⟨bc0_ BK250.out, bc1_ BK250.out, bc0_ BK251.out, bc1_ BK251.out⟩ (fun hHeld => ?_); refine with_tabW ratio_Order.tab3 ratio_Order.bits3 (fun HT_ HW_ => ?_)
   generalize wc.drew = w21 at BK250 BK251 HB hHeld ⊢
   refine pq_ 0 13 12 1 HT_.out ?_
   refine pq_ 2 15 12 5 HT_.out ?_
   refine pq_ 5 18 12 37 HT_.out ?_
   refine pq_ 7 20 12 165 HT_.out ?_
   refine tq_ 1 14 12 167 HT_.out HW_.out hHeld ?_
   refine tq_ 3 16 12 175 HT_.out HW_.out hHeld ?_
   refine tq_ 6 19 12 239 HT_.out HW_.out hHeld ?_
   refine tq_ 8 21 12 495 HT_.out HW_.out hHeld ?_
   refine oq_ 4 17 12 511 HT_.out fun K hK => ?_
   refine gs_ Tryd.func94 #[.slice A0_0 l0_0.length c0_0, .slice A1_1 l1_1.length c1_1] ?_
   with_reducible refine (ratio_mul.calls kj2 _ _ l0_0 _ _ l1_1 t254 _ ?side1 ?side2 ?side3 ?side4 A18.out).mono ?_
   (case side1 => exact cU_ (C_below HR0_0.out HB.out))
   (case side2 => exact HC0_0.out)
   (case side3 => exact cU_ (C_below HR1_1.out HB.out))
   (case side4 => exact HC1_1.out)
   rintro e w22 ⟨v255, rfl, ho0, hb⟩
   refine ⟨_, rfl, ?_⟩
   refine nx4_ (V_lower (V_mono (ok' := fun k_ => k_ ≠ gb250 ∧ k_ ≠ gb251) ho0 (fun k_ hk_ => ⟨(freshB (kU_ BK250.out) k_ hk_), (freshB (kU_ BK251.out) k_ hk_)⟩)) (below_size sU_)) (blk_below (kU_ BK250.out) hb) (blk_below (kU_ BK251.out) hb) (below_step sU_ hb) ?_
   clear BK250 BK251 HB
   intro HO256 BK250 BK251 HB
   (try clear hb)
   (try clear hb2)
   (try clear hk)
   (try clear hi)
   (try clear ho0)
   refine hK.out _ _ ⟨bc0_ BK250.out, bc1_ BK250.out, bc0_ BK251.out, bc1_ BK251.out⟩ (fun hHeld => ?_)
   clear hK K
   refine norm_ (a' := ?_) ?_ ?_
   rotate_left
   ·show Act.put _ (some 17) _ = _
    simp only [Act.put, s1_, s2_, s3_, i64_w, i32_w]
    rfl
   refine oq_ 9 22 12 1023 HT_.out fun K hK => ?_
   refine gs_ Tryd.func94 #[.slice A1_0 l1_0.length c1_0, .slice A0_1 l0_1.length c0_1] ?_
   with_reducible refine (ratio_mul.calls kj2 _ _ l1_0 _ _ l0_1 t257 _ ?side1 ?side2 ?side3 ?side4 A19.out).mono ?_
   (case side1 => exact cU_ (C_below HR1_0.out HB.out))
   (case side2 => exact HC1_0.out)
   (case side3 => exact cU_ (C_below HR0_1.out HB.out))
   (case side4 => exact HC0_1.out)
   rintro e w23 ⟨v258, rfl, ho0, hb⟩
   refine ⟨_, rfl, ?_⟩
   refine nx5_ (V_below (vU_ HO256.out) hb) (V_lower (V_mono (ok' := fun k_ => k_ ≠ gb250 ∧ k_ ≠ gb251) ho0 (fun k_ hk_ => ⟨(freshB (kU_ BK250.out) k_ hk_), (freshB (kU_ BK251.out) k_ hk_)⟩)) (below_size sU_)) (blk_below (kU_ BK250.out) hb) (blk_below (kU_ BK251.out) hb) (below_step sU_ hb) ?_
   clear HO256 BK250 BK251 HB
   intro HO256 HO259 BK250 BK251 HB
   (try clear hb)
   (try clear hb2)
   (try clear hk)
   (try clear hi)
   (try clear ho0)
   obtain ⟨Ao24, co24, eo24⟩ := V_slice HO256.out
   (first | subst eo24 | (injection eo24 with f1_ f2_ f3_; have f4_ := f1_.symm; have f5_ := f3_.symm; clear f1_ f2_ f3_; subst f4_; subst f5_))
   obtain ⟨Ao25, co25, eo25⟩ := V_slice HO259.out
   (first | subst eo25 | (injection eo25 with f1_ f2_ f3_; have f4_ := f1_.symm; have f5_ := f3_.symm; clear f1_ f2_ f3_; subst f4_; subst f5_))
   refine hK.out _ _ ⟨bc0_ BK250.out, bc1_ BK250.out, bc0_ BK251.out, bc1_ BK251.out⟩ (fun hHeld => ?_)
   clear hK K
   refine norm_ (a' := ?_) ?_ ?_
   rotate_left
   ·show Act.put _ (some 22) _ = _
    simp only [Act.put, s1_, s2_, s3_, i64_w, i32_w]
    rfl
   refine oq_ 10 23 12 2047 HT_.out fun K hK => ?_
   refine gs_ Tryd.func93 #[.slice Ao24 t254.length co24, .slice Ao25 t257.length co25] ?_
   with_reducible refine (ratio_compare.calls kj2 _ _ t254 _ _ t257 t260 _ ?side1 ?side2 ?side3 ?side4 A20.out).mono ?_
   (case side1 => exact cU_ ((V_reads' HO256.out).2.2))
   (case side2 => exact (V_reads' HO256.out).2.1)
   (case side3 => exact cU_ ((V_reads' HO259.out).2.2))
   (case side4 => exact (V_reads' HO259.out).2.1)
   rintro e w' ⟨rfl, ⟨nd, rfl⟩⟩
   refine ⟨_, rfl, ?_⟩
   refine hK.out _ _ ⟨bc0_ BK250.out, bc1_ BK250.out, bc0_ BK251.out, bc1_ BK251.out⟩ (fun hHeld => ?_)
   clear hK K
   refine norm_ (a' := ?_) ?_ ?_
   rotate_left
   ·show Act.put _ (some 23) _ = _
    simp only [Act.put, s1_, s2_, s3_, i64_w, i32_w]
    rfl
   refine pq_ 11 4 12 4095 HT_.out ?_
   refine done_ (done_of HT_.out (by kernel_rfl)) ?_
   try go_wp2
   go_ret
   exact ⟨eW_, sU_⟩

end Go.Proofs.YtbjeemlbjkmhiaaDoor.Q

import Derived.Test.YtbjeemlbjkmhiaaDoorQ0
import Derived.Test.YtbjeemlbjkmhiaaDoorQ1
import Derived.Test.YtbjeemlbjkmhiaaDoorQ2
namespace Go.Proofs.YtbjeemlbjkmhiaaDoor.Q
open Go.RowKit Go.Proofs.YtbjeemlbjkmhiaaDoorW.PrintWords Go.Proofs.YtbjeemlbjkmhiaaDoorW.PrintLast Go.Proofs.YtbjeemlbjkmhiaaDoorW.PrintMore
open Kd (R_below R_mono R_lower R_newM R_base R_reads' R_V R_tight R_make V_below V_mono V_far V_lower V_elder' V_elderB V_slice V_reads' C_below freshB V_drew)
attribute [local go_sem] max2_int min2_int max_two min_two max_three min_three max_four min_four   -- for this text's walks alone
set_option linter.unusedVariables false
set_option linter.unusedSimpArgs false

def gap_least.f (k : Nat) (l0_0 : List Int) (l0_1 : List Int) (a1 : Int) : Option (List Int × List Int × Int) := (ratio_Of.f k 1 1).bind fun bt263 => (if a1 = 0 then ((ratio_Order.f k l0_0 l0_1 bt263.1 bt263.2.1).bind fun t271 => (if t271 > 0 then (some (bt263.1, bt263.2.1, 0)) else (some (l0_0, l0_1, a1)))) else (some (l0_0, l0_1, a1)))
theorem gap_least.mono : ∀ a0 a1 a2 k, LeO (gap_least.f k a0 a1 a2) (gap_least.f (k + 1) a0 a1 a2) := by
 intro a0 a1 a2 k
 unfold gap_least.f
 with_reducible repeat' first | apply ratio_Of.mono | apply ratio_Order.mono | exact LeO.refl _ | exact LeO.none _ | refine LeO.ite ?_ ?_ | refine LeO.bind ?_ (fun _ => ?_)
set_option maxHeartbeats 8000000 in
set_option maxRecDepth 100000 in
theorem gap_least.calls (k : Nat) (P0_0_ : Nat → Prop) (A0_0 : Option Addr) (c0_0 : Nat) (l0_0 : List Int) (P0_1_ : Nat → Prop) (A0_1 : Option Addr) (c0_1 : Nat) (l0_1 : List Int) (a1 : Int) (r1 : List Int) (r2 : List Int) (r3 : Int) (w : World) (hs0_0 : Kd.V (Kd.int .u32) 115 w w.heap.size (fun k_ => P0_0_ k_) (.slice A0_0 l0_0.length c0_0) l0_0) (hs0_1 : Kd.V (Kd.int .u32) 115 w w.heap.size (fun k_ => P0_1_ k_) (.slice A0_1 l0_1.length c0_1) l0_1) (h : gap_least.f k l0_0 l0_1 a1 = some (r1, r2, r3)) :
  Calls Tryd.prog 49 #[.agg #[.slice A0_0 l0_0.length c0_0, .slice A0_1 l0_1.length c0_1], .int .i64 a1] w fun e w' => ∃ v0_ v1_ : Value, e = .returned (.tuple #[.agg #[v0_, v1_], .int .i64 r3]) ∧ Kd.V (Kd.int .u32) 115 w' w.heap.size (fun k_ => ((P0_0_ k_ ∨ P0_1_ k_) ∨ w.heap.size ≤ k_)) v0_ r1 ∧ Kd.V (Kd.int .u32) 115 w' w.heap.size (fun k_ => ((P0_0_ k_ ∨ P0_1_ k_) ∨ w.heap.size ≤ k_)) v1_ r2 ∧ Below w.heap.size w w' := by
 have hu26 := Tryd.underlying26
 have HO0_0 := ak (show Kd.V (Kd.int .u32) 115 w w.heap.size (fun k_ => ((P0_0_ k_ ∨ P0_1_ k_) ∨ w.heap.size ≤ k_)) (.slice A0_0 l0_0.length c0_0) l0_0 from V_mono hs0_0 (fun k_ hk => .inl (.inl hk)))
 have HO0_1 := ak (show Kd.V (Kd.int .u32) 115 w w.heap.size (fun k_ => ((P0_0_ k_ ∨ P0_1_ k_) ∨ w.heap.size ≤ k_)) (.slice A0_1 l0_1.length c0_1) l0_1 from V_mono hs0_1 (fun k_ hk => .inl (.inr hk)))
 have HB := ak (Below.refl w.heap.size w)
 have H := h
 clear h
 unfold gap_least.f at H
 revert H
 refine bd3_ fun t263 t266 t269 A3 H => ?_
 try dsimp only at H
 by_cases c4 : a1 = 0
 ·rw [if_pos c4] at H
  have c4b0 := beq_iff_eq.mpr c4
  have c4b1 := bne_eq_false_iff_eq.mpr c4
  clear c4
  revert H
  refine bd_ fun t271 A5 H => ?_
  by_cases c6 : t271 > 0
  ·rw [if_pos c6] at H
   have c6b0 : decide (0 < t271) = true := decide_eq_true c6
   clear c6
   simp only [Option.some.injEq, Prod.mk.injEq] at H
   obtain ⟨rfl, rfl, rfl⟩ := H
   go_enter Tryd.func49, Tryd.ntmps49
   go_wp2_with (first | ((with_reducible refine gate_dst (N := 2) rfl ?_); refine bx_ 2 26 #[.slice A0_0 l0_0.length c0_0, .slice A0_1 l0_1.length c0_1] ?_; intro gb261 hg w7 hbox hb; refine nx6_ (V_below (V_elderB (vU_ HO0_0.out) gb261 (Nat.le_of_eq hg.symm)) hb) (V_below (V_elderB (vU_ HO0_1.out) gb261 (Nat.le_of_eq hg.symm)) hb) (below_step (bU_ HB.out) hb) (hbox) ((hs_ hg (below_size (bU_ HB.out)))) ((hs_ hg (below_size (bU_ HB.out)))) ?_; clear HO0_0 HO0_1 HB; intro HO0_0 HO0_1 HB BK261 GW261 GE261; clear hb hbox hg) | ((with_reducible refine gate_dst (N := 4) rfl ?_); refine bx_ 4 26 #[.slice none 0 0, .slice none 0 0] ?_; intro gb262 hg w8 hbox hb; refine nx9_ (V_below (V_elderB (vU_ HO0_0.out) gb262 (Nat.le_of_eq hg.symm)) hb) (V_below (V_elderB (vU_ HO0_1.out) gb262 (Nat.le_of_eq hg.symm)) hb) (blk_below (kU_ BK261.out) hb) (below_step sU_ hb) (hbox) ((hs_ hg (below_size sU_) : w.heap.size ≤ gb262)) ((hs_ hg (below_size sU_) : w.heap.size ≤ gb262)) ((hl_ hg (kU_ BK261.out))) ((hm_ hg (kU_ BK261.out))) ?_; clear HO0_0 HO0_1 BK261 HB; intro HO0_0 HO0_1 BK261 HB BK262 GW262 GE262 NB261_262 NB262_261; clear hb hbox hg) | ((with_reducible refine gate_callee (f := 45) rfl ?_); refine gl_ (some 9) Tryd.func45 #[.int .u64 1, .int .u64 1] ?_; (with_reducible refine (ratio_Of.calls k 1 1 t263 t266 t269 _ A3.out).mono ?_); rintro e w9 ⟨v264, v267, rfl, ho0, ho1, hb⟩; refine ⟨_, rfl, ?_⟩; refine nx7_ (V_below (vU_ HO0_0.out) hb) (V_below (vU_ HO0_1.out) hb) (V_lower (V_mono (ok' := fun k_ => ((P0_0_ k_ ∨ P0_1_ k_) ∨ w.heap.size ≤ k_) ∧ k_ ≠ gb261 ∧ k_ ≠ gb262) ho0 (fun k_ hk_ => ⟨(.inr (Nat.le_trans (below_size sU_) hk_)), (freshB (kU_ BK261.out) k_ hk_), (freshB (kU_ BK262.out) k_ hk_)⟩)) (below_size sU_)) (V_lower (V_mono (ok' := fun k_ => ((P0_0_ k_ ∨ P0_1_ k_) ∨ w.heap.size ≤ k_) ∧ k_ ≠ gb261 ∧ k_ ≠ gb262) ho1 (fun k_ hk_ => ⟨(.inr (Nat.le_trans (below_size sU_) hk_)), (freshB (kU_ BK261.out) k_ hk_), (freshB (kU_ BK262.out) k_ hk_)⟩)) (below_size sU_)) (blk_below (kU_ BK261.out) hb) (blk_below (kU_ BK262.out) hb) (below_step sU_ hb) ?_; clear HO0_0 HO0_1 BK261 BK262 HB; intro HO0_0 HO0_1 HO265 HO268 BK261 BK262 HB; clear hb ho0 ho1) | ((with_reducible refine gate_dst (N := 6) rfl ?_); refine bx_ 6 26 #[.slice none 0 0, .slice none 0 0] ?_; intro gb270 hg w10 hbox hb; refine nx14_ (V_below (V_elderB (vU_ HO0_0.out) gb270 (Nat.le_of_eq hg.symm)) hb) (V_below (V_elderB (vU_ HO0_1.out) gb270 (Nat.le_of_eq hg.symm)) hb) (V_below (V_elderB (vU_ HO265.out) gb270 (Nat.le_of_eq hg.symm)) hb) (V_below (V_elderB (vU_ HO268.out) gb270 (Nat.le_of_eq hg.symm)) hb) (blk_below (kU_ BK261.out) hb) (blk_below (kU_ BK262.out) hb) (below_step sU_ hb) (hbox) ((hs_ hg (below_size sU_) : w.heap.size ≤ gb270)) ((hs_ hg (below_size sU_) : w.heap.size ≤ gb270)) ((hl_ hg (kU_ BK261.out))) ((hm_ hg (kU_ BK261.out))) ((hl_ hg (kU_ BK262.out))) ((hm_ hg (kU_ BK262.out))) ?_; clear HO0_0 HO0_1 HO265 HO268 BK261 BK262 HB; intro HO0_0 HO0_1 HO265 HO268 BK261 BK262 HB BK270 GW270 GE270 NB261_270 NB270_261 NB262_270 NB270_262; clear hb hbox hg; obtain ⟨Ao11, co11, eo11⟩ := V_slice HO265.out; subst eo11; have hnb12 := NB270_261.out; have hnc12 := NB261_270.out; have hnb13 := NB270_262.out; have hnc13 := NB262_270.out; have hcz14_0 := bc0_ BK270.out; have hcz14_1 := bc1_ BK270.out; have hfz14_0 := bkf9_ BK270.out 0; have hfz14_1 := bkf9_ BK270.out 1; obtain ⟨Ao15, co15, eo15⟩ := V_slice HO268.out; subst eo15; have hnb16 := NB261_262.out; have hnc16 := NB262_261.out; have hcz17_0 := bc0_ BK261.out; have hcz17_1 := bc1_ BK261.out; have hfz17_0 := bkf9_ BK261.out 0; have hfz17_1 := bkf9_ BK261.out 1) | (go_at_call 42; (with_reducible refine (ratio_Order.calls k _ _ l0_0 _ _ l0_1 _ _ t263 _ _ t266 t271 _ ?side1 ?side2 ?side3 ?side4 ?side5 ?side6 ?side7 ?side8 A5.out).mono ?_); (case side1 => refine (V_reads' (e := 115) (base := w.heap.size) (ok := fun k_ => (((((P0_0_ k_ ∨ P0_1_ k_) ∨ w.heap.size ≤ k_) ∧ k_ ≠ gb261) ∧ k_ ≠ gb262) ∧ k_ ≠ gb270)) (n := l0_0.length) (c := c0_0) ?_).2.2; exact (vL_ (vf_ gb270 HO0_0.out fun _ hk => hk.2))); (case side2 => exact (V_reads' HO0_0.out).2.1); (case side3 => refine (V_reads' (e := 115) (base := w.heap.size) (ok := fun k_ => (((((P0_0_ k_ ∨ P0_1_ k_) ∨ w.heap.size ≤ k_) ∧ k_ ≠ gb261) ∧ k_ ≠ gb262) ∧ k_ ≠ gb270)) (n := l0_1.length) (c := c0_1) ?_).2.2; exact (vL_ (vf_ gb270 HO0_1.out fun _ hk => hk.2))); (case side4 => exact (V_reads' HO0_1.out).2.1); (case side5 => refine (V_reads' (e := 115) (base := w.heap.size) (ok := fun k_ => ((((P0_0_ k_ ∨ P0_1_ k_) ∨ w.heap.size ≤ k_) ∧ (k_ ≠ gb261 ∧ k_ ≠ gb262)) ∧ k_ ≠ gb270)) (n := t263.length) (c := co11) ?_).2.2; exact (vL_ (vf_ gb270 HO265.out fun _ hk => hk.2))); (case side6 => exact (V_reads' HO265.out).2.1); (case side7 => refine (V_reads' (e := 115) (base := w.heap.size) (ok := fun k_ => ((((P0_0_ k_ ∨ P0_1_ k_) ∨ w.heap.size ≤ k_) ∧ (k_ ≠ gb261 ∧ k_ ≠ gb262)) ∧ k_ ≠ gb270)) (n := t266.length) (c := co15) ?_).2.2; exact (vL_ (vf_ gb270 HO268.out fun _ hk => hk.2))); (case side8 => exact (V_reads' HO268.out).2.1); rintro e w18 ⟨rfl, hb⟩; refine nx8_ (V_below (vL_ (vf_ gb270 HO0_0.out fun _ hk => hk.2)) hb) (V_below (vL_ (vf_ gb270 HO0_1.out fun _ hk => hk.2)) hb) (V_below (vL_ (vf_ gb270 HO265.out fun _ hk => hk.2)) hb) (V_below (vL_ (vf_ gb270 HO268.out fun _ hk => hk.2)) hb) (blk_below (g := gb261) (o := .cells #[.slice A0_0 l0_0.length c0_0, .slice A0_1 l0_1.length c0_1] 26 (0, 0)) kp_ hb) (blk_below (g := gb262) (o := .cells #[.slice none 0 0, .slice none 0 0] 26 (0, 0)) kp_ hb) (blk_below (g := gb270) (o := .cells #[.slice Ao11 t263.length co11, .slice Ao15 t266.length co15] 26 (0, 0)) kp_ hb) (below_step sU_ hb) ?_; clear HO0_0 HO0_1 HO265 HO268 BK261 BK262 BK270 HB; intro HO0_0 HO0_1 HO265 HO268 BK261 BK262 BK270 HB; clear hb; have hcz19_0 := bc0_ BK270.out; have hcz19_1 := bc1_ BK270.out; have hfz19_0 := bkf9_ BK270.out 0; have hfz19_1 := bkf9_ BK270.out 1; have hcz20_0 := bc0_ BK262.out; have hcz20_1 := bc1_ BK262.out; have hfz20_0 := bkf9_ BK262.out 0; have hfz20_1 := bkf9_ BK262.out 1))
   refine bodyPost_ret (results_ct rfl _ _ gb262 26 #[.slice Ao11 t263.length co11, .slice Ao15 t266.length co15] (0, 0) _ rfl kp_ Tryd.underlying26 rfl (by kernel_rfl)) rfl ?_
   exact ⟨_, _, eW_, by (with_reducible repeat (first | apply Kd.V_alloc | apply Kd.V_drewN | apply V_drew)); exact V_mono (V_far (p := ⟨gb262, 1, none⟩) (V_far (p := ⟨gb262, 0, none⟩) (V_mono HO265.out (fun k_ hk => (⟨hk, hk.1.2.2⟩ : _ ∧ k_ ≠ gb262))) (fun _ hk => hk.2) (.slice Ao11 t263.length co11)) (fun _ hk => hk.2) (.slice Ao15 t266.length co15)) (fun _ hk => hk.1.1.1), by (with_reducible repeat (first | apply Kd.V_alloc | apply Kd.V_drewN | apply V_drew)); exact V_mono (V_far (p := ⟨gb262, 1, none⟩) (V_far (p := ⟨gb262, 0, none⟩) (V_mono HO268.out (fun k_ hk => (⟨hk, hk.1.2.2⟩ : _ ∧ k_ ≠ gb262))) (fun _ hk => hk.2) (.slice Ao11 t263.length co11)) (fun _ hk => hk.2) (.slice Ao15 t266.length co15)) (fun _ hk => hk.1.1.1), sU_⟩
  rw [if_neg c6] at H
  have c6b0 : decide (0 < t271) = false := decide_eq_false c6
  clear c6
  simp only [Option.some.injEq, Prod.mk.injEq] at H
  obtain ⟨rfl, rfl, rfl⟩ := H
  go_enter Tryd.func49, Tryd.ntmps49
  go_wp2_with (first | ((with_reducible refine gate_dst (N := 2) rfl ?_); refine bx_ 2 26 #[.slice A0_0 l0_0.length c0_0, .slice A0_1 l0_1.length c0_1] ?_; intro gb261 hg w21 hbox hb; refine nx6_ (V_below (V_elderB (vU_ HO0_0.out) gb261 (Nat.le_of_eq hg.symm)) hb) (V_below (V_elderB (vU_ HO0_1.out) gb261 (Nat.le_of_eq hg.symm)) hb) (below_step (bU_ HB.out) hb) (hbox) ((hs_ hg (below_size (bU_ HB.out)))) ((hs_ hg (below_size (bU_ HB.out)))) ?_; clear HO0_0 HO0_1 HB; intro HO0_0 HO0_1 HB BK261 GW261 GE261; clear hb hbox hg) | ((with_reducible refine gate_dst (N := 4) rfl ?_); refine bx_ 4 26 #[.slice none 0 0, .slice none 0 0] ?_; intro gb262 hg w22 hbox hb; refine nx9_ (V_below (V_elderB (vU_ HO0_0.out) gb262 (Nat.le_of_eq hg.symm)) hb) (V_below (V_elderB (vU_ HO0_1.out) gb262 (Nat.le_of_eq hg.symm)) hb) (blk_below (kU_ BK261.out) hb) (below_step sU_ hb) (hbox) ((hs_ hg (below_size sU_) : w.heap.size ≤ gb262)) ((hs_ hg (below_size sU_) : w.heap.size ≤ gb262)) ((hl_ hg (kU_ BK261.out))) ((hm_ hg (kU_ BK261.out))) ?_; clear HO0_0 HO0_1 BK261 HB; intro HO0_0 HO0_1 BK261 HB BK262 GW262 GE262 NB261_262 NB262_261; clear hb hbox hg) | ((with_reducible refine gate_callee (f := 45) rfl ?_); refine gl_ (some 9) Tryd.func45 #[.int .u64 1, .int .u64 1] ?_; (with_reducible refine (ratio_Of.calls k 1 1 t263 t266 t269 _ A3.out).mono ?_); rintro e w23 ⟨v264, v267, rfl, ho0, ho1, hb⟩; refine ⟨_, rfl, ?_⟩; refine nx7_ (V_below (vU_ HO0_0.out) hb) (V_below (vU_ HO0_1.out) hb) (V_lower (V_mono (ok' := fun k_ => ((P0_0_ k_ ∨ P0_1_ k_) ∨ w.heap.size ≤ k_) ∧ k_ ≠ gb261 ∧ k_ ≠ gb262) ho0 (fun k_ hk_ => ⟨(.inr (Nat.le_trans (below_size sU_) hk_)), (freshB (kU_ BK261.out) k_ hk_), (freshB (kU_ BK262.out) k_ hk_)⟩)) (below_size sU_)) (V_lower (V_mono (ok' := fun k_ => ((P0_0_ k_ ∨ P0_1_ k_) ∨ w.heap.size ≤ k_) ∧ k_ ≠ gb261 ∧ k_ ≠ gb262) ho1 (fun k_ hk_ => ⟨(.inr (Nat.le_trans (below_size sU_) hk_)), (freshB (kU_ BK261.out) k_ hk_), (freshB (kU_ BK262.out) k_ hk_)⟩)) (below_size sU_)) (blk_below (kU_ BK261.out) hb) (blk_below (kU_ BK262.out) hb) (below_step sU_ hb) ?_; clear HO0_0 HO0_1 BK261 BK262 HB; intro HO0_0 HO0_1 HO265 HO268 BK261 BK262 HB; clear hb ho0 ho1) | ((with_reducible refine gate_dst (N := 6) rfl ?_); refine bx_ 6 26 #[.slice none 0 0, .slice none 0 0] ?_; intro gb270 hg w24 hbox hb; refine nx14_ (V_below (V_elderB (vU_ HO0_0.out) gb270 (Nat.le_of_eq hg.symm)) hb) (V_below (V_elderB (vU_ HO0_1.out) gb270 (Nat.le_of_eq hg.symm)) hb) (V_below (V_elderB (vU_ HO265.out) gb270 (Nat.le_of_eq hg.symm)) hb) (V_below (V_elderB (vU_ HO268.out) gb270 (Nat.le_of_eq hg.symm)) hb) (blk_below (kU_ BK261.out) hb) (blk_below (kU_ BK262.out) hb) (below_step sU_ hb) (hbox) ((hs_ hg (below_size sU_) : w.heap.size ≤ gb270)) ((hs_ hg (below_size sU_) : w.heap.size ≤ gb270)) ((hl_ hg (kU_ BK261.out))) ((hm_ hg (kU_ BK261.out))) ((hl_ hg (kU_ BK262.out))) ((hm_ hg (kU_ BK262.out))) ?_; clear HO0_0 HO0_1 HO265 HO268 BK261 BK262 HB; intro HO0_0 HO0_1 HO265 HO268 BK261 BK262 HB BK270 GW270 GE270 NB261_270 NB270_261 NB262_270 NB270_262; clear hb hbox hg; obtain ⟨Ao25, co25, eo25⟩ := V_slice HO265.out; subst eo25; have hnb26 := NB270_261.out; have hnc26 := NB261_270.out; have hnb27 := NB270_262.out; have hnc27 := NB262_270.out; have hcz28_0 := bc0_ BK270.out; have hcz28_1 := bc1_ BK270.out; have hfz28_0 := bkf9_ BK270.out 0; have hfz28_1 := bkf9_ BK270.out 1; obtain ⟨Ao29, co29, eo29⟩ := V_slice HO268.out; subst eo29; have hnb30 := NB261_262.out; have hnc30 := NB262_261.out; have hcz31_0 := bc0_ BK261.out; have hcz31_1 := bc1_ BK261.out; have hfz31_0 := bkf9_ BK261.out 0; have hfz31_1 := bkf9_ BK261.out 1) | (go_at_call 42; (with_reducible refine (ratio_Order.calls k _ _ l0_0 _ _ l0_1 _ _ t263 _ _ t266 t271 _ ?side1 ?side2 ?side3 ?side4 ?side5 ?side6 ?side7 ?side8 A5.out).mono ?_); (case side1 => refine (V_reads' (e := 115) (base := w.heap.size) (ok := fun k_ => (((((P0_0_ k_ ∨ P0_1_ k_) ∨ w.heap.size ≤ k_) ∧ k_ ≠ gb261) ∧ k_ ≠ gb262) ∧ k_ ≠ gb270)) (n := l0_0.length) (c := c0_0) ?_).2.2; exact (vL_ (vf_ gb270 HO0_0.out fun _ hk => hk.2))); (case side2 => exact (V_reads' HO0_0.out).2.1); (case side3 => refine (V_reads' (e := 115) (base := w.heap.size) (ok := fun k_ => (((((P0_0_ k_ ∨ P0_1_ k_) ∨ w.heap.size ≤ k_) ∧ k_ ≠ gb261) ∧ k_ ≠ gb262) ∧ k_ ≠ gb270)) (n := l0_1.length) (c := c0_1) ?_).2.2; exact (vL_ (vf_ gb270 HO0_1.out fun _ hk => hk.2))); (case side4 => exact (V_reads' HO0_1.out).2.1); (case side5 => refine (V_reads' (e := 115) (base := w.heap.size) (ok := fun k_ => ((((P0_0_ k_ ∨ P0_1_ k_) ∨ w.heap.size ≤ k_) ∧ (k_ ≠ gb261 ∧ k_ ≠ gb262)) ∧ k_ ≠ gb270)) (n := t263.length) (c := co25) ?_).2.2; exact (vL_ (vf_ gb270 HO265.out fun _ hk => hk.2))); (case side6 => exact (V_reads' HO265.out).2.1); (case side7 => refine (V_reads' (e := 115) (base := w.heap.size) (ok := fun k_ => ((((P0_0_ k_ ∨ P0_1_ k_) ∨ w.heap.size ≤ k_) ∧ (k_ ≠ gb261 ∧ k_ ≠ gb262)) ∧ k_ ≠ gb270)) (n := t266.length) (c := co29) ?_).2.2; exact (vL_ (vf_ gb270 HO268.out fun _ hk => hk.2))); (case side8 => exact (V_reads' HO268.out).2.1); rintro e w32 ⟨rfl, hb⟩; refine nx8_ (V_below (vL_ (vf_ gb270 HO0_0.out fun _ hk => hk.2)) hb) (V_below (vL_ (vf_ gb270 HO0_1.out fun _ hk => hk.2)) hb) (V_below (vL_ (vf_ gb270 HO265.out fun _ hk => hk.2)) hb) (V_below (vL_ (vf_ gb270 HO268.out fun _ hk => hk.2)) hb) (blk_below (g := gb261) (o := .cells #[.slice A0_0 l0_0.length c0_0, .slice A0_1 l0_1.length c0_1] 26 (0, 0)) kp_ hb) (blk_below (g := gb262) (o := .cells #[.slice none 0 0, .slice none 0 0] 26 (0, 0)) kp_ hb) (blk_below (g := gb270) (o := .cells #[.slice Ao25 t263.length co25, .slice Ao29 t266.length co29] 26 (0, 0)) kp_ hb) (below_step sU_ hb) ?_; clear HO0_0 HO0_1 HO265 HO268 BK261 BK262 BK270 HB; intro HO0_0 HO0_1 HO265 HO268 BK261 BK262 BK270 HB; clear hb; have hcz33_0 := bc0_ BK261.out; have hcz33_1 := bc1_ BK261.out; have hfz33_0 := bkf9_ BK261.out 0; have hfz33_1 := bkf9_ BK261.out 1; have hcz34_0 := bc0_ BK262.out; have hcz34_1 := bc1_ BK262.out; have hfz34_0 := bkf9_ BK262.out 0; have hfz34_1 := bkf9_ BK262.out 1))
  refine bodyPost_ret (results_ct rfl _ _ gb262 26 #[.slice A0_0 l0_0.length c0_0, .slice A0_1 l0_1.length c0_1] (0, 0) _ rfl kp_ Tryd.underlying26 rfl (by kernel_rfl)) rfl ?_
  exact ⟨_, _, eW_, by (with_reducible repeat (first | apply Kd.V_alloc | apply Kd.V_drewN | apply V_drew)); exact V_mono (V_far (p := ⟨gb262, 1, none⟩) (V_far (p := ⟨gb262, 0, none⟩) (V_mono HO0_0.out (fun k_ hk => (⟨hk, hk.1.2⟩ : _ ∧ k_ ≠ gb262))) (fun _ hk => hk.2) (.slice A0_0 l0_0.length c0_0)) (fun _ hk => hk.2) (.slice A0_1 l0_1.length c0_1)) (fun _ hk => hk.1.1.1.1), by (with_reducible repeat (first | apply Kd.V_alloc | apply Kd.V_drewN | apply V_drew)); exact V_mono (V_far (p := ⟨gb262, 1, none⟩) (V_far (p := ⟨gb262, 0, none⟩) (V_mono HO0_1.out (fun k_ hk => (⟨hk, hk.1.2⟩ : _ ∧ k_ ≠ gb262))) (fun _ hk => hk.2) (.slice A0_0 l0_0.length c0_0)) (fun _ hk => hk.2) (.slice A0_1 l0_1.length c0_1)) (fun _ hk => hk.1.1.1.1), sU_⟩
 rw [if_neg c4] at H
 have c4b0 := beq_eq_false_iff_ne.mpr c4
 have c4b1 := bne_iff_ne.mpr c4
 simp only [Option.some.injEq, Prod.mk.injEq] at H
 obtain ⟨rfl, rfl, rfl⟩ := H
 go_enter Tryd.func49, Tryd.ntmps49
 go_wp2_with (first | ((with_reducible refine gate_dst (N := 2) rfl ?_); refine bx_ 2 26 #[.slice A0_0 l0_0.length c0_0, .slice A0_1 l0_1.length c0_1] ?_; intro gb261 hg w35 hbox hb; refine nx6_ (V_below (V_elderB (vU_ HO0_0.out) gb261 (Nat.le_of_eq hg.symm)) hb) (V_below (V_elderB (vU_ HO0_1.out) gb261 (Nat.le_of_eq hg.symm)) hb) (below_step (bU_ HB.out) hb) (hbox) ((hs_ hg (below_size (bU_ HB.out)))) ((hs_ hg (below_size (bU_ HB.out)))) ?_; clear HO0_0 HO0_1 HB; intro HO0_0 HO0_1 HB BK261 GW261 GE261; clear hb hbox hg) | ((with_reducible refine gate_dst (N := 4) rfl ?_); refine bx_ 4 26 #[.slice none 0 0, .slice none 0 0] ?_; intro gb262 hg w36 hbox hb; refine nx9_ (V_below (V_elderB (vU_ HO0_0.out) gb262 (Nat.le_of_eq hg.symm)) hb) (V_below (V_elderB (vU_ HO0_1.out) gb262 (Nat.le_of_eq hg.symm)) hb) (blk_below (kU_ BK261.out) hb) (below_step sU_ hb) (hbox) ((hs_ hg (below_size sU_) : w.heap.size ≤ gb262)) ((hs_ hg (below_size sU_) : w.heap.size ≤ gb262)) ((hl_ hg (kU_ BK261.out))) ((hm_ hg (kU_ BK261.out))) ?_; clear HO0_0 HO0_1 BK261 HB; intro HO0_0 HO0_1 BK261 HB BK262 GW262 GE262 NB261_262 NB262_261; clear hb hbox hg) | ((with_reducible refine gate_callee (f := 45) rfl ?_); refine gl_ (some 9) Tryd.func45 #[.int .u64 1, .int .u64 1] ?_; (with_reducible refine (ratio_Of.calls k 1 1 t263 t266 t269 _ A3.out).mono ?_); rintro e w37 ⟨v264, v267, rfl, ho0, ho1, hb⟩; refine ⟨_, rfl, ?_⟩; refine nx7_ (V_below (vU_ HO0_0.out) hb) (V_below (vU_ HO0_1.out) hb) (V_lower (V_mono (ok' := fun k_ => ((P0_0_ k_ ∨ P0_1_ k_) ∨ w.heap.size ≤ k_) ∧ k_ ≠ gb261 ∧ k_ ≠ gb262) ho0 (fun k_ hk_ => ⟨(.inr (Nat.le_trans (below_size sU_) hk_)), (freshB (kU_ BK261.out) k_ hk_), (freshB (kU_ BK262.out) k_ hk_)⟩)) (below_size sU_)) (V_lower (V_mono (ok' := fun k_ => ((P0_0_ k_ ∨ P0_1_ k_) ∨ w.heap.size ≤ k_) ∧ k_ ≠ gb261 ∧ k_ ≠ gb262) ho1 (fun k_ hk_ => ⟨(.inr (Nat.le_trans (below_size sU_) hk_)), (freshB (kU_ BK261.out) k_ hk_), (freshB (kU_ BK262.out) k_ hk_)⟩)) (below_size sU_)) (blk_below (kU_ BK261.out) hb) (blk_below (kU_ BK262.out) hb) (below_step sU_ hb) ?_; clear HO0_0 HO0_1 BK261 BK262 HB; intro HO0_0 HO0_1 HO265 HO268 BK261 BK262 HB; clear hb ho0 ho1) | ((with_reducible refine gate_dst (N := 6) rfl ?_); refine bx_ 6 26 #[.slice none 0 0, .slice none 0 0] ?_; intro gb270 hg w38 hbox hb; refine nx14_ (V_below (V_elderB (vU_ HO0_0.out) gb270 (Nat.le_of_eq hg.symm)) hb) (V_below (V_elderB (vU_ HO0_1.out) gb270 (Nat.le_of_eq hg.symm)) hb) (V_below (V_elderB (vU_ HO265.out) gb270 (Nat.le_of_eq hg.symm)) hb) (V_below (V_elderB (vU_ HO268.out) gb270 (Nat.le_of_eq hg.symm)) hb) (blk_below (kU_ BK261.out) hb) (blk_below (kU_ BK262.out) hb) (below_step sU_ hb) (hbox) ((hs_ hg (below_size sU_) : w.heap.size ≤ gb270)) ((hs_ hg (below_size sU_) : w.heap.size ≤ gb270)) ((hl_ hg (kU_ BK261.out))) ((hm_ hg (kU_ BK261.out))) ((hl_ hg (kU_ BK262.out))) ((hm_ hg (kU_ BK262.out))) ?_; clear HO0_0 HO0_1 HO265 HO268 BK261 BK262 HB; intro HO0_0 HO0_1 HO265 HO268 BK261 BK262 HB BK270 GW270 GE270 NB261_270 NB270_261 NB262_270 NB270_262; clear hb hbox hg; obtain ⟨Ao39, co39, eo39⟩ := V_slice HO265.out; subst eo39; have hnb40 := NB270_261.out; have hnc40 := NB261_270.out; have hnb41 := NB270_262.out; have hnc41 := NB262_270.out; have hcz42_0 := bc0_ BK270.out; have hcz42_1 := bc1_ BK270.out; have hfz42_0 := bkf9_ BK270.out 0; have hfz42_1 := bkf9_ BK270.out 1; obtain ⟨Ao43, co43, eo43⟩ := V_slice HO268.out; subst eo43; have hnb44 := NB261_262.out; have hnc44 := NB262_261.out; have hcz45_0 := bc0_ BK261.out; have hcz45_1 := bc1_ BK261.out; have hfz45_0 := bkf9_ BK261.out 0; have hfz45_1 := bkf9_ BK261.out 1; have hcz46_0 := bc0_ BK262.out; have hcz46_1 := bc1_ BK262.out; have hfz46_0 := bkf9_ BK262.out 0; have hfz46_1 := bkf9_ BK262.out 1))
 refine bodyPost_ret (results_ct rfl _ _ gb262 26 #[.slice A0_0 l0_0.length c0_0, .slice A0_1 l0_1.length c0_1] (0, 0) _ rfl kp_ Tryd.underlying26 rfl (by kernel_rfl)) rfl ?_
 exact ⟨_, _, eW_, by (with_reducible repeat (first | apply Kd.V_alloc | apply Kd.V_drewN | apply V_drew)); exact V_mono (V_far (p := ⟨gb262, 1, none⟩) (V_far (p := ⟨gb262, 0, none⟩) (V_far (p := ⟨gb270, 1, none⟩) (V_far (p := ⟨gb270, 0, none⟩) (V_mono (V_mono HO0_0.out (fun k_ hk => (⟨hk, hk.2⟩ : _ ∧ k_ ≠ gb270))) (fun k_ hk => (⟨hk, hk.1.1.2⟩ : _ ∧ k_ ≠ gb262))) (fun _ hk => hk.1.2) (.slice Ao39 t263.length co39)) (fun _ hk => hk.1.2) (.slice Ao43 t266.length co43)) (fun _ hk => hk.2) (.slice A0_0 l0_0.length c0_0)) (fun _ hk => hk.2) (.slice A0_1 l0_1.length c0_1)) (fun _ hk => hk.1.1.1.1.1), by (with_reducible repeat (first | apply Kd.V_alloc | apply Kd.V_drewN | apply V_drew)); exact V_mono (V_far (p := ⟨gb262, 1, none⟩) (V_far (p := ⟨gb262, 0, none⟩) (V_far (p := ⟨gb270, 1, none⟩) (V_far (p := ⟨gb270, 0, none⟩) (V_mono (V_mono HO0_1.out (fun k_ hk => (⟨hk, hk.2⟩ : _ ∧ k_ ≠ gb270))) (fun k_ hk => (⟨hk, hk.1.1.2⟩ : _ ∧ k_ ≠ gb262))) (fun _ hk => hk.1.2) (.slice Ao39 t263.length co39)) (fun _ hk => hk.1.2) (.slice Ao43 t266.length co43)) (fun _ hk => hk.2) (.slice A0_0 l0_0.length c0_0)) (fun _ hk => hk.2) (.slice A0_1 l0_1.length c0_1)) (fun _ hk => hk.1.1.1.1.1), sU_⟩

mutual
def ratio_add.j0 : Nat → List Int → List Int → Option (List Int)
 | 0, _, _ => none
 | k + 1, x0, x1 => if 0 ≤ (wrap64 ((x0.length : Int) + 1)) then (if (wrap64 ((x0.length : Int) + 1) : Int).toNat ≤ 70368744177664 then (ratio_add.l0 k x0 x1 (List.replicate (wrap64 ((x0.length : Int) + 1) : Int).toNat 0) 0 (x0.length : Int) 0) else (none)) else (none)
def ratio_add.l0 : Nat → List Int → List Int → List Int → Int → Int → Int → Option (List Int)
 | 0, _, _, _, _, _, _ => none
 | k + 1, x0, x1, x5, x6, x21, x22 => if x22 < x21 then (if x22 < (x1.length : Int) then (if 0 ≤ x22 then (if x22 < (x0.length : Int) then ((bits_Add32.f (rd x0 x22) (rd x1 x22) x6).bind fun bt277 => (if x22 < (x5.length : Int) then (ratio_add.l0 k x0 x1 (x5.set (x22 : Int).toNat bt277.1) bt277.2 x21 (wrap64 (x22 + 1))) else (none))) else (none)) else (none)) else (if 0 ≤ x22 then (if x22 < (x0.length : Int) then ((bits_Add32.f (rd x0 x22) 0 x6).bind fun bt281 => (if x22 < (x5.length : Int) then (ratio_add.l0 k x0 x1 (x5.set (x22 : Int).toNat bt281.1) bt281.2 x21 (wrap64 (x22 + 1))) else (none))) else (none)) else (none))) else (if 0 ≤ (x0.length : Int) then (if (x0.length : Int) < (x5.length : Int) then ((ratio_trim.f k (x5.set ((x0.length : Int) : Int).toNat x6)).bind fun t285 => (some t285)) else (none)) else (none))
end
def ratio_add.f (k : Nat) (l0 : List Int) (l1 : List Int) : Option (List Int) := if (l0.length : Int) < (l1.length : Int) then (ratio_add.j0 k l1 l0) else (ratio_add.j0 k l0 l1)
theorem ratio_add.mono_l : ∀ k, (∀ y0 y1, LeO (ratio_add.j0 k y0 y1) (ratio_add.j0 (k + 1) y0 y1)) ∧ (∀ y0 y1 y2 y3 y4 y5, LeO (ratio_add.l0 k y0 y1 y2 y3 y4 y5) (ratio_add.l0 (k + 1) y0 y1 y2 y3 y4 y5))
 | 0 => ⟨fun _ _ r h => by simp [ratio_add.j0] at h, fun _ _ _ _ _ _ r h => by simp [ratio_add.l0] at h⟩
 | k + 1 => by
  obtain ⟨ih0, ih1⟩ := ratio_add.mono_l k
  refine ⟨?_, ?_⟩
  ·intro y0 y1
   unfold ratio_add.j0
   with_reducible repeat' first | apply ih0 | apply ih1 | apply ratio_trim.mono | exact LeO.refl _ | exact LeO.none _ | refine LeO.ite ?_ ?_ | refine LeO.bind ?_ (fun _ => ?_)
  intro y0 y1 y2 y3 y4 y5
  unfold ratio_add.l0
  with_reducible repeat' first | apply ih0 | apply ih1 | apply ratio_trim.mono | exact LeO.refl _ | exact LeO.none _ | refine LeO.ite ?_ ?_ | refine LeO.bind ?_ (fun _ => ?_)
theorem ratio_add.mono : ∀ a0 a1 k, LeO (ratio_add.f k a0 a1) (ratio_add.f (k + 1) a0 a1) := by
 intro a0 a1 k
 obtain ⟨ih0, ih1⟩ := ratio_add.mono_l k
 unfold ratio_add.f
 with_reducible repeat' first | apply ih0 | apply ih1 | apply ratio_trim.mono | exact LeO.refl _ | exact LeO.none _ | refine LeO.ite ?_ ?_ | refine LeO.bind ?_ (fun _ => ?_)
set_option maxHeartbeats 8000000 in
set_option maxRecDepth 100000 in
theorem ratio_add.calls (k : Nat) (P0_ : Nat → Prop) (A0 : Option Addr) (c0 : Nat) (l0 : List Int) (P1_ : Nat → Prop) (A1 : Option Addr) (c1 : Nat) (l1 : List Int) (r : List Int) (w : World) (hs0 : Kd.V (Kd.int .u32) 115 w w.heap.size (fun k_ => P0_ k_) (.slice A0 l0.length c0) l0) (hs1 : Kd.V (Kd.int .u32) 115 w w.heap.size (fun k_ => P1_ k_) (.slice A1 l1.length c1) l1) (h : ratio_add.f k l0 l1 = some r) :
  Calls Tryd.prog 99 #[.slice A0 l0.length c0, .slice A1 l1.length c1] w fun e w' => ∃ v0_ : Value, e = .returned (v0_) ∧ Kd.V (Kd.int .u32) 115 w' w.heap.size (fun k_ => ((P0_ k_ ∨ P1_ k_) ∨ w.heap.size ≤ k_)) v0_ r ∧ Below w.heap.size w w' := by
 have HO0 := ak (show Kd.V (Kd.int .u32) 115 w w.heap.size (fun k_ => ((P0_ k_ ∨ P1_ k_) ∨ w.heap.size ≤ k_)) (.slice A0 l0.length c0) l0 from V_mono hs0 (fun k_ hk => .inl (.inl hk)))
 have HO1 := ak (show Kd.V (Kd.int .u32) 115 w w.heap.size (fun k_ => ((P0_ k_ ∨ P1_ k_) ∨ w.heap.size ≤ k_)) (.slice A1 l1.length c1) l1 from V_mono hs1 (fun k_ hk => .inl (.inr hk)))
 have HB := ak (Below.refl w.heap.size w)
 have H : (if (l0.length : Int) < (l1.length : Int) then (ratio_add.j0 k l1 l0) else (ratio_add.j0 k l0 l1)) = some r := h
 clear h
 have HC3 := ak H
 clear H
 go_enter Tryd.func99, Tryd.ntmps99
 go_upto_if 13 with (fail)
 go_cut [0, 1] (fun v0 v1 wc => ∃ (kq : Nat) (x0_2 : List Int) (x1_2 : List Int), Aside0 (ratio_add.j0 kq x0_2 x1_2 = some r) ∧ Aside0 (kq ≤ k) ∧ Aside0 (Kd.V (Kd.int .u32) 115 wc w.heap.size (fun k_ => ((P0_ k_ ∨ P1_ k_) ∨ w.heap.size ≤ k_)) v0 x0_2) ∧ Aside0 (Kd.V (Kd.int .u32) 115 wc w.heap.size (fun k_ => ((P0_ k_ ∨ P1_ k_) ∨ w.heap.size ≤ k_)) v1 x1_2) ∧ Aside0 (Below w.heap.size w wc))
 case first =>
  have H := HC3.out
  clear HC3
  by_cases c4 : (l0.length : Int) < (l1.length : Int)
  ·rw [if_pos c4] at H
   have c4b0 := decide_eq_true c4
   have c4b1 : decide (l0.length < l1.length) = true := decide_eq_true (Int.ofNat_lt.mp c4)
   clear c4
   (first | rw [c4b0] | (simp only [i64_w, i32_w]; rw [c4b0]) | rw [c4b1] | skip)
   have H' := ak H
   clear H
   go_wp2
   go_meet
   case rel => exact ⟨_, (l1), (l0), H', ⟨by first | omega | exact Nat.le_refl _⟩, ⟨vU_ HO1.out⟩, ⟨vU_ HO0.out⟩, ⟨bU_ HB.out⟩⟩
  rw [if_neg c4] at H
  have c4b0 := decide_eq_false c4
  have c4b1 : decide (l0.length < l1.length) = false := decide_eq_false (fun h => c4 (Int.ofNat_lt.mpr h))
  clear c4
  (first | rw [c4b0] | (simp only [i64_w, i32_w]; rw [c4b0]) | rw [c4b1] | skip)
  have H' := ak H
  clear H
  go_wp2
  go_meet
  case rel => exact ⟨_, (l0), (l1), H', ⟨by first | omega | exact Nat.le_refl _⟩, ⟨vU_ HO0.out⟩, ⟨vU_ HO1.out⟩, ⟨bU_ HB.out⟩⟩
 case rest =>
  clear HC3
  (try clear c1); (try clear p2); (try clear c4); (try clear c4b0); (try clear c4b1)
  obtain ⟨kq, x0_2, x1_2, HA, HJ2, HO_0, HO_1, HB⟩ := hcut
  cases kq with
  | zero => exact absurd HA.out (by simp [ratio_add.j0])
  | succ kj2 =>
   have H := HA.out
   clear HA
   simp only [ratio_add.j0] at H
   obtain ⟨ji5, hji5⟩ : ∃ j_ : Int, (wrap64 ((x0_2.length : Int) + 1)) = j_ := ⟨_, rfl⟩
   first | rw [hji5] at H | simp only [hji5] at H
   have hji5w : (IntKind.i64.wrap ((x0_2.length : Int) + 1)) = ji5 := (i64_w _).trans hji5
   obtain ⟨c6, H⟩ : (0 ≤ (ji5)) ∧ _ := it_ H
   have c6b0 := eq_true c6
   have c6b1 := decide_eq_true c6
   clear c6
   obtain ⟨c7, H⟩ : ((ji5 : Int).toNat ≤ 70368744177664) ∧ _ := it_ H
   have c7b0 := eq_true c7
   have c7b1 := decide_eq_true c7
   clear c7
   obtain ⟨y272, hy272⟩ : ∃ y_ : List Int, y_ = (List.replicate (ji5 : Int).toNat 0) := ⟨_, rfl⟩
   first | rw [Option.bind_some, ← hy272] at H | rw [← hy272] at H
   have Ny272 := ak hy272
   clear hy272
   have H' := ak H
   clear H
   obtain ⟨Ao8, co8, eo8⟩ := V_slice HO_0.out
   subst eo8
   go_wp2_with (first | ((with_reducible refine gate_dst (N := 19) rfl ?_); refine R_make (Kd.int .u32) _ 115 rfl (N := 19) rfl 23 _ _ rfl ji5 ?hx ?hy Tryd.underlying23 (.int .u32 0) 4 info115 rfl (by decide) (by omega) 0 (ok := fun _ => True) (okp := fun _ => True) rfl (fun _ hk => hk) trivial od_ (Nat.le_trans (Nat.mul_le_mul_right _ (od_ : ji5.toNat ≤ 70368744177664)) (by omega)) (Below.refl _ _) (Nat.le_refl _) ?_; (case hx => first | rfl | (simp only [hji5]; rfl)); (case hy => first | rfl | (simp only [hji5]; rfl)); intro v273 w9 ho10 hb hg_ hnew_; clear hg_ hnew_; (first | rw [← Ny272.out] at ho10 | (simp only [Int.reduceToNat] at ho10; rw [← Ny272.out] at ho10)); refine nx4_ (V_elder' (vU_ HO_0.out) (R_base ho10) hb) (V_elder' (vU_ HO_1.out) (R_base ho10) hb) (R_lower (R_newM (M := fun k_ => (w.heap.size ≤ k_)) ho10 (below_size (bU_ HB.out)) (fun k_ h_ => h_)) (below_size (bU_ HB.out))) (below_step (bU_ HB.out) hb) ?_; clear HO_0 HO_1 HB; intro HO_0 HO_1 HO274 HB; clear hb ho10))
   go_loopg [6, 22] kj2 (fun kq v6 v22 w' => ∃ (x5_2 : List Int) (x6_2 : Int) (x22_2 : Int), v6 = .int .u32 x6_2 ∧ v22 = .int .i64 x22_2 ∧ Aside0 (ratio_add.l0 kq x0_2 x1_2 x5_2 x6_2 (x0_2.length : Int) x22_2 = some r) ∧ Aside0 (kq ≤ kj2) ∧ Aside0 (Kd.V (Kd.int .u32) 115 w' w.heap.size (fun k_ => ((P0_ k_ ∨ P1_ k_) ∨ w.heap.size ≤ k_) ∧ some k_ ≠ (v273 : Value).ownBlock) (.slice Ao8 x0_2.length co8) x0_2) ∧ Aside0 (Kd.V (Kd.int .u32) 115 w' w.heap.size (fun k_ => ((P0_ k_ ∨ P1_ k_) ∨ w.heap.size ≤ k_) ∧ some k_ ≠ (v273 : Value).ownBlock) u1 x1_2) ∧ Aside0 (Kd.R (Kd.int .u32) 115 w' w.heap.size (fun k_ => (w.heap.size ≤ k_)) v273 x5_2) ∧ Aside0 (Below w.heap.size w w'))
   case atStart => exact ⟨(y272), (0), (0), gb_, gb_, H', ⟨Nat.le_refl _⟩, ⟨vU_ HO_0.out⟩, ⟨vU_ HO_1.out⟩, ⟨R_mono (rU_ HO274.out) (fun _ hk => hk.1)⟩, ⟨bU_ HB.out⟩⟩
   case round =>
    clear H'
    (try clear c1); (try clear p2); (try clear c4); (try clear c4b0); (try clear c4b1); (try clear c6); (try clear c6b0); (try clear c6b1); (try clear p6); (try clear c7); (try clear c7b0); (try clear c7b1); (try clear c9)
    obtain ⟨x5_2, x6_2, x22_2, rfl, rfl, HA, HK2, HO_0, HO_1, HO_5, HB⟩ := hrel
    cases gk with
    | zero => exact absurd HA.out (by simp [ratio_add.l0])
    | succ k2 =>
     have H := HA.out
     clear HA
     simp only [ratio_add.l0] at H
     by_cases c11 : x22_2 < (x0_2.length : Int)
     ·rw [if_pos c11] at H
      have c11b0 := decide_eq_true c11
      clear c11
      by_cases c12 : x22_2 < (x1_2.length : Int)
      ·rw [if_pos c12] at H
       have c12b0 := decide_eq_true c12
       clear c12
       obtain ⟨c13, H⟩ : (0 ≤ x22_2) ∧ _ := it_ H
       have c13b0 := decide_eq_true c13
       clear c13
       obtain ⟨c14, H⟩ : (x22_2 < (x0_2.length : Int)) ∧ _ := it_ H
       have c14b0 := decide_eq_true c14
       clear c14
       revert H
       refine bd2_ fun t277 t278 A15 H => ?_
       try dsimp only at H
       obtain ⟨c16, H⟩ : (x22_2 < (x5_2.length : Int)) ∧ _ := it_ H
       have c16b0 := decide_eq_true c16
       clear c16
       obtain ⟨y279, hy279⟩ : ∃ y_ : List Int, y_ = (x5_2.set (x22_2 : Int).toNat t277) := ⟨_, rfl⟩
       first | rw [Option.bind_some, ← hy279] at H | rw [← hy279] at H
       have Ny279 := ak hy279
       clear hy279
       have H' := ak H
       clear H
       obtain ⟨Ao18, co18, eo18⟩ := V_slice HO_1.out
       subst eo18
       have p275 : 0 ≤ (x22_2 : Int) := od_
       have q275 : x22_2 < (x1_2.length : Int) := od_
       obtain ⟨ad275, e275, hx275_0⟩ := Kd.at_int (V_reads' HO_1.out).2.2 x22_2 p275 q275
       cases e275
       replace p275 := eq_true p275
       replace q275 := eq_true q275
       have p276 : 0 ≤ (x22_2 : Int) := od_
       have q276 : x22_2 < (x0_2.length : Int) := od_
       obtain ⟨ad276, e276, hx276_0⟩ := Kd.at_int (V_reads' HO_0.out).2.2 x22_2 p276 q276
       cases e276
       replace p276 := eq_true p276
       replace q276 := eq_true q276
       go_wp2_with (first | ((with_reducible refine gate_callee (f := 124) rfl ?_); refine gl_ (some 42) Tryd.func124 #[.int .u32 (rd x0_2 x22_2), .int .u32 (rd x1_2 x22_2), .int .u32 x6_2] ?_; (with_reducible refine (bits_Add32.calls (rd x0_2 x22_2) (rd x1_2 x22_2) x6_2 t277 t278 _ A15.out).mono ?_); rintro e w' ⟨rfl, ⟨nd, rfl⟩⟩; refine ⟨_, rfl, ?_⟩; (try (rw [drewN_self wr]; generalize hq_ : World.drewN wr _ = wr; have n0_ : Aside0 (Kd.V (Kd.int .u32) 115 wr w.heap.size (fun k_ => ((P0_ k_ ∨ P1_ k_) ∨ w.heap.size ≤ k_) ∧ some k_ ≠ (v273 : Value).ownBlock) (.slice (some ad276) x0_2.length co8) x0_2) := ⟨by rw [← hq_]; exact (vU_ HO_0.out)⟩; have n1_ : Aside0 (Kd.V (Kd.int .u32) 115 wr w.heap.size (fun k_ => ((P0_ k_ ∨ P1_ k_) ∨ w.heap.size ≤ k_) ∧ some k_ ≠ (v273 : Value).ownBlock) (.slice (some ad275) x1_2.length co18) x1_2) := ⟨by rw [← hq_]; exact (vU_ HO_1.out)⟩; have n2_ : Aside0 (Kd.R (Kd.int .u32) 115 wr w.heap.size (fun k_ => (w.heap.size ≤ k_)) v273 x5_2) := ⟨by rw [← hq_]; exact (rU_ HO_5.out)⟩; have n3_ : Aside0 (Below w.heap.size w wr) := ⟨by rw [← hq_]; exact (bU_ HB.out)⟩; clear HO_0 HO_1 HO_5 HB hq_; have HO_0 := n0_; have HO_1 := n1_; have HO_5 := n2_; have HB := n3_; clear n0_ n1_ n2_ n3_)); have p17 : 0 ≤ (x22_2 : Int) := od_; have q17 : (x22_2 : Int) < ((x5_2.length : Int) : Int) := od_; obtain ⟨go17, co17, eo17, gb17, gl17, cl17, HG17⟩ := Kd.R_form HO_5.out (by omega); (first | cases eo17 | (injection eo17 with ea_ en_ ec_; (first | subst ea_ | (injection ea_ with ea_; subst ea_)); subst ec_; clear en_)); have GB17 := ak gb17; have GG17 := ak HG17; clear gb17 gl17 HG17; obtain ⟨hx17_0, hf17_0⟩ := Kd.R_celln 0 HO_5.out (x22_2 : Int) p17 q17; replace p17 := eq_true p17; replace q17 := eq_true q17; obtain ⟨hy19_, hz19_⟩ := Kd.R_celln 0 HO_5.out (x22_2 : Int) od_ od_; have HP19 := Kd.R_putg HO_5.out (x22_2 : Int) t277) | ((with_reducible refine gate_store (t := 115) (p := 45) rfl ?_); refine store_event (t := 115) (p := 45) (v := ?vo_w20) (w1 := (wr.setCell ⟨go17, (x22_2 : Int).toNat, none⟩ (.int .u32 t277))) ?hg ?ho ?hn ?hr ?_; (case ho => rfl); (case hg => rfl); (case hn => rfl); (case hr => first | (go_simp; done) | (go_simp; rfl)); intro w20 hw; have hg : wr.grownBy w20 (some go17) := (by rw [hw]; exact HP19.2); have hp_ : Kd.R (Kd.int .u32) 115 w20 w.heap.size (fun k_ => (w.heap.size ≤ k_)) (.slice (some ⟨go17, 0, none⟩) x5_2.length co17) y279 := (by rw [hw, Ny279.out]; exact HP19.1); clear HP19; refine nx4_ (Kd.V_afterv (v := (.slice (some ⟨go17, 0, none⟩) x5_2.length co17)) (v1 := (.slice (some ⟨go17, 0, none⟩) x5_2.length co17)) (ok := (fun k_ => ((P0_ k_ ∨ P1_ k_) ∨ w.heap.size ≤ k_))) (vU_ HO_0.out) hg (.inl rfl)) (Kd.V_afterv (v := (.slice (some ⟨go17, 0, none⟩) x5_2.length co17)) (v1 := (.slice (some ⟨go17, 0, none⟩) x5_2.length co17)) (ok := (fun k_ => ((P0_ k_ ∨ P1_ k_) ∨ w.heap.size ≤ k_))) (vU_ HO_1.out) hg (.inl rfl)) (hp_) ((by rw [hw]; exact below_set (HB.out) GB17.out : Below w.heap.size w w20)) ?_; clear HO_0 HO_1 HO_5 HB; intro HO_0 HO_1 HO_5 HB; clear hg hw hp_))
       go_roundg k2
       case measure => have := HJ2.out; have := HK2.out; omega
       case rel => exact ⟨(y279), (t278), (wrap64 (x22_2 + 1)), gb_, gb_, H', ⟨by have := HJ2.out; have := HK2.out; omega⟩, ⟨vU_ HO_0.out⟩, ⟨vU_ HO_1.out⟩, ⟨rU_ HO_5.out⟩, ⟨bU_ HB.out⟩⟩
      rw [if_neg c12] at H
      have c12b0 := decide_eq_false c12
      clear c12
      obtain ⟨c21, H⟩ : (0 ≤ x22_2) ∧ _ := it_ H
      have c21b0 := decide_eq_true c21
      clear c21
      obtain ⟨c22, H⟩ : (x22_2 < (x0_2.length : Int)) ∧ _ := it_ H
      have c22b0 := decide_eq_true c22
      clear c22
      revert H
      refine bd2_ fun t281 t282 A23 H => ?_
      try dsimp only at H
      obtain ⟨c24, H⟩ : (x22_2 < (x5_2.length : Int)) ∧ _ := it_ H
      have c24b0 := decide_eq_true c24
      clear c24
      obtain ⟨y283, hy283⟩ : ∃ y_ : List Int, y_ = (x5_2.set (x22_2 : Int).toNat t281) := ⟨_, rfl⟩
      first | rw [Option.bind_some, ← hy283] at H | rw [← hy283] at H
      have Ny283 := ak hy283
      clear hy283
      have H' := ak H
      clear H
      obtain ⟨Ao26, co26, eo26⟩ := V_slice HO_1.out
      subst eo26
      have p280 : 0 ≤ (x22_2 : Int) := od_
      have q280 : x22_2 < (x0_2.length : Int) := od_
      obtain ⟨ad280, e280, hx280_0⟩ := Kd.at_int (V_reads' HO_0.out).2.2 x22_2 p280 q280
      cases e280
      replace p280 := eq_true p280
      replace q280 := eq_true q280
      go_wp2_with (first | ((with_reducible refine gate_callee (f := 124) rfl ?_); refine gl_ (some 42) Tryd.func124 #[.int .u32 (rd x0_2 x22_2), .int .u32 0, .int .u32 x6_2] ?_; (with_reducible refine (bits_Add32.calls (rd x0_2 x22_2) 0 x6_2 t281 t282 _ A23.out).mono ?_); rintro e w' ⟨rfl, ⟨nd, rfl⟩⟩; refine ⟨_, rfl, ?_⟩; (try (rw [drewN_self wr]; generalize hq_ : World.drewN wr _ = wr; have n0_ : Aside0 (Kd.V (Kd.int .u32) 115 wr w.heap.size (fun k_ => ((P0_ k_ ∨ P1_ k_) ∨ w.heap.size ≤ k_) ∧ some k_ ≠ (v273 : Value).ownBlock) (.slice (some ad280) x0_2.length co8) x0_2) := ⟨by rw [← hq_]; exact (vU_ HO_0.out)⟩; have n1_ : Aside0 (Kd.V (Kd.int .u32) 115 wr w.heap.size (fun k_ => ((P0_ k_ ∨ P1_ k_) ∨ w.heap.size ≤ k_) ∧ some k_ ≠ (v273 : Value).ownBlock) (.slice Ao26 x1_2.length co26) x1_2) := ⟨by rw [← hq_]; exact (vU_ HO_1.out)⟩; have n2_ : Aside0 (Kd.R (Kd.int .u32) 115 wr w.heap.size (fun k_ => (w.heap.size ≤ k_)) v273 x5_2) := ⟨by rw [← hq_]; exact (rU_ HO_5.out)⟩; have n3_ : Aside0 (Below w.heap.size w wr) := ⟨by rw [← hq_]; exact (bU_ HB.out)⟩; clear HO_0 HO_1 HO_5 HB hq_; have HO_0 := n0_; have HO_1 := n1_; have HO_5 := n2_; have HB := n3_; clear n0_ n1_ n2_ n3_)); have p25 : 0 ≤ (x22_2 : Int) := od_; have q25 : (x22_2 : Int) < ((x5_2.length : Int) : Int) := od_; obtain ⟨go25, co25, eo25, gb25, gl25, cl25, HG25⟩ := Kd.R_form HO_5.out (by omega); (first | cases eo25 | (injection eo25 with ea_ en_ ec_; (first | subst ea_ | (injection ea_ with ea_; subst ea_)); subst ec_; clear en_)); have GB25 := ak gb25; have GG25 := ak HG25; clear gb25 gl25 HG25; obtain ⟨hx25_0, hf25_0⟩ := Kd.R_celln 0 HO_5.out (x22_2 : Int) p25 q25; replace p25 := eq_true p25; replace q25 := eq_true q25; obtain ⟨hy27_, hz27_⟩ := Kd.R_celln 0 HO_5.out (x22_2 : Int) od_ od_; have HP27 := Kd.R_putg HO_5.out (x22_2 : Int) t281) | ((with_reducible refine gate_store (t := 115) (p := 45) rfl ?_); refine store_event (t := 115) (p := 45) (v := ?vo_w28) (w1 := (wr.setCell ⟨go25, (x22_2 : Int).toNat, none⟩ (.int .u32 t281))) ?hg ?ho ?hn ?hr ?_; (case ho => rfl); (case hg => rfl); (case hn => rfl); (case hr => first | (go_simp; done) | (go_simp; rfl)); intro w28 hw; have hg : wr.grownBy w28 (some go25) := (by rw [hw]; exact HP27.2); have hp_ : Kd.R (Kd.int .u32) 115 w28 w.heap.size (fun k_ => (w.heap.size ≤ k_)) (.slice (some ⟨go25, 0, none⟩) x5_2.length co25) y283 := (by rw [hw, Ny283.out]; exact HP27.1); clear HP27; refine nx4_ (Kd.V_afterv (v := (.slice (some ⟨go25, 0, none⟩) x5_2.length co25)) (v1 := (.slice (some ⟨go25, 0, none⟩) x5_2.length co25)) (ok := (fun k_ => ((P0_ k_ ∨ P1_ k_) ∨ w.heap.size ≤ k_))) (vU_ HO_0.out) hg (.inl rfl)) (Kd.V_afterv (v := (.slice (some ⟨go25, 0, none⟩) x5_2.length co25)) (v1 := (.slice (some ⟨go25, 0, none⟩) x5_2.length co25)) (ok := (fun k_ => ((P0_ k_ ∨ P1_ k_) ∨ w.heap.size ≤ k_))) (vU_ HO_1.out) hg (.inl rfl)) (hp_) ((by rw [hw]; exact below_set (HB.out) GB25.out : Below w.heap.size w w28)) ?_; clear HO_0 HO_1 HO_5 HB; intro HO_0 HO_1 HO_5 HB; clear hg hw hp_))
      go_roundg k2
      case measure => have := HJ2.out; have := HK2.out; omega
      case rel => exact ⟨(y283), (t282), (wrap64 (x22_2 + 1)), gb_, gb_, H', ⟨by have := HJ2.out; have := HK2.out; omega⟩, ⟨vU_ HO_0.out⟩, ⟨vU_ HO_1.out⟩, ⟨rU_ HO_5.out⟩, ⟨bU_ HB.out⟩⟩
     rw [if_neg c11] at H
     have c11b0 := decide_eq_false c11
     clear c11
     obtain ⟨c29, H⟩ : (0 ≤ (x0_2.length : Int)) ∧ _ := it_ H
     have c29b0 := decide_eq_true c29
     have c29b1 : decide (0 ≤ x0_2.length) = true := decide_eq_true (by omega)
     clear c29
     obtain ⟨c30, H⟩ : ((x0_2.length : Int) < (x5_2.length : Int)) ∧ _ := it_ H
     have c30b0 := decide_eq_true c30
     have c30b1 : decide (x0_2.length < x5_2.length) = true := decide_eq_true (Int.ofNat_lt.mp c30)
     clear c30
     obtain ⟨y284, hy284⟩ : ∃ y_ : List Int, y_ = (x5_2.set ((x0_2.length : Int) : Int).toNat x6_2) := ⟨_, rfl⟩
     first | rw [Option.bind_some, ← hy284] at H | rw [← hy284] at H
     have Ny284 := ak hy284
     clear hy284
     revert H
     refine bd_ fun t285 A32 H => ?_
     obtain rfl := Option.some.inj H
     have p31 : 0 ≤ ((x0_2.length : Int) : Int) := od_
     have q31 : ((x0_2.length : Int) : Int) < ((x5_2.length : Int) : Int) := od_
     obtain ⟨go31, co31, eo31, gb31, gl31, cl31, HG31⟩ := Kd.R_form HO_5.out (by omega)
     (first | cases eo31 | (injection eo31 with ea_ en_ ec_; (first | subst ea_ | (injection ea_ with ea_; subst ea_)); subst ec_; clear en_))
     have GB31 := ak gb31
     have GG31 := ak HG31
     clear gb31 gl31 HG31
     obtain ⟨hx31_0, hf31_0⟩ := Kd.R_celln 0 HO_5.out ((x0_2.length : Int) : Int) p31 q31
     (try simp only [Int.toNat_natCast] at hx31_0 hf31_0)
     replace p31 := eq_true p31
     replace q31 := eq_true q31
     have HP33 := Kd.R_putg HO_5.out ((x0_2.length : Int) : Int) x6_2
     go_wp2_with (first | ((with_reducible refine gate_store (t := 115) (p := 51) rfl ?_); refine store_event (t := 115) (p := 51) (v := ?vo_w34) (w1 := (wr.setCell ⟨go31, ((x0_2.length : Int) : Int).toNat, none⟩ (.int .u32 x6_2))) ?hg ?ho ?hn ?hr ?_; (case ho => rfl); (case hg => rfl); (case hn => rfl); (case hr => first | (go_simp; done) | (go_simp; rfl)); intro w34 hw; have hg : wr.grownBy w34 (some go31) := (by rw [hw]; exact HP33.2); have hp_ : Kd.R (Kd.int .u32) 115 w34 w.heap.size (fun k_ => (w.heap.size ≤ k_)) (.slice (some ⟨go31, 0, none⟩) x5_2.length co31) y284 := (by rw [hw, Ny284.out]; exact HP33.1); clear HP33; refine nx4_ (Kd.V_afterv (v := (.slice (some ⟨go31, 0, none⟩) x5_2.length co31)) (v1 := (.slice (some ⟨go31, 0, none⟩) x5_2.length co31)) (ok := (fun k_ => ((P0_ k_ ∨ P1_ k_) ∨ w.heap.size ≤ k_))) (vU_ HO_0.out) hg (.inl rfl)) (Kd.V_afterv (v := (.slice (some ⟨go31, 0, none⟩) x5_2.length co31)) (v1 := (.slice (some ⟨go31, 0, none⟩) x5_2.length co31)) (ok := (fun k_ => ((P0_ k_ ∨ P1_ k_) ∨ w.heap.size ≤ k_))) (vU_ HO_1.out) hg (.inl rfl)) (hp_) ((by rw [hw]; exact below_set (HB.out) GB31.out : Below w.heap.size w w34)) ?_; clear HO_0 HO_1 HO_5 HB; intro HO_0 HO_1 HO_5 HB; clear hg hw hp_) | ((with_reducible refine gate_callee (f := 121) rfl ?_); refine goesL_ (some 53) rfl rfl Tryd.func121 (by kernel_rfl) rfl #[.slice (some ⟨go31, 0, none⟩) y284.length co31] rfl (by (try simp only [List.map_toArray, List.map_cons, List.map_nil]); first | done | (rw [show y284.length = x5_2.length from (R_reads' HO_5.out).1.symm] <;> rfl) | rfl | (simp only [List.length_drop, List.length_take]; rfl)) ?_; (with_reducible refine (ratio_trim.calls k2 (fun k_ => some k_ = (.slice (some ⟨go31, 0, none⟩) x5_2.length co31 : Value).ownBlock) _ _ y284 t285 _ ?side1 A32.out).mono ?_); (case side1 => rw [show y284.length = x5_2.length from (R_reads' HO_5.out).1.symm]; exact R_V (R_tight rfl (HO_5.out))); rintro e w35 ⟨v286, rfl, ho0, hb⟩; refine ⟨_, rfl, ?_⟩; refine nx5_ (V_below (vU_ HO_0.out) hb) (V_below (vU_ HO_1.out) hb) (R_below (rU_ HO_5.out) hb) (V_lower (V_mono (ok' := fun k_ => ((P0_ k_ ∨ P1_ k_) ∨ w.heap.size ≤ k_)) ho0 (fun k_ hk_ => Or.elim hk_ (fun hs_ => (.inr (((HO_5.out).1 k_ hs_.symm)))) (fun hn_ => (.inr (Nat.le_trans (below_size (bU_ HB.out)) hn_))))) (below_size (bU_ HB.out))) (below_step (bU_ HB.out) hb) ?_; clear HO_0 HO_1 HO_5 HB; intro HO_0 HO_1 HO_5 HO287 HB; clear hb ho0))
     go_ret
     exact ⟨_, by first | rfl | (simp [errW_none, errW_some] <;> rfl) | (simp only [← hji5]; first | rfl | (simp [errW_none, errW_some] <;> rfl)) | (simp [*, errW_none, errW_some] <;> rfl), vU_ HO287.out, bU_ HB.out⟩

def ratio_Add.j0 : Nat → Bool → List Int → List Int → List Int → List Int → Option (List Int × List Int × Int)
 | 0, _, _, _, _, _ => none
 | k + 1, x13, x289000, x289001, x290000, x290001 => if x13 = true then (some (([] : List Int), ([] : List Int), 1)) else ((ratio_mul.f k x289000 x290001).bind fun t293 => ((ratio_mul.f k x290000 x289001).bind fun t296 => ((ratio_add.f k t293 t296).bind fun t299 => ((ratio_mul.f k x289001 x290001).bind fun t302 => ((ratio_lowest.f k t299 t302).bind fun bt305 => (some (bt305.1, bt305.2.1, bt305.2.2)))))))
def ratio_Add.f (k : Nat) (l0_0 : List Int) (l0_1 : List Int) (l1_0 : List Int) (l1_1 : List Int) : Option (List Int × List Int × Int) := (ratio_Valid.f k l0_0 l0_1).bind fun t291 => (if t291 = true then ((ratio_Valid.f k l1_0 l1_1).bind fun t292 => (ratio_Add.j0 k (!t292) l0_0 l0_1 l1_0 l1_1)) else (ratio_Add.j0 k true l0_0 l0_1 l1_0 l1_1))
theorem ratio_Add.mono_l : ∀ k, (∀ y0 y1 y2 y3 y4, LeO (ratio_Add.j0 k y0 y1 y2 y3 y4) (ratio_Add.j0 (k + 1) y0 y1 y2 y3 y4))
 | 0 => fun _ _ _ _ _ r h => by simp [ratio_Add.j0] at h
 | k + 1 => by
  have ih0 := ratio_Add.mono_l k
  ·intro y0 y1 y2 y3 y4
   unfold ratio_Add.j0
   with_reducible repeat' first | apply ih0 | apply ratio_Valid.mono | apply ratio_add.mono | apply ratio_lowest.mono | apply ratio_mul.mono | exact LeO.refl _ | exact LeO.none _ | refine LeO.ite ?_ ?_ | refine LeO.bind ?_ (fun _ => ?_)
theorem ratio_Add.mono : ∀ a0 a1 a2 a3 k, LeO (ratio_Add.f k a0 a1 a2 a3) (ratio_Add.f (k + 1) a0 a1 a2 a3) := by
 intro a0 a1 a2 a3 k
 have ih0 := ratio_Add.mono_l k
 unfold ratio_Add.f
 with_reducible repeat' first | apply ih0 | apply ratio_Valid.mono | apply ratio_add.mono | apply ratio_lowest.mono | apply ratio_mul.mono | exact LeO.refl _ | exact LeO.none _ | refine LeO.ite ?_ ?_ | refine LeO.bind ?_ (fun _ => ?_)
def ratio_Add.T3 : Bool × List (List Nat × List Nat) := (true, [([], []), ([0], [0]), ([], []), ([2], [2]), ([1, 3], [1, 3]), ([], []), ([5], [5]), ([], []), ([7], [7]), ([6, 8, 4], [6, 8]), ([4, 9, 9], [4, 9]), ([], []), ([11], [11]), ([], []), ([13], [13]), ([12, 14, 10], [12, 14]), ([10, 15, 15], [10, 15]), ([16], [16]), ([16], [16]), ([17, 16, 0, 1, 2, 3, 4, 5, 6, 7, 8, 9, 10, 11, 12, 13, 14, 15, 16, 17, 18], [17]), ([18, 19, 0, 1, 2, 3, 4, 5, 6, 7, 8, 9, 10, 11, 12, 13, 14, 15, 16, 17, 18, 19], [18])])
def ratio_Add.B3 : List Nat := [0, 1, 0, 4, 15, 0, 32, 0, 128, 511, 1023, 0, 2048, 0, 8192, 32767, 65535, 131071, 131071, 524287, 1048575]
theorem ratio_Add.tab3 : rtab .any (opsOf Tryd.f50 3) = ratio_Add.T3 := by kernel_rfl
theorem ratio_Add.bits3 : waitsOk ratio_Add.T3.2 ratio_Add.B3 = true := by kernel_rfl
set_option maxHeartbeats 8000000 in
set_option maxRecDepth 100000 in
theorem ratio_Add.calls (k : Nat) (A0_0 : Option Addr) (c0_0 : Nat) (l0_0 : List Int) (A0_1 : Option Addr) (c0_1 : Nat) (l0_1 : List Int) (A1_0 : Option Addr) (c1_0 : Nat) (l1_0 : List Int) (A1_1 : Option Addr) (c1_1 : Nat) (l1_1 : List Int) (r1 : List Int) (r2 : List Int) (r3 : Int) (w : World) (hr0_0 : Kd.C (Kd.int .u32) w A0_0 l0_0.length l0_0) (hc0_0 : l0_0.length ≤ c0_0) (hr0_1 : Kd.C (Kd.int .u32) w A0_1 l0_1.length l0_1) (hc0_1 : l0_1.length ≤ c0_1) (hr1_0 : Kd.C (Kd.int .u32) w A1_0 l1_0.length l1_0) (hc1_0 : l1_0.length ≤ c1_0) (hr1_1 : Kd.C (Kd.int .u32) w A1_1 l1_1.length l1_1) (hc1_1 : l1_1.length ≤ c1_1) (h : ratio_Add.f k l0_0 l0_1 l1_0 l1_1 = some (r1, r2, r3)) :
  Calls Tryd.prog 50 #[.agg #[.slice A0_0 l0_0.length c0_0, .slice A0_1 l0_1.length c0_1], .agg #[.slice A1_0 l1_0.length c1_0, .slice A1_1 l1_1.length c1_1]] w fun e w' => ∃ v0_ v1_ : Value, e = .returned (.tuple #[.agg #[v0_, v1_], .int .i64 r3]) ∧ Kd.V (Kd.int .u32) 115 w' w.heap.size (fun k_ => (w.heap.size ≤ k_)) v0_ r1 ∧ Kd.V (Kd.int .u32) 115 w' w.heap.size (fun k_ => (w.heap.size ≤ k_)) v1_ r2 ∧ Below w.heap.size w w' := by
 have hu26 := Tryd.underlying26
 have HR0_0 := ak hr0_0
 have HC0_0 := ak hc0_0
 clear hr0_0 hc0_0
 have HR0_1 := ak hr0_1
 have HC0_1 := ak hc0_1
 clear hr0_1 hc0_1
 have HR1_0 := ak hr1_0
 have HC1_0 := ak hc1_0
 clear hr1_0 hc1_0
 have HR1_1 := ak hr1_1
 have HC1_1 := ak hc1_1
 clear hr1_1 hc1_1
 have HB := ak (Below.refl w.heap.size w)
 have H := h
 clear h
 unfold ratio_Add.f at H
 have HC3 := ak H
 clear H
 go_enter Tryd.func50, Tryd.ntmps50
 go_upto_region 1 with (first | ((with_reducible refine gate_dst (N := 2) rfl ?_); refine bx_ 2 26 #[.slice A0_0 l0_0.length c0_0, .slice A0_1 l0_1.length c0_1] ?_; intro gb288 hg w4 hbox hb; refine nx4_ (below_step (bU_ HB.out) hb) (hbox) ((hs_ hg (below_size (bU_ HB.out)))) ((hs_ hg (below_size (bU_ HB.out)))) ?_; clear HB; intro HB BK288 GW288 GE288; clear hb hbox hg) | ((with_reducible refine gate_dst (N := 3) rfl ?_); refine bx_ 3 26 #[.slice A1_0 l1_0.length c1_0, .slice A1_1 l1_1.length c1_1] ?_; intro gb289 hg w5 hbox hb; refine nx7_ (blk_below (kU_ BK288.out) hb) (below_step sU_ hb) (hbox) ((hs_ hg (below_size sU_) : w.heap.size ≤ gb289)) ((hs_ hg (below_size sU_) : w.heap.size ≤ gb289)) ((hl_ hg (kU_ BK288.out))) ((hm_ hg (kU_ BK288.out))) ?_; clear BK288 HB; intro BK288 HB BK289 GW289 GE289 NB288_289 NB289_288; clear hb hbox hg) | ((with_reducible refine gate_dst (N := 4) rfl ?_); refine bx_ 4 26 #[.slice none 0 0, .slice none 0 0] ?_; intro gb290 hg w6 hbox hb; refine nx10_ (blk_below (kU_ BK288.out) hb) (blk_below (kU_ BK289.out) hb) (below_step sU_ hb) (hbox) ((hs_ hg (below_size sU_) : w.heap.size ≤ gb290)) ((hs_ hg (below_size sU_) : w.heap.size ≤ gb290)) ((hl_ hg (kU_ BK288.out))) ((hm_ hg (kU_ BK288.out))) ((hl_ hg (kU_ BK289.out))) ((hm_ hg (kU_ BK289.out))) ?_; clear BK288 BK289 HB; intro BK288 BK289 HB BK290 GW290 GE290 NB288_290 NB290_288 NB289_290 NB290_289; clear hb hbox hg))
 (try simp only [Act.put, s1_, s2_, s3_])
 go_cut [13] (fun v13 wc => ∃ (kq : Nat) (x13_2 : Bool), v13 = .bool x13_2 ∧ Aside0 (ratio_Add.j0 kq x13_2 l0_0 l0_1 l1_0 l1_1 = some (r1, r2, r3)) ∧ Aside0 (kq ≤ k) ∧ Aside0 (wc.heap[gb288]? = some (.cells #[(.slice A0_0 l0_0.length c0_0), (.slice A0_1 l0_1.length c0_1)] 26 (0, 0))) ∧ Aside0 (wc.heap[gb289]? = some (.cells #[(.slice A1_0 l1_0.length c1_0), (.slice A1_1 l1_1.length c1_1)] 26 (0, 0))) ∧ Aside0 (wc.heap[gb290]? = some (.cells #[(.slice none 0 0), (.slice none 0 0)] 26 (0, 0))) ∧ Aside0 (Below w.heap.size w wc))
 case first =>
  have H := HC3.out
  clear HC3
  revert H
  refine bd_ fun t291 A7 H => ?_
  by_cases c8 : t291 = true
  ·subst c8
   rw [if_pos rfl] at H
   revert H
   refine bd_ fun t292 A9 H => ?_
   have H' := ak H
   clear H
   have hnb10 := NB288_289.out
   have hnc10 := NB289_288.out
   have hnb11 := NB288_290.out
   have hnc11 := NB290_288.out
   have hcz12_0 := bc0_ BK288.out
   have hcz12_1 := bc1_ BK288.out
   have hfz12_0 := bkf9_ BK288.out 0
   have hfz12_1 := bkf9_ BK288.out 1
   go_wp2_with (first | ((with_reducible refine gate_callee (f := 41) rfl ?_); refine gl_ (some 7) Tryd.func41 #[.agg #[.slice A0_0 l0_0.length c0_0, .slice A0_1 l0_1.length c0_1]] ?_; (with_reducible refine (ratio_Valid.calls k _ _ l0_0 _ _ l0_1 true _ ?side1 ?side2 ?side3 ?side4 A7.out).mono ?_); (case side1 => exact cU_ (C_below HR0_0.out HB.out)); (case side2 => exact HC0_0.out); (case side3 => exact cU_ (C_below HR0_1.out HB.out)); (case side4 => exact HC0_1.out); rintro e w13 ⟨rfl, hb⟩; refine ⟨_, rfl, ?_⟩; refine nx4_ (blk_below (kU_ BK288.out) hb) (blk_below (kU_ BK289.out) hb) (blk_below (kU_ BK290.out) hb) (below_step sU_ hb) ?_; clear BK288 BK289 BK290 HB; intro BK288 BK289 BK290 HB; clear hb; have hnb14 := NB289_290.out; have hnc14 := NB290_289.out; have hcz15_0 := bc0_ BK289.out; have hcz15_1 := bc1_ BK289.out; have hfz15_0 := bkf9_ BK289.out 0; have hfz15_1 := bkf9_ BK289.out 1) | (go_at_call 41; (with_reducible refine (ratio_Valid.calls k _ _ l1_0 _ _ l1_1 t292 _ ?side1 ?side2 ?side3 ?side4 A9.out).mono ?_); (case side1 => exact cU_ (C_below HR1_0.out HB.out)); (case side2 => exact HC1_0.out); (case side3 => exact cU_ (C_below HR1_1.out HB.out)); (case side4 => exact HC1_1.out); rintro e w16 ⟨rfl, hb⟩; refine nx4_ (blk_below (kU_ BK288.out) hb) (blk_below (kU_ BK289.out) hb) (blk_below (kU_ BK290.out) hb) (below_step sU_ hb) ?_; clear BK288 BK289 BK290 HB; intro BK288 BK289 BK290 HB; clear hb))
   go_meet
   case rel => exact ⟨_, (!t292), gb_, H', ⟨by first | omega | exact Nat.le_refl _⟩, ⟨by (with_reducible repeat (first | refine blk_drewN ?_ _ | refine blk_drew ?_ | refine blk_alloc ?_ _)); exact BK288.out⟩, ⟨by (with_reducible repeat (first | refine blk_drewN ?_ _ | refine blk_drew ?_ | refine blk_alloc ?_ _)); exact BK289.out⟩, ⟨by (with_reducible repeat (first | refine blk_drewN ?_ _ | refine blk_drew ?_ | refine blk_alloc ?_ _)); exact BK290.out⟩, ⟨sU_⟩⟩
  replace c8 := Bool.eq_false_iff.mpr c8
  subst c8
  rw [if_neg (show ¬ (false = true) by decide)] at H
  have H' := ak H
  clear H
  have hnb17 := NB288_289.out
  have hnc17 := NB289_288.out
  have hnb18 := NB288_290.out
  have hnc18 := NB290_288.out
  have hcz19_0 := bc0_ BK288.out
  have hcz19_1 := bc1_ BK288.out
  have hfz19_0 := bkf9_ BK288.out 0
  have hfz19_1 := bkf9_ BK288.out 1
  go_wp2_with (first | ((with_reducible refine gate_callee (f := 41) rfl ?_); refine gl_ (some 7) Tryd.func41 #[.agg #[.slice A0_0 l0_0.length c0_0, .slice A0_1 l0_1.length c0_1]] ?_; (with_reducible refine (ratio_Valid.calls k _ _ l0_0 _ _ l0_1 false _ ?side1 ?side2 ?side3 ?side4 A7.out).mono ?_); (case side1 => exact cU_ (C_below HR0_0.out HB.out)); (case side2 => exact HC0_0.out); (case side3 => exact cU_ (C_below HR0_1.out HB.out)); (case side4 => exact HC0_1.out); rintro e w20 ⟨rfl, hb⟩; refine ⟨_, rfl, ?_⟩; refine nx4_ (blk_below (kU_ BK288.out) hb) (blk_below (kU_ BK289.out) hb) (blk_below (kU_ BK290.out) hb) (below_step sU_ hb) ?_; clear BK288 BK289 BK290 HB; intro BK288 BK289 BK290 HB; clear hb))
  go_meet
  case rel => exact ⟨_, (true), gb_, H', ⟨by first | omega | exact Nat.le_refl _⟩, ⟨by (with_reducible repeat (first | refine blk_drewN ?_ _ | refine blk_drew ?_ | refine blk_alloc ?_ _)); exact BK288.out⟩, ⟨by (with_reducible repeat (first | refine blk_drewN ?_ _ | refine blk_drew ?_ | refine blk_alloc ?_ _)); exact BK289.out⟩, ⟨by (with_reducible repeat (first | refine blk_drewN ?_ _ | refine blk_drew ?_ | refine blk_alloc ?_ _)); exact BK290.out⟩, ⟨sU_⟩⟩
 case rest =>
  clear HC3
  (try clear c1); (try clear p2); (try clear c4); (try clear c5); (try clear c8); (try clear c10); (try clear c11); (try clear c14); (try clear c17); (try clear c18); (try clear hcz12_0); (try clear hcz12_1); (try clear hcz15_0); (try clear hcz15_1); (try clear hcz19_0); (try clear hcz19_1); (try clear hfz12_0); (try clear hfz12_1); (try clear hfz15_0); (try clear hfz15_1); (try clear hfz19_0); (try clear hfz19_1)
  obtain ⟨kq, x13_2, rfl, HA, HJ2, BK288, BK289, BK290, HB⟩ := hcut
  cases kq with
  | zero => exact absurd HA.out (by simp [ratio_Add.j0])
  | succ kj2 =>
   have H := HA.out
   clear HA
   simp only [ratio_Add.j0] at H
   by_cases c21 : x13_2 = true
   ·subst c21
    rw [if_pos rfl] at H
    simp only [Option.some.injEq, Prod.mk.injEq] at H
    obtain ⟨rfl, rfl, rfl⟩ := H
    have hnb22 := NB290_288.out
    have hnc22 := NB288_290.out
    have hnb23 := NB290_289.out
    have hnc23 := NB289_290.out
    have hcz24_0 := bc0_ BK290.out
    have hcz24_1 := bc1_ BK290.out
    have hfz24_0 := bkf9_ BK290.out 0
    have hfz24_1 := bkf9_ BK290.out 1
    go_wp2
    refine bodyPost_ret (results_ct rfl _ _ gb290 26 #[.slice none 0 0, .slice none 0 0] (0, 0) _ rfl kp_ Tryd.underlying26 rfl (by kernel_rfl)) rfl ?_
    exact ⟨_, _, eW_, Kd.V_nil _ _ _ _ _, Kd.V_nil _ _ _ _ _, sU_⟩
   replace c21 := Bool.eq_false_iff.mpr c21
   subst c21
   rw [if_neg (show ¬ (false = true) by decide)] at H
   revert H
   refine bd_ fun t293 A25 H => ?_
   revert H
   refine bd_ fun t296 A26 H => ?_
   revert H
   refine bd_ fun t299 A27 H => ?_
   revert H
   refine bd_ fun t302 A28 H => ?_
   revert H
   refine bd3_ fun t305 t308 t311 A29 H => ?_
   try dsimp only at H
   simp only [Option.some.injEq, Prod.mk.injEq] at H
   obtain ⟨rfl, rfl, rfl⟩ := H
   try go_wp2
   refine nx4_ (blk_drew BK288.out) (blk_drew BK289.out) (blk_drew BK290.out) (below_drew1 HB.out) ?_
   clear BK288 BK289 BK290 HB
   intro BK288 BK289 BK290 HB
   refine start_ (n := 21) (S := fun w' => w'.cell? ⟨gb288, 0, none⟩ = some (.slice A0_0 l0_0.length c0_0) ∧ w'.cell? ⟨gb288, 1, none⟩ = some (.slice A0_1 l0_1.length c0_1) ∧ w'.cell? ⟨gb289, 0, none⟩ = some (.slice A1_0 l1_0.length c1_0) ∧ w'.cell? ⟨gb289, 1, none⟩ = some (.slice A1_1 l1_1.length c1_1)) (ds := []) (bv 21 0) (by kernel_rfl) rfl rfl ⟨bc0_ BK288.out, bc1_ BK288.out, bc0_ BK289.out, bc1_ BK289.out⟩ (fun hHeld => ?_); refine with_tabW ratio_Add.tab3 ratio_Add.bits3 (fun HT_ HW_ => ?_)
   generalize wc.drew = w30 at BK288 BK289 BK290 HB hHeld ⊢
   refine pq_ 0 15 21 1 HT_.out ?_
   refine pq_ 2 17 21 5 HT_.out ?_
   refine pq_ 5 20 21 37 HT_.out ?_
   refine pq_ 7 22 21 165 HT_.out ?_
   refine pq_ 11 26 21 2213 HT_.out ?_
   refine pq_ 13 28 21 10405 HT_.out ?_
   refine tq_ 1 16 21 10407 HT_.out HW_.out hHeld ?_
   refine tq_ 3 18 21 10415 HT_.out HW_.out hHeld ?_
   refine tq_ 6 21 21 10479 HT_.out HW_.out hHeld ?_
   refine tq_ 8 23 21 10735 HT_.out HW_.out hHeld ?_
   refine tq_ 12 27 21 14831 HT_.out HW_.out hHeld ?_
   refine tq_ 14 29 21 31215 HT_.out HW_.out hHeld ?_
   refine oq_ 4 19 21 31231 HT_.out fun K hK => ?_
   refine gs_ Tryd.func94 #[.slice A0_0 l0_0.length c0_0, .slice A1_1 l1_1.length c1_1] ?_
   with_reducible refine (ratio_mul.calls kj2 _ _ l0_0 _ _ l1_1 t293 _ ?side1 ?side2 ?side3 ?side4 A25.out).mono ?_
   (case side1 => exact cU_ (C_below HR0_0.out HB.out))
   (case side2 => exact HC0_0.out)
   (case side3 => exact cU_ (C_below HR1_1.out HB.out))
   (case side4 => exact HC1_1.out)
   rintro e w31 ⟨v294, rfl, ho0, hb⟩
   refine ⟨_, rfl, ?_⟩
   refine nx5_ (V_lower (V_mono (ok' := fun k_ => (w.heap.size ≤ k_) ∧ k_ ≠ gb288 ∧ k_ ≠ gb289 ∧ k_ ≠ gb290) ho0 (fun k_ hk_ => ⟨(Nat.le_trans (below_size sU_) hk_), (freshB (kU_ BK288.out) k_ hk_), (freshB (kU_ BK289.out) k_ hk_), (freshB (kU_ BK290.out) k_ hk_)⟩)) (below_size sU_)) (blk_below (kU_ BK288.out) hb) (blk_below (kU_ BK289.out) hb) (blk_below (kU_ BK290.out) hb) (below_step sU_ hb) ?_
   clear BK288 BK289 BK290 HB
   intro HO295 BK288 BK289 BK290 HB
   (try clear hb)
   (try clear hb2)
   (try clear hk)
   (try clear hi)
   (try clear ho0)
   refine hK.out _ _ ⟨bc0_ BK288.out, bc1_ BK288.out, bc0_ BK289.out, bc1_ BK289.out⟩ (fun hHeld => ?_)
   clear hK K
   refine norm_ (a' := ?_) ?_ ?_
   rotate_left
   ·show Act.put _ (some 19) _ = _
    simp only [Act.put, s1_, s2_, s3_, i64_w, i32_w]
    rfl
   refine oq_ 9 24 21 31743 HT_.out fun K hK => ?_
   refine gs_ Tryd.func94 #[.slice A1_0 l1_0.length c1_0, .slice A0_1 l0_1.length c0_1] ?_
   with_reducible refine (ratio_mul.calls kj2 _ _ l1_0 _ _ l0_1 t296 _ ?side1 ?side2 ?side3 ?side4 A26.out).mono ?_
   (case side1 => exact cU_ (C_below HR1_0.out HB.out))
   (case side2 => exact HC1_0.out)
   (case side3 => exact cU_ (C_below HR0_1.out HB.out))
   (case side4 => exact HC0_1.out)
   rintro e w32 ⟨v297, rfl, ho0, hb⟩
   refine ⟨_, rfl, ?_⟩
   refine nx6_ (V_below (vU_ HO295.out) hb) (V_lower (V_mono (ok' := fun k_ => (w.heap.size ≤ k_) ∧ k_ ≠ gb288 ∧ k_ ≠ gb289 ∧ k_ ≠ gb290) ho0 (fun k_ hk_ => ⟨(Nat.le_trans (below_size sU_) hk_), (freshB (kU_ BK288.out) k_ hk_), (freshB (kU_ BK289.out) k_ hk_), (freshB (kU_ BK290.out) k_ hk_)⟩)) (below_size sU_)) (blk_below (kU_ BK288.out) hb) (blk_below (kU_ BK289.out) hb) (blk_below (kU_ BK290.out) hb) (below_step sU_ hb) ?_
   clear HO295 BK288 BK289 BK290 HB
   intro HO295 HO298 BK288 BK289 BK290 HB
   (try clear hb)
   (try clear hb2)
   (try clear hk)
   (try clear hi)
   (try clear ho0)
   obtain ⟨Ao33, co33, eo33⟩ := V_slice HO295.out
   (first | subst eo33 | (injection eo33 with f1_ f2_ f3_; have f4_ := f1_.symm; have f5_ := f3_.symm; clear f1_ f2_ f3_; subst f4_; subst f5_))
   obtain ⟨Ao34, co34, eo34⟩ := V_slice HO298.out
   (first | subst eo34 | (injection eo34 with f1_ f2_ f3_; have f4_ := f1_.symm; have f5_ := f3_.symm; clear f1_ f2_ f3_; subst f4_; subst f5_))
   refine hK.out _ _ ⟨bc0_ BK288.out, bc1_ BK288.out, bc0_ BK289.out, bc1_ BK289.out⟩ (fun hHeld => ?_)
   clear hK K
   refine norm_ (a' := ?_) ?_ ?_
   rotate_left
   ·show Act.put _ (some 24) _ = _
    simp only [Act.put, s1_, s2_, s3_, i64_w, i32_w]
    rfl
   refine oq_ 10 25 21 32767 HT_.out fun K hK => ?_
   refine gs_ Tryd.func99 #[.slice Ao33 t293.length co33, .slice Ao34 t296.length co34] ?_
   with_reducible refine (ratio_add.calls kj2 (fun k_ => ((w.heap.size ≤ k_) ∧ (k_ ≠ gb288 ∧ (k_ ≠ gb289 ∧ k_ ≠ gb290)))) _ _ t293 (fun k_ => ((w.heap.size ≤ k_) ∧ (k_ ≠ gb288 ∧ (k_ ≠ gb289 ∧ k_ ≠ gb290)))) _ _ t296 t299 _ ?side1 ?side2 A27.out).mono ?_
   (case side1 => exact HO295.out)
   (case side2 => exact HO298.out)
   rintro e w35 ⟨v300, rfl, ho0, hb⟩
   refine ⟨_, rfl, ?_⟩
   refine nx7_ (V_below (vU_ HO295.out) hb) (V_below (vU_ HO298.out) hb) (V_lower (V_mono (ok' := fun k_ => (w.heap.size ≤ k_) ∧ k_ ≠ gb288 ∧ k_ ≠ gb289 ∧ k_ ≠ gb290) ho0 (fun k_ hk_ => ⟨Or.elim hk_ (fun hs_ => Or.elim hs_ (fun hs_ => hs_.1) (fun hs_ => hs_.1)) (fun hn_ => (Nat.le_trans (below_size sU_) hn_)), Or.elim hk_ (fun hs_ => Or.elim hs_ (fun hs_ => hs_.2.1) (fun hs_ => hs_.2.1)) (fun hn_ => (freshB (kU_ BK288.out) k_ hn_)), Or.elim hk_ (fun hs_ => Or.elim hs_ (fun hs_ => hs_.2.2.1) (fun hs_ => hs_.2.2.1)) (fun hn_ => (freshB (kU_ BK289.out) k_ hn_)), Or.elim hk_ (fun hs_ => Or.elim hs_ (fun hs_ => hs_.2.2.2) (fun hs_ => hs_.2.2.2)) (fun hn_ => (freshB (kU_ BK290.out) k_ hn_))⟩)) (below_size sU_)) (blk_below (kU_ BK288.out) hb) (blk_below (kU_ BK289.out) hb) (blk_below (kU_ BK290.out) hb) (below_step sU_ hb) ?_
   clear HO295 HO298 BK288 BK289 BK290 HB
   intro HO295 HO298 HO301 BK288 BK289 BK290 HB
   (try clear hb)
   (try clear hb2)
   (try clear hk)
   (try clear hi)
   (try clear ho0)
   refine hK.out _ _ ⟨bc0_ BK288.out, bc1_ BK288.out, bc0_ BK289.out, bc1_ BK289.out⟩ (fun hHeld => ?_)
   clear hK K
   refine norm_ (a' := ?_) ?_ ?_
   rotate_left
   ·show Act.put _ (some 25) _ = _
    simp only [Act.put, s1_, s2_, s3_, i64_w, i32_w]
    rfl
   refine oq_ 15 30 21 65535 HT_.out fun K hK => ?_
   refine gs_ Tryd.func94 #[.slice A0_1 l0_1.length c0_1, .slice A1_1 l1_1.length c1_1] ?_
   with_reducible refine (ratio_mul.calls kj2 _ _ l0_1 _ _ l1_1 t302 _ ?side1 ?side2 ?side3 ?side4 A28.out).mono ?_
   (case side1 => exact cU_ (C_below HR0_1.out HB.out))
   (case side2 => exact HC0_1.out)
   (case side3 => exact cU_ (C_below HR1_1.out HB.out))
   (case side4 => exact HC1_1.out)
   rintro e w36 ⟨v303, rfl, ho0, hb⟩
   refine ⟨_, rfl, ?_⟩
   refine nx8_ (V_below (vU_ HO295.out) hb) (V_below (vU_ HO298.out) hb) (V_below (vU_ HO301.out) hb) (V_lower (V_mono (ok' := fun k_ => (w.heap.size ≤ k_) ∧ k_ ≠ gb288 ∧ k_ ≠ gb289 ∧ k_ ≠ gb290) ho0 (fun k_ hk_ => ⟨(Nat.le_trans (below_size sU_) hk_), (freshB (kU_ BK288.out) k_ hk_), (freshB (kU_ BK289.out) k_ hk_), (freshB (kU_ BK290.out) k_ hk_)⟩)) (below_size sU_)) (blk_below (kU_ BK288.out) hb) (blk_below (kU_ BK289.out) hb) (blk_below (kU_ BK290.out) hb) (below_step sU_ hb) ?_
   clear HO295 HO298 HO301 BK288 BK289 BK290 HB
   intro HO295 HO298 HO301 HO304 BK288 BK289 BK290 HB
   (try clear hb)
   (try clear hb2)
   (try clear hk)
   (try clear hi)
   (try clear ho0)
   obtain ⟨Ao37, co37, eo37⟩ := V_slice HO301.out
   (first | subst eo37 | (injection eo37 with f1_ f2_ f3_; have f4_ := f1_.symm; have f5_ := f3_.symm; clear f1_ f2_ f3_; subst f4_; subst f5_))
   obtain ⟨Ao38, co38, eo38⟩ := V_slice HO304.out
   (first | subst eo38 | (injection eo38 with f1_ f2_ f3_; have f4_ := f1_.symm; have f5_ := f3_.symm; clear f1_ f2_ f3_; subst f4_; subst f5_))
   refine hK.out _ _ ⟨bc0_ BK288.out, bc1_ BK288.out, bc0_ BK289.out, bc1_ BK289.out⟩ (fun hHeld => ?_)
   clear hK K
   refine norm_ (a' := ?_) ?_ ?_
   rotate_left
   ·show Act.put _ (some 30) _ = _
    simp only [Act.put, s1_, s2_, s3_, i64_w, i32_w]
    rfl
   refine oq_ 16 31 21 131071 HT_.out fun K hK => ?_
   refine gs_ Tryd.func98 #[.slice Ao37 t299.length co37, .slice Ao38 t302.length co38] ?_
   with_reducible refine (ratio_lowest.calls kj2 _ _ t299 _ _ t302 t305 t308 t311 _ ?side1 ?side2 ?side3 ?side4 A29.out).mono ?_
   (case side1 => exact cU_ ((V_reads' HO301.out).2.2))
   (case side2 => exact (V_reads' HO301.out).2.1)
   (case side3 => exact cU_ ((V_reads' HO304.out).2.2))
   (case side4 => exact (V_reads' HO304.out).2.1)
   rintro e w39 ⟨v306, v309, rfl, ho0, ho1, hb⟩
   refine ⟨_, rfl, ?_⟩
   refine nx10_ (V_below (vU_ HO295.out) hb) (V_below (vU_ HO298.out) hb) (V_below (vU_ HO301.out) hb) (V_below (vU_ HO304.out) hb) (V_lower (V_mono (ok' := fun k_ => (w.heap.size ≤ k_) ∧ k_ ≠ gb288 ∧ k_ ≠ gb289 ∧ k_ ≠ gb290) ho0 (fun k_ hk_ => ⟨(Nat.le_trans (below_size sU_) hk_), (freshB (kU_ BK288.out) k_ hk_), (freshB (kU_ BK289.out) k_ hk_), (freshB (kU_ BK290.out) k_ hk_)⟩)) (below_size sU_)) (V_lower (V_mono (ok' := fun k_ => (w.heap.size ≤ k_) ∧ k_ ≠ gb288 ∧ k_ ≠ gb289 ∧ k_ ≠ gb290) ho1 (fun k_ hk_ => ⟨(Nat.le_trans (below_size sU_) hk_), (freshB (kU_ BK288.out) k_ hk_), (freshB (kU_ BK289.out) k_ hk_), (freshB (kU_ BK290.out) k_ hk_)⟩)) (below_size sU_)) (blk_below (kU_ BK288.out) hb) (blk_below (kU_ BK289.out) hb) (blk_below (kU_ BK290.out) hb) (below_step sU_ hb) ?_
   clear HO295 HO298 HO301 HO304 BK288 BK289 BK290 HB
   intro HO295 HO298 HO301 HO304 HO307 HO310 BK288 BK289 BK290 HB
   (try clear hb)
   (try clear hb2)
   (try clear hk)
   (try clear hi)
   (try clear ho0)
   (try clear ho1)
   obtain ⟨Ao40, co40, eo40⟩ := V_slice HO307.out
   (first | subst eo40 | (injection eo40 with f1_ f2_ f3_; have f4_ := f1_.symm; have f5_ := f3_.symm; clear f1_ f2_ f3_; subst f4_; subst f5_))
   obtain ⟨Ao42, co42, eo42⟩ := V_slice HO310.out
   (first | subst eo42 | (injection eo42 with f1_ f2_ f3_; have f4_ := f1_.symm; have f5_ := f3_.symm; clear f1_ f2_ f3_; subst f4_; subst f5_))
   refine hK.out _ _ ⟨bc0_ BK288.out, bc1_ BK288.out, bc0_ BK289.out, bc1_ BK289.out⟩ (fun hHeld => ?_)
   clear hK K
   refine norm_ (a' := ?_) ?_ ?_
   rotate_left
   ·show Act.put _ (some 31) _ = _
    simp only [Act.put, s1_, s2_, s3_, i64_w, i32_w]
    rfl
   refine pq_ 17 32 21 262143 HT_.out ?_
   refine pq_ 18 33 21 524287 HT_.out ?_
   refine one_ (i := 19) (N := none) (bv 21 1048575) rfl rfl (one_of HT_.out (by kernel_rfl)) (by decide) (fun K hK => ?_)
   have hs41 : w39.cell? ⟨gb290, 0, none⟩ = some (.slice none 0 0) := bc0_ BK290.out
   have hfs41 := bkf9_ BK290.out 0
   have hns41_0 := NB288_290.out
   have hns41_1 := NB289_290.out
   have hms41_0 := NB290_288.out
   have hms41_1 := NB290_289.out
   have hs43 : w39.cell? ⟨gb290, 1, none⟩ = some (.slice none 0 0) := bc1_ BK290.out
   have hfs43 := bkf9_ BK290.out 1
   have hns43_0 := NB288_290.out
   have hns43_1 := NB289_290.out
   have hms43_0 := NB290_288.out
   have hms43_1 := NB290_289.out
   refine skip_ (w1 := ?_) (by rfl) rfl ?_ ?_
   rotate_left
   ·go_simp
    rfl
   refine hK.out _ _ ⟨((cell_far (p := ⟨gb290, _, none⟩) NB288_290.out _).trans (((cell_far (p := ⟨gb290, _, none⟩) NB288_290.out _).trans (hHeld.1)))), ((cell_far (p := ⟨gb290, _, none⟩) NB288_290.out _).trans (((cell_far (p := ⟨gb290, _, none⟩) NB288_290.out _).trans (hHeld.2.1)))), ((cell_far (p := ⟨gb290, _, none⟩) NB289_290.out _).trans (((cell_far (p := ⟨gb290, _, none⟩) NB289_290.out _).trans (hHeld.2.2.1)))), ((cell_far (p := ⟨gb290, _, none⟩) NB289_290.out _).trans (((cell_far (p := ⟨gb290, _, none⟩) NB289_290.out _).trans (hHeld.2.2.2))))⟩ (fun hHeld => ?_)
   clear hK K
   refine pq_ 20 5 21 2097151 HT_.out ?_
   refine done_ (done_of HT_.out (by kernel_rfl)) ?_
   try go_wp2
   refine bodyPost_ret (results_ct rfl _ _ gb290 26 #[.slice Ao40 t305.length co40, .slice Ao42 t308.length co42] (0, 0) _ rfl kp_ Tryd.underlying26 rfl (by kernel_rfl)) rfl ?_
   exact ⟨_, _, eW_, by (with_reducible repeat (first | apply Kd.V_alloc | apply Kd.V_drewN | apply V_drew)); exact V_mono (V_far (p := ⟨gb290, 1, none⟩) (V_far (p := ⟨gb290, 0, none⟩) (V_mono HO307.out (fun k_ hk => (⟨hk, hk.2.2.2⟩ : _ ∧ k_ ≠ gb290))) (fun _ hk => hk.2) (.slice Ao40 t305.length co40)) (fun _ hk => hk.2) (.slice Ao42 t308.length co42)) (fun _ hk => hk.1.1), by (with_reducible repeat (first | apply Kd.V_alloc | apply Kd.V_drewN | apply V_drew)); exact V_mono (V_far (p := ⟨gb290, 1, none⟩) (V_far (p := ⟨gb290, 0, none⟩) (V_mono HO310.out (fun k_ hk => (⟨hk, hk.2.2.2⟩ : _ ∧ k_ ≠ gb290))) (fun _ hk => hk.2) (.slice Ao40 t305.length co40)) (fun _ hk => hk.2) (.slice Ao42 t308.length co42)) (fun _ hk => hk.1.1), sU_⟩

def gap_Bound.f (k : Nat) (a0 : Int) (a1 : Int) (a2 : Int) (a3 : Int) (a4 : Int) : Option (List Int × List Int × Int) := (field_Valid.f a0).bind fun t313 => (if t313 = true then ((gap_within.f a1 1 32).bind fun t314 => (if t314 = true then ((gap_within.f a2 0 a1).bind fun t315 => (if t315 = true then ((gap_within.f a3 1 64).bind fun t316 => (if t316 = true then ((gap_within.f a4 0 64).bind fun t317 => (if t317 = true then ((gap_choose.f k a1 (wrap64 (a2 + 1))).bind fun t318 => ((field_P.f a0).bind fun t319 => ((ratio_Of.f k (IntKind.u64.wrap (wrap64 (t318 * (wrap64 (a3 + 6))))) t319).bind fun bt320 => ((ratio_Of.f k (IntKind.u64.wrap (a2)) (IntKind.u64.wrap (a1))).bind fun bt328 => ((ratio_Power.f k bt328.1 bt328.2.1 a4).bind fun bt336 => ((ratio_Add.f k bt320.1 bt320.2.1 bt336.1 bt336.2.1).bind fun bt344 => ((gap_least.f k bt344.1 bt344.2.1 bt344.2.2).bind fun bt351 => (some (bt351.1, bt351.2.1, bt351.2.2))))))))) else (some (([] : List Int), ([] : List Int), 2)))) else (some (([] : List Int), ([] : List Int), 2)))) else (some (([] : List Int), ([] : List Int), 2)))) else (some (([] : List Int), ([] : List Int), 2)))) else (some (([] : List Int), ([] : List Int), 1)))
theorem gap_Bound.mono : ∀ a0 a1 a2 a3 a4 k, LeO (gap_Bound.f k a0 a1 a2 a3 a4) (gap_Bound.f (k + 1) a0 a1 a2 a3 a4) := by
 intro a0 a1 a2 a3 a4 k
 unfold gap_Bound.f
 with_reducible repeat' first | apply gap_choose.mono | apply gap_least.mono | apply ratio_Add.mono | apply ratio_Of.mono | apply ratio_Power.mono | exact LeO.refl _ | exact LeO.none _ | refine LeO.ite ?_ ?_ | refine LeO.bind ?_ (fun _ => ?_)
set_option maxHeartbeats 8000000 in
set_option maxRecDepth 100000 in
theorem gap_Bound.calls (k : Nat) (a0 : Int) (a1 : Int) (a2 : Int) (a3 : Int) (a4 : Int) (r1 : List Int) (r2 : List Int) (r3 : Int) (w : World) (hG : Fld w) (h : gap_Bound.f k a0 a1 a2 a3 a4 = some (r1, r2, r3)) :
  Calls Tryd.prog 9 #[.int .i64 a0, .int .i64 a1, .int .i64 a2, .int .i64 a3, .int .i64 a4] w fun e w' => ∃ v0_ v1_ : Value, e = .returned (.tuple #[.agg #[v0_, v1_], .int .i64 r3]) ∧ Kd.V (Kd.int .u32) 115 w' w.heap.size (fun k_ => (w.heap.size ≤ k_)) v0_ r1 ∧ Kd.V (Kd.int .u32) 115 w' w.heap.size (fun k_ => (w.heap.size ≤ k_)) v1_ r2 ∧ Below w.heap.size w w' := by
 have hu26 := Tryd.underlying26
 have HG := ak hG
 clear hG
 have HB := ak (Below.refl w.heap.size w)
 have H := h
 clear h
 unfold gap_Bound.f at H
 revert H
 refine bd_ fun t313 A6 H => ?_
 by_cases c7 : t313 = true
 ·subst c7
  rw [if_pos rfl] at H
  revert H
  refine bd_ fun t314 A8 H => ?_
  by_cases c9 : t314 = true
  ·subst c9
   rw [if_pos rfl] at H
   revert H
   refine bd_ fun t315 A10 H => ?_
   by_cases c11 : t315 = true
   ·subst c11
    rw [if_pos rfl] at H
    revert H
    refine bd_ fun t316 A12 H => ?_
    by_cases c13 : t316 = true
    ·subst c13
     rw [if_pos rfl] at H
     revert H
     refine bd_ fun t317 A14 H => ?_
     by_cases c15 : t317 = true
     ·subst c15
      rw [if_pos rfl] at H
      revert H
      refine bd_ fun t318 A16 H => ?_
      revert H
      refine bd_ fun t319 A17 H => ?_
      revert H
      refine bd3_ fun t320 t323 t326 A18 H => ?_
      try dsimp only at H
      revert H
      refine bd3_ fun t328 t331 t334 A19 H => ?_
      try dsimp only at H
      revert H
      refine bd3_ fun t336 t339 t342 A20 H => ?_
      try dsimp only at H
      revert H
      refine bd3_ fun t344 t347 t350 A21 H => ?_
      try dsimp only at H
      revert H
      refine bd3_ fun t351 t354 t357 A22 H => ?_
      try dsimp only at H
      simp only [Option.some.injEq, Prod.mk.injEq] at H
      obtain ⟨rfl, rfl, rfl⟩ := H
      go_enter Tryd.func9, Tryd.ntmps9
      go_wp2_with (first | ((with_reducible refine gate_dst (N := 10) rfl ?_); refine bx_ 10 26 #[.slice none 0 0, .slice none 0 0] ?_; intro gb312 hg w23 hbox hb; refine nx4_ (below_step (bU_ HB.out) hb) (hbox) ((hs_ hg (below_size (bU_ HB.out)))) ((hs_ hg (below_size (bU_ HB.out)))) ?_; clear HB; intro HB BK312 GW312 GE312; clear hb hbox hg) | ((with_reducible refine gate_callee (f := 43) rfl ?_); refine gl_ (some 20) Tryd.func43 #[.int .i64 a0] ?_; (with_reducible refine (field_Valid.calls a0 true _ A6.out).mono ?_); rintro e w' ⟨rfl, ⟨nd, rfl⟩⟩; refine ⟨_, rfl, ?_⟩; (try (rw [drewN_self w23]; generalize hq_ : World.drewN w23 _ = w23; have n0_ : Aside0 (w23.heap[gb312]? = some (.cells #[.slice none 0 0, .slice none 0 0] 26 (0, 0))) := ⟨by rw [← hq_]; exact (kU_ BK312.out)⟩; have n1_ : Aside0 (Below w.heap.size w w23) := ⟨by rw [← hq_]; exact sU_⟩; clear BK312 HB hq_; have BK312 := n0_; have HB := n1_; clear n0_ n1_))) | ((with_reducible refine gate_callee (f := 44) rfl ?_); refine gl_ (some 25) Tryd.func44 #[.int .i64 a1, .int .i64 1, .int .i64 32] ?_; (with_reducible refine (gap_within.calls a1 1 32 true _ A8.out).mono ?_); rintro e w' ⟨rfl, ⟨nd, rfl⟩⟩; refine ⟨_, rfl, ?_⟩; (try (rw [drewN_self w23]; generalize hq_ : World.drewN w23 _ = w23; have n0_ : Aside0 (w23.heap[gb312]? = some (.cells #[.slice none 0 0, .slice none 0 0] 26 (0, 0))) := ⟨by rw [← hq_]; exact (kU_ BK312.out)⟩; have n1_ : Aside0 (Below w.heap.size w w23) := ⟨by rw [← hq_]; exact sU_⟩; clear BK312 HB hq_; have BK312 := n0_; have HB := n1_; clear n0_ n1_))) | (go_at_call 44; (with_reducible refine (gap_within.calls a2 0 a1 true _ A10.out).mono ?_); rintro e w' ⟨rfl, ⟨nd, rfl⟩⟩; (try (rw [drewN_self w23]; generalize hq_ : World.drewN w23 _ = w23; have n0_ : Aside0 (w23.heap[gb312]? = some (.cells #[.slice none 0 0, .slice none 0 0] 26 (0, 0))) := ⟨by rw [← hq_]; exact (kU_ BK312.out)⟩; have n1_ : Aside0 (Below w.heap.size w w23) := ⟨by rw [← hq_]; exact sU_⟩; clear BK312 HB hq_; have BK312 := n0_; have HB := n1_; clear n0_ n1_))) | (go_at_call 44; (with_reducible refine (gap_within.calls a3 1 64 true _ A12.out).mono ?_); rintro e w' ⟨rfl, ⟨nd, rfl⟩⟩; (try (rw [drewN_self w23]; generalize hq_ : World.drewN w23 _ = w23; have n0_ : Aside0 (w23.heap[gb312]? = some (.cells #[.slice none 0 0, .slice none 0 0] 26 (0, 0))) := ⟨by rw [← hq_]; exact (kU_ BK312.out)⟩; have n1_ : Aside0 (Below w.heap.size w w23) := ⟨by rw [← hq_]; exact sU_⟩; clear BK312 HB hq_; have BK312 := n0_; have HB := n1_; clear n0_ n1_))) | (go_at_call 44; (with_reducible refine (gap_within.calls a4 0 64 true _ A14.out).mono ?_); rintro e w' ⟨rfl, ⟨nd, rfl⟩⟩; (try (rw [drewN_self w23]; generalize hq_ : World.drewN w23 _ = w23; have n0_ : Aside0 (w23.heap[gb312]? = some (.cells #[.slice none 0 0, .slice none 0 0] 26 (0, 0))) := ⟨by rw [← hq_]; exact (kU_ BK312.out)⟩; have n1_ : Aside0 (Below w.heap.size w w23) := ⟨by rw [← hq_]; exact sU_⟩; clear BK312 HB hq_; have BK312 := n0_; have HB := n1_; clear n0_ n1_))) | ((with_reducible refine gate_callee (f := 46) rfl ?_); refine gl_ (some 48) Tryd.func46 #[.int .i64 a1, .int .i64 (wrap64 (a2 + 1))] ?_; (with_reducible refine (gap_choose.calls k a1 (wrap64 (a2 + 1)) t318 _ A16.out).mono ?_); rintro e w' ⟨rfl, ⟨nd, rfl⟩⟩; refine ⟨_, rfl, ?_⟩; (try (rw [drewN_self w23]; generalize hq_ : World.drewN w23 _ = w23; have n0_ : Aside0 (w23.heap[gb312]? = some (.cells #[.slice none 0 0, .slice none 0 0] 26 (0, 0))) := ⟨by rw [← hq_]; exact (kU_ BK312.out)⟩; have n1_ : Aside0 (Below w.heap.size w w23) := ⟨by rw [← hq_]; exact sU_⟩; clear BK312 HB hq_; have BK312 := n0_; have HB := n1_; clear n0_ n1_))) | ((with_reducible refine gate_callee (f := 47) rfl ?_); refine gl_ (some 54) Tryd.func47 #[.int .i64 a0] ?_; (with_reducible refine (field_P.calls a0 t319 _ ?side1 A17.out).mono ?_); (case side1 => repeat (first | with_reducible exact HG.out | with_reducible exact (Fld.below HG.out HB.out) | exact (Fld.below HG.out sU_) | (with_reducible refine Fld.alloc ?_ _) | (with_reducible refine Fld.drewN ?_ _) | (with_reducible refine Fld.drew ?_))); rintro e w24 ⟨rfl, hb⟩; refine ⟨_, rfl, ?_⟩; refine nx2_ (blk_below (kU_ BK312.out) hb) (below_step sU_ hb) ?_; clear BK312 HB; intro BK312 HB; clear hb) | ((with_reducible refine gate_callee (f := 45) rfl ?_); refine gl_ (some 55) Tryd.func45 #[.int .u64 (IntKind.u64.wrap (wrap64 (t318 * (wrap64 (a3 + 6))))), .int .u64 t319] ?_; (with_reducible refine (ratio_Of.calls k (IntKind.u64.wrap (wrap64 (t318 * (wrap64 (a3 + 6))))) t319 t320 t323 t326 _ A18.out).mono ?_); rintro e w25 ⟨v321, v324, rfl, ho0, ho1, hb⟩; refine ⟨_, rfl, ?_⟩; refine nx4_ (V_lower (V_mono (ok' := fun k_ => (w.heap.size ≤ k_) ∧ k_ ≠ gb312) ho0 (fun k_ hk_ => ⟨(Nat.le_trans (below_size sU_) hk_), (freshB (kU_ BK312.out) k_ hk_)⟩)) (below_size sU_)) (V_lower (V_mono (ok' := fun k_ => (w.heap.size ≤ k_) ∧ k_ ≠ gb312) ho1 (fun k_ hk_ => ⟨(Nat.le_trans (below_size sU_) hk_), (freshB (kU_ BK312.out) k_ hk_)⟩)) (below_size sU_)) (blk_below (kU_ BK312.out) hb) (below_step sU_ hb) ?_; clear BK312 HB; intro HO322 HO325 BK312 HB; clear hb ho0 ho1) | ((with_reducible refine gate_dst (N := 12) rfl ?_); refine bx_ 12 26 #[.slice none 0 0, .slice none 0 0] ?_; intro gb327 hg w26 hbox hb; refine nx9_ (V_below (V_elderB (vU_ HO322.out) gb327 (Nat.le_of_eq hg.symm)) hb) (V_below (V_elderB (vU_ HO325.out) gb327 (Nat.le_of_eq hg.symm)) hb) (blk_below (kU_ BK312.out) hb) (below_step sU_ hb) (hbox) ((hs_ hg (below_size sU_) : w.heap.size ≤ gb327)) ((hs_ hg (below_size sU_) : w.heap.size ≤ gb327)) ((hl_ hg (kU_ BK312.out))) ((hm_ hg (kU_ BK312.out))) ?_; clear HO322 HO325 BK312 HB; intro HO322 HO325 BK312 HB BK327 GW327 GE327 NB312_327 NB327_312; clear hb hbox hg; obtain ⟨Ao27, co27, eo27⟩ := V_slice HO322.out; subst eo27; have hnb28 := NB327_312.out; have hnc28 := NB312_327.out; have hcz29_0 := bc0_ BK327.out; have hcz29_1 := bc1_ BK327.out; have hfz29_0 := bkf9_ BK327.out 0; have hfz29_1 := bkf9_ BK327.out 1; obtain ⟨Ao30, co30, eo30⟩ := V_slice HO325.out; subst eo30) | ((with_reducible refine gate_callee (f := 45) rfl ?_); refine gl_ (some 63) Tryd.func45 #[.int .u64 (IntKind.u64.wrap (a2)), .int .u64 (IntKind.u64.wrap (a1))] ?_; (with_reducible refine (ratio_Of.calls k (IntKind.u64.wrap (a2)) (IntKind.u64.wrap (a1)) t328 t331 t334 _ A19.out).mono ?_); rintro e w31 ⟨v329, v332, rfl, ho0, ho1, hb⟩; refine ⟨_, rfl, ?_⟩; refine nx7_ (V_below (vL_ (vf_ gb327 HO322.out fun _ hk => hk.2)) hb) (V_below (vL_ (vf_ gb327 HO325.out fun _ hk => hk.2)) hb) (V_lower (V_mono (ok' := fun k_ => (w.heap.size ≤ k_) ∧ k_ ≠ gb312 ∧ k_ ≠ gb327) ho0 (fun k_ hk_ => ⟨(Nat.le_trans (below_size sU_) hk_), (freshB (g := gb312) (o := .cells #[.slice none 0 0, .slice none 0 0] 26 (0, 0)) kp_ k_ hk_), (freshB (g := gb327) (o := .cells #[.slice Ao27 t320.length co27, .slice Ao30 t323.length co30] 26 (0, 0)) kp_ k_ hk_)⟩)) (below_size sU_)) (V_lower (V_mono (ok' := fun k_ => (w.heap.size ≤ k_) ∧ k_ ≠ gb312 ∧ k_ ≠ gb327) ho1 (fun k_ hk_ => ⟨(Nat.le_trans (below_size sU_) hk_), (freshB (g := gb312) (o := .cells #[.slice none 0 0, .slice none 0 0] 26 (0, 0)) kp_ k_ hk_), (freshB (g := gb327) (o := .cells #[.slice Ao27 t320.length co27, .slice Ao30 t323.length co30] 26 (0, 0)) kp_ k_ hk_)⟩)) (below_size sU_)) (blk_below (g := gb312) (o := .cells #[.slice none 0 0, .slice none 0 0] 26 (0, 0)) kp_ hb) (blk_below (g := gb327) (o := .cells #[.slice Ao27 t320.length co27, .slice Ao30 t323.length co30] 26 (0, 0)) kp_ hb) (below_step sU_ hb) ?_; clear HO322 HO325 BK312 BK327 HB; intro HO322 HO325 HO330 HO333 BK312 BK327 HB; clear hb ho0 ho1) | ((with_reducible refine gate_dst (N := 14) rfl ?_); refine bx_ 14 26 #[.slice none 0 0, .slice none 0 0] ?_; intro gb335 hg w32 hbox hb; refine nx14_ (V_below (V_elderB (vU_ HO322.out) gb335 (Nat.le_of_eq hg.symm)) hb) (V_below (V_elderB (vU_ HO325.out) gb335 (Nat.le_of_eq hg.symm)) hb) (V_below (V_elderB (vU_ HO330.out) gb335 (Nat.le_of_eq hg.symm)) hb) (V_below (V_elderB (vU_ HO333.out) gb335 (Nat.le_of_eq hg.symm)) hb) (blk_below (kU_ BK312.out) hb) (blk_below (kU_ BK327.out) hb) (below_step sU_ hb) (hbox) ((hs_ hg (below_size sU_) : w.heap.size ≤ gb335)) ((hs_ hg (below_size sU_) : w.heap.size ≤ gb335)) ((hl_ hg (kU_ BK312.out))) ((hm_ hg (kU_ BK312.out))) ((hl_ hg (kU_ BK327.out))) ((hm_ hg (kU_ BK327.out))) ?_; clear HO322 HO325 HO330 HO333 BK312 BK327 HB; intro HO322 HO325 HO330 HO333 BK312 BK327 HB BK335 GW335 GE335 NB312_335 NB335_312 NB327_335 NB335_327; clear hb hbox hg; obtain ⟨Ao33, co33, eo33⟩ := V_slice HO330.out; subst eo33; have hnb34 := NB335_312.out; have hnc34 := NB312_335.out; have hnb35 := NB335_327.out; have hnc35 := NB327_335.out; have hcz36_0 := bc0_ BK335.out; have hcz36_1 := bc1_ BK335.out; have hfz36_0 := bkf9_ BK335.out 0; have hfz36_1 := bkf9_ BK335.out 1; obtain ⟨Ao37, co37, eo37⟩ := V_slice HO333.out; subst eo37) | ((with_reducible refine gate_callee (f := 48) rfl ?_); refine gl_ (some 69) Tryd.func48 #[.agg #[.slice Ao33 t328.length co33, .slice Ao37 t331.length co37], .int .i64 a4] ?_; (with_reducible refine (ratio_Power.calls k _ _ t328 _ _ t331 a4 t336 t339 t342 _ ?side1 ?side2 ?side3 ?side4 A20.out).mono ?_); (case side1 => refine (V_reads' (e := 115) (base := w.heap.size) (ok := fun k_ => (((w.heap.size ≤ k_) ∧ (k_ ≠ gb312 ∧ k_ ≠ gb327)) ∧ k_ ≠ gb335)) (n := t328.length) (c := co33) ?_).2.2; exact (vL_ (vf_ gb335 HO330.out fun _ hk => hk.2))); (case side2 => exact (V_reads' HO330.out).2.1); (case side3 => refine (V_reads' (e := 115) (base := w.heap.size) (ok := fun k_ => (((w.heap.size ≤ k_) ∧ (k_ ≠ gb312 ∧ k_ ≠ gb327)) ∧ k_ ≠ gb335)) (n := t331.length) (c := co37) ?_).2.2; exact (vL_ (vf_ gb335 HO333.out fun _ hk => hk.2))); (case side4 => exact (V_reads' HO333.out).2.1); rintro e w38 ⟨v337, v340, rfl, ho0, ho1, hb⟩; refine ⟨_, rfl, ?_⟩; refine nx10_ (V_below (vL_ (vf_ gb335 HO322.out fun _ hk => hk.2)) hb) (V_below (vL_ (vf_ gb335 HO325.out fun _ hk => hk.2)) hb) (V_below (vL_ (vf_ gb335 HO330.out fun _ hk => hk.2)) hb) (V_below (vL_ (vf_ gb335 HO333.out fun _ hk => hk.2)) hb) (V_lower (V_mono (ok' := fun k_ => (w.heap.size ≤ k_) ∧ k_ ≠ gb312 ∧ k_ ≠ gb327 ∧ k_ ≠ gb335) ho0 (fun k_ hk_ => ⟨(Nat.le_trans (below_size sU_) hk_), (freshB (g := gb312) (o := .cells #[.slice none 0 0, .slice none 0 0] 26 (0, 0)) kp_ k_ hk_), (freshB (g := gb327) (o := .cells #[.slice Ao27 t320.length co27, .slice Ao30 t323.length co30] 26 (0, 0)) kp_ k_ hk_), (freshB (g := gb335) (o := .cells #[.slice Ao33 t328.length co33, .slice Ao37 t331.length co37] 26 (0, 0)) kp_ k_ hk_)⟩)) (below_size sU_)) (V_lower (V_mono (ok' := fun k_ => (w.heap.size ≤ k_) ∧ k_ ≠ gb312 ∧ k_ ≠ gb327 ∧ k_ ≠ gb335) ho1 (fun k_ hk_ => ⟨(Nat.le_trans (below_size sU_) hk_), (freshB (g := gb312) (o := .cells #[.slice none 0 0, .slice none 0 0] 26 (0, 0)) kp_ k_ hk_), (freshB (g := gb327) (o := .cells #[.slice Ao27 t320.length co27, .slice Ao30 t323.length co30] 26 (0, 0)) kp_ k_ hk_), (freshB (g := gb335) (o := .cells #[.slice Ao33 t328.length co33, .slice Ao37 t331.length co37] 26 (0, 0)) kp_ k_ hk_)⟩)) (below_size sU_)) (blk_below (g := gb312) (o := .cells #[.slice none 0 0, .slice none 0 0] 26 (0, 0)) kp_ hb) (blk_below (g := gb327) (o := .cells #[.slice Ao27 t320.length co27, .slice Ao30 t323.length co30] 26 (0, 0)) kp_ hb) (blk_below (g := gb335) (o := .cells #[.slice Ao33 t328.length co33, .slice Ao37 t331.length co37] 26 (0, 0)) kp_ hb) (below_step sU_ hb) ?_; clear HO322 HO325 HO330 HO333 BK312 BK327 BK335 HB; intro HO322 HO325 HO330 HO333 HO338 HO341 BK312 BK327 BK335 HB; clear hb ho0 ho1) | ((with_reducible refine gate_dst (N := 16) rfl ?_); refine bx_ 16 26 #[.slice none 0 0, .slice none 0 0] ?_; intro gb343 hg w39 hbox hb; refine nx19_ (V_below (V_elderB (vU_ HO322.out) gb343 (Nat.le_of_eq hg.symm)) hb) (V_below (V_elderB (vU_ HO325.out) gb343 (Nat.le_of_eq hg.symm)) hb) (V_below (V_elderB (vU_ HO330.out) gb343 (Nat.le_of_eq hg.symm)) hb) (V_below (V_elderB (vU_ HO333.out) gb343 (Nat.le_of_eq hg.symm)) hb) (V_below (V_elderB (vU_ HO338.out) gb343 (Nat.le_of_eq hg.symm)) hb) (V_below (V_elderB (vU_ HO341.out) gb343 (Nat.le_of_eq hg.symm)) hb) (blk_below (kU_ BK312.out) hb) (blk_below (kU_ BK327.out) hb) (blk_below (kU_ BK335.out) hb) (below_step sU_ hb) (hbox) ((hs_ hg (below_size sU_) : w.heap.size ≤ gb343)) ((hs_ hg (below_size sU_) : w.heap.size ≤ gb343)) ((hl_ hg (kU_ BK312.out))) ((hm_ hg (kU_ BK312.out))) ((hl_ hg (kU_ BK327.out))) ((hm_ hg (kU_ BK327.out))) ((hl_ hg (kU_ BK335.out))) ((hm_ hg (kU_ BK335.out))) ?_; clear HO322 HO325 HO330 HO333 HO338 HO341 BK312 BK327 BK335 HB; intro HO322 HO325 HO330 HO333 HO338 HO341 BK312 BK327 BK335 HB BK343 GW343 GE343 NB312_343 NB343_312 NB327_343 NB343_327 NB335_343 NB343_335; clear hb hbox hg; obtain ⟨Ao40, co40, eo40⟩ := V_slice HO338.out; subst eo40; have hnb41 := NB343_312.out; have hnc41 := NB312_343.out; have hnb42 := NB343_327.out; have hnc42 := NB327_343.out; have hnb43 := NB343_335.out; have hnc43 := NB335_343.out; have hcz44_0 := bc0_ BK343.out; have hcz44_1 := bc1_ BK343.out; have hfz44_0 := bkf9_ BK343.out 0; have hfz44_1 := bkf9_ BK343.out 1; obtain ⟨Ao45, co45, eo45⟩ := V_slice HO341.out; subst eo45; have hcz46_0 := bc0_ BK327.out; have hcz46_1 := bc1_ BK327.out; have hfz46_0 := bkf9_ BK327.out 0; have hfz46_1 := bkf9_ BK327.out 1) | ((with_reducible refine gate_callee (f := 50) rfl ?_); refine gl_ (some 74) Tryd.func50 #[.agg #[.slice Ao27 t320.length co27, .slice Ao30 t323.length co30], .agg #[.slice Ao40 t336.length co40, .slice Ao45 t339.length co45]] ?_; (with_reducible refine (ratio_Add.calls k _ _ t320 _ _ t323 _ _ t336 _ _ t339 t344 t347 t350 _ ?side1 ?side2 ?side3 ?side4 ?side5 ?side6 ?side7 ?side8 A21.out).mono ?_); (case side1 => refine (V_reads' (e := 115) (base := w.heap.size) (ok := fun k_ => (((((w.heap.size ≤ k_) ∧ k_ ≠ gb312) ∧ k_ ≠ gb327) ∧ k_ ≠ gb335) ∧ k_ ≠ gb343)) (n := t320.length) (c := co27) ?_).2.2; exact (vL_ (vf_ gb343 HO322.out fun _ hk => hk.2))); (case side2 => exact (V_reads' HO322.out).2.1); (case side3 => refine (V_reads' (e := 115) (base := w.heap.size) (ok := fun k_ => (((((w.heap.size ≤ k_) ∧ k_ ≠ gb312) ∧ k_ ≠ gb327) ∧ k_ ≠ gb335) ∧ k_ ≠ gb343)) (n := t323.length) (c := co30) ?_).2.2; exact (vL_ (vf_ gb343 HO325.out fun _ hk => hk.2))); (case side4 => exact (V_reads' HO325.out).2.1); (case side5 => refine (V_reads' (e := 115) (base := w.heap.size) (ok := fun k_ => (((w.heap.size ≤ k_) ∧ (k_ ≠ gb312 ∧ (k_ ≠ gb327 ∧ k_ ≠ gb335))) ∧ k_ ≠ gb343)) (n := t336.length) (c := co40) ?_).2.2; exact (vL_ (vf_ gb343 HO338.out fun _ hk => hk.2))); (case side6 => exact (V_reads' HO338.out).2.1); (case side7 => refine (V_reads' (e := 115) (base := w.heap.size) (ok := fun k_ => (((w.heap.size ≤ k_) ∧ (k_ ≠ gb312 ∧ (k_ ≠ gb327 ∧ k_ ≠ gb335))) ∧ k_ ≠ gb343)) (n := t339.length) (c := co45) ?_).2.2; exact (vL_ (vf_ gb343 HO341.out fun _ hk => hk.2))); (case side8 => exact (V_reads' HO341.out).2.1); rintro e w47 ⟨v345, v348, rfl, ho0, ho1, hb⟩; refine ⟨_, rfl, ?_⟩; refine nx13_ (V_below (vL_ (vf_ gb343 HO322.out fun _ hk => hk.2)) hb) (V_below (vL_ (vf_ gb343 HO325.out fun _ hk => hk.2)) hb) (V_below (vL_ (vf_ gb343 HO330.out fun _ hk => hk.2)) hb) (V_below (vL_ (vf_ gb343 HO333.out fun _ hk => hk.2)) hb) (V_below (vL_ (vf_ gb343 HO338.out fun _ hk => hk.2)) hb) (V_below (vL_ (vf_ gb343 HO341.out fun _ hk => hk.2)) hb) (V_lower (V_mono (ok' := fun k_ => (w.heap.size ≤ k_) ∧ k_ ≠ gb312 ∧ k_ ≠ gb327 ∧ k_ ≠ gb335 ∧ k_ ≠ gb343) ho0 (fun k_ hk_ => ⟨(Nat.le_trans (below_size sU_) hk_), (freshB (g := gb312) (o := .cells #[.slice none 0 0, .slice none 0 0] 26 (0, 0)) kp_ k_ hk_), (freshB (g := gb327) (o := .cells #[.slice Ao27 t320.length co27, .slice Ao30 t323.length co30] 26 (0, 0)) kp_ k_ hk_), (freshB (g := gb335) (o := .cells #[.slice Ao33 t328.length co33, .slice Ao37 t331.length co37] 26 (0, 0)) kp_ k_ hk_), (freshB (g := gb343) (o := .cells #[.slice Ao40 t336.length co40, .slice Ao45 t339.length co45] 26 (0, 0)) kp_ k_ hk_)⟩)) (below_size sU_)) (V_lower (V_mono (ok' := fun k_ => (w.heap.size ≤ k_) ∧ k_ ≠ gb312 ∧ k_ ≠ gb327 ∧ k_ ≠ gb335 ∧ k_ ≠ gb343) ho1 (fun k_ hk_ => ⟨(Nat.le_trans (below_size sU_) hk_), (freshB (g := gb312) (o := .cells #[.slice none 0 0, .slice none 0 0] 26 (0, 0)) kp_ k_ hk_), (freshB (g := gb327) (o := .cells #[.slice Ao27 t320.length co27, .slice Ao30 t323.length co30] 26 (0, 0)) kp_ k_ hk_), (freshB (g := gb335) (o := .cells #[.slice Ao33 t328.length co33, .slice Ao37 t331.length co37] 26 (0, 0)) kp_ k_ hk_), (freshB (g := gb343) (o := .cells #[.slice Ao40 t336.length co40, .slice Ao45 t339.length co45] 26 (0, 0)) kp_ k_ hk_)⟩)) (below_size sU_)) (blk_below (g := gb312) (o := .cells #[.slice none 0 0, .slice none 0 0] 26 (0, 0)) kp_ hb) (blk_below (g := gb327) (o := .cells #[.slice Ao27 t320.length co27, .slice Ao30 t323.length co30] 26 (0, 0)) kp_ hb) (blk_below (g := gb335) (o := .cells #[.slice Ao33 t328.length co33, .slice Ao37 t331.length co37] 26 (0, 0)) kp_ hb) (blk_below (g := gb343) (o := .cells #[.slice Ao40 t336.length co40, .slice Ao45 t339.length co45] 26 (0, 0)) kp_ hb) (below_step sU_ hb) ?_; clear HO322 HO325 HO330 HO333 HO338 HO341 BK312 BK327 BK335 BK343 HB; intro HO322 HO325 HO330 HO333 HO338 HO341 HO346 HO349 BK312 BK327 BK335 BK343 HB; clear hb ho0 ho1; obtain ⟨Ao48, co48, eo48⟩ := V_slice HO346.out; subst eo48; obtain ⟨Ao49, co49, eo49⟩ := V_slice HO349.out; subst eo49) | ((with_reducible refine gate_callee (f := 49) rfl ?_); refine gl_ (some 77) Tryd.func49 #[.agg #[.slice Ao48 t344.length co48, .slice Ao49 t347.length co49], .int .i64 t350] ?_; (with_reducible refine (gap_least.calls k (fun k_ => ((w.heap.size ≤ k_) ∧ (k_ ≠ gb312 ∧ (k_ ≠ gb327 ∧ (k_ ≠ gb335 ∧ k_ ≠ gb343))))) _ _ t344 (fun k_ => ((w.heap.size ≤ k_) ∧ (k_ ≠ gb312 ∧ (k_ ≠ gb327 ∧ (k_ ≠ gb335 ∧ k_ ≠ gb343))))) _ _ t347 t350 t351 t354 t357 _ ?side1 ?side2 A22.out).mono ?_); (case side1 => exact HO346.out); (case side2 => exact HO349.out); rintro e w50 ⟨v352, v355, rfl, ho0, ho1, hb⟩; refine ⟨_, rfl, ?_⟩; refine nx15_ (V_below (vU_ HO322.out) hb) (V_below (vU_ HO325.out) hb) (V_below (vU_ HO330.out) hb) (V_below (vU_ HO333.out) hb) (V_below (vU_ HO338.out) hb) (V_below (vU_ HO341.out) hb) (V_below (vU_ HO346.out) hb) (V_below (vU_ HO349.out) hb) (V_lower (V_mono (ok' := fun k_ => (w.heap.size ≤ k_) ∧ k_ ≠ gb312 ∧ k_ ≠ gb327 ∧ k_ ≠ gb335 ∧ k_ ≠ gb343) ho0 (fun k_ hk_ => ⟨Or.elim hk_ (fun hs_ => Or.elim hs_ (fun hs_ => hs_.1) (fun hs_ => hs_.1)) (fun hn_ => (Nat.le_trans (below_size sU_) hn_)), Or.elim hk_ (fun hs_ => Or.elim hs_ (fun hs_ => hs_.2.1) (fun hs_ => hs_.2.1)) (fun hn_ => (freshB (kU_ BK312.out) k_ hn_)), Or.elim hk_ (fun hs_ => Or.elim hs_ (fun hs_ => hs_.2.2.1) (fun hs_ => hs_.2.2.1)) (fun hn_ => (freshB (kU_ BK327.out) k_ hn_)), Or.elim hk_ (fun hs_ => Or.elim hs_ (fun hs_ => hs_.2.2.2.1) (fun hs_ => hs_.2.2.2.1)) (fun hn_ => (freshB (kU_ BK335.out) k_ hn_)), Or.elim hk_ (fun hs_ => Or.elim hs_ (fun hs_ => hs_.2.2.2.2) (fun hs_ => hs_.2.2.2.2)) (fun hn_ => (freshB (kU_ BK343.out) k_ hn_))⟩)) (below_size sU_)) (V_lower (V_mono (ok' := fun k_ => (w.heap.size ≤ k_) ∧ k_ ≠ gb312 ∧ k_ ≠ gb327 ∧ k_ ≠ gb335 ∧ k_ ≠ gb343) ho1 (fun k_ hk_ => ⟨Or.elim hk_ (fun hs_ => Or.elim hs_ (fun hs_ => hs_.1) (fun hs_ => hs_.1)) (fun hn_ => (Nat.le_trans (below_size sU_) hn_)), Or.elim hk_ (fun hs_ => Or.elim hs_ (fun hs_ => hs_.2.1) (fun hs_ => hs_.2.1)) (fun hn_ => (freshB (kU_ BK312.out) k_ hn_)), Or.elim hk_ (fun hs_ => Or.elim hs_ (fun hs_ => hs_.2.2.1) (fun hs_ => hs_.2.2.1)) (fun hn_ => (freshB (kU_ BK327.out) k_ hn_)), Or.elim hk_ (fun hs_ => Or.elim hs_ (fun hs_ => hs_.2.2.2.1) (fun hs_ => hs_.2.2.2.1)) (fun hn_ => (freshB (kU_ BK335.out) k_ hn_)), Or.elim hk_ (fun hs_ => Or.elim hs_ (fun hs_ => hs_.2.2.2.2) (fun hs_ => hs_.2.2.2.2)) (fun hn_ => (freshB (kU_ BK343.out) k_ hn_))⟩)) (below_size sU_)) (blk_below (kU_ BK312.out) hb) (blk_below (kU_ BK327.out) hb) (blk_below (kU_ BK335.out) hb) (blk_below (kU_ BK343.out) hb) (below_step sU_ hb) ?_; clear HO322 HO325 HO330 HO333 HO338 HO341 HO346 HO349 BK312 BK327 BK335 BK343 HB; intro HO322 HO325 HO330 HO333 HO338 HO341 HO346 HO349 HO353 HO356 BK312 BK327 BK335 BK343 HB; clear hb ho0 ho1; obtain ⟨Ao51, co51, eo51⟩ := V_slice HO353.out; subst eo51; have hcz52_0 := bc0_ BK312.out; have hcz52_1 := bc1_ BK312.out; have hfz52_0 := bkf9_ BK312.out 0; have hfz52_1 := bkf9_ BK312.out 1; obtain ⟨Ao53, co53, eo53⟩ := V_slice HO356.out; subst eo53))
      refine bodyPost_ret (results_ct rfl _ _ gb312 26 #[.slice Ao51 t351.length co51, .slice Ao53 t354.length co53] (0, 0) _ rfl kp_ Tryd.underlying26 rfl (by kernel_rfl)) rfl ?_
      exact ⟨_, _, eW_, by (with_reducible repeat (first | apply Kd.V_alloc | apply Kd.V_drewN | apply V_drew)); exact V_mono (V_far (p := ⟨gb312, 1, none⟩) (V_far (p := ⟨gb312, 0, none⟩) (V_mono HO353.out (fun k_ hk => (⟨hk, hk.2.1⟩ : _ ∧ k_ ≠ gb312))) (fun _ hk => hk.2) (.slice Ao51 t351.length co51)) (fun _ hk => hk.2) (.slice Ao53 t354.length co53)) (fun _ hk => hk.1.1), by (with_reducible repeat (first | apply Kd.V_alloc | apply Kd.V_drewN | apply V_drew)); exact V_mono (V_far (p := ⟨gb312, 1, none⟩) (V_far (p := ⟨gb312, 0, none⟩) (V_mono HO356.out (fun k_ hk => (⟨hk, hk.2.1⟩ : _ ∧ k_ ≠ gb312))) (fun _ hk => hk.2) (.slice Ao51 t351.length co51)) (fun _ hk => hk.2) (.slice Ao53 t354.length co53)) (fun _ hk => hk.1.1), sU_⟩
     replace c15 := Bool.eq_false_iff.mpr c15
     subst c15
     rw [if_neg (show ¬ (false = true) by decide)] at H
     simp only [Option.some.injEq, Prod.mk.injEq] at H
     obtain ⟨rfl, rfl, rfl⟩ := H
     go_enter Tryd.func9, Tryd.ntmps9
     go_wp2_with (first | ((with_reducible refine gate_dst (N := 10) rfl ?_); refine bx_ 10 26 #[.slice none 0 0, .slice none 0 0] ?_; intro gb312 hg w54 hbox hb; refine nx4_ (below_step (bU_ HB.out) hb) (hbox) ((hs_ hg (below_size (bU_ HB.out)))) ((hs_ hg (below_size (bU_ HB.out)))) ?_; clear HB; intro HB BK312 GW312 GE312; clear hb hbox hg) | ((with_reducible refine gate_callee (f := 43) rfl ?_); refine gl_ (some 20) Tryd.func43 #[.int .i64 a0] ?_; (with_reducible refine (field_Valid.calls a0 true _ A6.out).mono ?_); rintro e w' ⟨rfl, ⟨nd, rfl⟩⟩; refine ⟨_, rfl, ?_⟩; (try (rw [drewN_self w54]; generalize hq_ : World.drewN w54 _ = w54; have n0_ : Aside0 (w54.heap[gb312]? = some (.cells #[.slice none 0 0, .slice none 0 0] 26 (0, 0))) := ⟨by rw [← hq_]; exact (kU_ BK312.out)⟩; have n1_ : Aside0 (Below w.heap.size w w54) := ⟨by rw [← hq_]; exact sU_⟩; clear BK312 HB hq_; have BK312 := n0_; have HB := n1_; clear n0_ n1_))) | ((with_reducible refine gate_callee (f := 44) rfl ?_); refine gl_ (some 25) Tryd.func44 #[.int .i64 a1, .int .i64 1, .int .i64 32] ?_; (with_reducible refine (gap_within.calls a1 1 32 true _ A8.out).mono ?_); rintro e w' ⟨rfl, ⟨nd, rfl⟩⟩; refine ⟨_, rfl, ?_⟩; (try (rw [drewN_self w54]; generalize hq_ : World.drewN w54 _ = w54; have n0_ : Aside0 (w54.heap[gb312]? = some (.cells #[.slice none 0 0, .slice none 0 0] 26 (0, 0))) := ⟨by rw [← hq_]; exact (kU_ BK312.out)⟩; have n1_ : Aside0 (Below w.heap.size w w54) := ⟨by rw [← hq_]; exact sU_⟩; clear BK312 HB hq_; have BK312 := n0_; have HB := n1_; clear n0_ n1_))) | (go_at_call 44; (with_reducible refine (gap_within.calls a2 0 a1 true _ A10.out).mono ?_); rintro e w' ⟨rfl, ⟨nd, rfl⟩⟩; (try (rw [drewN_self w54]; generalize hq_ : World.drewN w54 _ = w54; have n0_ : Aside0 (w54.heap[gb312]? = some (.cells #[.slice none 0 0, .slice none 0 0] 26 (0, 0))) := ⟨by rw [← hq_]; exact (kU_ BK312.out)⟩; have n1_ : Aside0 (Below w.heap.size w w54) := ⟨by rw [← hq_]; exact sU_⟩; clear BK312 HB hq_; have BK312 := n0_; have HB := n1_; clear n0_ n1_))) | (go_at_call 44; (with_reducible refine (gap_within.calls a3 1 64 true _ A12.out).mono ?_); rintro e w' ⟨rfl, ⟨nd, rfl⟩⟩; (try (rw [drewN_self w54]; generalize hq_ : World.drewN w54 _ = w54; have n0_ : Aside0 (w54.heap[gb312]? = some (.cells #[.slice none 0 0, .slice none 0 0] 26 (0, 0))) := ⟨by rw [← hq_]; exact (kU_ BK312.out)⟩; have n1_ : Aside0 (Below w.heap.size w w54) := ⟨by rw [← hq_]; exact sU_⟩; clear BK312 HB hq_; have BK312 := n0_; have HB := n1_; clear n0_ n1_))) | (go_at_call 44; (with_reducible refine (gap_within.calls a4 0 64 false _ A14.out).mono ?_); rintro e w' ⟨rfl, ⟨nd, rfl⟩⟩; (try (rw [drewN_self w54]; generalize hq_ : World.drewN w54 _ = w54; have n0_ : Aside0 (w54.heap[gb312]? = some (.cells #[.slice none 0 0, .slice none 0 0] 26 (0, 0))) := ⟨by rw [← hq_]; exact (kU_ BK312.out)⟩; have n1_ : Aside0 (Below w.heap.size w w54) := ⟨by rw [← hq_]; exact sU_⟩; clear BK312 HB hq_; have BK312 := n0_; have HB := n1_; clear n0_ n1_)); have hcz55_0 := bc0_ BK312.out; have hcz55_1 := bc1_ BK312.out; have hfz55_0 := bkf9_ BK312.out 0; have hfz55_1 := bkf9_ BK312.out 1))
     refine bodyPost_ret (results_ct rfl _ _ gb312 26 #[.slice none 0 0, .slice none 0 0] (0, 0) _ rfl kp_ Tryd.underlying26 rfl (by kernel_rfl)) rfl ?_
     exact ⟨_, _, eW_, Kd.V_nil _ _ _ _ _, Kd.V_nil _ _ _ _ _, sU_⟩
    replace c13 := Bool.eq_false_iff.mpr c13
    subst c13
    rw [if_neg (show ¬ (false = true) by decide)] at H
    simp only [Option.some.injEq, Prod.mk.injEq] at H
    obtain ⟨rfl, rfl, rfl⟩ := H
    go_enter Tryd.func9, Tryd.ntmps9
    go_wp2_with (first | ((with_reducible refine gate_dst (N := 10) rfl ?_); refine bx_ 10 26 #[.slice none 0 0, .slice none 0 0] ?_; intro gb312 hg w56 hbox hb; refine nx4_ (below_step (bU_ HB.out) hb) (hbox) ((hs_ hg (below_size (bU_ HB.out)))) ((hs_ hg (below_size (bU_ HB.out)))) ?_; clear HB; intro HB BK312 GW312 GE312; clear hb hbox hg) | ((with_reducible refine gate_callee (f := 43) rfl ?_); refine gl_ (some 20) Tryd.func43 #[.int .i64 a0] ?_; (with_reducible refine (field_Valid.calls a0 true _ A6.out).mono ?_); rintro e w' ⟨rfl, ⟨nd, rfl⟩⟩; refine ⟨_, rfl, ?_⟩; (try (rw [drewN_self w56]; generalize hq_ : World.drewN w56 _ = w56; have n0_ : Aside0 (w56.heap[gb312]? = some (.cells #[.slice none 0 0, .slice none 0 0] 26 (0, 0))) := ⟨by rw [← hq_]; exact (kU_ BK312.out)⟩; have n1_ : Aside0 (Below w.heap.size w w56) := ⟨by rw [← hq_]; exact sU_⟩; clear BK312 HB hq_; have BK312 := n0_; have HB := n1_; clear n0_ n1_))) | ((with_reducible refine gate_callee (f := 44) rfl ?_); refine gl_ (some 25) Tryd.func44 #[.int .i64 a1, .int .i64 1, .int .i64 32] ?_; (with_reducible refine (gap_within.calls a1 1 32 true _ A8.out).mono ?_); rintro e w' ⟨rfl, ⟨nd, rfl⟩⟩; refine ⟨_, rfl, ?_⟩; (try (rw [drewN_self w56]; generalize hq_ : World.drewN w56 _ = w56; have n0_ : Aside0 (w56.heap[gb312]? = some (.cells #[.slice none 0 0, .slice none 0 0] 26 (0, 0))) := ⟨by rw [← hq_]; exact (kU_ BK312.out)⟩; have n1_ : Aside0 (Below w.heap.size w w56) := ⟨by rw [← hq_]; exact sU_⟩; clear BK312 HB hq_; have BK312 := n0_; have HB := n1_; clear n0_ n1_))) | (go_at_call 44; (with_reducible refine (gap_within.calls a2 0 a1 true _ A10.out).mono ?_); rintro e w' ⟨rfl, ⟨nd, rfl⟩⟩; (try (rw [drewN_self w56]; generalize hq_ : World.drewN w56 _ = w56; have n0_ : Aside0 (w56.heap[gb312]? = some (.cells #[.slice none 0 0, .slice none 0 0] 26 (0, 0))) := ⟨by rw [← hq_]; exact (kU_ BK312.out)⟩; have n1_ : Aside0 (Below w.heap.size w w56) := ⟨by rw [← hq_]; exact sU_⟩; clear BK312 HB hq_; have BK312 := n0_; have HB := n1_; clear n0_ n1_))) | (go_at_call 44; (with_reducible refine (gap_within.calls a3 1 64 false _ A12.out).mono ?_); rintro e w' ⟨rfl, ⟨nd, rfl⟩⟩; (try (rw [drewN_self w56]; generalize hq_ : World.drewN w56 _ = w56; have n0_ : Aside0 (w56.heap[gb312]? = some (.cells #[.slice none 0 0, .slice none 0 0] 26 (0, 0))) := ⟨by rw [← hq_]; exact (kU_ BK312.out)⟩; have n1_ : Aside0 (Below w.heap.size w w56) := ⟨by rw [← hq_]; exact sU_⟩; clear BK312 HB hq_; have BK312 := n0_; have HB := n1_; clear n0_ n1_)); have hcz57_0 := bc0_ BK312.out; have hcz57_1 := bc1_ BK312.out; have hfz57_0 := bkf9_ BK312.out 0; have hfz57_1 := bkf9_ BK312.out 1))
    refine bodyPost_ret (results_ct rfl _ _ gb312 26 #[.slice none 0 0, .slice none 0 0] (0, 0) _ rfl kp_ Tryd.underlying26 rfl (by kernel_rfl)) rfl ?_
    exact ⟨_, _, eW_, Kd.V_nil _ _ _ _ _, Kd.V_nil _ _ _ _ _, sU_⟩
   replace c11 := Bool.eq_false_iff.mpr c11
   subst c11
   rw [if_neg (show ¬ (false = true) by decide)] at H
   simp only [Option.some.injEq, Prod.mk.injEq] at H
   obtain ⟨rfl, rfl, rfl⟩ := H
   go_enter Tryd.func9, Tryd.ntmps9
   go_wp2_with (first | ((with_reducible refine gate_dst (N := 10) rfl ?_); refine bx_ 10 26 #[.slice none 0 0, .slice none 0 0] ?_; intro gb312 hg w58 hbox hb; refine nx4_ (below_step (bU_ HB.out) hb) (hbox) ((hs_ hg (below_size (bU_ HB.out)))) ((hs_ hg (below_size (bU_ HB.out)))) ?_; clear HB; intro HB BK312 GW312 GE312; clear hb hbox hg) | ((with_reducible refine gate_callee (f := 43) rfl ?_); refine gl_ (some 20) Tryd.func43 #[.int .i64 a0] ?_; (with_reducible refine (field_Valid.calls a0 true _ A6.out).mono ?_); rintro e w' ⟨rfl, ⟨nd, rfl⟩⟩; refine ⟨_, rfl, ?_⟩; (try (rw [drewN_self w58]; generalize hq_ : World.drewN w58 _ = w58; have n0_ : Aside0 (w58.heap[gb312]? = some (.cells #[.slice none 0 0, .slice none 0 0] 26 (0, 0))) := ⟨by rw [← hq_]; exact (kU_ BK312.out)⟩; have n1_ : Aside0 (Below w.heap.size w w58) := ⟨by rw [← hq_]; exact sU_⟩; clear BK312 HB hq_; have BK312 := n0_; have HB := n1_; clear n0_ n1_))) | ((with_reducible refine gate_callee (f := 44) rfl ?_); refine gl_ (some 25) Tryd.func44 #[.int .i64 a1, .int .i64 1, .int .i64 32] ?_; (with_reducible refine (gap_within.calls a1 1 32 true _ A8.out).mono ?_); rintro e w' ⟨rfl, ⟨nd, rfl⟩⟩; refine ⟨_, rfl, ?_⟩; (try (rw [drewN_self w58]; generalize hq_ : World.drewN w58 _ = w58; have n0_ : Aside0 (w58.heap[gb312]? = some (.cells #[.slice none 0 0, .slice none 0 0] 26 (0, 0))) := ⟨by rw [← hq_]; exact (kU_ BK312.out)⟩; have n1_ : Aside0 (Below w.heap.size w w58) := ⟨by rw [← hq_]; exact sU_⟩; clear BK312 HB hq_; have BK312 := n0_; have HB := n1_; clear n0_ n1_))) | (go_at_call 44; (with_reducible refine (gap_within.calls a2 0 a1 false _ A10.out).mono ?_); rintro e w' ⟨rfl, ⟨nd, rfl⟩⟩; (try (rw [drewN_self w58]; generalize hq_ : World.drewN w58 _ = w58; have n0_ : Aside0 (w58.heap[gb312]? = some (.cells #[.slice none 0 0, .slice none 0 0] 26 (0, 0))) := ⟨by rw [← hq_]; exact (kU_ BK312.out)⟩; have n1_ : Aside0 (Below w.heap.size w w58) := ⟨by rw [← hq_]; exact sU_⟩; clear BK312 HB hq_; have BK312 := n0_; have HB := n1_; clear n0_ n1_)); have hcz59_0 := bc0_ BK312.out; have hcz59_1 := bc1_ BK312.out; have hfz59_0 := bkf9_ BK312.out 0; have hfz59_1 := bkf9_ BK312.out 1))
   refine bodyPost_ret (results_ct rfl _ _ gb312 26 #[.slice none 0 0, .slice none 0 0] (0, 0) _ rfl kp_ Tryd.underlying26 rfl (by kernel_rfl)) rfl ?_
   exact ⟨_, _, eW_, Kd.V_nil _ _ _ _ _, Kd.V_nil _ _ _ _ _, sU_⟩
  replace c9 := Bool.eq_false_iff.mpr c9
  subst c9
  rw [if_neg (show ¬ (false = true) by decide)] at H
  simp only [Option.some.injEq, Prod.mk.injEq] at H
  obtain ⟨rfl, rfl, rfl⟩ := H
  go_enter Tryd.func9, Tryd.ntmps9
  go_wp2_with (first | ((with_reducible refine gate_dst (N := 10) rfl ?_); refine bx_ 10 26 #[.slice none 0 0, .slice none 0 0] ?_; intro gb312 hg w60 hbox hb; refine nx4_ (below_step (bU_ HB.out) hb) (hbox) ((hs_ hg (below_size (bU_ HB.out)))) ((hs_ hg (below_size (bU_ HB.out)))) ?_; clear HB; intro HB BK312 GW312 GE312; clear hb hbox hg) | ((with_reducible refine gate_callee (f := 43) rfl ?_); refine gl_ (some 20) Tryd.func43 #[.int .i64 a0] ?_; (with_reducible refine (field_Valid.calls a0 true _ A6.out).mono ?_); rintro e w' ⟨rfl, ⟨nd, rfl⟩⟩; refine ⟨_, rfl, ?_⟩; (try (rw [drewN_self w60]; generalize hq_ : World.drewN w60 _ = w60; have n0_ : Aside0 (w60.heap[gb312]? = some (.cells #[.slice none 0 0, .slice none 0 0] 26 (0, 0))) := ⟨by rw [← hq_]; exact (kU_ BK312.out)⟩; have n1_ : Aside0 (Below w.heap.size w w60) := ⟨by rw [← hq_]; exact sU_⟩; clear BK312 HB hq_; have BK312 := n0_; have HB := n1_; clear n0_ n1_))) | ((with_reducible refine gate_callee (f := 44) rfl ?_); refine gl_ (some 25) Tryd.func44 #[.int .i64 a1, .int .i64 1, .int .i64 32] ?_; (with_reducible refine (gap_within.calls a1 1 32 false _ A8.out).mono ?_); rintro e w' ⟨rfl, ⟨nd, rfl⟩⟩; refine ⟨_, rfl, ?_⟩; (try (rw [drewN_self w60]; generalize hq_ : World.drewN w60 _ = w60; have n0_ : Aside0 (w60.heap[gb312]? = some (.cells #[.slice none 0 0, .slice none 0 0] 26 (0, 0))) := ⟨by rw [← hq_]; exact (kU_ BK312.out)⟩; have n1_ : Aside0 (Below w.heap.size w w60) := ⟨by rw [← hq_]; exact sU_⟩; clear BK312 HB hq_; have BK312 := n0_; have HB := n1_; clear n0_ n1_)); have hcz61_0 := bc0_ BK312.out; have hcz61_1 := bc1_ BK312.out; have hfz61_0 := bkf9_ BK312.out 0; have hfz61_1 := bkf9_ BK312.out 1))
  refine bodyPost_ret (results_ct rfl _ _ gb312 26 #[.slice none 0 0, .slice none 0 0] (0, 0) _ rfl kp_ Tryd.underlying26 rfl (by kernel_rfl)) rfl ?_
  exact ⟨_, _, eW_, Kd.V_nil _ _ _ _ _, Kd.V_nil _ _ _ _ _, sU_⟩
 replace c7 := Bool.eq_false_iff.mpr c7
 subst c7
 rw [if_neg (show ¬ (false = true) by decide)] at H
 simp only [Option.some.injEq, Prod.mk.injEq] at H
 obtain ⟨rfl, rfl, rfl⟩ := H
 go_enter Tryd.func9, Tryd.ntmps9
 go_wp2_with (first | ((with_reducible refine gate_dst (N := 10) rfl ?_); refine bx_ 10 26 #[.slice none 0 0, .slice none 0 0] ?_; intro gb312 hg w62 hbox hb; refine nx4_ (below_step (bU_ HB.out) hb) (hbox) ((hs_ hg (below_size (bU_ HB.out)))) ((hs_ hg (below_size (bU_ HB.out)))) ?_; clear HB; intro HB BK312 GW312 GE312; clear hb hbox hg) | ((with_reducible refine gate_callee (f := 43) rfl ?_); refine gl_ (some 20) Tryd.func43 #[.int .i64 a0] ?_; (with_reducible refine (field_Valid.calls a0 false _ A6.out).mono ?_); rintro e w' ⟨rfl, ⟨nd, rfl⟩⟩; refine ⟨_, rfl, ?_⟩; (try (rw [drewN_self w62]; generalize hq_ : World.drewN w62 _ = w62; have n0_ : Aside0 (w62.heap[gb312]? = some (.cells #[.slice none 0 0, .slice none 0 0] 26 (0, 0))) := ⟨by rw [← hq_]; exact (kU_ BK312.out)⟩; have n1_ : Aside0 (Below w.heap.size w w62) := ⟨by rw [← hq_]; exact sU_⟩; clear BK312 HB hq_; have BK312 := n0_; have HB := n1_; clear n0_ n1_)); have hcz63_0 := bc0_ BK312.out; have hcz63_1 := bc1_ BK312.out; have hfz63_0 := bkf9_ BK312.out 0; have hfz63_1 := bkf9_ BK312.out 1))
 refine bodyPost_ret (results_ct rfl _ _ gb312 26 #[.slice none 0 0, .slice none 0 0] (0, 0) _ rfl kp_ Tryd.underlying26 rfl (by kernel_rfl)) rfl ?_
 exact ⟨_, _, eW_, Kd.V_nil _ _ _ _ _, Kd.V_nil _ _ _ _ _, sU_⟩

def gap_bound.f (k : Nat) (a0 : Int) (a1 : Int) (a2 : Int) : Option (List Int × List Int × Int) := (field_P.f a0).bind fun t636 => ((ratio_Of.f k (IntKind.u64.wrap (wrap64 ((mx 0 a1) * (mx 1 (wrap64 (a2 - 1)))))) t636).bind fun bt637 => ((gap_least.f k bt637.1 bt637.2.1 bt637.2.2).bind fun bt644 => (some (bt644.1, bt644.2.1, bt644.2.2))))
theorem gap_bound.mono : ∀ a0 a1 a2 k, LeO (gap_bound.f k a0 a1 a2) (gap_bound.f (k + 1) a0 a1 a2) := by
 intro a0 a1 a2 k
 unfold gap_bound.f
 with_reducible repeat' first | apply gap_least.mono | apply ratio_Of.mono | exact LeO.refl _ | exact LeO.none _ | refine LeO.ite ?_ ?_ | refine LeO.bind ?_ (fun _ => ?_)
set_option maxHeartbeats 8000000 in
set_option maxRecDepth 100000 in
theorem gap_bound.calls (k : Nat) (a0 : Int) (a1 : Int) (a2 : Int) (r1 : List Int) (r2 : List Int) (r3 : Int) (w : World) (hG : Fld w) (h : gap_bound.f k a0 a1 a2 = some (r1, r2, r3)) :
  Calls Tryd.prog 59 #[.int .i64 a0, .int .i64 a1, .int .i64 a2] w fun e w' => ∃ v0_ v1_ : Value, e = .returned (.tuple #[.agg #[v0_, v1_], .int .i64 r3]) ∧ Kd.V (Kd.int .u32) 115 w' w.heap.size (fun k_ => (w.heap.size ≤ k_)) v0_ r1 ∧ Kd.V (Kd.int .u32) 115 w' w.heap.size (fun k_ => (w.heap.size ≤ k_)) v1_ r2 ∧ Below w.heap.size w w' := by
 have hu26 := Tryd.underlying26
 have HG := ak hG
 clear hG
 have HB := ak (Below.refl w.heap.size w)
 have H := h
 clear h
 unfold gap_bound.f at H
 obtain ⟨ji4, hji4⟩ : ∃ j_ : Int, (mx 0 a1) = j_ := ⟨_, rfl⟩
 first | rw [hji4] at H | simp only [hji4] at H
 (try (have hji4l : 0 ≤ ji4 := by (rw [← hji4]; unfold mx; (repeat' split) <;> omega)))
 (try (have hji4m : 0 ≤ ji4 := by omega))
 have hji4_ : (if 0 < a1 then a1 else 0) = ji4 := hji4
 obtain ⟨ji5, hji5⟩ : ∃ j_ : Int, (mx 1 (wrap64 (a2 - 1))) = j_ := ⟨_, rfl⟩
 first | rw [hji5] at H | simp only [hji5] at H
 (try (have hji5l : 1 ≤ ji5 := by (rw [← hji5]; unfold mx; (repeat' split) <;> omega)))
 (try (have hji5m : 0 ≤ ji5 := by omega))
 have hji5_ : (if 1 < (wrap64 (a2 - 1)) then (wrap64 (a2 - 1)) else 1) = ji5 := hji5
 revert H
 refine bd_ fun t636 A6 H => ?_
 revert H
 refine bd3_ fun t637 t640 t643 A7 H => ?_
 try dsimp only at H
 revert H
 refine bd3_ fun t644 t647 t650 A8 H => ?_
 try dsimp only at H
 simp only [Option.some.injEq, Prod.mk.injEq] at H
 obtain ⟨rfl, rfl, rfl⟩ := H
 go_enter Tryd.func59, Tryd.ntmps59
 go_wp2_with (first | ((with_reducible refine gate_dst (N := 6) rfl ?_); refine bx_ 6 26 #[.slice none 0 0, .slice none 0 0] ?_; intro gb635 hg w9 hbox hb; refine nx4_ (below_step (bU_ HB.out) hb) (hbox) ((hs_ hg (below_size (bU_ HB.out)))) ((hs_ hg (below_size (bU_ HB.out)))) ?_; clear HB; intro HB BK635 GW635 GE635; clear hb hbox hg) | ((with_reducible refine gate_callee (f := 47) rfl ?_); refine gl_ (some 16) Tryd.func47 #[.int .i64 a0] ?_; (with_reducible refine (field_P.calls a0 t636 _ ?side1 A6.out).mono ?_); (case side1 => repeat (first | with_reducible exact HG.out | with_reducible exact (Fld.below HG.out HB.out) | exact (Fld.below HG.out sU_) | (with_reducible refine Fld.alloc ?_ _) | (with_reducible refine Fld.drewN ?_ _) | (with_reducible refine Fld.drew ?_))); rintro e w10 ⟨rfl, hb⟩; refine ⟨_, rfl, ?_⟩; refine nx2_ (blk_below (kU_ BK635.out) hb) (below_step sU_ hb) ?_; clear BK635 HB; intro BK635 HB; clear hb) | ((with_reducible refine gate_callee (f := 45) rfl ?_); refine goesL_ (some 17) rfl rfl Tryd.func45 (by kernel_rfl) rfl #[.int .u64 (IntKind.u64.wrap (wrap64 ((ji4) * (ji5)))), .int .u64 t636] rfl (by (try simp only [List.map_toArray, List.map_cons, List.map_nil]); first | done | (simp only [hji4, hji5]; rfl) | rfl | (simp only [List.length_drop, List.length_take]; rfl)) ?_; (with_reducible refine (ratio_Of.calls k (IntKind.u64.wrap (wrap64 ((ji4) * (ji5)))) t636 t637 t640 t643 _ A7.out).mono ?_); rintro e w11 ⟨v638, v641, rfl, ho0, ho1, hb⟩; refine ⟨_, rfl, ?_⟩; refine nx4_ (V_lower (V_mono (ok' := fun k_ => (w.heap.size ≤ k_) ∧ k_ ≠ gb635) ho0 (fun k_ hk_ => ⟨(Nat.le_trans (below_size sU_) hk_), (freshB (kU_ BK635.out) k_ hk_)⟩)) (below_size sU_)) (V_lower (V_mono (ok' := fun k_ => (w.heap.size ≤ k_) ∧ k_ ≠ gb635) ho1 (fun k_ hk_ => ⟨(Nat.le_trans (below_size sU_) hk_), (freshB (kU_ BK635.out) k_ hk_)⟩)) (below_size sU_)) (blk_below (kU_ BK635.out) hb) (below_step sU_ hb) ?_; clear BK635 HB; intro HO639 HO642 BK635 HB; clear hb ho0 ho1; obtain ⟨Ao12, co12, eo12⟩ := V_slice HO639.out; subst eo12; obtain ⟨Ao13, co13, eo13⟩ := V_slice HO642.out; subst eo13) | ((with_reducible refine gate_callee (f := 49) rfl ?_); refine gl_ (some 20) Tryd.func49 #[.agg #[.slice Ao12 t637.length co12, .slice Ao13 t640.length co13], .int .i64 t643] ?_; (with_reducible refine (gap_least.calls k (fun k_ => ((w.heap.size ≤ k_) ∧ k_ ≠ gb635)) _ _ t637 (fun k_ => ((w.heap.size ≤ k_) ∧ k_ ≠ gb635)) _ _ t640 t643 t644 t647 t650 _ ?side1 ?side2 A8.out).mono ?_); (case side1 => exact HO639.out); (case side2 => exact HO642.out); rintro e w14 ⟨v645, v648, rfl, ho0, ho1, hb⟩; refine ⟨_, rfl, ?_⟩; refine nx6_ (V_below (vU_ HO639.out) hb) (V_below (vU_ HO642.out) hb) (V_lower (V_mono (ok' := fun k_ => (w.heap.size ≤ k_) ∧ k_ ≠ gb635) ho0 (fun k_ hk_ => ⟨Or.elim hk_ (fun hs_ => Or.elim hs_ (fun hs_ => hs_.1) (fun hs_ => hs_.1)) (fun hn_ => (Nat.le_trans (below_size sU_) hn_)), Or.elim hk_ (fun hs_ => Or.elim hs_ (fun hs_ => hs_.2) (fun hs_ => hs_.2)) (fun hn_ => (freshB (kU_ BK635.out) k_ hn_))⟩)) (below_size sU_)) (V_lower (V_mono (ok' := fun k_ => (w.heap.size ≤ k_) ∧ k_ ≠ gb635) ho1 (fun k_ hk_ => ⟨Or.elim hk_ (fun hs_ => Or.elim hs_ (fun hs_ => hs_.1) (fun hs_ => hs_.1)) (fun hn_ => (Nat.le_trans (below_size sU_) hn_)), Or.elim hk_ (fun hs_ => Or.elim hs_ (fun hs_ => hs_.2) (fun hs_ => hs_.2)) (fun hn_ => (freshB (kU_ BK635.out) k_ hn_))⟩)) (below_size sU_)) (blk_below (kU_ BK635.out) hb) (below_step sU_ hb) ?_; clear HO639 HO642 BK635 HB; intro HO639 HO642 HO646 HO649 BK635 HB; clear hb ho0 ho1; obtain ⟨Ao15, co15, eo15⟩ := V_slice HO646.out; subst eo15; have hcz16_0 := bc0_ BK635.out; have hcz16_1 := bc1_ BK635.out; have hfz16_0 := bkf9_ BK635.out 0; have hfz16_1 := bkf9_ BK635.out 1; obtain ⟨Ao17, co17, eo17⟩ := V_slice HO649.out; subst eo17))
 refine bodyPost_ret (results_ct rfl _ _ gb635 26 #[.slice Ao15 t644.length co15, .slice Ao17 t647.length co17] (0, 0) _ rfl kp_ Tryd.underlying26 rfl (by kernel_rfl)) rfl ?_
 exact ⟨_, _, by first | rfl | (simp [errW_none, errW_some] <;> rfl) | (simp only [← hji4, ← hji5]; first | rfl | (simp [errW_none, errW_some] <;> rfl)) | (simp [*, errW_none, errW_some] <;> rfl), by (with_reducible repeat (first | apply Kd.V_alloc | apply Kd.V_drewN | apply V_drew)); exact V_mono (V_far (p := ⟨gb635, 1, none⟩) (V_far (p := ⟨gb635, 0, none⟩) (V_mono HO646.out (fun k_ hk => (⟨hk, hk.2⟩ : _ ∧ k_ ≠ gb635))) (fun _ hk => hk.2) (.slice Ao15 t644.length co15)) (fun _ hk => hk.2) (.slice Ao17 t647.length co17)) (fun _ hk => hk.1.1), by (with_reducible repeat (first | apply Kd.V_alloc | apply Kd.V_drewN | apply V_drew)); exact V_mono (V_far (p := ⟨gb635, 1, none⟩) (V_far (p := ⟨gb635, 0, none⟩) (V_mono HO649.out (fun k_ hk => (⟨hk, hk.2⟩ : _ ∧ k_ ≠ gb635))) (fun _ hk => hk.2) (.slice Ao15 t644.length co15)) (fun _ hk => hk.2) (.slice Ao17 t647.length co17)) (fun _ hk => hk.1.1), sU_⟩

def gap_EqualBound.f (k : Nat) (a0 : Int) (a1 : Int) (a2 : Int) : Option (List Int × List Int × Int) := (field_Valid.f a0).bind fun t652 => (if t652 = true then ((gap_within.f a1 0 1000).bind fun t653 => (if t653 = true then ((gap_within.f a2 1 64).bind fun t654 => (if t654 = true then ((gap_bound.f k a0 a1 a2).bind fun bt655 => (some (bt655.1, bt655.2.1, bt655.2.2))) else (some (([] : List Int), ([] : List Int), 2)))) else (some (([] : List Int), ([] : List Int), 2)))) else (some (([] : List Int), ([] : List Int), 1)))
theorem gap_EqualBound.mono : ∀ a0 a1 a2 k, LeO (gap_EqualBound.f k a0 a1 a2) (gap_EqualBound.f (k + 1) a0 a1 a2) := by
 intro a0 a1 a2 k
 unfold gap_EqualBound.f
 with_reducible repeat' first | apply gap_bound.mono | exact LeO.refl _ | exact LeO.none _ | refine LeO.ite ?_ ?_ | refine LeO.bind ?_ (fun _ => ?_)
set_option maxHeartbeats 8000000 in
set_option maxRecDepth 100000 in
theorem gap_EqualBound.calls (k : Nat) (a0 : Int) (a1 : Int) (a2 : Int) (r1 : List Int) (r2 : List Int) (r3 : Int) (w : World) (hG : Fld w) (h : gap_EqualBound.f k a0 a1 a2 = some (r1, r2, r3)) :
  Calls Tryd.prog 12 #[.int .i64 a0, .int .i64 a1, .int .i64 a2] w fun e w' => ∃ v0_ v1_ : Value, e = .returned (.tuple #[.agg #[v0_, v1_], .int .i64 r3]) ∧ Kd.V (Kd.int .u32) 115 w' w.heap.size (fun k_ => (w.heap.size ≤ k_)) v0_ r1 ∧ Kd.V (Kd.int .u32) 115 w' w.heap.size (fun k_ => (w.heap.size ≤ k_)) v1_ r2 ∧ Below w.heap.size w w' := by
 have hu26 := Tryd.underlying26
 have HG := ak hG
 clear hG
 have HB := ak (Below.refl w.heap.size w)
 have H := h
 clear h
 unfold gap_EqualBound.f at H
 revert H
 refine bd_ fun t652 A4 H => ?_
 by_cases c5 : t652 = true
 ·subst c5
  rw [if_pos rfl] at H
  revert H
  refine bd_ fun t653 A6 H => ?_
  by_cases c7 : t653 = true
  ·subst c7
   rw [if_pos rfl] at H
   revert H
   refine bd_ fun t654 A8 H => ?_
   by_cases c9 : t654 = true
   ·subst c9
    rw [if_pos rfl] at H
    revert H
    refine bd3_ fun t655 t658 t661 A10 H => ?_
    try dsimp only at H
    simp only [Option.some.injEq, Prod.mk.injEq] at H
    obtain ⟨rfl, rfl, rfl⟩ := H
    go_enter Tryd.func12, Tryd.ntmps12
    go_wp2_with (first | ((with_reducible refine gate_dst (N := 6) rfl ?_); refine bx_ 6 26 #[.slice none 0 0, .slice none 0 0] ?_; intro gb651 hg w11 hbox hb; refine nx4_ (below_step (bU_ HB.out) hb) (hbox) ((hs_ hg (below_size (bU_ HB.out)))) ((hs_ hg (below_size (bU_ HB.out)))) ?_; clear HB; intro HB BK651 GW651 GE651; clear hb hbox hg) | ((with_reducible refine gate_callee (f := 43) rfl ?_); refine gl_ (some 10) Tryd.func43 #[.int .i64 a0] ?_; (with_reducible refine (field_Valid.calls a0 true _ A4.out).mono ?_); rintro e w' ⟨rfl, ⟨nd, rfl⟩⟩; refine ⟨_, rfl, ?_⟩; (try (rw [drewN_self w11]; generalize hq_ : World.drewN w11 _ = w11; have n0_ : Aside0 (w11.heap[gb651]? = some (.cells #[.slice none 0 0, .slice none 0 0] 26 (0, 0))) := ⟨by rw [← hq_]; exact (kU_ BK651.out)⟩; have n1_ : Aside0 (Below w.heap.size w w11) := ⟨by rw [← hq_]; exact sU_⟩; clear BK651 HB hq_; have BK651 := n0_; have HB := n1_; clear n0_ n1_))) | ((with_reducible refine gate_callee (f := 44) rfl ?_); refine gl_ (some 15) Tryd.func44 #[.int .i64 a1, .int .i64 0, .int .i64 1000] ?_; (with_reducible refine (gap_within.calls a1 0 1000 true _ A6.out).mono ?_); rintro e w' ⟨rfl, ⟨nd, rfl⟩⟩; refine ⟨_, rfl, ?_⟩; (try (rw [drewN_self w11]; generalize hq_ : World.drewN w11 _ = w11; have n0_ : Aside0 (w11.heap[gb651]? = some (.cells #[.slice none 0 0, .slice none 0 0] 26 (0, 0))) := ⟨by rw [← hq_]; exact (kU_ BK651.out)⟩; have n1_ : Aside0 (Below w.heap.size w w11) := ⟨by rw [← hq_]; exact sU_⟩; clear BK651 HB hq_; have BK651 := n0_; have HB := n1_; clear n0_ n1_))) | (go_at_call 44; (with_reducible refine (gap_within.calls a2 1 64 true _ A8.out).mono ?_); rintro e w' ⟨rfl, ⟨nd, rfl⟩⟩; (try (rw [drewN_self w11]; generalize hq_ : World.drewN w11 _ = w11; have n0_ : Aside0 (w11.heap[gb651]? = some (.cells #[.slice none 0 0, .slice none 0 0] 26 (0, 0))) := ⟨by rw [← hq_]; exact (kU_ BK651.out)⟩; have n1_ : Aside0 (Below w.heap.size w w11) := ⟨by rw [← hq_]; exact sU_⟩; clear BK651 HB hq_; have BK651 := n0_; have HB := n1_; clear n0_ n1_))) | ((with_reducible refine gate_callee (f := 59) rfl ?_); refine gl_ (some 26) Tryd.func59 #[.int .i64 a0, .int .i64 a1, .int .i64 a2] ?_; (with_reducible refine (gap_bound.calls k a0 a1 a2 t655 t658 t661 _ ?side1 A10.out).mono ?_); (case side1 => repeat (first | with_reducible exact HG.out | with_reducible exact (Fld.below HG.out HB.out) | exact (Fld.below HG.out sU_) | (with_reducible refine Fld.alloc ?_ _) | (with_reducible refine Fld.drewN ?_ _) | (with_reducible refine Fld.drew ?_))); rintro e w12 ⟨v656, v659, rfl, ho0, ho1, hb⟩; refine ⟨_, rfl, ?_⟩; refine nx4_ (V_lower (V_mono (ok' := fun k_ => (w.heap.size ≤ k_) ∧ k_ ≠ gb651) ho0 (fun k_ hk_ => ⟨(Nat.le_trans (below_size sU_) hk_), (freshB (kU_ BK651.out) k_ hk_)⟩)) (below_size sU_)) (V_lower (V_mono (ok' := fun k_ => (w.heap.size ≤ k_) ∧ k_ ≠ gb651) ho1 (fun k_ hk_ => ⟨(Nat.le_trans (below_size sU_) hk_), (freshB (kU_ BK651.out) k_ hk_)⟩)) (below_size sU_)) (blk_below (kU_ BK651.out) hb) (below_step sU_ hb) ?_; clear BK651 HB; intro HO657 HO660 BK651 HB; clear hb ho0 ho1; obtain ⟨Ao13, co13, eo13⟩ := V_slice HO657.out; subst eo13; have hcz14_0 := bc0_ BK651.out; have hcz14_1 := bc1_ BK651.out; have hfz14_0 := bkf9_ BK651.out 0; have hfz14_1 := bkf9_ BK651.out 1; obtain ⟨Ao15, co15, eo15⟩ := V_slice HO660.out; subst eo15))
    refine bodyPost_ret (results_ct rfl _ _ gb651 26 #[.slice Ao13 t655.length co13, .slice Ao15 t658.length co15] (0, 0) _ rfl kp_ Tryd.underlying26 rfl (by kernel_rfl)) rfl ?_
    exact ⟨_, _, eW_, by (with_reducible repeat (first | apply Kd.V_alloc | apply Kd.V_drewN | apply V_drew)); exact V_mono (V_far (p := ⟨gb651, 1, none⟩) (V_far (p := ⟨gb651, 0, none⟩) (V_mono HO657.out (fun k_ hk => (⟨hk, hk.2⟩ : _ ∧ k_ ≠ gb651))) (fun _ hk => hk.2) (.slice Ao13 t655.length co13)) (fun _ hk => hk.2) (.slice Ao15 t658.length co15)) (fun _ hk => hk.1.1), by (with_reducible repeat (first | apply Kd.V_alloc | apply Kd.V_drewN | apply V_drew)); exact V_mono (V_far (p := ⟨gb651, 1, none⟩) (V_far (p := ⟨gb651, 0, none⟩) (V_mono HO660.out (fun k_ hk => (⟨hk, hk.2⟩ : _ ∧ k_ ≠ gb651))) (fun _ hk => hk.2) (.slice Ao13 t655.length co13)) (fun _ hk => hk.2) (.slice Ao15 t658.length co15)) (fun _ hk => hk.1.1), sU_⟩
   replace c9 := Bool.eq_false_iff.mpr c9
   subst c9
   rw [if_neg (show ¬ (false = true) by decide)] at H
   simp only [Option.some.injEq, Prod.mk.injEq] at H
   obtain ⟨rfl, rfl, rfl⟩ := H
   go_enter Tryd.func12, Tryd.ntmps12
   go_wp2_with (first | ((with_reducible refine gate_dst (N := 6) rfl ?_); refine bx_ 6 26 #[.slice none 0 0, .slice none 0 0] ?_; intro gb651 hg w16 hbox hb; refine nx4_ (below_step (bU_ HB.out) hb) (hbox) ((hs_ hg (below_size (bU_ HB.out)))) ((hs_ hg (below_size (bU_ HB.out)))) ?_; clear HB; intro HB BK651 GW651 GE651; clear hb hbox hg) | ((with_reducible refine gate_callee (f := 43) rfl ?_); refine gl_ (some 10) Tryd.func43 #[.int .i64 a0] ?_; (with_reducible refine (field_Valid.calls a0 true _ A4.out).mono ?_); rintro e w' ⟨rfl, ⟨nd, rfl⟩⟩; refine ⟨_, rfl, ?_⟩; (try (rw [drewN_self w16]; generalize hq_ : World.drewN w16 _ = w16; have n0_ : Aside0 (w16.heap[gb651]? = some (.cells #[.slice none 0 0, .slice none 0 0] 26 (0, 0))) := ⟨by rw [← hq_]; exact (kU_ BK651.out)⟩; have n1_ : Aside0 (Below w.heap.size w w16) := ⟨by rw [← hq_]; exact sU_⟩; clear BK651 HB hq_; have BK651 := n0_; have HB := n1_; clear n0_ n1_))) | ((with_reducible refine gate_callee (f := 44) rfl ?_); refine gl_ (some 15) Tryd.func44 #[.int .i64 a1, .int .i64 0, .int .i64 1000] ?_; (with_reducible refine (gap_within.calls a1 0 1000 true _ A6.out).mono ?_); rintro e w' ⟨rfl, ⟨nd, rfl⟩⟩; refine ⟨_, rfl, ?_⟩; (try (rw [drewN_self w16]; generalize hq_ : World.drewN w16 _ = w16; have n0_ : Aside0 (w16.heap[gb651]? = some (.cells #[.slice none 0 0, .slice none 0 0] 26 (0, 0))) := ⟨by rw [← hq_]; exact (kU_ BK651.out)⟩; have n1_ : Aside0 (Below w.heap.size w w16) := ⟨by rw [← hq_]; exact sU_⟩; clear BK651 HB hq_; have BK651 := n0_; have HB := n1_; clear n0_ n1_))) | (go_at_call 44; (with_reducible refine (gap_within.calls a2 1 64 false _ A8.out).mono ?_); rintro e w' ⟨rfl, ⟨nd, rfl⟩⟩; (try (rw [drewN_self w16]; generalize hq_ : World.drewN w16 _ = w16; have n0_ : Aside0 (w16.heap[gb651]? = some (.cells #[.slice none 0 0, .slice none 0 0] 26 (0, 0))) := ⟨by rw [← hq_]; exact (kU_ BK651.out)⟩; have n1_ : Aside0 (Below w.heap.size w w16) := ⟨by rw [← hq_]; exact sU_⟩; clear BK651 HB hq_; have BK651 := n0_; have HB := n1_; clear n0_ n1_)); have hcz17_0 := bc0_ BK651.out; have hcz17_1 := bc1_ BK651.out; have hfz17_0 := bkf9_ BK651.out 0; have hfz17_1 := bkf9_ BK651.out 1))
   refine bodyPost_ret (results_ct rfl _ _ gb651 26 #[.slice none 0 0, .slice none 0 0] (0, 0) _ rfl kp_ Tryd.underlying26 rfl (by kernel_rfl)) rfl ?_
   exact ⟨_, _, eW_, Kd.V_nil _ _ _ _ _, Kd.V_nil _ _ _ _ _, sU_⟩
  replace c7 := Bool.eq_false_iff.mpr c7
  subst c7
  rw [if_neg (show ¬ (false = true) by decide)] at H
  simp only [Option.some.injEq, Prod.mk.injEq] at H
  obtain ⟨rfl, rfl, rfl⟩ := H
  go_enter Tryd.func12, Tryd.ntmps12
  go_wp2_with (first | ((with_reducible refine gate_dst (N := 6) rfl ?_); refine bx_ 6 26 #[.slice none 0 0, .slice none 0 0] ?_; intro gb651 hg w18 hbox hb; refine nx4_ (below_step (bU_ HB.out) hb) (hbox) ((hs_ hg (below_size (bU_ HB.out)))) ((hs_ hg (below_size (bU_ HB.out)))) ?_; clear HB; intro HB BK651 GW651 GE651; clear hb hbox hg) | ((with_reducible refine gate_callee (f := 43) rfl ?_); refine gl_ (some 10) Tryd.func43 #[.int .i64 a0] ?_; (with_reducible refine (field_Valid.calls a0 true _ A4.out).mono ?_); rintro e w' ⟨rfl, ⟨nd, rfl⟩⟩; refine ⟨_, rfl, ?_⟩; (try (rw [drewN_self w18]; generalize hq_ : World.drewN w18 _ = w18; have n0_ : Aside0 (w18.heap[gb651]? = some (.cells #[.slice none 0 0, .slice none 0 0] 26 (0, 0))) := ⟨by rw [← hq_]; exact (kU_ BK651.out)⟩; have n1_ : Aside0 (Below w.heap.size w w18) := ⟨by rw [← hq_]; exact sU_⟩; clear BK651 HB hq_; have BK651 := n0_; have HB := n1_; clear n0_ n1_))) | ((with_reducible refine gate_callee (f := 44) rfl ?_); refine gl_ (some 15) Tryd.func44 #[.int .i64 a1, .int .i64 0, .int .i64 1000] ?_; (with_reducible refine (gap_within.calls a1 0 1000 false _ A6.out).mono ?_); rintro e w' ⟨rfl, ⟨nd, rfl⟩⟩; refine ⟨_, rfl, ?_⟩; (try (rw [drewN_self w18]; generalize hq_ : World.drewN w18 _ = w18; have n0_ : Aside0 (w18.heap[gb651]? = some (.cells #[.slice none 0 0, .slice none 0 0] 26 (0, 0))) := ⟨by rw [← hq_]; exact (kU_ BK651.out)⟩; have n1_ : Aside0 (Below w.heap.size w w18) := ⟨by rw [← hq_]; exact sU_⟩; clear BK651 HB hq_; have BK651 := n0_; have HB := n1_; clear n0_ n1_)); have hcz19_0 := bc0_ BK651.out; have hcz19_1 := bc1_ BK651.out; have hfz19_0 := bkf9_ BK651.out 0; have hfz19_1 := bkf9_ BK651.out 1))
  refine bodyPost_ret (results_ct rfl _ _ gb651 26 #[.slice none 0 0, .slice none 0 0] (0, 0) _ rfl kp_ Tryd.underlying26 rfl (by kernel_rfl)) rfl ?_
  exact ⟨_, _, eW_, Kd.V_nil _ _ _ _ _, Kd.V_nil _ _ _ _ _, sU_⟩
 replace c5 := Bool.eq_false_iff.mpr c5
 subst c5
 rw [if_neg (show ¬ (false = true) by decide)] at H
 simp only [Option.some.injEq, Prod.mk.injEq] at H
 obtain ⟨rfl, rfl, rfl⟩ := H
 go_enter Tryd.func12, Tryd.ntmps12
 go_wp2_with (first | ((with_reducible refine gate_dst (N := 6) rfl ?_); refine bx_ 6 26 #[.slice none 0 0, .slice none 0 0] ?_; intro gb651 hg w20 hbox hb; refine nx4_ (below_step (bU_ HB.out) hb) (hbox) ((hs_ hg (below_size (bU_ HB.out)))) ((hs_ hg (below_size (bU_ HB.out)))) ?_; clear HB; intro HB BK651 GW651 GE651; clear hb hbox hg) | ((with_reducible refine gate_callee (f := 43) rfl ?_); refine gl_ (some 10) Tryd.func43 #[.int .i64 a0] ?_; (with_reducible refine (field_Valid.calls a0 false _ A4.out).mono ?_); rintro e w' ⟨rfl, ⟨nd, rfl⟩⟩; refine ⟨_, rfl, ?_⟩; (try (rw [drewN_self w20]; generalize hq_ : World.drewN w20 _ = w20; have n0_ : Aside0 (w20.heap[gb651]? = some (.cells #[.slice none 0 0, .slice none 0 0] 26 (0, 0))) := ⟨by rw [← hq_]; exact (kU_ BK651.out)⟩; have n1_ : Aside0 (Below w.heap.size w w20) := ⟨by rw [← hq_]; exact sU_⟩; clear BK651 HB hq_; have BK651 := n0_; have HB := n1_; clear n0_ n1_)); have hcz21_0 := bc0_ BK651.out; have hcz21_1 := bc1_ BK651.out; have hfz21_0 := bkf9_ BK651.out 0; have hfz21_1 := bkf9_ BK651.out 1))
 refine bodyPost_ret (results_ct rfl _ _ gb651 26 #[.slice none 0 0, .slice none 0 0] (0, 0) _ rfl kp_ Tryd.underlying26 rfl (by kernel_rfl)) rfl ?_
 exact ⟨_, _, eW_, Kd.V_nil _ _ _ _ _, Kd.V_nil _ _ _ _ _, sU_⟩

end Go.Proofs.YtbjeemlbjkmhiaaDoor.Q

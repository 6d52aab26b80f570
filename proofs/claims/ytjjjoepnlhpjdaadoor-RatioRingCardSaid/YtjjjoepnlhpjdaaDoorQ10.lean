-- Written by prx.py (this session's driver of the kit's print) out of the translation. Not trusted: Lean checks it.
import Derived.Test.YtjjjoepnlhpjdaaDoorQ0
import Derived.Test.YtjjjoepnlhpjdaaDoorQ3
import Derived.Test.YtjjjoepnlhpjdaaDoorQ4
import Derived.Test.YtjjjoepnlhpjdaaDoorQ5
import Derived.Test.YtjjjoepnlhpjdaaDoorQ7
import Derived.Test.YtjjjoepnlhpjdaaDoorQ9
namespace Go.Proofs.YtjjjoepnlhpjdaaDoor.Q
open Go.RowKit Go.Proofs.YtjjjoepnlhpjdaaDoorW.PrintWords Go.Proofs.YtjjjoepnlhpjdaaDoorW.PrintLast Go.Proofs.YtjjjoepnlhpjdaaDoorW.PrintMore
attribute [local go_sem] max2_int min2_int max_two min_two max_three min_three max_four min_four   -- for this text's walks alone
set_option linter.unusedVariables false
set_option linter.unusedSimpArgs false

/-! ### attestorlaw02_RatioRing: function 7 -/
mutual
def attestorlaw02_RatioRing.j0 : Nat → List Int → List Int → List Int → List Int → Option (Bool)
 | 0, _, _, _, _ => none
 | k + 1, x7, x8, x9, x10 => (ratio_Product.f k x7 x8).bind fun bt487 => ((ratio_Product.f k x8 x7).bind fun bt491 => (if bt487.2 = 0 then (if bt491.2 = 0 then ((attestorlaw02_same.f k bt487.1 bt491.1).bind fun t495 => (if t495 = true then (attestorlaw02_RatioRing.j1 k x7 x8 x9 x10 bt487.1) else (none))) else (none)) else (none)))
def attestorlaw02_RatioRing.j1 : Nat → List Int → List Int → List Int → List Int → List Int → Option (Bool)
 | 0, _, _, _, _, _ => none
 | k + 1, x7, x8, x9, x10, x16 => (ratio_Product.f k x10 x9).bind fun bt496 => ((ratio_Product.f k x7 x9).bind fun bt500 => ((ratio_Product.f k x8 x9).bind fun bt504 => ((ratio_Sum.f k bt500.1 bt504.1).bind fun bt508 => (if bt496.2 = 0 then (if bt500.2 = 0 then (if bt504.2 = 0 then (if bt508.2 = 0 then ((attestorlaw02_same.f k bt496.1 bt508.1).bind fun t512 => (if t512 = true then (attestorlaw02_RatioRing.j2 k x7 x8 x16) else (none))) else (none)) else (none)) else (none)) else (none)))))
def attestorlaw02_RatioRing.j2 : Nat → List Int → List Int → List Int → Option (Bool)
 | 0, _, _, _ => none
 | k + 1, x7, x8, x16 => if (x8.length : Int) = 0 then ((attestorlaw02_works.f k).bind fun t513 => (some t513)) else ((ratio_Quotient.f k x16 x8).bind fun bt514 => (if bt514.2.2 = 0 then ((attestorlaw02_same.f k bt514.1 x7).bind fun t521 => (if t521 = true then (if (bt514.2.1.length : Int) = 0 then ((attestorlaw02_works.f k).bind fun t522 => (some t522)) else (none)) else (none))) else (none)))
end
def attestorlaw02_RatioRing.f (k : Nat) (l0 : List Int) (l1 : List Int) (l2 : List Int) : Option (Bool) := (attestorlaw02_nat.f k l0 20).bind fun t464 => ((attestorlaw02_nat.f k l1 20).bind fun t467 => ((attestorlaw02_nat.f k l2 20).bind fun t470 => ((ratio_Sum.f k t464 t467).bind fun bt473 => ((ratio_Sum.f k t467 t464).bind fun bt477 => ((ratio_Diff.f k bt473.1 t467).bind fun bt481 => (if bt473.2 = 0 then (if bt477.2 = 0 then (if bt481.2 = 0 then ((attestorlaw02_same.f k bt473.1 bt477.1).bind fun t485 => (if t485 = true then ((attestorlaw02_same.f k bt481.1 t464).bind fun t486 => (if t486 = true then (attestorlaw02_RatioRing.j0 k t464 t467 t470 bt473.1) else (none))) else (none))) else (none)) else (none)) else (none)))))))
set_option maxHeartbeats 8000000 in
set_option maxRecDepth 100000 in
theorem attestorlaw02_RatioRing.calls (k : Nat) (A0 : Option Addr) (c0 : Nat) (l0 : List Int) (A1 : Option Addr) (c1 : Nat) (l1 : List Int) (A2 : Option Addr) (c2 : Nat) (l2 : List Int) (r : Bool) (w : World) (hr0 : Kd.C (Kd.int .u32) w A0 l0.length l0) (hc0 : l0.length ≤ c0) (hr1 : Kd.C (Kd.int .u32) w A1 l1.length l1) (hc1 : l1.length ≤ c1) (hr2 : Kd.C (Kd.int .u32) w A2 l2.length l2) (hc2 : l2.length ≤ c2) (h : attestorlaw02_RatioRing.f k l0 l1 l2 = some r) :
  Calls Tryd.prog 7 #[.slice A0 l0.length c0, .slice A1 l1.length c1, .slice A2 l2.length c2] w fun e w' => e = .returned (.bool r) ∧ Below w.heap.size w w' := by
 have HR0 := ak hr0
 have HC0 := ak hc0
 clear hr0 hc0
 have HR1 := ak hr1
 have HC1 := ak hc1
 clear hr1 hc1
 have HR2 := ak hr2
 have HC2 := ak hc2
 clear hr2 hc2
 have HB := ak (Below.refl w.heap.size w)
 have H : ((attestorlaw02_nat.f k l0 20).bind fun t464 => ((attestorlaw02_nat.f k l1 20).bind fun t467 => ((attestorlaw02_nat.f k l2 20).bind fun t470 => ((ratio_Sum.f k t464 t467).bind fun bt473 => ((ratio_Sum.f k t467 t464).bind fun bt477 => ((ratio_Diff.f k bt473.1 t467).bind fun bt481 => (if bt473.2 = 0 then (if bt477.2 = 0 then (if bt481.2 = 0 then ((attestorlaw02_same.f k bt473.1 bt477.1).bind fun t485 => (if t485 = true then ((attestorlaw02_same.f k bt481.1 t464).bind fun t486 => (if t486 = true then (attestorlaw02_RatioRing.j0 k t464 t467 t470 bt473.1) else (none))) else (none))) else (none)) else (none)) else (none)))))))) = some r := h
 clear h
 revert H
 refine bd_ fun t464 A4 H => ?_
 revert H
 refine bd_ fun t467 A5 H => ?_
 revert H
 refine bd_ fun t470 A6 H => ?_
 revert H
 refine bd2_ fun t473 t476 A7 H => ?_
 try dsimp only at H
 revert H
 refine bd2_ fun t477 t480 A8 H => ?_
 try dsimp only at H
 revert H
 refine bd2_ fun t481 t484 A9 H => ?_
 try dsimp only at H
 obtain ⟨c10, H⟩ : (t476 = 0) ∧ _ := it_ H
 have c10b0 := beq_iff_eq.mpr c10
 have c10b1 := bne_eq_false_iff_eq.mpr c10
 clear c10
 obtain ⟨c11, H⟩ : (t480 = 0) ∧ _ := it_ H
 have c11b0 := beq_iff_eq.mpr c11
 have c11b1 := bne_eq_false_iff_eq.mpr c11
 clear c11
 obtain ⟨c12, H⟩ : (t484 = 0) ∧ _ := it_ H
 have c12b0 := beq_iff_eq.mpr c12
 have c12b1 := bne_eq_false_iff_eq.mpr c12
 clear c12
 revert H
 refine bd_ fun t485 A13 H => ?_
 by_cases c14 : t485 = true
 ·subst c14
  rw [if_pos rfl] at H
  revert H
  refine bd_ fun t486 A15 H => ?_
  have HC16 := ak H
  clear H
  go_enter Tryd.func7, Tryd.ntmps7
  go_upto_if 70 with (first | ((with_reducible refine gate_callee (f := 20) rfl ?_); refine gl_ (some 26) Tryd.func20 #[.slice A0 l0.length c0, .int .i64 20] ?_; (with_reducible refine (attestorlaw02_nat.calls k _ _ l0 20 t464 _ ?side1 ?side2 A4.out).mono ?_); (case side1 => exact cU_ HR0.out); (case side2 => exact HC0.out); rintro e w17 ⟨v465, rfl, ho0, hb⟩; refine ⟨_, rfl, ?_⟩; refine nx2_ (Kd.R_lower ho0 (below_size (bU_ HB.out))) (below_step (bU_ HB.out) hb) ?_; clear HB; intro HO466 HB; clear hb ho0) | ((with_reducible refine gate_callee (f := 20) rfl ?_); refine gl_ (some 28) Tryd.func20 #[.slice A1 l1.length c1, .int .i64 20] ?_; (with_reducible refine (attestorlaw02_nat.calls k _ _ l1 20 t467 _ ?side1 ?side2 A5.out).mono ?_); (case side1 => exact cU_ (Kd.C_below HR1.out HB.out)); (case side2 => exact HC1.out); rintro e w18 ⟨v468, rfl, ho0, hb⟩; refine ⟨_, rfl, ?_⟩; refine nx3_ (Kd.R_elder' (rU_ HO466.out) (Kd.R_base ho0) hb) (Kd.R_lower (Kd.R_new' ho0 (Kd.R_lt (rU_ HO466.out))) (below_size (bU_ HB.out))) (below_step (bU_ HB.out) hb) ?_; clear HO466 HB; intro HO466 HO469 HB; clear hb ho0) | ((with_reducible refine gate_callee (f := 20) rfl ?_); refine gl_ (some 30) Tryd.func20 #[.slice A2 l2.length c2, .int .i64 20] ?_; (with_reducible refine (attestorlaw02_nat.calls k _ _ l2 20 t470 _ ?side1 ?side2 A6.out).mono ?_); (case side1 => exact cU_ (Kd.C_below HR2.out HB.out)); (case side2 => exact HC2.out); rintro e w19 ⟨v471, rfl, ho0, hb⟩; refine ⟨_, rfl, ?_⟩; refine nx4_ (Kd.R_elder' (rU_ HO466.out) (Kd.R_base ho0) hb) (Kd.R_elder' (rU_ HO469.out) (Kd.R_base ho0) hb) (Kd.R_lower (Kd.R_new' (Kd.R_new' ho0 (Kd.R_lt (rU_ HO466.out))) (Kd.R_lt (rU_ HO469.out))) (below_size (bU_ HB.out))) (below_step (bU_ HB.out) hb) ?_; clear HO466 HO469 HB; intro HO466 HO469 HO472 HB; clear hb ho0; obtain ⟨Ao20, co20, eo20⟩ := Kd.R_slice HO466.out; subst eo20; obtain ⟨Ao21, co21, eo21⟩ := Kd.R_slice HO469.out; subst eo21) | ((with_reducible refine gate_callee (f := 29) rfl ?_); refine gl_ (some 34) Tryd.func29 #[.slice Ao20 t464.length co20, .slice Ao21 t467.length co21] ?_; (with_reducible refine (ratio_Sum.calls k (fun k_ => some k_ = (.slice Ao20 t464.length co20 : Value).ownBlock) _ _ t464 (fun k_ => some k_ = (.slice Ao21 t467.length co21 : Value).ownBlock) _ _ t467 t473 t476 _ ?side1 ?side2 A7.out).mono ?_); (case side1 => exact Kd.R_V (Kd.R_tight rfl (HO466.out))); (case side2 => exact Kd.R_V (Kd.R_tight rfl (HO469.out))); rintro e w22 ⟨v474, rfl, ho0, hb⟩; refine ⟨_, rfl, ?_⟩; refine nx5_ (Kd.R_below (rU_ HO466.out) hb) (Kd.R_below (rU_ HO469.out) hb) (Kd.R_below (rU_ HO472.out) hb) (Kd.V_lower (Kd.V_mono (ok' := fun k_ => some k_ ≠ (v471 : Value).ownBlock) ho0 (fun k_ hk_ => Or.elim hk_ (fun hs_ => Or.elim hs_ (fun hs_ => ((HO466.out).1 k_ hs_.symm).2) (fun hs_ => ((HO469.out).1 k_ hs_.symm).2)) (fun hn_ => (Kd.fresh' (Kd.R_lt (rU_ HO472.out)) k_ hn_)))) (below_size (bU_ HB.out))) (below_step (bU_ HB.out) hb) ?_; clear HO466 HO469 HO472 HB; intro HO466 HO469 HO472 HO475 HB; clear hb ho0) | ((with_reducible refine gate_callee (f := 29) rfl ?_); refine gl_ (some 40) Tryd.func29 #[.slice Ao21 t467.length co21, .slice Ao20 t464.length co20] ?_; (with_reducible refine (ratio_Sum.calls k (fun k_ => some k_ = (.slice Ao21 t467.length co21 : Value).ownBlock) _ _ t467 (fun k_ => some k_ = (.slice Ao20 t464.length co20 : Value).ownBlock) _ _ t464 t477 t480 _ ?side1 ?side2 A8.out).mono ?_); (case side1 => exact Kd.R_V (Kd.R_tight rfl (HO469.out))); (case side2 => exact Kd.R_V (Kd.R_tight rfl (HO466.out))); rintro e w23 ⟨v478, rfl, ho0, hb⟩; refine ⟨_, rfl, ?_⟩; refine nx6_ (Kd.R_below (rU_ HO466.out) hb) (Kd.R_below (rU_ HO469.out) hb) (Kd.R_below (rU_ HO472.out) hb) (Kd.V_below (by (with_reducible repeat (first | apply Kd.V_alloc | apply Kd.V_drewN | apply Kd.V_drew)); exact HO475.out) hb) (Kd.V_lower (Kd.V_mono (ok' := fun k_ => some k_ ≠ (v471 : Value).ownBlock) ho0 (fun k_ hk_ => Or.elim hk_ (fun hs_ => Or.elim hs_ (fun hs_ => ((HO469.out).1 k_ hs_.symm).2) (fun hs_ => ((HO466.out).1 k_ hs_.symm).2)) (fun hn_ => (Kd.fresh' (Kd.R_lt (rU_ HO472.out)) k_ hn_)))) (below_size (bU_ HB.out))) (below_step (bU_ HB.out) hb) ?_; clear HO466 HO469 HO472 HO475 HB; intro HO466 HO469 HO472 HO475 HO479 HB; clear hb ho0; obtain ⟨Ao24, co24, eo24⟩ := Kd.V_slice HO475.out; subst eo24) | ((with_reducible refine gate_callee (f := 36) rfl ?_); refine gl_ (some 46) Tryd.func36 #[.slice Ao24 t473.length co24, .slice Ao21 t467.length co21] ?_; (with_reducible refine (ratio_Diff.calls k _ _ t473 _ _ t467 t481 t484 _ ?side1 ?side2 ?side3 ?side4 A9.out).mono ?_); (case side1 => exact cU_ ((Kd.V_reads' HO475.out).2.2)); (case side2 => exact (Kd.V_reads' HO475.out).2.1); (case side3 => exact cU_ ((Kd.R_reads' HO469.out).2.2)); (case side4 => exact (Kd.R_reads' HO469.out).2.1); rintro e w25 ⟨v482, rfl, ho0, hb⟩; refine ⟨_, rfl, ?_⟩; refine nx7_ (Kd.R_below (rU_ HO466.out) hb) (Kd.R_below (rU_ HO469.out) hb) (Kd.R_below (rU_ HO472.out) hb) (Kd.V_below (by (with_reducible repeat (first | apply Kd.V_alloc | apply Kd.V_drewN | apply Kd.V_drew)); exact HO475.out) hb) (Kd.V_below (by (with_reducible repeat (first | apply Kd.V_alloc | apply Kd.V_drewN | apply Kd.V_drew)); exact HO479.out) hb) (Kd.V_lower (Kd.V_mono (ok' := fun k_ => some k_ ≠ (.slice Ao20 t464.length co20 : Value).ownBlock ∧ some k_ ≠ (.slice Ao21 t467.length co21 : Value).ownBlock ∧ some k_ ≠ (v471 : Value).ownBlock) ho0 (fun k_ hk_ => ⟨(Kd.fresh' (Kd.R_lt (rU_ HO466.out)) k_ hk_), (Kd.fresh' (Kd.R_lt (rU_ HO469.out)) k_ hk_), (Kd.fresh' (Kd.R_lt (rU_ HO472.out)) k_ hk_)⟩)) (below_size (bU_ HB.out))) (below_step (bU_ HB.out) hb) ?_; clear HO466 HO469 HO472 HO475 HO479 HB; intro HO466 HO469 HO472 HO475 HO479 HO483 HB; clear hb ho0; obtain ⟨Ao26, co26, eo26⟩ := Kd.V_slice HO479.out; subst eo26) | (go_at_call 22; (with_reducible refine (attestorlaw02_same.calls k _ _ t473 _ _ t477 true _ ?side1 ?side2 ?side3 ?side4 A13.out).mono ?_); (case side1 => exact cU_ ((Kd.V_reads' HO475.out).2.2)); (case side2 => exact (Kd.V_reads' HO475.out).2.1); (case side3 => exact cU_ ((Kd.V_reads' HO479.out).2.2)); (case side4 => exact (Kd.V_reads' HO479.out).2.1); rintro e w' ⟨rfl, ⟨nd, rfl⟩⟩; obtain ⟨Ao27, co27, eo27⟩ := Kd.V_slice HO483.out; subst eo27) | (go_at_call 22; (with_reducible refine (attestorlaw02_same.calls k _ _ t481 _ _ t464 t486 _ ?side1 ?side2 ?side3 ?side4 A15.out).mono ?_); (case side1 => exact cU_ ((Kd.V_reads' HO483.out).2.2)); (case side2 => exact (Kd.V_reads' HO483.out).2.1); (case side3 => exact cU_ ((Kd.R_reads' HO466.out).2.2)); (case side4 => exact (Kd.R_reads' HO466.out).2.1); rintro e w' ⟨rfl, ⟨nd, rfl⟩⟩))
  (try simp only [Act.put, s1_, s2_, s3_])
  go_cut [] (fun wc => ∃ (kq : Nat), Aside0 (attestorlaw02_RatioRing.j0 kq t464 t467 t470 t473 = some r) ∧ Aside0 (kq ≤ k) ∧ Aside0 (Kd.R (Kd.int .u32) 44 wc w.heap.size (fun k_ => some k_ ≠ ((.slice Ao21 t467.length co21) : Value).ownBlock ∧ some k_ ≠ (v471 : Value).ownBlock) (.slice Ao20 t464.length co20) t464) ∧ Aside0 (Kd.R (Kd.int .u32) 44 wc w.heap.size (fun k_ => some k_ ≠ ((.slice Ao20 t464.length co20) : Value).ownBlock ∧ some k_ ≠ (v471 : Value).ownBlock) (.slice Ao21 t467.length co21) t467) ∧ Aside0 (Kd.R (Kd.int .u32) 44 wc w.heap.size (fun k_ => some k_ ≠ ((.slice Ao20 t464.length co20) : Value).ownBlock ∧ some k_ ≠ ((.slice Ao21 t467.length co21) : Value).ownBlock) v471 t470) ∧ Aside0 (Kd.V (Kd.int .u32) 44 wc w.heap.size (fun k_ => some k_ ≠ (v471 : Value).ownBlock) (.slice Ao24 t473.length co24) t473) ∧ Aside0 (Below w.heap.size w wc))
  case first =>
   have H := HC16.out
   clear HC16
   by_cases c28 : t486 = true
   ·subst c28
    rw [if_pos rfl] at H
    have H' := ak H
    clear H
    go_wp2
    go_meet
    case rel => exact ⟨_, H', ⟨by first | omega | exact Nat.le_refl _⟩, ⟨Kd.R_mono (rU_ HO466.out) (fun _ hk => ⟨hk.1.2, hk.2⟩)⟩, ⟨Kd.R_mono (rU_ HO469.out) (fun _ hk => ⟨hk.1.2, hk.2⟩)⟩, ⟨Kd.R_mono (rU_ HO472.out) (fun _ hk => ⟨hk.1.2, hk.2⟩)⟩, ⟨by (with_reducible repeat (first | apply Kd.V_alloc | apply Kd.V_drewN | apply Kd.V_drew)); exact HO475.out⟩, ⟨bU_ HB.out⟩⟩
   ·replace c28 := Bool.eq_false_iff.mpr c28
    subst c28
    rw [if_neg (show ¬ (false = true) by decide)] at H
    exact absurd H (by simp)
  case rest =>
   clear HC16
   (try clear c1); (try clear c2); (try clear p2); (try clear c3); (try clear c7); (try clear c10); (try clear c10b0); (try clear c10b1); (try clear c11); (try clear c11b0); (try clear c11b1); (try clear c12); (try clear c12b0); (try clear c12b1); (try clear c14); (try clear c20); (try clear c28)
   obtain ⟨kq, HA, HJ15, HO_7, HO_8, HO_9, HO_10, HB⟩ := hcut
   cases kq with
   | zero => exact absurd HA.out (by simp [attestorlaw02_RatioRing.j0])
   | succ kj15 =>
    have H := HA.out
    clear HA
    simp only [attestorlaw02_RatioRing.j0] at H
    revert H
    refine bd2_ fun t487 t490 A29 H => ?_
    try dsimp only at H
    revert H
    refine bd2_ fun t491 t494 A30 H => ?_
    try dsimp only at H
    obtain ⟨c31, H⟩ : (t490 = 0) ∧ _ := it_ H
    have c31b0 := beq_iff_eq.mpr c31
    have c31b1 := bne_eq_false_iff_eq.mpr c31
    clear c31
    obtain ⟨c32, H⟩ : (t494 = 0) ∧ _ := it_ H
    have c32b0 := beq_iff_eq.mpr c32
    have c32b1 := bne_eq_false_iff_eq.mpr c32
    clear c32
    revert H
    refine bd_ fun t495 A33 H => ?_
    have HC34 := ak H
    clear H
    go_upto_if 94 with (first | ((with_reducible refine gate_callee (f := 28) rfl ?_); refine gl_ (some 74) Tryd.func28 #[.slice Ao20 t464.length co20, .slice Ao21 t467.length co21] ?_; (with_reducible refine (ratio_Product.calls kj15 _ _ t464 _ _ t467 t487 t490 _ ?side1 ?side2 ?side3 ?side4 A29.out).mono ?_); (case side1 => exact cU_ ((Kd.R_reads' HO_7.out).2.2)); (case side2 => exact (Kd.R_reads' HO_7.out).2.1); (case side3 => exact cU_ ((Kd.R_reads' HO_8.out).2.2)); (case side4 => exact (Kd.R_reads' HO_8.out).2.1); rintro e w35 ⟨v488, rfl, ho0, hb⟩; refine ⟨_, rfl, ?_⟩; refine nx6_ (Kd.R_below (rU_ HO_7.out) hb) (Kd.R_below (rU_ HO_8.out) hb) (Kd.R_below (rU_ HO_9.out) hb) (Kd.V_below (by (with_reducible repeat (first | apply Kd.V_alloc | apply Kd.V_drewN | apply Kd.V_drew)); exact HO_10.out) hb) (Kd.V_lower (Kd.V_mono (ok' := fun k_ => some k_ ≠ (.slice Ao20 t464.length co20 : Value).ownBlock ∧ some k_ ≠ (.slice Ao21 t467.length co21 : Value).ownBlock ∧ some k_ ≠ (v471 : Value).ownBlock) ho0 (fun k_ hk_ => ⟨(Kd.fresh' (Kd.R_lt (rU_ HO_7.out)) k_ hk_), (Kd.fresh' (Kd.R_lt (rU_ HO_8.out)) k_ hk_), (Kd.fresh' (Kd.R_lt (rU_ HO_9.out)) k_ hk_)⟩)) (below_size (bU_ HB.out))) (below_step (bU_ HB.out) hb) ?_; clear HO_7 HO_8 HO_9 HO_10 HB; intro HO_7 HO_8 HO_9 HO_10 HO489 HB; clear hb ho0) | ((with_reducible refine gate_callee (f := 28) rfl ?_); refine gl_ (some 80) Tryd.func28 #[.slice Ao21 t467.length co21, .slice Ao20 t464.length co20] ?_; (with_reducible refine (ratio_Product.calls kj15 _ _ t467 _ _ t464 t491 t494 _ ?side1 ?side2 ?side3 ?side4 A30.out).mono ?_); (case side1 => exact cU_ ((Kd.R_reads' HO_8.out).2.2)); (case side2 => exact (Kd.R_reads' HO_8.out).2.1); (case side3 => exact cU_ ((Kd.R_reads' HO_7.out).2.2)); (case side4 => exact (Kd.R_reads' HO_7.out).2.1); rintro e w36 ⟨v492, rfl, ho0, hb⟩; refine ⟨_, rfl, ?_⟩; refine nx7_ (Kd.R_below (rU_ HO_7.out) hb) (Kd.R_below (rU_ HO_8.out) hb) (Kd.R_below (rU_ HO_9.out) hb) (Kd.V_below (by (with_reducible repeat (first | apply Kd.V_alloc | apply Kd.V_drewN | apply Kd.V_drew)); exact HO_10.out) hb) (Kd.V_below (by (with_reducible repeat (first | apply Kd.V_alloc | apply Kd.V_drewN | apply Kd.V_drew)); exact HO489.out) hb) (Kd.V_lower (Kd.V_mono (ok' := fun k_ => some k_ ≠ (.slice Ao20 t464.length co20 : Value).ownBlock ∧ some k_ ≠ (.slice Ao21 t467.length co21 : Value).ownBlock ∧ some k_ ≠ (v471 : Value).ownBlock) ho0 (fun k_ hk_ => ⟨(Kd.fresh' (Kd.R_lt (rU_ HO_7.out)) k_ hk_), (Kd.fresh' (Kd.R_lt (rU_ HO_8.out)) k_ hk_), (Kd.fresh' (Kd.R_lt (rU_ HO_9.out)) k_ hk_)⟩)) (below_size (bU_ HB.out))) (below_step (bU_ HB.out) hb) ?_; clear HO_7 HO_8 HO_9 HO_10 HO489 HB; intro HO_7 HO_8 HO_9 HO_10 HO489 HO493 HB; clear hb ho0; obtain ⟨Ao37, co37, eo37⟩ := Kd.V_slice HO489.out; subst eo37; obtain ⟨Ao38, co38, eo38⟩ := Kd.V_slice HO493.out; subst eo38) | (go_at_call 22; (with_reducible refine (attestorlaw02_same.calls kj15 _ _ t487 _ _ t491 t495 _ ?side1 ?side2 ?side3 ?side4 A33.out).mono ?_); (case side1 => exact cU_ ((Kd.V_reads' HO489.out).2.2)); (case side2 => exact (Kd.V_reads' HO489.out).2.1); (case side3 => exact cU_ ((Kd.V_reads' HO493.out).2.2)); (case side4 => exact (Kd.V_reads' HO493.out).2.1); rintro e w' ⟨rfl, ⟨nd, rfl⟩⟩))
    (try simp only [Act.put, s1_, s2_, s3_])
    go_cut [] (fun wc => ∃ (kq : Nat), Aside0 (attestorlaw02_RatioRing.j1 kq t464 t467 t470 t473 t487 = some r) ∧ Aside0 (kq ≤ kj15) ∧ Aside0 (Kd.R (Kd.int .u32) 44 wc w.heap.size (fun k_ => some k_ ≠ ((.slice Ao21 t467.length co21) : Value).ownBlock ∧ some k_ ≠ (v471 : Value).ownBlock) (.slice Ao20 t464.length co20) t464) ∧ Aside0 (Kd.R (Kd.int .u32) 44 wc w.heap.size (fun k_ => some k_ ≠ ((.slice Ao20 t464.length co20) : Value).ownBlock ∧ some k_ ≠ (v471 : Value).ownBlock) (.slice Ao21 t467.length co21) t467) ∧ Aside0 (Kd.R (Kd.int .u32) 44 wc w.heap.size (fun k_ => some k_ ≠ ((.slice Ao20 t464.length co20) : Value).ownBlock ∧ some k_ ≠ ((.slice Ao21 t467.length co21) : Value).ownBlock) v471 t470) ∧ Aside0 (Kd.V (Kd.int .u32) 44 wc w.heap.size (fun k_ => some k_ ≠ (v471 : Value).ownBlock) (.slice Ao24 t473.length co24) t473) ∧ Aside0 (Kd.V (Kd.int .u32) 44 wc w.heap.size (fun k_ => some k_ ≠ ((.slice Ao20 t464.length co20) : Value).ownBlock ∧ some k_ ≠ ((.slice Ao21 t467.length co21) : Value).ownBlock ∧ some k_ ≠ (v471 : Value).ownBlock) (.slice Ao37 t487.length co37) t487) ∧ Aside0 (Below w.heap.size w wc))
    case first =>
     have H := HC34.out
     clear HC34
     by_cases c39 : t495 = true
     ·subst c39
      rw [if_pos rfl] at H
      have H' := ak H
      clear H
      go_wp2
      go_meet
      case rel => exact ⟨_, H', ⟨by have := HJ15.out; first | omega | exact Nat.le_refl _⟩, ⟨rU_ HO_7.out⟩, ⟨rU_ HO_8.out⟩, ⟨rU_ HO_9.out⟩, ⟨by (with_reducible repeat (first | apply Kd.V_alloc | apply Kd.V_drewN | apply Kd.V_drew)); exact HO_10.out⟩, ⟨by (with_reducible repeat (first | apply Kd.V_alloc | apply Kd.V_drewN | apply Kd.V_drew)); exact HO489.out⟩, ⟨bU_ HB.out⟩⟩
     ·replace c39 := Bool.eq_false_iff.mpr c39
      subst c39
      rw [if_neg (show ¬ (false = true) by decide)] at H
      exact absurd H (by simp)
    case rest =>
     clear HC34
     (try clear c1); (try clear c2); (try clear p2); (try clear c3); (try clear c7); (try clear c10); (try clear c10b0); (try clear c10b1); (try clear c11); (try clear c11b0); (try clear c11b1); (try clear c12); (try clear c12b0); (try clear c12b1); (try clear c14); (try clear c20); (try clear c28); (try clear c29); (try clear c31); (try clear c31b0); (try clear c31b1); (try clear c32); (try clear c32b0); (try clear c32b1); (try clear c36); (try clear c39)
     obtain ⟨kq, HA, HJ33, HO_7, HO_8, HO_9, HO_10, HO_16, HB⟩ := hcut
     cases kq with
     | zero => exact absurd HA.out (by simp [attestorlaw02_RatioRing.j1])
     | succ kj33 =>
      have H := HA.out
      clear HA
      simp only [attestorlaw02_RatioRing.j1] at H
      revert H
      refine bd2_ fun t496 t499 A40 H => ?_
      try dsimp only at H
      revert H
      refine bd2_ fun t500 t503 A41 H => ?_
      try dsimp only at H
      revert H
      refine bd2_ fun t504 t507 A42 H => ?_
      try dsimp only at H
      revert H
      refine bd2_ fun t508 t511 A43 H => ?_
      try dsimp only at H
      obtain ⟨c44, H⟩ : (t499 = 0) ∧ _ := it_ H
      have c44b0 := beq_iff_eq.mpr c44
      have c44b1 := bne_eq_false_iff_eq.mpr c44
      clear c44
      obtain ⟨c45, H⟩ : (t503 = 0) ∧ _ := it_ H
      have c45b0 := beq_iff_eq.mpr c45
      have c45b1 := bne_eq_false_iff_eq.mpr c45
      clear c45
      obtain ⟨c46, H⟩ : (t507 = 0) ∧ _ := it_ H
      have c46b0 := beq_iff_eq.mpr c46
      have c46b1 := bne_eq_false_iff_eq.mpr c46
      clear c46
      obtain ⟨c47, H⟩ : (t511 = 0) ∧ _ := it_ H
      have c47b0 := beq_iff_eq.mpr c47
      have c47b1 := bne_eq_false_iff_eq.mpr c47
      clear c47
      revert H
      refine bd_ fun t512 A48 H => ?_
      have HC49 := ak H
      clear H
      obtain ⟨Ao50, co50, eo50⟩ := Kd.R_slice HO_9.out
      subst eo50
      go_upto_if 138 with (first | ((with_reducible refine gate_callee (f := 28) rfl ?_); refine gl_ (some 98) Tryd.func28 #[.slice Ao24 t473.length co24, .slice Ao50 t470.length co50] ?_; (with_reducible refine (ratio_Product.calls kj33 _ _ t473 _ _ t470 t496 t499 _ ?side1 ?side2 ?side3 ?side4 A40.out).mono ?_); (case side1 => exact cU_ ((Kd.V_reads' HO_10.out).2.2)); (case side2 => exact (Kd.V_reads' HO_10.out).2.1); (case side3 => exact cU_ ((Kd.R_reads' HO_9.out).2.2)); (case side4 => exact (Kd.R_reads' HO_9.out).2.1); rintro e w51 ⟨v497, rfl, ho0, hb⟩; refine ⟨_, rfl, ?_⟩; refine nx7_ (Kd.R_below (rU_ HO_7.out) hb) (Kd.R_below (rU_ HO_8.out) hb) (Kd.R_below (rU_ HO_9.out) hb) (Kd.V_below (by (with_reducible repeat (first | apply Kd.V_alloc | apply Kd.V_drewN | apply Kd.V_drew)); exact HO_10.out) hb) (Kd.V_below (by (with_reducible repeat (first | apply Kd.V_alloc | apply Kd.V_drewN | apply Kd.V_drew)); exact HO_16.out) hb) (Kd.V_lower (Kd.V_mono (ok' := fun k_ => some k_ ≠ (.slice Ao20 t464.length co20 : Value).ownBlock ∧ some k_ ≠ (.slice Ao21 t467.length co21 : Value).ownBlock ∧ some k_ ≠ (.slice Ao50 t470.length co50 : Value).ownBlock) ho0 (fun k_ hk_ => ⟨(Kd.fresh' (Kd.R_lt (rU_ HO_7.out)) k_ hk_), (Kd.fresh' (Kd.R_lt (rU_ HO_8.out)) k_ hk_), (Kd.fresh' (Kd.R_lt (rU_ HO_9.out)) k_ hk_)⟩)) (below_size (bU_ HB.out))) (below_step (bU_ HB.out) hb) ?_; clear HO_7 HO_8 HO_9 HO_10 HO_16 HB; intro HO_7 HO_8 HO_9 HO_10 HO_16 HO498 HB; clear hb ho0) | ((with_reducible refine gate_callee (f := 28) rfl ?_); refine gl_ (some 104) Tryd.func28 #[.slice Ao20 t464.length co20, .slice Ao50 t470.length co50] ?_; (with_reducible refine (ratio_Product.calls kj33 _ _ t464 _ _ t470 t500 t503 _ ?side1 ?side2 ?side3 ?side4 A41.out).mono ?_); (case side1 => exact cU_ ((Kd.R_reads' HO_7.out).2.2)); (case side2 => exact (Kd.R_reads' HO_7.out).2.1); (case side3 => exact cU_ ((Kd.R_reads' HO_9.out).2.2)); (case side4 => exact (Kd.R_reads' HO_9.out).2.1); rintro e w52 ⟨v501, rfl, ho0, hb⟩; refine ⟨_, rfl, ?_⟩; refine nx8_ (Kd.R_below (rU_ HO_7.out) hb) (Kd.R_below (rU_ HO_8.out) hb) (Kd.R_below (rU_ HO_9.out) hb) (Kd.V_below (by (with_reducible repeat (first | apply Kd.V_alloc | apply Kd.V_drewN | apply Kd.V_drew)); exact HO_10.out) hb) (Kd.V_below (by (with_reducible repeat (first | apply Kd.V_alloc | apply Kd.V_drewN | apply Kd.V_drew)); exact HO_16.out) hb) (Kd.V_below (by (with_reducible repeat (first | apply Kd.V_alloc | apply Kd.V_drewN | apply Kd.V_drew)); exact HO498.out) hb) (Kd.V_lower (Kd.V_mono (ok' := fun k_ => some k_ ≠ (.slice Ao20 t464.length co20 : Value).ownBlock ∧ some k_ ≠ (.slice Ao21 t467.length co21 : Value).ownBlock ∧ some k_ ≠ (.slice Ao50 t470.length co50 : Value).ownBlock) ho0 (fun k_ hk_ => ⟨(Kd.fresh' (Kd.R_lt (rU_ HO_7.out)) k_ hk_), (Kd.fresh' (Kd.R_lt (rU_ HO_8.out)) k_ hk_), (Kd.fresh' (Kd.R_lt (rU_ HO_9.out)) k_ hk_)⟩)) (below_size (bU_ HB.out))) (below_step (bU_ HB.out) hb) ?_; clear HO_7 HO_8 HO_9 HO_10 HO_16 HO498 HB; intro HO_7 HO_8 HO_9 HO_10 HO_16 HO498 HO502 HB; clear hb ho0) | ((with_reducible refine gate_callee (f := 28) rfl ?_); refine gl_ (some 110) Tryd.func28 #[.slice Ao21 t467.length co21, .slice Ao50 t470.length co50] ?_; (with_reducible refine (ratio_Product.calls kj33 _ _ t467 _ _ t470 t504 t507 _ ?side1 ?side2 ?side3 ?side4 A42.out).mono ?_); (case side1 => exact cU_ ((Kd.R_reads' HO_8.out).2.2)); (case side2 => exact (Kd.R_reads' HO_8.out).2.1); (case side3 => exact cU_ ((Kd.R_reads' HO_9.out).2.2)); (case side4 => exact (Kd.R_reads' HO_9.out).2.1); rintro e w53 ⟨v505, rfl, ho0, hb⟩; refine ⟨_, rfl, ?_⟩; refine nx9_ (Kd.R_below (rU_ HO_7.out) hb) (Kd.R_below (rU_ HO_8.out) hb) (Kd.R_below (rU_ HO_9.out) hb) (Kd.V_below (by (with_reducible repeat (first | apply Kd.V_alloc | apply Kd.V_drewN | apply Kd.V_drew)); exact HO_10.out) hb) (Kd.V_below (by (with_reducible repeat (first | apply Kd.V_alloc | apply Kd.V_drewN | apply Kd.V_drew)); exact HO_16.out) hb) (Kd.V_below (by (with_reducible repeat (first | apply Kd.V_alloc | apply Kd.V_drewN | apply Kd.V_drew)); exact HO498.out) hb) (Kd.V_below (by (with_reducible repeat (first | apply Kd.V_alloc | apply Kd.V_drewN | apply Kd.V_drew)); exact HO502.out) hb) (Kd.V_lower (Kd.V_mono (ok' := fun k_ => some k_ ≠ (.slice Ao20 t464.length co20 : Value).ownBlock ∧ some k_ ≠ (.slice Ao21 t467.length co21 : Value).ownBlock ∧ some k_ ≠ (.slice Ao50 t470.length co50 : Value).ownBlock) ho0 (fun k_ hk_ => ⟨(Kd.fresh' (Kd.R_lt (rU_ HO_7.out)) k_ hk_), (Kd.fresh' (Kd.R_lt (rU_ HO_8.out)) k_ hk_), (Kd.fresh' (Kd.R_lt (rU_ HO_9.out)) k_ hk_)⟩)) (below_size (bU_ HB.out))) (below_step (bU_ HB.out) hb) ?_; clear HO_7 HO_8 HO_9 HO_10 HO_16 HO498 HO502 HB; intro HO_7 HO_8 HO_9 HO_10 HO_16 HO498 HO502 HO506 HB; clear hb ho0; obtain ⟨Ao54, co54, eo54⟩ := Kd.V_slice HO502.out; subst eo54; obtain ⟨Ao55, co55, eo55⟩ := Kd.V_slice HO506.out; subst eo55) | ((with_reducible refine gate_callee (f := 29) rfl ?_); refine gl_ (some 116) Tryd.func29 #[.slice Ao54 t500.length co54, .slice Ao55 t504.length co55] ?_; (with_reducible refine (ratio_Sum.calls kj33 (fun k_ => (some k_ ≠ (.slice Ao20 t464.length co20 : Value).ownBlock ∧ (some k_ ≠ (.slice Ao21 t467.length co21 : Value).ownBlock ∧ some k_ ≠ (.slice Ao50 t470.length co50 : Value).ownBlock))) _ _ t500 (fun k_ => (some k_ ≠ (.slice Ao20 t464.length co20 : Value).ownBlock ∧ (some k_ ≠ (.slice Ao21 t467.length co21 : Value).ownBlock ∧ some k_ ≠ (.slice Ao50 t470.length co50 : Value).ownBlock))) _ _ t504 t508 t511 _ ?side1 ?side2 A43.out).mono ?_); (case side1 => exact HO502.out); (case side2 => exact HO506.out); rintro e w56 ⟨v509, rfl, ho0, hb⟩; refine ⟨_, rfl, ?_⟩; refine nx10_ (Kd.R_below (rU_ HO_7.out) hb) (Kd.R_below (rU_ HO_8.out) hb) (Kd.R_below (rU_ HO_9.out) hb) (Kd.V_below (by (with_reducible repeat (first | apply Kd.V_alloc | apply Kd.V_drewN | apply Kd.V_drew)); exact HO_10.out) hb) (Kd.V_below (by (with_reducible repeat (first | apply Kd.V_alloc | apply Kd.V_drewN | apply Kd.V_drew)); exact HO_16.out) hb) (Kd.V_below (by (with_reducible repeat (first | apply Kd.V_alloc | apply Kd.V_drewN | apply Kd.V_drew)); exact HO498.out) hb) (Kd.V_below (by (with_reducible repeat (first | apply Kd.V_alloc | apply Kd.V_drewN | apply Kd.V_drew)); exact HO502.out) hb) (Kd.V_below (by (with_reducible repeat (first | apply Kd.V_alloc | apply Kd.V_drewN | apply Kd.V_drew)); exact HO506.out) hb) (Kd.V_lower (Kd.V_mono (ok' := fun k_ => some k_ ≠ (.slice Ao20 t464.length co20 : Value).ownBlock ∧ some k_ ≠ (.slice Ao21 t467.length co21 : Value).ownBlock ∧ some k_ ≠ (.slice Ao50 t470.length co50 : Value).ownBlock) ho0 (fun k_ hk_ => ⟨Or.elim hk_ (fun hs_ => Or.elim hs_ (fun hs_ => hs_.1) (fun hs_ => hs_.1)) (fun hn_ => (Kd.fresh' (Kd.R_lt (rU_ HO_7.out)) k_ hn_)), Or.elim hk_ (fun hs_ => Or.elim hs_ (fun hs_ => hs_.2.1) (fun hs_ => hs_.2.1)) (fun hn_ => (Kd.fresh' (Kd.R_lt (rU_ HO_8.out)) k_ hn_)), Or.elim hk_ (fun hs_ => Or.elim hs_ (fun hs_ => hs_.2.2) (fun hs_ => hs_.2.2)) (fun hn_ => (Kd.fresh' (Kd.R_lt (rU_ HO_9.out)) k_ hn_))⟩)) (below_size (bU_ HB.out))) (below_step (bU_ HB.out) hb) ?_; clear HO_7 HO_8 HO_9 HO_10 HO_16 HO498 HO502 HO506 HB; intro HO_7 HO_8 HO_9 HO_10 HO_16 HO498 HO502 HO506 HO510 HB; clear hb ho0; obtain ⟨Ao57, co57, eo57⟩ := Kd.V_slice HO498.out; subst eo57; obtain ⟨Ao58, co58, eo58⟩ := Kd.V_slice HO510.out; subst eo58) | (go_at_call 22; (with_reducible refine (attestorlaw02_same.calls kj33 _ _ t496 _ _ t508 t512 _ ?side1 ?side2 ?side3 ?side4 A48.out).mono ?_); (case side1 => exact cU_ ((Kd.V_reads' HO498.out).2.2)); (case side2 => exact (Kd.V_reads' HO498.out).2.1); (case side3 => exact cU_ ((Kd.V_reads' HO510.out).2.2)); (case side4 => exact (Kd.V_reads' HO510.out).2.1); rintro e w' ⟨rfl, ⟨nd, rfl⟩⟩))
      (try simp only [Act.put, s1_, s2_, s3_])
      go_cut [] (fun wc => ∃ (kq : Nat), Aside0 (attestorlaw02_RatioRing.j2 kq t464 t467 t487 = some r) ∧ Aside0 (kq ≤ kj33) ∧ Aside0 (Kd.R (Kd.int .u32) 44 wc w.heap.size (fun k_ => some k_ ≠ ((.slice Ao21 t467.length co21) : Value).ownBlock) (.slice Ao20 t464.length co20) t464) ∧ Aside0 (Kd.R (Kd.int .u32) 44 wc w.heap.size (fun k_ => some k_ ≠ ((.slice Ao20 t464.length co20) : Value).ownBlock) (.slice Ao21 t467.length co21) t467) ∧ Aside0 (Kd.V (Kd.int .u32) 44 wc w.heap.size (fun k_ => some k_ ≠ ((.slice Ao20 t464.length co20) : Value).ownBlock ∧ some k_ ≠ ((.slice Ao21 t467.length co21) : Value).ownBlock) (.slice Ao37 t487.length co37) t487) ∧ Aside0 (Below w.heap.size w wc))
      case first =>
       have H := HC49.out
       clear HC49
       by_cases c59 : t512 = true
       ·subst c59
        rw [if_pos rfl] at H
        have H' := ak H
        clear H
        go_wp2
        go_meet
        case rel => exact ⟨_, H', ⟨by have := HJ15.out; have := HJ33.out; first | omega | exact Nat.le_refl _⟩, ⟨Kd.R_mono (rU_ HO_7.out) (fun _ hk => hk.1)⟩, ⟨Kd.R_mono (rU_ HO_8.out) (fun _ hk => hk.1)⟩, ⟨by (with_reducible repeat (first | apply Kd.V_alloc | apply Kd.V_drewN | apply Kd.V_drew)); exact Kd.V_mono HO_16.out (fun _ hk => ⟨hk.1, hk.2.1⟩)⟩, ⟨bU_ HB.out⟩⟩
       ·replace c59 := Bool.eq_false_iff.mpr c59
        subst c59
        rw [if_neg (show ¬ (false = true) by decide)] at H
        exact absurd H (by simp)
      case rest =>
       clear HC49
       (try clear c1); (try clear c2); (try clear p2); (try clear c3); (try clear c4); (try clear c5); (try clear c7); (try clear c10); (try clear c10b0); (try clear c10b1); (try clear c11); (try clear c11b0); (try clear c11b1); (try clear c12); (try clear c12b0); (try clear c12b1); (try clear c14); (try clear c20); (try clear c28); (try clear c29); (try clear c31); (try clear c31b0); (try clear c31b1); (try clear c32); (try clear c32b0); (try clear c32b1); (try clear c36); (try clear c39); (try clear c44); (try clear c44b0); (try clear c44b1); (try clear c45); (try clear c45b0); (try clear c45b1); (try clear c46); (try clear c46b0); (try clear c46b1); (try clear c47); (try clear c47b0); (try clear c47b1); (try clear c59)
       obtain ⟨kq, HA, HJ48, HO_7, HO_8, HO_16, HB⟩ := hcut
       cases kq with
       | zero => exact absurd HA.out (by simp [attestorlaw02_RatioRing.j2])
       | succ kj48 =>
        have H := HA.out
        clear HA
        simp only [attestorlaw02_RatioRing.j2] at H
        by_cases c60 : (t467.length : Int) = 0
        ·rw [if_pos c60] at H
         have c60b0 := beq_iff_eq.mpr c60
         have c60b1 := bne_eq_false_iff_eq.mpr c60
         clear c60
         revert H
         refine bd_ fun t513 A61 H => ?_
         obtain rfl := Option.some.inj H
         go_wp2_with (first | ((with_reducible refine gate_callee (f := 19) rfl ?_); refine gl_ (some 142) Tryd.func19 #[] ?_; (with_reducible refine (attestorlaw02_works.calls kj48  t513 _ A61.out).mono ?_); rintro e w62 ⟨rfl, hb⟩; refine ⟨_, rfl, ?_⟩; refine nx4_ (Kd.R_below (rU_ HO_7.out) hb) (Kd.R_below (rU_ HO_8.out) hb) (Kd.V_below (by (with_reducible repeat (first | apply Kd.V_alloc | apply Kd.V_drewN | apply Kd.V_drew)); exact HO_16.out) hb) (below_step (bU_ HB.out) hb) ?_; clear HO_7 HO_8 HO_16 HB; intro HO_7 HO_8 HO_16 HB; clear hb))
         go_ret
         exact ⟨by first | rfl | (simp [errW_none, errW_some] <;> rfl) | (simp [*, errW_none, errW_some] <;> rfl), bU_ HB.out⟩
        ·rw [if_neg c60] at H
         have c60b0 := beq_eq_false_iff_ne.mpr c60
         have c60b1 := bne_iff_ne.mpr c60
         have c60b2 : ¬ (t467 = []) := fun h_ => c60 (by rw [h_]; rfl)
         revert H
         refine bd3_ fun t514 t517 t520 A63 H => ?_
         try dsimp only at H
         obtain ⟨c64, H⟩ : (t520 = 0) ∧ _ := it_ H
         have c64b0 := beq_iff_eq.mpr c64
         have c64b1 := bne_eq_false_iff_eq.mpr c64
         clear c64
         revert H
         refine bd_ fun t521 A65 H => ?_
         by_cases c66 : t521 = true
         ·subst c66
          rw [if_pos rfl] at H
          obtain ⟨c67, H⟩ : ((t517.length : Int) = 0) ∧ _ := it_ H
          have c67b0 := beq_iff_eq.mpr c67
          have c67b1 := bne_eq_false_iff_eq.mpr c67
          clear c67
          revert H
          refine bd_ fun t522 A68 H => ?_
          obtain rfl := Option.some.inj H
          go_wp2_with (first | ((with_reducible refine gate_callee (f := 25) rfl ?_); refine gl_ (some 146) Tryd.func25 #[.slice Ao37 t487.length co37, .slice Ao21 t467.length co21] ?_; (with_reducible refine (ratio_Quotient.calls kj48 _ _ t487 _ _ t467 t514 t517 t520 _ ?side1 ?side2 ?side3 ?side4 A63.out).mono ?_); (case side1 => exact cU_ ((Kd.V_reads' HO_16.out).2.2)); (case side2 => exact (Kd.V_reads' HO_16.out).2.1); (case side3 => exact cU_ ((Kd.R_reads' HO_8.out).2.2)); (case side4 => exact (Kd.R_reads' HO_8.out).2.1); rintro e w69 ⟨v515, v518, rfl, ho0, ho1, hb⟩; refine ⟨_, rfl, ?_⟩; refine nx6_ (Kd.R_below (rU_ HO_7.out) hb) (Kd.R_below (rU_ HO_8.out) hb) (Kd.V_below (by (with_reducible repeat (first | apply Kd.V_alloc | apply Kd.V_drewN | apply Kd.V_drew)); exact HO_16.out) hb) (Kd.V_lower (Kd.V_mono (ok' := fun k_ => some k_ ≠ (.slice Ao20 t464.length co20 : Value).ownBlock ∧ some k_ ≠ (.slice Ao21 t467.length co21 : Value).ownBlock) ho0 (fun k_ hk_ => ⟨(Kd.fresh' (Kd.R_lt (rU_ HO_7.out)) k_ hk_), (Kd.fresh' (Kd.R_lt (rU_ HO_8.out)) k_ hk_)⟩)) (below_size (bU_ HB.out))) (Kd.V_lower (Kd.V_mono (ok' := fun k_ => some k_ ≠ (.slice Ao20 t464.length co20 : Value).ownBlock ∧ some k_ ≠ (.slice Ao21 t467.length co21 : Value).ownBlock) ho1 (fun k_ hk_ => ⟨(Kd.fresh' (Kd.R_lt (rU_ HO_7.out)) k_ hk_), (Kd.fresh' (Kd.R_lt (rU_ HO_8.out)) k_ hk_)⟩)) (below_size (bU_ HB.out))) (below_step (bU_ HB.out) hb) ?_; clear HO_7 HO_8 HO_16 HB; intro HO_7 HO_8 HO_16 HO516 HO519 HB; clear hb ho0 ho1; obtain ⟨Ao70, co70, eo70⟩ := Kd.V_slice HO516.out; subst eo70) | (go_at_call 22; (with_reducible refine (attestorlaw02_same.calls kj48 _ _ t514 _ _ t464 true _ ?side1 ?side2 ?side3 ?side4 A65.out).mono ?_); (case side1 => exact cU_ ((Kd.V_reads' HO516.out).2.2)); (case side2 => exact (Kd.V_reads' HO516.out).2.1); (case side3 => exact cU_ ((Kd.R_reads' HO_7.out).2.2)); (case side4 => exact (Kd.R_reads' HO_7.out).2.1); rintro e w' ⟨rfl, ⟨nd, rfl⟩⟩; obtain ⟨Ao71, co71, eo71⟩ := Kd.V_slice HO519.out; subst eo71) | (go_at_call 19; (with_reducible refine (attestorlaw02_works.calls kj48  t522 _ A68.out).mono ?_); rintro e w72 ⟨rfl, hb⟩; refine nx6_ (Kd.R_below (rU_ HO_7.out) hb) (Kd.R_below (rU_ HO_8.out) hb) (Kd.V_below (by (with_reducible repeat (first | apply Kd.V_alloc | apply Kd.V_drewN | apply Kd.V_drew)); exact HO_16.out) hb) (Kd.V_below (by (with_reducible repeat (first | apply Kd.V_alloc | apply Kd.V_drewN | apply Kd.V_drew)); exact HO516.out) hb) (Kd.V_below (by (with_reducible repeat (first | apply Kd.V_alloc | apply Kd.V_drewN | apply Kd.V_drew)); exact HO519.out) hb) (below_step (bU_ HB.out) hb) ?_; clear HO_7 HO_8 HO_16 HO516 HO519 HB; intro HO_7 HO_8 HO_16 HO516 HO519 HB; clear hb))
          go_ret
          exact ⟨by first | rfl | (simp [errW_none, errW_some] <;> rfl) | (simp [*, errW_none, errW_some] <;> rfl), bU_ HB.out⟩
         ·replace c66 := Bool.eq_false_iff.mpr c66
          subst c66
          rw [if_neg (show ¬ (false = true) by decide)] at H
          exact absurd H (by simp)
 ·replace c14 := Bool.eq_false_iff.mpr c14
  subst c14
  rw [if_neg (show ¬ (false = true) by decide)] at H
  exact absurd H (by simp)

/-- THE ONE PURE STATEMENT of attestorlaw02_RatioRing: yours. -/
def attestorlaw02_RatioRing.Pure : Prop := ∀ (l0 : List Int) (l1 : List Int) (l2 : List Int), l0.length ≤ maxLen → l0.length * 4 ≤ 140737488351232 → (∀ x ∈ l0, (Lit.int .u32 x).wf = true) → l1.length ≤ maxLen → l1.length * 4 ≤ 140737488351232 → (∀ x ∈ l1, (Lit.int .u32 x).wf = true) → l2.length ≤ maxLen → l2.length * 4 ≤ 140737488351232 → (∀ x ∈ l2, (Lit.int .u32 x).wf = true) → ∃ k, attestorlaw02_RatioRing.f k l0 l1 l2 = some true
theorem attestorlaw02_RatioRing.walk (P : attestorlaw02_RatioRing.Pure) (a0 : Option Addr) (len0 cap0 : Nat) (z0 : List Int) (a1 : Option Addr) (len1 cap1 : Nat) (z1 : List Int) (a2 : Option Addr) (len2 cap2 : Nat) (z2 : List Int) (w : World) (w0 : (a0 = none ∧ len0 = 0 ∧ cap0 = 0 ∧ z0 = []) ∨ ∃ x, a0 = some x ∧ len0 ≤ cap0 ∧ cap0 ≤ maxLen ∧ z0.length = cap0 ∧ (∀ i, i < z0.length → w.cell? (x.add i) = some (.int .u32 (z0.getD i 0))) ∧ ∀ n ∈ z0, (Lit.int .u32 n).wf = true) (y0 : len0 * 4 ≤ 140737488351232) (w1 : (a1 = none ∧ len1 = 0 ∧ cap1 = 0 ∧ z1 = []) ∨ ∃ x, a1 = some x ∧ len1 ≤ cap1 ∧ cap1 ≤ maxLen ∧ z1.length = cap1 ∧ (∀ i, i < z1.length → w.cell? (x.add i) = some (.int .u32 (z1.getD i 0))) ∧ ∀ n ∈ z1, (Lit.int .u32 n).wf = true) (y1 : len1 * 4 ≤ 140737488351232) (w2 : (a2 = none ∧ len2 = 0 ∧ cap2 = 0 ∧ z2 = []) ∨ ∃ x, a2 = some x ∧ len2 ≤ cap2 ∧ cap2 ≤ maxLen ∧ z2.length = cap2 ∧ (∀ i, i < z2.length → w.cell? (x.add i) = some (.int .u32 (z2.getD i 0))) ∧ ∀ n ∈ z2, (Lit.int .u32 n).wf = true) (y2 : len2 * 4 ≤ 140737488351232) :
  Calls Tryd.prog 7 #[.slice a0 len0 cap0, .slice a1 len1 cap1, .slice a2 len2 cap2] w fun e w' => e = .returned (.bool true) ∧ Below w.heap.size w w' := by
 obtain ⟨l0, rfl, hr0, hm0, hw0, hc0⟩ := ReadsInt.ofRowC w0
 obtain ⟨l1, rfl, hr1, hm1, hw1, hc1⟩ := ReadsInt.ofRowC w1
 obtain ⟨l2, rfl, hr2, hm2, hw2, hc2⟩ := ReadsInt.ofRowC w2
 obtain ⟨k, h⟩ := P l0 l1 l2 hm0 y0 hw0 hm1 y1 hw1 hm2 y2 hw2
 refine (attestorlaw02_RatioRing.calls k _ _ l0 _ _ l1 _ _ l2 true w (Kd.C_of_reads (d := (0 : Int)) (h1 := fun _ => rfl) hr0) hc0 (Kd.C_of_reads (d := (0 : Int)) (h1 := fun _ => rfl) hr1) hc1 (Kd.C_of_reads (d := (0 : Int)) (h1 := fun _ => rfl) hr2) hc2 h).mono ?_
 rintro e w' ⟨rfl, hd⟩
 exact ⟨rfl, hd⟩

end Go.Proofs.YtjjjoepnlhpjdaaDoor.Q

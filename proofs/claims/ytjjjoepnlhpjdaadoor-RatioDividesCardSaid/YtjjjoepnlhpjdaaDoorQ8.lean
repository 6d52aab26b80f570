-- Written by prx.py (this session's driver of the kit's print) out of the translation. Not trusted: Lean checks it.
import Derived.Test.YtjjjoepnlhpjdaaDoorQ0
import Derived.Test.YtjjjoepnlhpjdaaDoorQ1
import Derived.Test.YtjjjoepnlhpjdaaDoorQ3
import Derived.Test.YtjjjoepnlhpjdaaDoorQ4
import Derived.Test.YtjjjoepnlhpjdaaDoorQ5
import Derived.Test.YtjjjoepnlhpjdaaDoorQ6
import Derived.Test.YtjjjoepnlhpjdaaDoorQ7
namespace Go.Proofs.YtjjjoepnlhpjdaaDoor.Q
open Go.RowKit Go.Proofs.YtjjjoepnlhpjdaaDoorW.PrintWords Go.Proofs.YtjjjoepnlhpjdaaDoorW.PrintLast Go.Proofs.YtjjjoepnlhpjdaaDoorW.PrintMore
attribute [local go_sem] max2_int min2_int max_two min_two max_three min_three max_four min_four   -- for this text's walks alone
set_option linter.unusedVariables false
set_option linter.unusedSimpArgs false

/-! ### attestorlaw02_RatioDivides: function 5 -/
mutual
def attestorlaw02_RatioDivides.j0 : Nat → List Int → List Int → Option (Bool)
 | 0, _, _ => none
 | k + 1, x5, x6 => (ratio_Quotient.f k x5 x6).bind fun bt423 => (if bt423.2.2 = 0 then ((ratio_Compare.f k bt423.2.1 x6).bind fun t430 => (if t430 = (-1) then ((ratio_ValidNat.f k bt423.1).bind fun t431 => (if t431 = true then ((ratio_ValidNat.f k bt423.2.1).bind fun t432 => (if t432 = true then (attestorlaw02_RatioDivides.j1 k x5 x6 bt423.1 bt423.2.1) else (none))) else (none))) else (none))) else (none))
def attestorlaw02_RatioDivides.j1 : Nat → List Int → List Int → List Int → List Int → Option (Bool)
 | 0, _, _, _, _ => none
 | k + 1, x5, x6, x7, x8 => (ratio_Product.f k x7 x6).bind fun bt433 => ((ratio_Sum.f k bt433.1 x8).bind fun bt437 => (if bt433.2 = 0 then (if bt437.2 = 0 then ((attestorlaw02_same.f k bt437.1 x5).bind fun t441 => (if t441 = true then ((attestorlaw02_works.f k).bind fun t442 => (some t442)) else (none))) else (none)) else (none)))
end
def attestorlaw02_RatioDivides.f (k : Nat) (l0 : List Int) (l1 : List Int) : Option (Bool) := (attestorlaw02_nat.f k l0 64).bind fun t414 => ((attestorlaw02_nat.f k l1 64).bind fun t417 => (if (t417.length : Int) = 0 then (attestorlaw02_RatioDivides.j0 k t414 (([1] : List Int))) else (attestorlaw02_RatioDivides.j0 k t414 t417)))
set_option maxHeartbeats 8000000 in
set_option maxRecDepth 100000 in
theorem attestorlaw02_RatioDivides.calls (k : Nat) (A0 : Option Addr) (c0 : Nat) (l0 : List Int) (A1 : Option Addr) (c1 : Nat) (l1 : List Int) (r : Bool) (w : World) (hr0 : Kd.C (Kd.int .u32) w A0 l0.length l0) (hc0 : l0.length ≤ c0) (hr1 : Kd.C (Kd.int .u32) w A1 l1.length l1) (hc1 : l1.length ≤ c1) (h : attestorlaw02_RatioDivides.f k l0 l1 = some r) :
  Calls Tryd.prog 5 #[.slice A0 l0.length c0, .slice A1 l1.length c1] w fun e w' => e = .returned (.bool r) ∧ Below w.heap.size w w' := by
 have HR0 := ak hr0
 have HC0 := ak hc0
 clear hr0 hc0
 have HR1 := ak hr1
 have HC1 := ak hc1
 clear hr1 hc1
 have HB := ak (Below.refl w.heap.size w)
 have H : ((attestorlaw02_nat.f k l0 64).bind fun t414 => ((attestorlaw02_nat.f k l1 64).bind fun t417 => (if (t417.length : Int) = 0 then (attestorlaw02_RatioDivides.j0 k t414 (([1] : List Int))) else (attestorlaw02_RatioDivides.j0 k t414 t417)))) = some r := h
 clear h
 revert H
 refine bd_ fun t414 A3 H => ?_
 revert H
 refine bd_ fun t417 A4 H => ?_
 have HC5 := ak H
 clear H
 go_enter Tryd.func5, Tryd.ntmps5
 go_upto_if 20 with (first | ((with_reducible refine gate_callee (f := 20) rfl ?_); refine gl_ (some 15) Tryd.func20 #[.slice A0 l0.length c0, .int .i64 64] ?_; (with_reducible refine (attestorlaw02_nat.calls k _ _ l0 64 t414 _ ?side1 ?side2 A3.out).mono ?_); (case side1 => exact cU_ HR0.out); (case side2 => exact HC0.out); rintro e w6 ⟨v415, rfl, ho0, hb⟩; refine ⟨_, rfl, ?_⟩; refine nx2_ (Kd.R_lower ho0 (below_size (bU_ HB.out))) (below_step (bU_ HB.out) hb) ?_; clear HB; intro HO416 HB; clear hb ho0) | ((with_reducible refine gate_callee (f := 20) rfl ?_); refine gl_ (some 17) Tryd.func20 #[.slice A1 l1.length c1, .int .i64 64] ?_; (with_reducible refine (attestorlaw02_nat.calls k _ _ l1 64 t417 _ ?side1 ?side2 A4.out).mono ?_); (case side1 => exact cU_ (Kd.C_below HR1.out HB.out)); (case side2 => exact HC1.out); rintro e w7 ⟨v418, rfl, ho0, hb⟩; refine ⟨_, rfl, ?_⟩; refine nx3_ (Kd.R_elder' (rU_ HO416.out) (Kd.R_base ho0) hb) (Kd.R_lower (Kd.R_new' ho0 (Kd.R_lt (rU_ HO416.out))) (below_size (bU_ HB.out))) (below_step (bU_ HB.out) hb) ?_; clear HO416 HB; intro HO416 HO419 HB; clear hb ho0; obtain ⟨Ao8, co8, eo8⟩ := Kd.R_slice HO419.out; subst eo8))
 (try simp only [Act.put, s1_, s2_, s3_])
 go_cut [6] (fun v6 wc => ∃ (kq : Nat) (x6_4 : List Int), Aside0 (attestorlaw02_RatioDivides.j0 kq t414 x6_4 = some r) ∧ Aside0 (kq ≤ k) ∧ Aside0 (Kd.R (Kd.int .u32) 44 wc w.heap.size (fun k_ => some k_ ≠ (v6 : Value).ownBlock) v415 t414) ∧ Aside0 (Kd.R (Kd.int .u32) 44 wc w.heap.size (fun k_ => some k_ ≠ (v415 : Value).ownBlock) v6 x6_4) ∧ Aside0 (Below w.heap.size w wc))
 case first =>
  have H := HC5.out
  clear HC5
  by_cases c9 : (t417.length : Int) = 0
  ·rw [if_pos c9] at H
   have c9b0 := beq_iff_eq.mpr c9
   have c9b1 := bne_eq_false_iff_eq.mpr c9
   clear c9
   (first | rw [c9b0] | (simp only [i64_w, i32_w]; rw [c9b0]) | rw [c9b1] | skip)
   obtain ⟨y420, hy420⟩ : ∃ y_ : List Int, y_ = (([1] : List Int)) := ⟨_, rfl⟩
   replace H : (attestorlaw02_RatioDivides.j0 k t414 y420) = some r := by first | (rw [hy420]; with_reducible exact H) | (have H2_ := (Option.bind_some _ _).symm.trans H; rw [hy420]; with_reducible exact H2_) | (have H2_ := (Option.bind_some _ _).symm.trans H; with_reducible exact H2_) | with_reducible exact H | (rw [hy420]; exact H) | exact H
   have Ny420 := ak hy420
   clear hy420
   have H' := ak H
   clear H
   go_wp2_with (first | ((with_reducible refine gate_dst (N := 21) rfl ?_); refine Kd.R_lit (Kd.int .u32) _ 44 ?hg (N := 21) ?hd (xs := ([1] : List Int)) (inner := [.int .u32 1]) (ok := fun _ => True) (okp := fun _ => True) ?hr ?hp (fun _ hk => hk) trivial (Below.refl _ _) (Nat.le_refl _) (by simp) ?_; (case hd => rfl); (case hg => rfl); (case hr => first | (go_simp; done) | (go_simp; rfl)); (case hp => exact (Reps.one (show Kd.M (Kd.int .u32) _ _ _ 1 [.int .u32 1] from rfl) (Reps.none _ _))); intro v421 w10 ho11 hb hg_ hnew_; clear hg_ hnew_; (first | rw [← Ny420.out] at ho11 | (simp only [Int.reduceToNat] at ho11; rw [← Ny420.out] at ho11)); refine nx4_ (Kd.R_elder' (rU_ HO416.out) (Kd.R_base ho11) hb) (Kd.R_elder' (rU_ HO419.out) (Kd.R_base ho11) hb) (Kd.R_lower (Kd.R_new' (Kd.R_new' ho11 (Kd.R_lt (rU_ HO416.out))) (Kd.R_lt (rU_ HO419.out))) (below_size (bU_ HB.out))) (below_step (bU_ HB.out) hb) ?_; clear HO416 HO419 HB; intro HO416 HO419 HO422 HB; clear hb ho11))
   go_meet
   case rel => exact ⟨_, (y420), H', ⟨by first | omega | exact Nat.le_refl _⟩, ⟨Kd.R_mono (rU_ HO416.out) (fun _ hk => hk.2)⟩, ⟨Kd.R_mono (rU_ HO422.out) (fun _ hk => hk.1.2)⟩, ⟨bU_ HB.out⟩⟩
  ·rw [if_neg c9] at H
   have c9b0 := beq_eq_false_iff_ne.mpr c9
   have c9b1 := bne_iff_ne.mpr c9
   have c9b2 : ¬ (t417 = []) := fun h_ => c9 (by rw [h_]; rfl)
   (first | rw [c9b0] | (simp only [i64_w, i32_w]; rw [c9b0]) | rw [c9b1] | skip)
   have H' := ak H
   clear H
   go_wp2
   go_meet
   case rel => exact ⟨_, (t417), H', ⟨by first | omega | exact Nat.le_refl _⟩, ⟨Kd.R_mono (rU_ HO416.out) (fun _ hk => hk.2)⟩, ⟨Kd.R_mono (rU_ HO419.out) (fun _ hk => hk.2)⟩, ⟨bU_ HB.out⟩⟩
 case rest =>
  clear HC5
  (try clear c1); (try clear c2); (try clear p2); (try clear c5); (try clear c9); (try clear c9b0); (try clear c9b1); (try clear c9b2)
  obtain ⟨kq, x6_4, HA, HJ4, HO_5, HO_6, HB⟩ := hcut
  cases kq with
  | zero => exact absurd HA.out (by simp [attestorlaw02_RatioDivides.j0])
  | succ kj4 =>
   have H := HA.out
   clear HA
   simp only [attestorlaw02_RatioDivides.j0] at H
   revert H
   refine bd3_ fun t423 t426 t429 A12 H => ?_
   try dsimp only at H
   obtain ⟨c13, H⟩ : (t429 = 0) ∧ _ := it_ H
   have c13b0 := beq_iff_eq.mpr c13
   have c13b1 := bne_eq_false_iff_eq.mpr c13
   clear c13
   revert H
   refine bd_ fun t430 A14 H => ?_
   obtain ⟨c15, H⟩ : (t430 = (-1)) ∧ _ := it_ H
   have c15b0 := beq_iff_eq.mpr c15
   have c15b1 := bne_eq_false_iff_eq.mpr c15
   clear c15
   revert H
   refine bd_ fun t431 A16 H => ?_
   by_cases c17 : t431 = true
   ·subst c17
    rw [if_pos rfl] at H
    revert H
    refine bd_ fun t432 A18 H => ?_
    have HC19 := ak H
    clear H
    obtain ⟨Ao20, co20, eo20⟩ := Kd.R_slice HO_5.out
    subst eo20
    obtain ⟨Ao21, co21, eo21⟩ := Kd.R_slice HO_6.out
    subst eo21
    go_upto_if 46 with (first | ((with_reducible refine gate_callee (f := 25) rfl ?_); refine gl_ (some 25) Tryd.func25 #[.slice Ao20 t414.length co20, .slice Ao21 x6_4.length co21] ?_; (with_reducible refine (ratio_Quotient.calls kj4 _ _ t414 _ _ x6_4 t423 t426 t429 _ ?side1 ?side2 ?side3 ?side4 A12.out).mono ?_); (case side1 => exact cU_ ((Kd.R_reads' HO_5.out).2.2)); (case side2 => exact (Kd.R_reads' HO_5.out).2.1); (case side3 => exact cU_ ((Kd.R_reads' HO_6.out).2.2)); (case side4 => exact (Kd.R_reads' HO_6.out).2.1); rintro e w22 ⟨v424, v427, rfl, ho0, ho1, hb⟩; refine ⟨_, rfl, ?_⟩; refine nx5_ (Kd.R_below (rU_ HO_5.out) hb) (Kd.R_below (rU_ HO_6.out) hb) (Kd.V_lower (Kd.V_mono (ok' := fun k_ => some k_ ≠ (.slice Ao20 t414.length co20 : Value).ownBlock ∧ some k_ ≠ (.slice Ao21 x6_4.length co21 : Value).ownBlock) ho0 (fun k_ hk_ => ⟨(Kd.fresh' (Kd.R_lt (rU_ HO_5.out)) k_ hk_), (Kd.fresh' (Kd.R_lt (rU_ HO_6.out)) k_ hk_)⟩)) (below_size (bU_ HB.out))) (Kd.V_lower (Kd.V_mono (ok' := fun k_ => some k_ ≠ (.slice Ao20 t414.length co20 : Value).ownBlock ∧ some k_ ≠ (.slice Ao21 x6_4.length co21 : Value).ownBlock) ho1 (fun k_ hk_ => ⟨(Kd.fresh' (Kd.R_lt (rU_ HO_5.out)) k_ hk_), (Kd.fresh' (Kd.R_lt (rU_ HO_6.out)) k_ hk_)⟩)) (below_size (bU_ HB.out))) (below_step (bU_ HB.out) hb) ?_; clear HO_5 HO_6 HB; intro HO_5 HO_6 HO425 HO428 HB; clear hb ho0 ho1; obtain ⟨Ao23, co23, eo23⟩ := Kd.V_slice HO428.out; subst eo23) | (go_at_call 26; (with_reducible refine (ratio_Compare.calls kj4 _ _ t426 _ _ x6_4 t430 _ ?side1 ?side2 ?side3 ?side4 A14.out).mono ?_); (case side1 => exact cU_ ((Kd.V_reads' HO428.out).2.2)); (case side2 => exact (Kd.V_reads' HO428.out).2.1); (case side3 => exact cU_ ((Kd.R_reads' HO_6.out).2.2)); (case side4 => exact (Kd.R_reads' HO_6.out).2.1); rintro e w24 ⟨rfl, hb⟩; refine nx5_ (Kd.R_below (rU_ HO_5.out) hb) (Kd.R_below (rU_ HO_6.out) hb) (Kd.V_below (by (with_reducible repeat (first | apply Kd.V_alloc | apply Kd.V_drewN | apply Kd.V_drew)); exact HO425.out) hb) (Kd.V_below (by (with_reducible repeat (first | apply Kd.V_alloc | apply Kd.V_drewN | apply Kd.V_drew)); exact HO428.out) hb) (below_step (bU_ HB.out) hb) ?_; clear HO_5 HO_6 HO425 HO428 HB; intro HO_5 HO_6 HO425 HO428 HB; clear hb; obtain ⟨Ao25, co25, eo25⟩ := Kd.V_slice HO425.out; subst eo25) | (go_at_call 27; (with_reducible refine (ratio_ValidNat.calls kj4 _ _ t423 true _ ?side1 ?side2 A16.out).mono ?_); (case side1 => exact cU_ ((Kd.V_reads' HO425.out).2.2)); (case side2 => exact (Kd.V_reads' HO425.out).2.1); rintro e w26 ⟨rfl, hb⟩; refine nx5_ (Kd.R_below (rU_ HO_5.out) hb) (Kd.R_below (rU_ HO_6.out) hb) (Kd.V_below (by (with_reducible repeat (first | apply Kd.V_alloc | apply Kd.V_drewN | apply Kd.V_drew)); exact HO425.out) hb) (Kd.V_below (by (with_reducible repeat (first | apply Kd.V_alloc | apply Kd.V_drewN | apply Kd.V_drew)); exact HO428.out) hb) (below_step (bU_ HB.out) hb) ?_; clear HO_5 HO_6 HO425 HO428 HB; intro HO_5 HO_6 HO425 HO428 HB; clear hb) | (go_at_call 27; (with_reducible refine (ratio_ValidNat.calls kj4 _ _ t426 t432 _ ?side1 ?side2 A18.out).mono ?_); (case side1 => exact cU_ ((Kd.V_reads' HO428.out).2.2)); (case side2 => exact (Kd.V_reads' HO428.out).2.1); rintro e w27 ⟨rfl, hb⟩; refine nx5_ (Kd.R_below (rU_ HO_5.out) hb) (Kd.R_below (rU_ HO_6.out) hb) (Kd.V_below (by (with_reducible repeat (first | apply Kd.V_alloc | apply Kd.V_drewN | apply Kd.V_drew)); exact HO425.out) hb) (Kd.V_below (by (with_reducible repeat (first | apply Kd.V_alloc | apply Kd.V_drewN | apply Kd.V_drew)); exact HO428.out) hb) (below_step (bU_ HB.out) hb) ?_; clear HO_5 HO_6 HO425 HO428 HB; intro HO_5 HO_6 HO425 HO428 HB; clear hb))
    (try simp only [Act.put, s1_, s2_, s3_])
    go_cut [] (fun wc => ∃ (kq : Nat), Aside0 (attestorlaw02_RatioDivides.j1 kq t414 x6_4 t423 t426 = some r) ∧ Aside0 (kq ≤ kj4) ∧ Aside0 (Kd.R (Kd.int .u32) 44 wc w.heap.size (fun k_ => some k_ ≠ ((.slice Ao21 x6_4.length co21) : Value).ownBlock) (.slice Ao20 t414.length co20) t414) ∧ Aside0 (Kd.R (Kd.int .u32) 44 wc w.heap.size (fun k_ => some k_ ≠ ((.slice Ao20 t414.length co20) : Value).ownBlock) (.slice Ao21 x6_4.length co21) x6_4) ∧ Aside0 (Kd.V (Kd.int .u32) 44 wc w.heap.size (fun k_ => some k_ ≠ ((.slice Ao20 t414.length co20) : Value).ownBlock ∧ some k_ ≠ ((.slice Ao21 x6_4.length co21) : Value).ownBlock) (.slice Ao25 t423.length co25) t423) ∧ Aside0 (Kd.V (Kd.int .u32) 44 wc w.heap.size (fun k_ => some k_ ≠ ((.slice Ao20 t414.length co20) : Value).ownBlock ∧ some k_ ≠ ((.slice Ao21 x6_4.length co21) : Value).ownBlock) (.slice Ao23 t426.length co23) t426) ∧ Aside0 (Below w.heap.size w wc))
    case first =>
     have H := HC19.out
     clear HC19
     by_cases c28 : t432 = true
     ·subst c28
      rw [if_pos rfl] at H
      have H' := ak H
      clear H
      go_wp2
      go_meet
      case rel => exact ⟨_, H', ⟨by have := HJ4.out; first | omega | exact Nat.le_refl _⟩, ⟨rU_ HO_5.out⟩, ⟨rU_ HO_6.out⟩, ⟨by (with_reducible repeat (first | apply Kd.V_alloc | apply Kd.V_drewN | apply Kd.V_drew)); exact HO425.out⟩, ⟨by (with_reducible repeat (first | apply Kd.V_alloc | apply Kd.V_drewN | apply Kd.V_drew)); exact HO428.out⟩, ⟨bU_ HB.out⟩⟩
     ·replace c28 := Bool.eq_false_iff.mpr c28
      subst c28
      rw [if_neg (show ¬ (false = true) by decide)] at H
      exact absurd H (by simp)
    case rest =>
     clear HC19
     (try clear c1); (try clear c2); (try clear p2); (try clear c5); (try clear c9); (try clear c9b0); (try clear c9b1); (try clear c9b2); (try clear c13); (try clear c13b0); (try clear c13b1); (try clear c15); (try clear c15b0); (try clear c15b1); (try clear c17); (try clear c20); (try clear c25); (try clear c28)
     obtain ⟨kq, HA, HJ18, HO_5, HO_6, HO_7, HO_8, HB⟩ := hcut
     cases kq with
     | zero => exact absurd HA.out (by simp [attestorlaw02_RatioDivides.j1])
     | succ kj18 =>
      have H := HA.out
      clear HA
      simp only [attestorlaw02_RatioDivides.j1] at H
      revert H
      refine bd2_ fun t433 t436 A29 H => ?_
      try dsimp only at H
      revert H
      refine bd2_ fun t437 t440 A30 H => ?_
      try dsimp only at H
      obtain ⟨c31, H⟩ : (t436 = 0) ∧ _ := it_ H
      have c31b0 := beq_iff_eq.mpr c31
      have c31b1 := bne_eq_false_iff_eq.mpr c31
      clear c31
      obtain ⟨c32, H⟩ : (t440 = 0) ∧ _ := it_ H
      have c32b0 := beq_iff_eq.mpr c32
      have c32b1 := bne_eq_false_iff_eq.mpr c32
      clear c32
      revert H
      refine bd_ fun t441 A33 H => ?_
      by_cases c34 : t441 = true
      ·subst c34
       rw [if_pos rfl] at H
       revert H
       refine bd_ fun t442 A35 H => ?_
       obtain rfl := Option.some.inj H
       go_wp2_with (first | ((with_reducible refine gate_callee (f := 28) rfl ?_); refine gl_ (some 50) Tryd.func28 #[.slice Ao25 t423.length co25, .slice Ao21 x6_4.length co21] ?_; (with_reducible refine (ratio_Product.calls kj18 _ _ t423 _ _ x6_4 t433 t436 _ ?side1 ?side2 ?side3 ?side4 A29.out).mono ?_); (case side1 => exact cU_ ((Kd.V_reads' HO_7.out).2.2)); (case side2 => exact (Kd.V_reads' HO_7.out).2.1); (case side3 => exact cU_ ((Kd.R_reads' HO_6.out).2.2)); (case side4 => exact (Kd.R_reads' HO_6.out).2.1); rintro e w36 ⟨v434, rfl, ho0, hb⟩; refine ⟨_, rfl, ?_⟩; refine nx6_ (Kd.R_below (rU_ HO_5.out) hb) (Kd.R_below (rU_ HO_6.out) hb) (Kd.V_below (by (with_reducible repeat (first | apply Kd.V_alloc | apply Kd.V_drewN | apply Kd.V_drew)); exact HO_7.out) hb) (Kd.V_below (by (with_reducible repeat (first | apply Kd.V_alloc | apply Kd.V_drewN | apply Kd.V_drew)); exact HO_8.out) hb) (Kd.V_lower (Kd.V_mono (ok' := fun k_ => some k_ ≠ (.slice Ao20 t414.length co20 : Value).ownBlock ∧ some k_ ≠ (.slice Ao21 x6_4.length co21 : Value).ownBlock) ho0 (fun k_ hk_ => ⟨(Kd.fresh' (Kd.R_lt (rU_ HO_5.out)) k_ hk_), (Kd.fresh' (Kd.R_lt (rU_ HO_6.out)) k_ hk_)⟩)) (below_size (bU_ HB.out))) (below_step (bU_ HB.out) hb) ?_; clear HO_5 HO_6 HO_7 HO_8 HB; intro HO_5 HO_6 HO_7 HO_8 HO435 HB; clear hb ho0; obtain ⟨Ao37, co37, eo37⟩ := Kd.V_slice HO435.out; subst eo37) | ((with_reducible refine gate_callee (f := 29) rfl ?_); refine gl_ (some 56) Tryd.func29 #[.slice Ao37 t433.length co37, .slice Ao23 t426.length co23] ?_; (with_reducible refine (ratio_Sum.calls kj18 (fun k_ => (some k_ ≠ (.slice Ao20 t414.length co20 : Value).ownBlock ∧ some k_ ≠ (.slice Ao21 x6_4.length co21 : Value).ownBlock)) _ _ t433 (fun k_ => (some k_ ≠ (.slice Ao20 t414.length co20 : Value).ownBlock ∧ some k_ ≠ (.slice Ao21 x6_4.length co21 : Value).ownBlock)) _ _ t426 t437 t440 _ ?side1 ?side2 A30.out).mono ?_); (case side1 => exact HO435.out); (case side2 => exact HO_8.out); rintro e w38 ⟨v438, rfl, ho0, hb⟩; refine ⟨_, rfl, ?_⟩; refine nx7_ (Kd.R_below (rU_ HO_5.out) hb) (Kd.R_below (rU_ HO_6.out) hb) (Kd.V_below (by (with_reducible repeat (first | apply Kd.V_alloc | apply Kd.V_drewN | apply Kd.V_drew)); exact HO_7.out) hb) (Kd.V_below (by (with_reducible repeat (first | apply Kd.V_alloc | apply Kd.V_drewN | apply Kd.V_drew)); exact HO_8.out) hb) (Kd.V_below (by (with_reducible repeat (first | apply Kd.V_alloc | apply Kd.V_drewN | apply Kd.V_drew)); exact HO435.out) hb) (Kd.V_lower (Kd.V_mono (ok' := fun k_ => some k_ ≠ (.slice Ao20 t414.length co20 : Value).ownBlock ∧ some k_ ≠ (.slice Ao21 x6_4.length co21 : Value).ownBlock) ho0 (fun k_ hk_ => ⟨Or.elim hk_ (fun hs_ => Or.elim hs_ (fun hs_ => hs_.1) (fun hs_ => hs_.1)) (fun hn_ => (Kd.fresh' (Kd.R_lt (rU_ HO_5.out)) k_ hn_)), Or.elim hk_ (fun hs_ => Or.elim hs_ (fun hs_ => hs_.2) (fun hs_ => hs_.2)) (fun hn_ => (Kd.fresh' (Kd.R_lt (rU_ HO_6.out)) k_ hn_))⟩)) (below_size (bU_ HB.out))) (below_step (bU_ HB.out) hb) ?_; clear HO_5 HO_6 HO_7 HO_8 HO435 HB; intro HO_5 HO_6 HO_7 HO_8 HO435 HO439 HB; clear hb ho0; obtain ⟨Ao39, co39, eo39⟩ := Kd.V_slice HO439.out; subst eo39) | (go_at_call 22; (with_reducible refine (attestorlaw02_same.calls kj18 _ _ t437 _ _ t414 true _ ?side1 ?side2 ?side3 ?side4 A33.out).mono ?_); (case side1 => exact cU_ ((Kd.V_reads' HO439.out).2.2)); (case side2 => exact (Kd.V_reads' HO439.out).2.1); (case side3 => exact cU_ ((Kd.R_reads' HO_5.out).2.2)); (case side4 => exact (Kd.R_reads' HO_5.out).2.1); rintro e w' ⟨rfl, ⟨nd, rfl⟩⟩) | (go_at_call 19; (with_reducible refine (attestorlaw02_works.calls kj18  t442 _ A35.out).mono ?_); rintro e w40 ⟨rfl, hb⟩; refine nx7_ (Kd.R_below (rU_ HO_5.out) hb) (Kd.R_below (rU_ HO_6.out) hb) (Kd.V_below (by (with_reducible repeat (first | apply Kd.V_alloc | apply Kd.V_drewN | apply Kd.V_drew)); exact HO_7.out) hb) (Kd.V_below (by (with_reducible repeat (first | apply Kd.V_alloc | apply Kd.V_drewN | apply Kd.V_drew)); exact HO_8.out) hb) (Kd.V_below (by (with_reducible repeat (first | apply Kd.V_alloc | apply Kd.V_drewN | apply Kd.V_drew)); exact HO435.out) hb) (Kd.V_below (by (with_reducible repeat (first | apply Kd.V_alloc | apply Kd.V_drewN | apply Kd.V_drew)); exact HO439.out) hb) (below_step (bU_ HB.out) hb) ?_; clear HO_5 HO_6 HO_7 HO_8 HO435 HO439 HB; intro HO_5 HO_6 HO_7 HO_8 HO435 HO439 HB; clear hb))
       go_ret
       exact ⟨by first | rfl | (simp [errW_none, errW_some] <;> rfl) | (simp [*, errW_none, errW_some] <;> rfl), bU_ HB.out⟩
      ·replace c34 := Bool.eq_false_iff.mpr c34
       subst c34
       rw [if_neg (show ¬ (false = true) by decide)] at H
       exact absurd H (by simp)
   ·replace c17 := Bool.eq_false_iff.mpr c17
    subst c17
    rw [if_neg (show ¬ (false = true) by decide)] at H
    exact absurd H (by simp)

/-- THE ONE PURE STATEMENT of attestorlaw02_RatioDivides: yours. -/
def attestorlaw02_RatioDivides.Pure : Prop := ∀ (l0 : List Int) (l1 : List Int), l0.length ≤ maxLen → l0.length * 4 ≤ 140737488351232 → (∀ x ∈ l0, (Lit.int .u32 x).wf = true) → l1.length ≤ maxLen → l1.length * 4 ≤ 140737488351232 → (∀ x ∈ l1, (Lit.int .u32 x).wf = true) → ∃ k, attestorlaw02_RatioDivides.f k l0 l1 = some true
theorem attestorlaw02_RatioDivides.walk (P : attestorlaw02_RatioDivides.Pure) (a0 : Option Addr) (len0 cap0 : Nat) (z0 : List Int) (a1 : Option Addr) (len1 cap1 : Nat) (z1 : List Int) (w : World) (w0 : (a0 = none ∧ len0 = 0 ∧ cap0 = 0 ∧ z0 = []) ∨ ∃ x, a0 = some x ∧ len0 ≤ cap0 ∧ cap0 ≤ maxLen ∧ z0.length = cap0 ∧ (∀ i, i < z0.length → w.cell? (x.add i) = some (.int .u32 (z0.getD i 0))) ∧ ∀ n ∈ z0, (Lit.int .u32 n).wf = true) (y0 : len0 * 4 ≤ 140737488351232) (w1 : (a1 = none ∧ len1 = 0 ∧ cap1 = 0 ∧ z1 = []) ∨ ∃ x, a1 = some x ∧ len1 ≤ cap1 ∧ cap1 ≤ maxLen ∧ z1.length = cap1 ∧ (∀ i, i < z1.length → w.cell? (x.add i) = some (.int .u32 (z1.getD i 0))) ∧ ∀ n ∈ z1, (Lit.int .u32 n).wf = true) (y1 : len1 * 4 ≤ 140737488351232) :
  Calls Tryd.prog 5 #[.slice a0 len0 cap0, .slice a1 len1 cap1] w fun e w' => e = .returned (.bool true) ∧ Below w.heap.size w w' := by
 obtain ⟨l0, rfl, hr0, hm0, hw0, hc0⟩ := ReadsInt.ofRowC w0
 obtain ⟨l1, rfl, hr1, hm1, hw1, hc1⟩ := ReadsInt.ofRowC w1
 obtain ⟨k, h⟩ := P l0 l1 hm0 y0 hw0 hm1 y1 hw1
 refine (attestorlaw02_RatioDivides.calls k _ _ l0 _ _ l1 true w (Kd.C_of_reads (d := (0 : Int)) (h1 := fun _ => rfl) hr0) hc0 (Kd.C_of_reads (d := (0 : Int)) (h1 := fun _ => rfl) hr1) hc1 h).mono ?_
 rintro e w' ⟨rfl, hd⟩
 exact ⟨rfl, hd⟩

end Go.Proofs.YtjjjoepnlhpjdaaDoor.Q

-- Written by prx.py (this session's driver of the kit's print) out of the translation. Not trusted: Lean checks it.
import Derived.Test.YtdjjdlkglinlgaaDoorQ0
import Derived.Test.YtdjjdlkglinlgaaDoorQ1
import Derived.Test.YtdjjdlkglinlgaaDoorQ2
import Derived.Test.YtdjjdlkglinlgaaDoorQ3
import Derived.Test.YtdjjdlkglinlgaaDoorQ4
import Derived.Test.YtdjjdlkglinlgaaDoorQ5
namespace Go.Proofs.YtdjjdlkglinlgaaDoor.Q
open Go.RowKit Go.Proofs.YtdjjdlkglinlgaaDoorW.PrintWords Go.Proofs.YtdjjdlkglinlgaaDoorW.PrintLast Go.Proofs.YtdjjdlkglinlgaaDoorW.PrintMore
attribute [local go_sem] max2_int min2_int max_two min_two max_three min_three max_four min_four   -- for this text's walks alone
set_option linter.unusedVariables false
set_option linter.unusedSimpArgs false

/-! ### attestorlaw04_TransformValues: function 3 -/
mutual
def attestorlaw04_TransformValues.j0 : Nat → Int → Int → Int → List Int → Option (Bool)
 | 0, _, _, _, _ => none
 | k + 1, x0, x1, x2, x3 => (attestorlaw04_own.f x3 80).bind fun t322 => ((attestorlaw04_own.f t322 80).bind fun t325 => ((transform_Values.f k x0 x1 x2 t322).bind fun bt328 => ((attestorref04_Values.f k x0 x1 x2 t325).bind fun bt332 => (if bt328.2 = bt332.2 then ((attestorref01_Same.f k bt328.1 bt332.1).bind fun t336 => (if t336 = true then ((attestorref01_Same.f k t322 t325).bind fun t337 => (if t337 = true then ((attestorlaw04_works.f k).bind fun t338 => (some t338)) else (none))) else (none))) else (none)))))
def attestorlaw04_TransformValues.j1 : Nat → Int → Int → Int → List Int → Option (Bool)
 | 0, _, _, _, _ => none
 | k + 1, x0, x1, x2, x3 => (attestorlaw04_own.f x3 80).bind fun t339 => ((attestorlaw04_own.f t339 80).bind fun t342 => ((transform_Values.f k x0 x1 x2 t339).bind fun bt345 => ((attestorref04_Values.f k x0 x1 x2 t342).bind fun bt349 => (if bt345.2 = bt349.2 then ((attestorref01_Same.f k bt345.1 bt349.1).bind fun t353 => (if t353 = true then ((attestorref01_Same.f k t339 t342).bind fun t354 => (if t354 = true then ((attestorlaw04_works.f k).bind fun t355 => (some t355)) else (none))) else (none))) else (none)))))
end
def attestorlaw04_TransformValues.f (k : Nat) (a0 : Int) (a1 : Int) (a2 : Int) (l3 : List Int) : Option (Bool) := if a1 > 6 then ((attestorref04_Greatest.f a0).bind fun t321 => (if a1 ≤ t321 then (attestorlaw04_TransformValues.j0 k a0 (Int.tmod a1 7) a2 l3) else (attestorlaw04_TransformValues.j0 k a0 a1 a2 l3))) else (attestorlaw04_TransformValues.j1 k a0 a1 a2 l3)
set_option maxHeartbeats 8000000 in
set_option maxRecDepth 100000 in
theorem attestorlaw04_TransformValues.calls (k : Nat) (a0 : Int) (a1 : Int) (a2 : Int) (A3 : Option Addr) (c3 : Nat) (l3 : List Int) (r : Bool) (w : World) (hG : Fld w) (hr3 : Kd.C (Kd.int .u64) w A3 l3.length l3) (hc3 : l3.length ≤ c3) (h : attestorlaw04_TransformValues.f k a0 a1 a2 l3 = some r) :
  Calls Tryd.prog 3 #[.int .i64 a0, .int .i64 a1, .int .u64 a2, .slice A3 l3.length c3] w fun e w' => e = .returned (.bool r) ∧ Below w.heap.size w w' := by
 have HG := ak hG
 clear hG
 have HR3 := ak hr3
 have HC3 := ak hc3
 clear hr3 hc3
 have HB := ak (Below.refl w.heap.size w)
 have H : (if a1 > 6 then ((attestorref04_Greatest.f a0).bind fun t321 => (if a1 ≤ t321 then (attestorlaw04_TransformValues.j0 k a0 (Int.tmod a1 7) a2 l3) else (attestorlaw04_TransformValues.j0 k a0 a1 a2 l3))) else (attestorlaw04_TransformValues.j1 k a0 a1 a2 l3)) = some r := h
 clear h
 by_cases c5 : a1 > 6
 ·rw [if_pos c5] at H
  have c5b0 : decide (6 < a1) = true := decide_eq_true c5
  clear c5
  revert H
  refine bd_ fun t321 A6 H => ?_
  have HC7 := ak H
  clear H
  go_enter Tryd.func3, Tryd.ntmps3
  go_upto_if 21 with (first | (go_at_call 10; (with_reducible refine (attestorref04_Greatest.calls a0 t321 _ A6.out).mono ?_); rintro e w8 ⟨rfl, hb⟩; refine nx1_ (below_step (bU_ HB.out) hb) ?_; clear HB; intro HB; clear hb))
  (try simp only [Act.put, s1_, s2_, s3_])
  go_cut [1] (fun v1 wc => ∃ (kq : Nat) (x1_6 : Int), v1 = .int .i64 x1_6 ∧ Aside0 (attestorlaw04_TransformValues.j0 kq a0 x1_6 a2 l3 = some r) ∧ Aside0 (kq ≤ k) ∧ Aside0 (Below w.heap.size w wc))
  case first =>
   have H := HC7.out
   clear HC7
   by_cases c9 : a1 ≤ t321
   ·rw [if_pos c9] at H
    have c9b0 := decide_eq_true c9
    clear c9
    (first | rw [c9b0] | (simp only [i64_w, i32_w]; rw [c9b0]) | rw [c9b1] | skip)
    have H' := ak H
    clear H
    go_wp2
    go_meet
    case rel => exact ⟨_, (Int.tmod a1 7), gb_, H', ⟨by first | omega | exact Nat.le_refl _⟩, ⟨bU_ HB.out⟩⟩
   ·rw [if_neg c9] at H
    have c9b0 := decide_eq_false c9
    clear c9
    (first | rw [c9b0] | (simp only [i64_w, i32_w]; rw [c9b0]) | rw [c9b1] | skip)
    have H' := ak H
    clear H
    go_wp2
    go_meet
    case rel => exact ⟨_, (a1), gb_, H', ⟨by first | omega | exact Nat.le_refl _⟩, ⟨bU_ HB.out⟩⟩
  case rest =>
   clear HC7
   (try clear p2); (try clear c3); (try clear c5); (try clear c5b0); (try clear c9); (try clear c9b0); (try clear c9b1)
   obtain ⟨kq, x1_6, rfl, HA, HJ6, HB⟩ := hcut
   cases kq with
   | zero => exact absurd HA.out (by simp [attestorlaw04_TransformValues.j0])
   | succ kj6 =>
    have H := HA.out
    clear HA
    simp only [attestorlaw04_TransformValues.j0] at H
    revert H
    refine bd_ fun t322 A10 H => ?_
    revert H
    refine bd_ fun t325 A11 H => ?_
    revert H
    refine bd2_ fun t328 t329 A12 H => ?_
    try dsimp only at H
    revert H
    refine bd2_ fun t332 t333 A13 H => ?_
    try dsimp only at H
    obtain ⟨c14, H⟩ : (t329 = t333) ∧ _ := it_ H
    have c14b0 := beq_iff_eq.mpr c14
    have c14b1 := bne_eq_false_iff_eq.mpr c14
    clear c14
    revert H
    refine bd_ fun t336 A15 H => ?_
    by_cases c16 : t336 = true
    ·subst c16
     rw [if_pos rfl] at H
     revert H
     refine bd_ fun t337 A17 H => ?_
     by_cases c18 : t337 = true
     ·subst c18
      rw [if_pos rfl] at H
      revert H
      refine bd_ fun t338 A19 H => ?_
      obtain rfl := Option.some.inj H
      go_wp2_with (first | ((with_reducible refine gate_callee (f := 11) rfl ?_); refine gl_ (some 25) Tryd.func11 #[.slice A3 l3.length c3, .int .i64 80] ?_; (with_reducible refine (attestorlaw04_own.calls _ _ l3 80 t322 _ ?side1 ?side2 A10.out).mono ?_); (case side1 => exact cU_ (Kd.C_below HR3.out HB.out)); (case side2 => exact HC3.out); rintro e w20 ⟨v323, rfl, ho0, hb⟩; refine ⟨_, rfl, ?_⟩; refine nx2_ (Kd.R_lower ho0 (below_size (bU_ HB.out))) (below_step (bU_ HB.out) hb) ?_; clear HB; intro HO324 HB; clear hb ho0; obtain ⟨Ao21, co21, eo21⟩ := Kd.R_slice HO324.out; subst eo21) | ((with_reducible refine gate_callee (f := 11) rfl ?_); refine gl_ (some 27) Tryd.func11 #[.slice Ao21 t322.length co21, .int .i64 80] ?_; (with_reducible refine (attestorlaw04_own.calls _ _ t322 80 t325 _ ?side1 ?side2 A11.out).mono ?_); (case side1 => exact cU_ ((Kd.R_reads' HO324.out).2.2)); (case side2 => exact (Kd.R_reads' HO324.out).2.1); rintro e w22 ⟨v326, rfl, ho0, hb⟩; refine ⟨_, rfl, ?_⟩; refine nx3_ (Kd.R_elder' (rU_ HO324.out) (Kd.R_base ho0) hb) (Kd.R_lower (Kd.R_new' ho0 (Kd.R_lt (rU_ HO324.out))) (below_size (bU_ HB.out))) (below_step (bU_ HB.out) hb) ?_; clear HO324 HB; intro HO324 HO327 HB; clear hb ho0) | ((with_reducible refine gate_callee (f := 12) rfl ?_); refine gl_ (some 33) Tryd.func12 #[.int .i64 a0, .int .i64 x1_6, .int .u64 a2, .slice Ao21 t322.length co21] ?_; (with_reducible refine (transform_Values.calls kj6 a0 x1_6 a2 _ _ t322 t328 t329 _ ?side1 ?side2 ?side3 A12.out).mono ?_); (case side1 => exact fU_ HG.out HB.out); (case side2 => exact cU_ ((Kd.R_reads' HO324.out).2.2)); (case side3 => exact (Kd.R_reads' HO324.out).2.1); rintro e w23 ⟨v330, rfl, ho0, hb⟩; refine ⟨_, rfl, ?_⟩; refine nx4_ (Kd.R_elder' (rU_ HO324.out) (Kd.R_base ho0) hb) (Kd.R_elder' (rU_ HO327.out) (Kd.R_base ho0) hb) (Kd.R_lower (Kd.R_new' (Kd.R_new' ho0 (Kd.R_lt (rU_ HO324.out))) (Kd.R_lt (rU_ HO327.out))) (below_size (bU_ HB.out))) (below_step (bU_ HB.out) hb) ?_; clear HO324 HO327 HB; intro HO324 HO327 HO331 HB; clear hb ho0; obtain ⟨Ao24, co24, eo24⟩ := Kd.R_slice HO327.out; subst eo24) | ((with_reducible refine gate_callee (f := 13) rfl ?_); refine gl_ (some 41) Tryd.func13 #[.int .i64 a0, .int .i64 x1_6, .int .u64 a2, .slice Ao24 t325.length co24] ?_; (with_reducible refine (attestorref04_Values.calls kj6 a0 x1_6 a2 _ _ t325 t332 t333 _ ?side1 ?side2 A13.out).mono ?_); (case side1 => exact cU_ ((Kd.R_reads' HO327.out).2.2)); (case side2 => exact (Kd.R_reads' HO327.out).2.1); rintro e w25 ⟨v334, rfl, ho0, hb⟩; refine ⟨_, rfl, ?_⟩; refine nx5_ (Kd.R_elder' (rU_ HO324.out) (Kd.R_base ho0) hb) (Kd.R_elder' (rU_ HO327.out) (Kd.R_base ho0) hb) (Kd.R_elder' (rU_ HO331.out) (Kd.R_base ho0) hb) (Kd.R_lower (Kd.R_new' (Kd.R_new' (Kd.R_new' ho0 (Kd.R_lt (rU_ HO324.out))) (Kd.R_lt (rU_ HO327.out))) (Kd.R_lt (rU_ HO331.out))) (below_size (bU_ HB.out))) (below_step (bU_ HB.out) hb) ?_; clear HO324 HO327 HO331 HB; intro HO324 HO327 HO331 HO335 HB; clear hb ho0; obtain ⟨Ao26, co26, eo26⟩ := Kd.R_slice HO331.out; subst eo26; obtain ⟨Ao27, co27, eo27⟩ := Kd.R_slice HO335.out; subst eo27) | (go_at_call 14; (with_reducible refine (attestorref01_Same.calls kj6 _ _ t328 _ _ t332 true _ ?side1 ?side2 ?side3 ?side4 A15.out).mono ?_); (case side1 => exact cU_ ((Kd.R_reads' HO331.out).2.2)); (case side2 => exact (Kd.R_reads' HO331.out).2.1); (case side3 => exact cU_ ((Kd.R_reads' HO335.out).2.2)); (case side4 => exact (Kd.R_reads' HO335.out).2.1); rintro e w' ⟨rfl, ⟨nd, rfl⟩⟩) | (go_at_call 14; (with_reducible refine (attestorref01_Same.calls kj6 _ _ t322 _ _ t325 true _ ?side1 ?side2 ?side3 ?side4 A17.out).mono ?_); (case side1 => exact cU_ ((Kd.R_reads' HO324.out).2.2)); (case side2 => exact (Kd.R_reads' HO324.out).2.1); (case side3 => exact cU_ ((Kd.R_reads' HO327.out).2.2)); (case side4 => exact (Kd.R_reads' HO327.out).2.1); rintro e w' ⟨rfl, ⟨nd, rfl⟩⟩) | (go_at_call 15; (with_reducible refine (attestorlaw04_works.calls kj6  t338 _ ?side1 A19.out).mono ?_); (case side1 => exact fU_ HG.out HB.out); rintro e w28 ⟨rfl, hb⟩; refine nx5_ (Kd.R_below (rU_ HO324.out) hb) (Kd.R_below (rU_ HO327.out) hb) (Kd.R_below (rU_ HO331.out) hb) (Kd.R_below (rU_ HO335.out) hb) (below_step (bU_ HB.out) hb) ?_; clear HO324 HO327 HO331 HO335 HB; intro HO324 HO327 HO331 HO335 HB; clear hb))
      go_ret
      exact ⟨by first | rfl | (simp [errW_none, errW_some] <;> rfl) | (simp [*, errW_none, errW_some] <;> rfl), bU_ HB.out⟩
     ·replace c18 := Bool.eq_false_iff.mpr c18
      subst c18
      rw [if_neg (show ¬ (false = true) by decide)] at H
      exact absurd H (by simp)
    ·replace c16 := Bool.eq_false_iff.mpr c16
     subst c16
     rw [if_neg (show ¬ (false = true) by decide)] at H
     exact absurd H (by simp)
 ·rw [if_neg c5] at H
  have c5b0 : decide (6 < a1) = false := decide_eq_false c5
  clear c5
  have HC29 := ak H
  clear H
  go_enter Tryd.func3, Tryd.ntmps3
  go_upto_if 21 with (fail)
  go_cut [1] (fun v1 wc => ∃ (kq : Nat) (x1_28 : Int), v1 = .int .i64 x1_28 ∧ Aside0 (attestorlaw04_TransformValues.j1 kq a0 x1_28 a2 l3 = some r) ∧ Aside0 (kq ≤ k) ∧ Aside0 (Below w.heap.size w wc))
  case first =>
   have H := HC29.out
   clear HC29
   have H' := ak H
   clear H
   go_wp2
   go_meet
   case rel => exact ⟨_, (a1), gb_, H', ⟨by first | omega | exact Nat.le_refl _⟩, ⟨bU_ HB.out⟩⟩
  case rest =>
   clear HC29
   (try clear c1); (try clear p2); (try clear c3); (try clear c5); (try clear c5b0); (try clear c9); (try clear c9b0); (try clear c9b1); (try clear c11); (try clear c12); (try clear c13); (try clear c14); (try clear c14b0); (try clear c14b1); (try clear c16); (try clear c18)
   obtain ⟨kq, x1_28, rfl, HA, HJ28, HB⟩ := hcut
   cases kq with
   | zero => exact absurd HA.out (by simp [attestorlaw04_TransformValues.j1])
   | succ kj28 =>
    have H := HA.out
    clear HA
    simp only [attestorlaw04_TransformValues.j1] at H
    revert H
    refine bd_ fun t339 A30 H => ?_
    revert H
    refine bd_ fun t342 A31 H => ?_
    revert H
    refine bd2_ fun t345 t346 A32 H => ?_
    try dsimp only at H
    revert H
    refine bd2_ fun t349 t350 A33 H => ?_
    try dsimp only at H
    obtain ⟨c34, H⟩ : (t346 = t350) ∧ _ := it_ H
    have c34b0 := beq_iff_eq.mpr c34
    have c34b1 := bne_eq_false_iff_eq.mpr c34
    clear c34
    revert H
    refine bd_ fun t353 A35 H => ?_
    by_cases c36 : t353 = true
    ·subst c36
     rw [if_pos rfl] at H
     revert H
     refine bd_ fun t354 A37 H => ?_
     by_cases c38 : t354 = true
     ·subst c38
      rw [if_pos rfl] at H
      revert H
      refine bd_ fun t355 A39 H => ?_
      obtain rfl := Option.some.inj H
      go_wp2_with (first | ((with_reducible refine gate_callee (f := 11) rfl ?_); refine gl_ (some 25) Tryd.func11 #[.slice A3 l3.length c3, .int .i64 80] ?_; (with_reducible refine (attestorlaw04_own.calls _ _ l3 80 t339 _ ?side1 ?side2 A30.out).mono ?_); (case side1 => exact cU_ (Kd.C_below HR3.out HB.out)); (case side2 => exact HC3.out); rintro e w40 ⟨v340, rfl, ho0, hb⟩; refine ⟨_, rfl, ?_⟩; refine nx2_ (Kd.R_lower ho0 (below_size (bU_ HB.out))) (below_step (bU_ HB.out) hb) ?_; clear HB; intro HO341 HB; clear hb ho0; obtain ⟨Ao41, co41, eo41⟩ := Kd.R_slice HO341.out; subst eo41) | ((with_reducible refine gate_callee (f := 11) rfl ?_); refine gl_ (some 27) Tryd.func11 #[.slice Ao41 t339.length co41, .int .i64 80] ?_; (with_reducible refine (attestorlaw04_own.calls _ _ t339 80 t342 _ ?side1 ?side2 A31.out).mono ?_); (case side1 => exact cU_ ((Kd.R_reads' HO341.out).2.2)); (case side2 => exact (Kd.R_reads' HO341.out).2.1); rintro e w42 ⟨v343, rfl, ho0, hb⟩; refine ⟨_, rfl, ?_⟩; refine nx3_ (Kd.R_elder' (rU_ HO341.out) (Kd.R_base ho0) hb) (Kd.R_lower (Kd.R_new' ho0 (Kd.R_lt (rU_ HO341.out))) (below_size (bU_ HB.out))) (below_step (bU_ HB.out) hb) ?_; clear HO341 HB; intro HO341 HO344 HB; clear hb ho0) | ((with_reducible refine gate_callee (f := 12) rfl ?_); refine gl_ (some 33) Tryd.func12 #[.int .i64 a0, .int .i64 x1_28, .int .u64 a2, .slice Ao41 t339.length co41] ?_; (with_reducible refine (transform_Values.calls kj28 a0 x1_28 a2 _ _ t339 t345 t346 _ ?side1 ?side2 ?side3 A32.out).mono ?_); (case side1 => exact fU_ HG.out HB.out); (case side2 => exact cU_ ((Kd.R_reads' HO341.out).2.2)); (case side3 => exact (Kd.R_reads' HO341.out).2.1); rintro e w43 ⟨v347, rfl, ho0, hb⟩; refine ⟨_, rfl, ?_⟩; refine nx4_ (Kd.R_elder' (rU_ HO341.out) (Kd.R_base ho0) hb) (Kd.R_elder' (rU_ HO344.out) (Kd.R_base ho0) hb) (Kd.R_lower (Kd.R_new' (Kd.R_new' ho0 (Kd.R_lt (rU_ HO341.out))) (Kd.R_lt (rU_ HO344.out))) (below_size (bU_ HB.out))) (below_step (bU_ HB.out) hb) ?_; clear HO341 HO344 HB; intro HO341 HO344 HO348 HB; clear hb ho0; obtain ⟨Ao44, co44, eo44⟩ := Kd.R_slice HO344.out; subst eo44) | ((with_reducible refine gate_callee (f := 13) rfl ?_); refine gl_ (some 41) Tryd.func13 #[.int .i64 a0, .int .i64 x1_28, .int .u64 a2, .slice Ao44 t342.length co44] ?_; (with_reducible refine (attestorref04_Values.calls kj28 a0 x1_28 a2 _ _ t342 t349 t350 _ ?side1 ?side2 A33.out).mono ?_); (case side1 => exact cU_ ((Kd.R_reads' HO344.out).2.2)); (case side2 => exact (Kd.R_reads' HO344.out).2.1); rintro e w45 ⟨v351, rfl, ho0, hb⟩; refine ⟨_, rfl, ?_⟩; refine nx5_ (Kd.R_elder' (rU_ HO341.out) (Kd.R_base ho0) hb) (Kd.R_elder' (rU_ HO344.out) (Kd.R_base ho0) hb) (Kd.R_elder' (rU_ HO348.out) (Kd.R_base ho0) hb) (Kd.R_lower (Kd.R_new' (Kd.R_new' (Kd.R_new' ho0 (Kd.R_lt (rU_ HO341.out))) (Kd.R_lt (rU_ HO344.out))) (Kd.R_lt (rU_ HO348.out))) (below_size (bU_ HB.out))) (below_step (bU_ HB.out) hb) ?_; clear HO341 HO344 HO348 HB; intro HO341 HO344 HO348 HO352 HB; clear hb ho0; obtain ⟨Ao46, co46, eo46⟩ := Kd.R_slice HO348.out; subst eo46; obtain ⟨Ao47, co47, eo47⟩ := Kd.R_slice HO352.out; subst eo47) | (go_at_call 14; (with_reducible refine (attestorref01_Same.calls kj28 _ _ t345 _ _ t349 true _ ?side1 ?side2 ?side3 ?side4 A35.out).mono ?_); (case side1 => exact cU_ ((Kd.R_reads' HO348.out).2.2)); (case side2 => exact (Kd.R_reads' HO348.out).2.1); (case side3 => exact cU_ ((Kd.R_reads' HO352.out).2.2)); (case side4 => exact (Kd.R_reads' HO352.out).2.1); rintro e w' ⟨rfl, ⟨nd, rfl⟩⟩) | (go_at_call 14; (with_reducible refine (attestorref01_Same.calls kj28 _ _ t339 _ _ t342 true _ ?side1 ?side2 ?side3 ?side4 A37.out).mono ?_); (case side1 => exact cU_ ((Kd.R_reads' HO341.out).2.2)); (case side2 => exact (Kd.R_reads' HO341.out).2.1); (case side3 => exact cU_ ((Kd.R_reads' HO344.out).2.2)); (case side4 => exact (Kd.R_reads' HO344.out).2.1); rintro e w' ⟨rfl, ⟨nd, rfl⟩⟩) | (go_at_call 15; (with_reducible refine (attestorlaw04_works.calls kj28  t355 _ ?side1 A39.out).mono ?_); (case side1 => exact fU_ HG.out HB.out); rintro e w48 ⟨rfl, hb⟩; refine nx5_ (Kd.R_below (rU_ HO341.out) hb) (Kd.R_below (rU_ HO344.out) hb) (Kd.R_below (rU_ HO348.out) hb) (Kd.R_below (rU_ HO352.out) hb) (below_step (bU_ HB.out) hb) ?_; clear HO341 HO344 HO348 HO352 HB; intro HO341 HO344 HO348 HO352 HB; clear hb))
      go_ret
      exact ⟨by first | rfl | (simp [errW_none, errW_some] <;> rfl) | (simp [*, errW_none, errW_some] <;> rfl), bU_ HB.out⟩
     ·replace c38 := Bool.eq_false_iff.mpr c38
      subst c38
      rw [if_neg (show ¬ (false = true) by decide)] at H
      exact absurd H (by simp)
    ·replace c36 := Bool.eq_false_iff.mpr c36
     subst c36
     rw [if_neg (show ¬ (false = true) by decide)] at H
     exact absurd H (by simp)

/-- THE ONE PURE STATEMENT of attestorlaw04_TransformValues: yours. -/
def attestorlaw04_TransformValues.Pure : Prop := ∀ (a0 : Int) (a1 : Int) (a2 : Int) (l3 : List Int), (Lit.int .i64 a0).wf = true → (Lit.int .i64 a1).wf = true → (Lit.int .u64 a2).wf = true → l3.length ≤ maxLen → l3.length * 8 ≤ 140737488351232 → (∀ x ∈ l3, (Lit.int .u64 x).wf = true) → ∃ k, attestorlaw04_TransformValues.f k a0 a1 a2 l3 = some true
theorem attestorlaw04_TransformValues.walk (P : attestorlaw04_TransformValues.Pure) (a0 : Int) (a1 : Int) (a2 : Int) (a3 : Option Addr) (len3 cap3 : Nat) (z3 : List Int) (w : World) (hG : Fld w) (w0 : (Lit.int .i64 a0).wf = true) (w1 : (Lit.int .i64 a1).wf = true) (w2 : (Lit.int .u64 a2).wf = true) (w3 : (a3 = none ∧ len3 = 0 ∧ cap3 = 0 ∧ z3 = []) ∨ ∃ x, a3 = some x ∧ len3 ≤ cap3 ∧ cap3 ≤ maxLen ∧ z3.length = cap3 ∧ (∀ i, i < z3.length → w.cell? (x.add i) = some (.int .u64 (z3.getD i 0))) ∧ ∀ n ∈ z3, (Lit.int .u64 n).wf = true) (y3 : len3 * 8 ≤ 140737488351232) :
  Calls Tryd.prog 3 #[.int .i64 a0, .int .i64 a1, .int .u64 a2, .slice a3 len3 cap3] w fun e w' => e = .returned (.bool true) ∧ Below w.heap.size w w' := by
 obtain ⟨l3, rfl, hr3, hm3, hw3, hc3⟩ := ReadsInt.ofRowC w3
 obtain ⟨k, h⟩ := P a0 a1 a2 l3 w0 w1 w2 hm3 y3 hw3
 refine (attestorlaw04_TransformValues.calls k a0 a1 a2 _ _ l3 true w hG (Kd.C_of_reads (d := (0 : Int)) (h1 := fun _ => rfl) hr3) hc3 h).mono ?_
 rintro e w' ⟨rfl, hd⟩
 exact ⟨rfl, hd⟩

end Go.Proofs.YtdjjdlkglinlgaaDoor.Q

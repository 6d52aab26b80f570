-- Written by prx.py (this session's driver of the kit's print) out of the translation. Not trusted: Lean checks it.
import Derived.Test.YtdjjdlkglinlgaaDoorQ0
import Derived.Test.YtdjjdlkglinlgaaDoorQ3
import Derived.Test.YtdjjdlkglinlgaaDoorQ4
import Derived.Test.YtdjjdlkglinlgaaDoorQ9
namespace Go.Proofs.YtdjjdlkglinlgaaDoor.Q
open Go.RowKit Go.Proofs.YtdjjdlkglinlgaaDoorW.PrintWords Go.Proofs.YtdjjdlkglinlgaaDoorW.PrintLast Go.Proofs.YtdjjdlkglinlgaaDoorW.PrintMore
attribute [local go_sem] max2_int min2_int max_two min_two max_three min_three max_four min_four   -- for this text's walks alone
set_option linter.unusedVariables false
set_option linter.unusedSimpArgs false

/-! ### attestorlaw04_TransformInverse: function 6 -/
mutual
def attestorlaw04_TransformInverse.l0 : Nat → Int → Int → Int → List Int → List Int → Int → Option (Bool)
 | 0, _, _, _, _, _, _ => none
 | k + 1, x9, x10, x11, x12, x13, x14 => if x14 < (x12.length : Int) then (if 0 ≤ x14 then ((field_Reduce.f x9 (rd x12 x14)).bind fun t522 => (if x13.length < 17592186044416 then (attestorlaw04_TransformInverse.l0 k x9 x10 x11 x12 (x13 ++ [t522]) (wrap64 (x14 + 1))) else (none))) else (none)) else ((transform_Values.f k x9 x10 x11 x12).bind fun bt526 => ((transform_Coefficients.f k x9 x11 bt526.1).bind fun bt530 => (if bt526.2 = 0 then (if bt530.2 = 0 then ((attestorlaw04_same.f k bt530.1 x13).bind fun t534 => (if t534 = true then (attestorlaw04_TransformInverse.j1 k x9 x10 x11 x12 x13) else (none))) else (none)) else (none))))
def attestorlaw04_TransformInverse.j1 : Nat → Int → Int → Int → List Int → List Int → Option (Bool)
 | 0, _, _, _, _, _ => none
 | k + 1, x9, x10, x11, x12, x13 => (transform_Coefficients.f k x9 x11 x12).bind fun bt535 => ((transform_Values.f k x9 x10 x11 bt535.1).bind fun bt539 => (if bt535.2 = 0 then (if bt539.2 = 0 then ((attestorlaw04_same.f k bt539.1 x13).bind fun t543 => (if t543 = true then ((attestorlaw04_works.f k).bind fun t544 => (some t544)) else (none))) else (none)) else (none)))
end
def attestorlaw04_TransformInverse.f (k : Nat) (a0 : Int) (a1 : Int) (a2 : Int) (l3 : List Int) : Option (Bool) := (attestorlaw04_sized.f a0 a1 a2 l3).bind fun bt515 => (attestorlaw04_TransformInverse.l0 k bt515.1 bt515.2.1 bt515.2.2.1 bt515.2.2.2 ([] : List Int) 0)
set_option maxHeartbeats 8000000 in
set_option maxRecDepth 100000 in
theorem attestorlaw04_TransformInverse.calls (k : Nat) (a0 : Int) (a1 : Int) (a2 : Int) (A3 : Option Addr) (c3 : Nat) (l3 : List Int) (r : Bool) (w : World) (hG : Fld w) (hr3 : Kd.C (Kd.int .u64) w A3 l3.length l3) (hc3 : l3.length ≤ c3) (h : attestorlaw04_TransformInverse.f k a0 a1 a2 l3 = some r) :
  Calls Tryd.prog 6 #[.int .u8 a0, .int .u8 a1, .int .u64 a2, .slice A3 l3.length c3] w fun e w' => e = .returned (.bool r) ∧ Below w.heap.size w w' := by
 have HG := ak hG
 clear hG
 have HR3 := ak hr3
 have HC3 := ak hc3
 clear hr3 hc3
 have HB := ak (Below.refl w.heap.size w)
 have H : ((attestorlaw04_sized.f a0 a1 a2 l3).bind fun bt515 => (attestorlaw04_TransformInverse.l0 k bt515.1 bt515.2.1 bt515.2.2.1 bt515.2.2.2 ([] : List Int) 0)) = some r := h
 clear h
 revert H
 refine bd4_ fun t515 t516 t517 t518 A5 H => ?_
 try dsimp only at H
 have H' := ak H
 clear H
 go_enter Tryd.func6, Tryd.ntmps6
 go_wp2_with (first | ((with_reducible refine gate_callee (f := 22) rfl ?_); refine gl_ (some 26) Tryd.func22 #[.int .u8 a0, .int .u8 a1, .int .u64 a2, .slice A3 l3.length c3] ?_; (with_reducible refine (attestorlaw04_sized.calls a0 a1 a2 _ _ l3 t515 t516 t517 t518 _ ?side1 ?side2 ?side3 A5.out).mono ?_); (case side1 => exact fU_ HG.out HB.out); (case side2 => exact cU_ HR3.out); (case side3 => exact HC3.out); rintro e w6 ⟨v519, rfl, ho0, hb⟩; refine ⟨_, rfl, ?_⟩; refine nx2_ (Kd.R_lower ho0 (below_size (bU_ HB.out))) (below_step (bU_ HB.out) hb) ?_; clear HB; intro HO520 HB; clear hb ho0))
 go_loopg [13, 14] k (fun kq v13 v14 w' => ∃ (x13_1 : List Int) (x14_1 : Int), v14 = .int .i64 x14_1 ∧ Aside0 (attestorlaw04_TransformInverse.l0 kq t515 t516 t517 t518 x13_1 x14_1 = some r) ∧ Aside0 (kq ≤ k) ∧ Aside0 (Kd.R (Kd.int .u64) 22 w' w.heap.size (fun k_ => some k_ ≠ (v13 : Value).ownBlock) v519 t518) ∧ Aside0 (Kd.R (Kd.int .u64) 22 w' w.heap.size (fun k_ => some k_ ≠ (v519 : Value).ownBlock) v13 x13_1) ∧ Aside0 (Below w.heap.size w w'))
 case atStart => exact ⟨(([] : List Int)), (0), gb_, H', ⟨Nat.le_refl _⟩, ⟨Kd.R_mono (rU_ HO520.out) (fun _ hk => (by simp [Value.ownBlock]))⟩, ⟨by first | exact Kd.R_nil _ _ _ _ _ | exact Kd.N_nil _ _ _ _ _ | exact Kd.V_nil _ _ _ _ _ | exact Kd.Q_nil _ _ _ _ _ | exact Kd.S_nil _ _ _ _ _⟩, ⟨bU_ HB.out⟩⟩
 case round =>
  clear H'
  (try clear c2); (try clear p2); (try clear c3); (try clear c6)
  obtain ⟨x13_1, x14_1, rfl, HA, HK1, HO_12, HO_13, HB⟩ := hrel
  cases gk with
  | zero => exact absurd HA.out (by simp [attestorlaw04_TransformInverse.l0])
  | succ k1 =>
   have H := HA.out
   clear HA
   simp only [attestorlaw04_TransformInverse.l0] at H
   by_cases c7 : x14_1 < (t518.length : Int)
   ·rw [if_pos c7] at H
    have c7b0 := decide_eq_true c7
    clear c7
    obtain ⟨c8, H⟩ : (0 ≤ x14_1) ∧ _ := it_ H
    have c8b0 := decide_eq_true c8
    clear c8
    revert H
    refine bd_ fun t522 A9 H => ?_
    obtain ⟨c10, H⟩ : (x13_1.length < 17592186044416) ∧ _ := it_ H
    have LMc10 := ak c10
    clear c10
    obtain ⟨y523, hy523⟩ : ∃ y_ : List Int, y_ = (x13_1 ++ [t522]) := ⟨_, rfl⟩
    first | rw [Option.bind_some, ← hy523] at H | rw [← hy523] at H
    have Ny523 := ak hy523
    clear hy523
    have H' := ak H
    clear H
    obtain ⟨Ao11, co11, eo11⟩ := Kd.R_slice HO_12.out
    subst eo11
    have p521 : 0 ≤ (x14_1 : Int) := od_
    have q521 : x14_1 < (t518.length : Int) := od_
    obtain ⟨ad521, e521, hx521_0⟩ := Kd.at_int (Kd.R_reads' HO_12.out).2.2 x14_1 p521 q521
    cases e521
    replace p521 := eq_true p521
    replace q521 := eq_true q521
    go_wp2_with (first | ((with_reducible refine gate_callee (f := 23) rfl ?_); refine gl_ (some 43) Tryd.func23 #[.int .i64 t515, .int .u64 (rd t518 x14_1)] ?_; (with_reducible refine (field_Reduce.calls t515 (rd t518 x14_1) t522 _ ?side1 A9.out).mono ?_); (case side1 => exact fU_ HG.out HB.out); rintro e w12 ⟨rfl, hb⟩; refine ⟨_, rfl, ?_⟩; refine nx3_ (Kd.R_below (rU_ HO_12.out) hb) (Kd.R_below (rU_ HO_13.out) hb) (below_step (bU_ HB.out) hb) ?_; clear HO_12 HO_13 HB; intro HO_12 HO_13 HB; clear hb) | ((with_reducible refine gate_builtin (b := .append) (xs := #[.tmp 37, .tmp 44]) rfl ?_); at_builtin; refine Kd.R_append (Kd.int .u64) (w0 := w) w.heap.size rfl (.tmp 37) (.tmp 44) 23 22 (.int .u64 0) 8 rfl Tryd.underlying23 info22 rfl (by decide) (by omega) u13 x13_1 t522 [.int .u64 t522] (fun k_ => some k_ ≠ (.slice (some ad521) t518.length co11 : Value).ownBlock) (fun _ => False) rfl rfl ?aP (fun _ hk => hk.elim) ?aF ?aO ?aB ?aS ?aL ?_; (case aP => exact rfl); (case aB => exact (bU_ HB.out)); (case aF => exact (fun k_ hk => Kd.fresh' (Kd.R_lt (rU_ HO_12.out)) k_ hk)); (case aO => exact (rU_ HO_13.out)); (case aS => exact (below_size (bU_ HB.out))); (case aL => have := LMc10.out; omega); intro v524 w13 ho hb hg hat; rw [← Ny523.out] at ho; refine nx3_ (Kd.R_after (ok := (fun _ => True)) (Kd.R_mono (rU_ HO_12.out) (fun _ hk => ⟨trivial, hk⟩)) hg hat) (hb) (ho) ?_; clear HO_12 HB HO_13; intro HO_12 HB HO525; clear ho hb hg hat))
    go_roundg k1
    case measure => have := HK1.out; omega
    case rel => exact ⟨(y523), (wrap64 (x14_1 + 1)), gb_, H', ⟨by have := HK1.out; omega⟩, ⟨Kd.R_mono (rU_ HO_12.out) (fun _ hk => hk.2)⟩, ⟨rU_ HO525.out⟩, ⟨bU_ HB.out⟩⟩
   ·rw [if_neg c7] at H
    have c7b0 := decide_eq_false c7
    clear c7
    revert H
    refine bd2_ fun t526 t527 A14 H => ?_
    try dsimp only at H
    revert H
    refine bd2_ fun t530 t531 A15 H => ?_
    try dsimp only at H
    obtain ⟨c16, H⟩ : (t527 = 0) ∧ _ := it_ H
    have c16b0 := beq_iff_eq.mpr c16
    have c16b1 := bne_eq_false_iff_eq.mpr c16
    clear c16
    obtain ⟨c17, H⟩ : (t531 = 0) ∧ _ := it_ H
    have c17b0 := beq_iff_eq.mpr c17
    have c17b1 := bne_eq_false_iff_eq.mpr c17
    clear c17
    revert H
    refine bd_ fun t534 A18 H => ?_
    have HC19 := ak H
    clear H
    obtain ⟨Ao20, co20, eo20⟩ := Kd.R_slice HO_12.out
    subst eo20
    go_upto_if 72 with (first | ((with_reducible refine gate_callee (f := 12) rfl ?_); refine gl_ (some 51) Tryd.func12 #[.int .i64 t515, .int .i64 t516, .int .u64 t517, .slice Ao20 t518.length co20] ?_; (with_reducible refine (transform_Values.calls k1 t515 t516 t517 _ _ t518 t526 t527 _ ?side1 ?side2 ?side3 A14.out).mono ?_); (case side1 => exact fU_ HG.out HB.out); (case side2 => exact cU_ ((Kd.R_reads' HO_12.out).2.2)); (case side3 => exact (Kd.R_reads' HO_12.out).2.1); rintro e w21 ⟨v528, rfl, ho0, hb⟩; refine ⟨_, rfl, ?_⟩; refine nx4_ (Kd.R_elder' (rU_ HO_12.out) (Kd.R_base ho0) hb) (Kd.R_elder' (rU_ HO_13.out) (Kd.R_base ho0) hb) (Kd.R_lower (Kd.R_new' (Kd.R_new' ho0 (Kd.R_lt (rU_ HO_12.out))) (Kd.R_lt (rU_ HO_13.out))) (below_size (bU_ HB.out))) (below_step (bU_ HB.out) hb) ?_; clear HO_12 HO_13 HB; intro HO_12 HO_13 HO529 HB; clear hb ho0; obtain ⟨Ao22, co22, eo22⟩ := Kd.R_slice HO529.out; subst eo22) | ((with_reducible refine gate_callee (f := 16) rfl ?_); refine gl_ (some 58) Tryd.func16 #[.int .i64 t515, .int .u64 t517, .slice Ao22 t526.length co22] ?_; (with_reducible refine (transform_Coefficients.calls k1 t515 t517 _ _ t526 t530 t531 _ ?side1 ?side2 ?side3 A15.out).mono ?_); (case side1 => exact fU_ HG.out HB.out); (case side2 => exact cU_ ((Kd.R_reads' HO529.out).2.2)); (case side3 => exact (Kd.R_reads' HO529.out).2.1); rintro e w23 ⟨v532, rfl, ho0, hb⟩; refine ⟨_, rfl, ?_⟩; refine nx5_ (Kd.R_elder' (rU_ HO_12.out) (Kd.R_base ho0) hb) (Kd.R_elder' (rU_ HO_13.out) (Kd.R_base ho0) hb) (Kd.R_elder' (rU_ HO529.out) (Kd.R_base ho0) hb) (Kd.R_lower (Kd.R_new' (Kd.R_new' (Kd.R_new' ho0 (Kd.R_lt (rU_ HO_12.out))) (Kd.R_lt (rU_ HO_13.out))) (Kd.R_lt (rU_ HO529.out))) (below_size (bU_ HB.out))) (below_step (bU_ HB.out) hb) ?_; clear HO_12 HO_13 HO529 HB; intro HO_12 HO_13 HO529 HO533 HB; clear hb ho0; obtain ⟨Ao24, co24, eo24⟩ := Kd.R_slice HO533.out; subst eo24; obtain ⟨Ao25, co25, eo25⟩ := Kd.R_slice HO_13.out; subst eo25) | (go_at_call 24; (with_reducible refine (attestorlaw04_same.calls k1 _ _ t530 _ _ x13_1 t534 _ ?side1 ?side2 ?side3 ?side4 A18.out).mono ?_); (case side1 => exact cU_ ((Kd.R_reads' HO533.out).2.2)); (case side2 => exact (Kd.R_reads' HO533.out).2.1); (case side3 => exact cU_ ((Kd.R_reads' HO_13.out).2.2)); (case side4 => exact (Kd.R_reads' HO_13.out).2.1); rintro e w' ⟨rfl, ⟨nd, rfl⟩⟩))
    (try simp only [Act.put, s1_, s2_, s3_])
    go_cut [] (fun wc => ∃ (kq : Nat), Aside0 (attestorlaw04_TransformInverse.j1 kq t515 t516 t517 t518 x13_1 = some r) ∧ Aside0 (kq ≤ k1) ∧ Aside0 (Kd.R (Kd.int .u64) 22 wc w.heap.size (fun k_ => some k_ ≠ ((.slice Ao25 x13_1.length co25) : Value).ownBlock) (.slice Ao20 t518.length co20) t518) ∧ Aside0 (Kd.R (Kd.int .u64) 22 wc w.heap.size (fun k_ => some k_ ≠ ((.slice Ao20 t518.length co20) : Value).ownBlock) (.slice Ao25 x13_1.length co25) x13_1) ∧ Aside0 (Below w.heap.size w wc))
    case first =>
     have H := HC19.out
     clear HC19
     by_cases c26 : t534 = true
     ·subst c26
      rw [if_pos rfl] at H
      have H' := ak H
      clear H
      go_wp2
      go_meet
      case rel => exact ⟨_, H', ⟨by have := HK1.out; first | omega | exact Nat.le_refl _⟩, ⟨Kd.R_mono (rU_ HO_12.out) (fun _ hk => hk.1.1)⟩, ⟨Kd.R_mono (rU_ HO_13.out) (fun _ hk => hk.1.1)⟩, ⟨bU_ HB.out⟩⟩
     ·replace c26 := Bool.eq_false_iff.mpr c26
      subst c26
      rw [if_neg (show ¬ (false = true) by decide)] at H
      exact absurd H (by simp)
    case rest =>
     clear HC19
     (try clear c1); (try clear c2); (try clear p2); (try clear c3); (try clear p5); (try clear q5); (try clear hx5); (try clear c6); (try clear p6); (try clear c7); (try clear c7b0); (try clear c8); (try clear c8b0); (try clear c10); (try clear c12); (try clear c16); (try clear c16b0); (try clear c16b1); (try clear c17); (try clear c17b0); (try clear c17b1); (try clear c22); (try clear c23); (try clear c26); (try clear hx521_0); (try clear p521); (try clear q521)
     obtain ⟨kq, HA, HJ18, HO_12, HO_13, HB⟩ := hcut
     cases kq with
     | zero => exact absurd HA.out (by simp [attestorlaw04_TransformInverse.j1])
     | succ kj18 =>
      have H := HA.out
      clear HA
      simp only [attestorlaw04_TransformInverse.j1] at H
      revert H
      refine bd2_ fun t535 t536 A27 H => ?_
      try dsimp only at H
      revert H
      refine bd2_ fun t539 t540 A28 H => ?_
      try dsimp only at H
      obtain ⟨c29, H⟩ : (t536 = 0) ∧ _ := it_ H
      have c29b0 := beq_iff_eq.mpr c29
      have c29b1 := bne_eq_false_iff_eq.mpr c29
      clear c29
      obtain ⟨c30, H⟩ : (t540 = 0) ∧ _ := it_ H
      have c30b0 := beq_iff_eq.mpr c30
      have c30b1 := bne_eq_false_iff_eq.mpr c30
      clear c30
      revert H
      refine bd_ fun t543 A31 H => ?_
      by_cases c32 : t543 = true
      ·subst c32
       rw [if_pos rfl] at H
       revert H
       refine bd_ fun t544 A33 H => ?_
       obtain rfl := Option.some.inj H
       go_wp2_with (first | ((with_reducible refine gate_callee (f := 16) rfl ?_); refine gl_ (some 77) Tryd.func16 #[.int .i64 t515, .int .u64 t517, .slice Ao20 t518.length co20] ?_; (with_reducible refine (transform_Coefficients.calls kj18 t515 t517 _ _ t518 t535 t536 _ ?side1 ?side2 ?side3 A27.out).mono ?_); (case side1 => exact fU_ HG.out HB.out); (case side2 => exact cU_ ((Kd.R_reads' HO_12.out).2.2)); (case side3 => exact (Kd.R_reads' HO_12.out).2.1); rintro e w34 ⟨v537, rfl, ho0, hb⟩; refine ⟨_, rfl, ?_⟩; refine nx4_ (Kd.R_elder' (rU_ HO_12.out) (Kd.R_base ho0) hb) (Kd.R_elder' (rU_ HO_13.out) (Kd.R_base ho0) hb) (Kd.R_lower (Kd.R_new' (Kd.R_new' ho0 (Kd.R_lt (rU_ HO_12.out))) (Kd.R_lt (rU_ HO_13.out))) (below_size (bU_ HB.out))) (below_step (bU_ HB.out) hb) ?_; clear HO_12 HO_13 HB; intro HO_12 HO_13 HO538 HB; clear hb ho0; obtain ⟨Ao35, co35, eo35⟩ := Kd.R_slice HO538.out; subst eo35) | ((with_reducible refine gate_callee (f := 12) rfl ?_); refine gl_ (some 85) Tryd.func12 #[.int .i64 t515, .int .i64 t516, .int .u64 t517, .slice Ao35 t535.length co35] ?_; (with_reducible refine (transform_Values.calls kj18 t515 t516 t517 _ _ t535 t539 t540 _ ?side1 ?side2 ?side3 A28.out).mono ?_); (case side1 => exact fU_ HG.out HB.out); (case side2 => exact cU_ ((Kd.R_reads' HO538.out).2.2)); (case side3 => exact (Kd.R_reads' HO538.out).2.1); rintro e w36 ⟨v541, rfl, ho0, hb⟩; refine ⟨_, rfl, ?_⟩; refine nx5_ (Kd.R_elder' (rU_ HO_12.out) (Kd.R_base ho0) hb) (Kd.R_elder' (rU_ HO_13.out) (Kd.R_base ho0) hb) (Kd.R_elder' (rU_ HO538.out) (Kd.R_base ho0) hb) (Kd.R_lower (Kd.R_new' (Kd.R_new' (Kd.R_new' ho0 (Kd.R_lt (rU_ HO_12.out))) (Kd.R_lt (rU_ HO_13.out))) (Kd.R_lt (rU_ HO538.out))) (below_size (bU_ HB.out))) (below_step (bU_ HB.out) hb) ?_; clear HO_12 HO_13 HO538 HB; intro HO_12 HO_13 HO538 HO542 HB; clear hb ho0; obtain ⟨Ao37, co37, eo37⟩ := Kd.R_slice HO542.out; subst eo37) | (go_at_call 24; (with_reducible refine (attestorlaw04_same.calls kj18 _ _ t539 _ _ x13_1 true _ ?side1 ?side2 ?side3 ?side4 A31.out).mono ?_); (case side1 => exact cU_ ((Kd.R_reads' HO542.out).2.2)); (case side2 => exact (Kd.R_reads' HO542.out).2.1); (case side3 => exact cU_ ((Kd.R_reads' HO_13.out).2.2)); (case side4 => exact (Kd.R_reads' HO_13.out).2.1); rintro e w' ⟨rfl, ⟨nd, rfl⟩⟩) | (go_at_call 15; (with_reducible refine (attestorlaw04_works.calls kj18  t544 _ ?side1 A33.out).mono ?_); (case side1 => exact fU_ HG.out HB.out); rintro e w38 ⟨rfl, hb⟩; refine nx5_ (Kd.R_below (rU_ HO_12.out) hb) (Kd.R_below (rU_ HO_13.out) hb) (Kd.R_below (rU_ HO538.out) hb) (Kd.R_below (rU_ HO542.out) hb) (below_step (bU_ HB.out) hb) ?_; clear HO_12 HO_13 HO538 HO542 HB; intro HO_12 HO_13 HO538 HO542 HB; clear hb))
       go_ret
       exact ⟨by first | rfl | (simp [errW_none, errW_some] <;> rfl) | (simp [*, errW_none, errW_some] <;> rfl), bU_ HB.out⟩
      ·replace c32 := Bool.eq_false_iff.mpr c32
       subst c32
       rw [if_neg (show ¬ (false = true) by decide)] at H
       exact absurd H (by simp)

/-- THE ONE PURE STATEMENT of attestorlaw04_TransformInverse: yours. -/
def attestorlaw04_TransformInverse.Pure : Prop := ∀ (a0 : Int) (a1 : Int) (a2 : Int) (l3 : List Int), (Lit.int .u8 a0).wf = true → (Lit.int .u8 a1).wf = true → (Lit.int .u64 a2).wf = true → l3.length ≤ maxLen → l3.length * 8 ≤ 140737488351232 → (∀ x ∈ l3, (Lit.int .u64 x).wf = true) → ∃ k, attestorlaw04_TransformInverse.f k a0 a1 a2 l3 = some true
theorem attestorlaw04_TransformInverse.walk (P : attestorlaw04_TransformInverse.Pure) (a0 : Int) (a1 : Int) (a2 : Int) (a3 : Option Addr) (len3 cap3 : Nat) (z3 : List Int) (w : World) (hG : Fld w) (w0 : (Lit.int .u8 a0).wf = true) (w1 : (Lit.int .u8 a1).wf = true) (w2 : (Lit.int .u64 a2).wf = true) (w3 : (a3 = none ∧ len3 = 0 ∧ cap3 = 0 ∧ z3 = []) ∨ ∃ x, a3 = some x ∧ len3 ≤ cap3 ∧ cap3 ≤ maxLen ∧ z3.length = cap3 ∧ (∀ i, i < z3.length → w.cell? (x.add i) = some (.int .u64 (z3.getD i 0))) ∧ ∀ n ∈ z3, (Lit.int .u64 n).wf = true) (y3 : len3 * 8 ≤ 140737488351232) :
  Calls Tryd.prog 6 #[.int .u8 a0, .int .u8 a1, .int .u64 a2, .slice a3 len3 cap3] w fun e w' => e = .returned (.bool true) ∧ Below w.heap.size w w' := by
 obtain ⟨l3, rfl, hr3, hm3, hw3, hc3⟩ := ReadsInt.ofRowC w3
 obtain ⟨k, h⟩ := P a0 a1 a2 l3 w0 w1 w2 hm3 y3 hw3
 refine (attestorlaw04_TransformInverse.calls k a0 a1 a2 _ _ l3 true w hG (Kd.C_of_reads (d := (0 : Int)) (h1 := fun _ => rfl) hr3) hc3 h).mono ?_
 rintro e w' ⟨rfl, hd⟩
 exact ⟨rfl, hd⟩

end Go.Proofs.YtdjjdlkglinlgaaDoor.Q

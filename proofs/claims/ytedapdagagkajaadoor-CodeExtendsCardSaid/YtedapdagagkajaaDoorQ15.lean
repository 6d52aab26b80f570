-- Written by prx.py (this session's driver of the kit's print) out of the translation. Not trusted: Lean checks it.
import Derived.Test.YtedapdagagkajaaDoorQ0
import Derived.Test.YtedapdagagkajaaDoorQ3
import Derived.Test.YtedapdagagkajaaDoorQ6
import Derived.Test.YtedapdagagkajaaDoorQ7
import Derived.Test.YtedapdagagkajaaDoorQ10
import Derived.Test.YtedapdagagkajaaDoorQ12
import Derived.Test.YtedapdagagkajaaDoorQ13
import Derived.Test.YtedapdagagkajaaDoorQ14
namespace Go.Proofs.YtedapdagagkajaaDoor.Q
open Go.RowKit Go.Proofs.YtedapdagagkajaaDoorW.PrintWords Go.Proofs.YtedapdagagkajaaDoorW.PrintLast Go.Proofs.YtedapdagagkajaaDoorW.PrintMore
attribute [local go_sem] max2_int min2_int max_two min_two max_three min_three max_four min_four   -- for this text's walks alone
set_option linter.unusedVariables false
set_option linter.unusedSimpArgs false

/-! ### attestorref04_Values: function 86 -/
mutual
def attestorref04_Values.j0 : Nat → Int → Int → Int → List Int → Bool → Option (List Int × Int)
 | 0, _, _, _, _, _ => none
 | k + 1, x0, x1, x2, x3, x21 => if x21 = true then (some (([] : List Int), 1)) else (if x1 < 0 then (attestorref04_Values.j1 k x0 x1 x2 x3 true) else ((attestorref04_Greatest.f x0).bind fun t513 => (attestorref04_Values.j1 k x0 x1 x2 x3 (decide (x1 > t513)))))
def attestorref04_Values.j1 : Nat → Int → Int → Int → List Int → Bool → Option (List Int × Int)
 | 0, _, _, _, _, _ => none
 | k + 1, x0, x1, x2, x3, x29 => if x29 = true then (some (([] : List Int), 2)) else ((attestorref03_Normal.f k x0 x3).bind fun t514 => (if 0 ≤ (IntKind.u64.wrap (x1)) then (if (t514.length : Int) > (shl .i64 1 (IntKind.u64.wrap (x1))) then (some (([] : List Int), 3)) else (attestorref04_Values.l0 k x0 x1 x2 t514 (shl .i64 1 (IntKind.u64.wrap (x1))) ([] : List Int) 0)) else (none)))
def attestorref04_Values.l0 : Nat → Int → Int → Int → List Int → Int → List Int → Int → Option (List Int × Int)
 | 0, _, _, _, _, _, _, _ => none
 | k + 1, x0, x1, x2, x3, x10, x11, x12 => if x12 < x10 then ((attestorref04_Point.f k x0 x1 x2 x12).bind fun t517 => ((attestorref03_Eval.f k x0 x3 t517).bind fun t518 => (if x11.length < 17592186044416 then (attestorref04_Values.l0 k x0 x1 x2 x3 x10 (x11 ++ [t518]) (wrap64 (x12 + 1))) else (none)))) else (some (x11, 0))
end
def attestorref04_Values.f (k : Nat) (a0 : Int) (a1 : Int) (a2 : Int) (l3 : List Int) : Option (List Int × Int) := (attestorref01_Valid.f a0).bind fun t511 => (if t511 = true then ((attestorref01_Reduce.f a0 a2).bind fun t512 => (attestorref04_Values.j0 k a0 a1 a2 l3 (t512 == 0))) else (attestorref04_Values.j0 k a0 a1 a2 l3 true))
set_option maxHeartbeats 8000000 in
set_option maxRecDepth 100000 in
theorem attestorref04_Values.calls (k : Nat) (a0 : Int) (a1 : Int) (a2 : Int) (A3 : Option Addr) (c3 : Nat) (l3 : List Int) (r1 : List Int) (r2 : Int) (w : World) (hr3 : Kd.C (Kd.int .u64) w A3 l3.length l3) (hc3 : l3.length ≤ c3) (h : attestorref04_Values.f k a0 a1 a2 l3 = some (r1, r2)) :
  Calls Tryd.prog 86 #[.int .i64 a0, .int .i64 a1, .int .u64 a2, .slice A3 l3.length c3] w fun e w' => ∃ v0_ : Value, e = .returned (.tuple #[v0_, .int .i64 r2]) ∧ Kd.R (Kd.int .u64) 22 w' w.heap.size (fun _ => True) v0_ r1 ∧ Below w.heap.size w w' := by
 have HR3 := ak hr3
 have HC3 := ak hc3
 clear hr3 hc3
 have HB := ak (Below.refl w.heap.size w)
 have H : ((attestorref01_Valid.f a0).bind fun t511 => (if t511 = true then ((attestorref01_Reduce.f a0 a2).bind fun t512 => (attestorref04_Values.j0 k a0 a1 a2 l3 (t512 == 0))) else (attestorref04_Values.j0 k a0 a1 a2 l3 true))) = some (r1, r2) := h
 clear h
 have HC5 := ak H
 clear H
 go_enter Tryd.func86, Tryd.ntmps86
 go_upto_region 1 with (fail)
 go_cut [21] (fun v21 wc => ∃ (kq : Nat) (x21_4 : Bool), v21 = .bool x21_4 ∧ Aside0 (attestorref04_Values.j0 kq a0 a1 a2 l3 x21_4 = some (r1, r2)) ∧ Aside0 (kq ≤ k) ∧ Aside0 (Below w.heap.size w wc))
 case first =>
  have H := HC5.out
  clear HC5
  revert H
  refine bd_ fun t511 A6 H => ?_
  by_cases c7 : t511 = true
  ·subst c7
   rw [if_pos rfl] at H
   revert H
   refine bd_ fun t512 A8 H => ?_
   have H' := ak H
   clear H
   go_wp2_with (first | ((with_reducible refine gate_callee (f := 52) rfl ?_); refine gl_ (some 14) Tryd.func52 #[.int .i64 a0] ?_; (with_reducible refine (attestorref01_Valid.calls a0 true _ A6.out).mono ?_); rintro e w' ⟨rfl, ⟨nd, rfl⟩⟩; refine ⟨_, rfl, ?_⟩) | (go_at_call 68; (with_reducible refine (attestorref01_Reduce.calls a0 a2 t512 _ A8.out).mono ?_); rintro e w' ⟨rfl, ⟨nd, rfl⟩⟩))
   go_meet
   case rel => exact ⟨_, ((t512 == 0)), gb_, H', ⟨by first | omega | exact Nat.le_refl _⟩, ⟨bU_ HB.out⟩⟩
  ·replace c7 := Bool.eq_false_iff.mpr c7
   subst c7
   rw [if_neg (show ¬ (false = true) by decide)] at H
   have H' := ak H
   clear H
   go_wp2_with (first | ((with_reducible refine gate_callee (f := 52) rfl ?_); refine gl_ (some 14) Tryd.func52 #[.int .i64 a0] ?_; (with_reducible refine (attestorref01_Valid.calls a0 false _ A6.out).mono ?_); rintro e w' ⟨rfl, ⟨nd, rfl⟩⟩; refine ⟨_, rfl, ?_⟩))
   go_meet
   case rel => exact ⟨_, (true), gb_, H', ⟨by first | omega | exact Nat.le_refl _⟩, ⟨bU_ HB.out⟩⟩
 case rest =>
  clear HC5
  (try clear p2); (try clear c3); (try clear c5); (try clear c7); (try clear c8)
  obtain ⟨kq, x21_4, rfl, HA, HJ4, HB⟩ := hcut
  cases kq with
  | zero => exact absurd HA.out (by simp [attestorref04_Values.j0])
  | succ kj4 =>
   have H := HA.out
   clear HA
   simp only [attestorref04_Values.j0] at H
   by_cases c9 : x21_4 = true
   ·subst c9
    rw [if_pos rfl] at H
    simp only [Option.some.injEq, Prod.mk.injEq] at H
    obtain ⟨rfl, rfl⟩ := H
    go_wp2
    go_ret2
    exact ⟨_, by first | rfl | (simp [errW_none, errW_some] <;> rfl) | (simp [*, errW_none, errW_some] <;> rfl), by first | exact Kd.R_nil _ _ _ _ _ | exact Kd.N_nil _ _ _ _ _ | exact Kd.V_nil _ _ _ _ _ | exact Kd.Q_nil _ _ _ _ _ | exact Kd.S_nil _ _ _ _ _, bU_ HB.out⟩
   ·replace c9 := Bool.eq_false_iff.mpr c9
    subst c9
    rw [if_neg (show ¬ (false = true) by decide)] at H
    have HC10 := ak H
    clear H
    go_upto_region 3 with (fail)
    go_cut [29] (fun v29 wc => ∃ (kq : Nat) (x29_9 : Bool), v29 = .bool x29_9 ∧ Aside0 (attestorref04_Values.j1 kq a0 a1 a2 l3 x29_9 = some (r1, r2)) ∧ Aside0 (kq ≤ kj4) ∧ Aside0 (Below w.heap.size w wc))
    case first =>
     have H := HC10.out
     clear HC10
     by_cases c11 : a1 < 0
     ·rw [if_pos c11] at H
      have c11b0 := decide_eq_true c11
      clear c11
      (first | rw [c11b0] | (simp only [i64_w, i32_w]; rw [c11b0]) | rw [c11b1] | skip)
      have H' := ak H
      clear H
      go_wp2
      go_meet
      case rel => exact ⟨_, (true), gb_, H', ⟨by have := HJ4.out; first | omega | exact Nat.le_refl _⟩, ⟨bU_ HB.out⟩⟩
     ·rw [if_neg c11] at H
      have c11b0 := decide_eq_false c11
      clear c11
      (first | rw [c11b0] | (simp only [i64_w, i32_w]; rw [c11b0]) | rw [c11b1] | skip)
      revert H
      refine bd_ fun t513 A12 H => ?_
      have H' := ak H
      clear H
      go_wp2_with (first | (go_at_call 53; (with_reducible refine (attestorref04_Greatest.calls a0 t513 _ A12.out).mono ?_); rintro e w13 ⟨rfl, hb⟩; refine nx1_ (below_step (bU_ HB.out) hb) ?_; clear HB; intro HB; clear hb))
      go_meet
      case rel => exact ⟨_, (decide (a1 > t513)), gb_, H', ⟨by have := HJ4.out; first | omega | exact Nat.le_refl _⟩, ⟨bU_ HB.out⟩⟩
    case rest =>
     clear HC10
     (try clear c1); (try clear p2); (try clear c3); (try clear c5); (try clear c7); (try clear c8); (try clear c9); (try clear c11); (try clear c11b0); (try clear c11b1)
     obtain ⟨kq, x29_9, rfl, HA, HJ9, HB⟩ := hcut
     cases kq with
     | zero => exact absurd HA.out (by simp [attestorref04_Values.j1])
     | succ kj9 =>
      have H := HA.out
      clear HA
      simp only [attestorref04_Values.j1] at H
      by_cases c14 : x29_9 = true
      ·subst c14
       rw [if_pos rfl] at H
       simp only [Option.some.injEq, Prod.mk.injEq] at H
       obtain ⟨rfl, rfl⟩ := H
       go_wp2
       go_ret2
       exact ⟨_, by first | rfl | (simp [errW_none, errW_some] <;> rfl) | (simp [*, errW_none, errW_some] <;> rfl), by first | exact Kd.R_nil _ _ _ _ _ | exact Kd.N_nil _ _ _ _ _ | exact Kd.V_nil _ _ _ _ _ | exact Kd.Q_nil _ _ _ _ _ | exact Kd.S_nil _ _ _ _ _, bU_ HB.out⟩
      ·replace c14 := Bool.eq_false_iff.mpr c14
       subst c14
       rw [if_neg (show ¬ (false = true) by decide)] at H
       revert H
       refine bd_ fun t514 A15 H => ?_
       obtain ⟨ji16, hji16⟩ : ∃ j_ : Int, (IntKind.u64.wrap (a1)) = j_ := ⟨_, rfl⟩
       first | rw [hji16] at H | simp only [hji16] at H
       (try rw [hji16] at A15)
       obtain ⟨c17, H⟩ : (0 ≤ (ji16)) ∧ _ := it_ H
       have c17b0 := eq_true c17
       have c17b1 := decide_eq_true c17
       clear c17
       obtain ⟨ji18, hji18⟩ : ∃ j_ : Int, (shl .i64 1 (ji16)) = j_ := ⟨_, rfl⟩
       first | rw [hji18] at H | simp only [hji18] at H
       (try rw [hji18] at A15)
       have hji18_ : (IntKind.i64.wrap (1 * 2 ^ min (ji16).toNat 64)) = ji18 := hji18
       have hji18z : (ji16) ≤ 64 → (IntKind.i64.wrap (1 * 2 ^ (ji16).toNat)) = ji18 := shl_small hji18
       have hji18u : (IntKind.i64.wrap (2 ^ min (ji16).toNat 64)) = ji18 := by have h_ := hji18_; rw [Int.one_mul] at h_; exact h_
       have hji18v : (ji16) ≤ 64 → (IntKind.i64.wrap (2 ^ (ji16).toNat)) = ji18 := fun hle_ => by have h_ := hji18z hle_; rw [Int.one_mul] at h_; exact h_
       have hji18y : (wrap64 (1 * 2 ^ min (ji16).toNat 64)) = ji18 := (i64_w _).symm.trans hji18_
       have hji18x : (ji16) ≤ 64 → (wrap64 (1 * 2 ^ (ji16).toNat)) = ji18 := fun h_ => (i64_w _).symm.trans (hji18z h_)
       by_cases c19 : (t514.length : Int) > (ji18)
       ·rw [if_pos c19] at H
        have c19b0 : decide ((ji18) < (t514.length : Int)) = true := decide_eq_true c19
        clear c19
        simp only [Option.some.injEq, Prod.mk.injEq] at H
        obtain ⟨rfl, rfl⟩ := H
        go_wp2_with (first | ((with_reducible refine gate_callee (f := 71) rfl ?_); refine gl_ (some 32) Tryd.func71 #[.int .i64 a0, .slice A3 l3.length c3] ?_; (with_reducible refine (attestorref03_Normal.calls kj9 a0 _ _ l3 t514 _ ?side1 ?side2 A15.out).mono ?_); (case side1 => exact cU_ (Kd.C_below HR3.out HB.out)); (case side2 => exact HC3.out); rintro e w20 ⟨v515, rfl, ho0, hb⟩; refine ⟨_, rfl, ?_⟩; refine nx2_ (Kd.R_lower ho0 (below_size (bU_ HB.out))) (below_step (bU_ HB.out) hb) ?_; clear HB; intro HO516 HB; clear hb ho0; obtain ⟨Ao21, co21, eo21⟩ := Kd.R_slice HO516.out; subst eo21))
        go_ret2
        exact ⟨_, by first | rfl | (simp [errW_none, errW_some] <;> rfl) | (simp only [← hji16, ← hji18]; first | rfl | (simp [errW_none, errW_some] <;> rfl)) | (simp [*, errW_none, errW_some] <;> rfl), by first | exact Kd.R_nil _ _ _ _ _ | exact Kd.N_nil _ _ _ _ _ | exact Kd.V_nil _ _ _ _ _ | exact Kd.Q_nil _ _ _ _ _ | exact Kd.S_nil _ _ _ _ _, bU_ HB.out⟩
       ·rw [if_neg c19] at H
        have c19b0 : decide ((ji18) < (t514.length : Int)) = false := decide_eq_false c19
        clear c19
        have H' := ak H
        clear H
        go_wp2_with (first | ((with_reducible refine gate_callee (f := 71) rfl ?_); refine gl_ (some 32) Tryd.func71 #[.int .i64 a0, .slice A3 l3.length c3] ?_; (with_reducible refine (attestorref03_Normal.calls kj9 a0 _ _ l3 t514 _ ?side1 ?side2 A15.out).mono ?_); (case side1 => exact cU_ (Kd.C_below HR3.out HB.out)); (case side2 => exact HC3.out); rintro e w22 ⟨v515, rfl, ho0, hb⟩; refine ⟨_, rfl, ?_⟩; refine nx2_ (Kd.R_lower ho0 (below_size (bU_ HB.out))) (below_step (bU_ HB.out) hb) ?_; clear HB; intro HO516 HB; clear hb ho0; obtain ⟨Ao23, co23, eo23⟩ := Kd.R_slice HO516.out; subst eo23))
        go_loopg [11, 12] kj9 (fun kq v11 v12 w' => ∃ (x11_3 : List Int) (x12_3 : Int), v12 = .int .i64 x12_3 ∧ Aside0 (attestorref04_Values.l0 kq a0 a1 a2 t514 ji18 x11_3 x12_3 = some (r1, r2)) ∧ Aside0 (kq ≤ kj9) ∧ Aside0 (Kd.R (Kd.int .u64) 22 w' w.heap.size (fun k_ => some k_ ≠ (v11 : Value).ownBlock) (.slice Ao23 t514.length co23) t514) ∧ Aside0 (Kd.R (Kd.int .u64) 22 w' w.heap.size (fun k_ => some k_ ≠ ((.slice Ao23 t514.length co23) : Value).ownBlock) v11 x11_3) ∧ Aside0 (Below w.heap.size w w'))
        case atStart => exact ⟨(([] : List Int)), (0), gb_, H', ⟨Nat.le_refl _⟩, ⟨Kd.R_mono (rU_ HO516.out) (fun _ hk => (by simp [Value.ownBlock]))⟩, ⟨by first | exact Kd.R_nil _ _ _ _ _ | exact Kd.N_nil _ _ _ _ _ | exact Kd.V_nil _ _ _ _ _ | exact Kd.Q_nil _ _ _ _ _ | exact Kd.S_nil _ _ _ _ _⟩, ⟨bU_ HB.out⟩⟩
        case round =>
         clear H'
         (try clear c1); (try clear p2); (try clear c3); (try clear c5); (try clear p6); (try clear c7); (try clear c8); (try clear c9); (try clear c11); (try clear c11b0); (try clear c11b1); (try clear c14); (try clear c17); (try clear c17b0); (try clear c17b1); (try clear c19); (try clear c19b0)
         obtain ⟨x11_3, x12_3, rfl, HA, HK3, HO_3, HO_11, HB⟩ := hrel
         cases gk with
         | zero => exact absurd HA.out (by simp [attestorref04_Values.l0])
         | succ k3 =>
          have H := HA.out
          clear HA
          simp only [attestorref04_Values.l0] at H
          by_cases c24 : x12_3 < ji18
          ·rw [if_pos c24] at H
           have c24b0 := decide_eq_true c24
           clear c24
           revert H
           refine bd_ fun t517 A25 H => ?_
           revert H
           refine bd_ fun t518 A26 H => ?_
           obtain ⟨c27, H⟩ : (x11_3.length < 17592186044416) ∧ _ := it_ H
           have LMc27 := ak c27
           clear c27
           obtain ⟨y519, hy519⟩ : ∃ y_ : List Int, y_ = (x11_3 ++ [t518]) := ⟨_, rfl⟩
           first | rw [Option.bind_some, ← hy519] at H | rw [← hy519] at H
           have Ny519 := ak hy519
           clear hy519
           have H' := ak H
           clear H
           go_wp2_with (first | ((with_reducible refine gate_callee (f := 57) rfl ?_); refine gl_ (some 52) Tryd.func57 #[.int .i64 a0, .int .i64 a1, .int .u64 a2, .int .i64 x12_3] ?_; (with_reducible refine (attestorref04_Point.calls k3 a0 a1 a2 x12_3 t517 _ A25.out).mono ?_); rintro e w' ⟨rfl, ⟨nd, rfl⟩⟩; refine ⟨_, rfl, ?_⟩) | ((with_reducible refine gate_callee (f := 67) rfl ?_); refine gl_ (some 53) Tryd.func67 #[.int .i64 a0, .slice Ao23 t514.length co23, .int .u64 t517] ?_; (with_reducible refine (attestorref03_Eval.calls k3 a0 _ _ t514 t517 t518 _ ?side1 ?side2 A26.out).mono ?_); (case side1 => exact cU_ ((Kd.R_reads' HO_3.out).2.2)); (case side2 => exact (Kd.R_reads' HO_3.out).2.1); rintro e w' ⟨rfl, ⟨nd, rfl⟩⟩; refine ⟨_, rfl, ?_⟩) | ((with_reducible refine gate_builtin (b := .append) (xs := #[.tmp 45, .tmp 54]) rfl ?_); at_builtin; refine Kd.R_append (Kd.int .u64) (w0 := w) w.heap.size rfl (.tmp 45) (.tmp 54) 33 22 (.int .u64 0) 8 rfl Tryd.underlying33 info22 rfl (by decide) (by omega) u11 x11_3 t518 [.int .u64 t518] (fun k_ => some k_ ≠ (.slice Ao23 t514.length co23 : Value).ownBlock) (fun _ => False) rfl rfl ?aP (fun _ hk => hk.elim) ?aF ?aO ?aB ?aS ?aL ?_; (case aP => exact rfl); (case aB => exact (bU_ HB.out)); (case aF => exact (fun k_ hk => Kd.fresh' (Kd.R_lt (rU_ HO_3.out)) k_ hk)); (case aO => exact (rU_ HO_11.out)); (case aS => exact (below_size (bU_ HB.out))); (case aL => have := LMc27.out; omega); intro v520 w28 ho hb hg hat; rw [← Ny519.out] at ho; refine nx3_ (Kd.R_after (ok := (fun _ => True)) (Kd.R_mono (rU_ HO_3.out) (fun _ hk => ⟨trivial, hk⟩)) hg hat) (hb) (ho) ?_; clear HO_3 HB HO_11; intro HO_3 HB HO521; clear ho hb hg hat))
           go_roundg k3
           case measure => have := HJ4.out; have := HJ9.out; have := HK3.out; omega
           case rel => exact ⟨(y519), (wrap64 (x12_3 + 1)), gb_, H', ⟨by have := HJ4.out; have := HJ9.out; have := HK3.out; omega⟩, ⟨Kd.R_mono (rU_ HO_3.out) (fun _ hk => hk.2)⟩, ⟨rU_ HO521.out⟩, ⟨bU_ HB.out⟩⟩
          ·rw [if_neg c24] at H
           have c24b0 := decide_eq_false c24
           clear c24
           simp only [Option.some.injEq, Prod.mk.injEq] at H
           obtain ⟨rfl, rfl⟩ := H
           go_wp2
           go_ret2
           exact ⟨_, by first | rfl | (simp [errW_none, errW_some] <;> rfl) | (simp only [← hji16, ← hji18]; first | rfl | (simp [errW_none, errW_some] <;> rfl)) | (simp [*, errW_none, errW_some] <;> rfl), Kd.R_mono (rU_ HO_11.out) (fun _ hk => trivial), bU_ HB.out⟩

/-! ### attestorref04_Widen: function 61 -/
def attestorref04_Widen.j0 : Nat → Int → List Int → Int → Int → Bool → Option (List Int × Int)
 | 0, _, _, _, _, _ => none
 | k + 1, x0, x1, x2, x8, x36 => if x36 = true then (some (([] : List Int), 2)) else ((attestorref04_Coefficients.f k x0 1 x1).bind fun bt526 => ((attestorref01_Generator.f k x0).bind fun t530 => ((attestorref04_Values.f k x0 (wrap64 (x8 + x2)) t530 bt526.1).bind fun bt531 => (some (bt531.1, bt531.2)))))
def attestorref04_Widen.f (k : Nat) (a0 : Int) (l1 : List Int) (a2 : Int) : Option (List Int × Int) := (attestorref01_Valid.f a0).bind fun t522 => (if t522 = true then ((attestorref04_Bits.f k (l1.length : Int)).bind fun t523 => (if t523 < 0 then (attestorref04_Widen.j0 k a0 l1 a2 t523 true) else (if a2 < 0 then (attestorref04_Widen.j0 k a0 l1 a2 t523 true) else ((attestorref04_Greatest.f a0).bind fun t524 => (if a2 > t524 then (attestorref04_Widen.j0 k a0 l1 a2 t523 true) else ((attestorref04_Greatest.f a0).bind fun t525 => (attestorref04_Widen.j0 k a0 l1 a2 t523 (decide ((wrap64 (t523 + a2)) > t525))))))))) else (some (([] : List Int), 1)))
set_option maxHeartbeats 8000000 in
set_option maxRecDepth 100000 in
theorem attestorref04_Widen.calls (k : Nat) (a0 : Int) (A1 : Option Addr) (c1 : Nat) (l1 : List Int) (a2 : Int) (r1 : List Int) (r2 : Int) (w : World) (hr1 : Kd.C (Kd.int .u64) w A1 l1.length l1) (hc1 : l1.length ≤ c1) (h : attestorref04_Widen.f k a0 l1 a2 = some (r1, r2)) :
  Calls Tryd.prog 61 #[.int .i64 a0, .slice A1 l1.length c1, .int .i64 a2] w fun e w' => ∃ v0_ : Value, e = .returned (.tuple #[v0_, .int .i64 r2]) ∧ Kd.R (Kd.int .u64) 22 w' w.heap.size (fun _ => True) v0_ r1 ∧ Below w.heap.size w w' := by
 have HR1 := ak hr1
 have HC1 := ak hc1
 clear hr1 hc1
 have HB := ak (Below.refl w.heap.size w)
 have H : ((attestorref01_Valid.f a0).bind fun t522 => (if t522 = true then ((attestorref04_Bits.f k (l1.length : Int)).bind fun t523 => (if t523 < 0 then (attestorref04_Widen.j0 k a0 l1 a2 t523 true) else (if a2 < 0 then (attestorref04_Widen.j0 k a0 l1 a2 t523 true) else ((attestorref04_Greatest.f a0).bind fun t524 => (if a2 > t524 then (attestorref04_Widen.j0 k a0 l1 a2 t523 true) else ((attestorref04_Greatest.f a0).bind fun t525 => (attestorref04_Widen.j0 k a0 l1 a2 t523 (decide ((wrap64 (t523 + a2)) > t525))))))))) else (some (([] : List Int), 1)))) = some (r1, r2) := h
 clear h
 revert H
 refine bd_ fun t522 A4 H => ?_
 by_cases c5 : t522 = true
 ·subst c5
  rw [if_pos rfl] at H
  revert H
  refine bd_ fun t523 A6 H => ?_
  have HC7 := ak H
  clear H
  go_enter Tryd.func61, Tryd.ntmps61
  go_upto_region 4 with (first | ((with_reducible refine gate_callee (f := 52) rfl ?_); refine gl_ (some 12) Tryd.func52 #[.int .i64 a0] ?_; (with_reducible refine (attestorref01_Valid.calls a0 true _ A4.out).mono ?_); rintro e w' ⟨rfl, ⟨nd, rfl⟩⟩; refine ⟨_, rfl, ?_⟩) | ((with_reducible refine gate_callee (f := 85) rfl ?_); refine gl_ (some 16) Tryd.func85 #[.int .i64 (l1.length : Int)] ?_; (with_reducible refine (attestorref04_Bits.calls k (l1.length : Int) t523 _ A6.out).mono ?_); rintro e w' ⟨rfl, ⟨nd, rfl⟩⟩; refine ⟨_, rfl, ?_⟩))
  (try simp only [Act.put, s1_, s2_, s3_])
  go_cut [36] (fun v36 wc => ∃ (kq : Nat) (x36_6 : Bool), v36 = .bool x36_6 ∧ Aside0 (attestorref04_Widen.j0 kq a0 l1 a2 t523 x36_6 = some (r1, r2)) ∧ Aside0 (kq ≤ k) ∧ Aside0 (Below w.heap.size w wc))
  case first =>
   have H := HC7.out
   clear HC7
   by_cases c8 : t523 < 0
   ·rw [if_pos c8] at H
    have c8b0 := decide_eq_true c8
    clear c8
    (first | rw [c8b0] | (simp only [i64_w, i32_w]; rw [c8b0]) | rw [c8b1] | skip)
    have H' := ak H
    clear H
    go_wp2
    go_meet
    case rel => exact ⟨_, (true), gb_, H', ⟨by first | omega | exact Nat.le_refl _⟩, ⟨bU_ HB.out⟩⟩
   ·rw [if_neg c8] at H
    have c8b0 := decide_eq_false c8
    clear c8
    (first | rw [c8b0] | (simp only [i64_w, i32_w]; rw [c8b0]) | rw [c8b1] | skip)
    by_cases c9 : a2 < 0
    ·rw [if_pos c9] at H
     have c9b0 := decide_eq_true c9
     clear c9
     have H' := ak H
     clear H
     go_wp2
     go_meet
     case rel => exact ⟨_, (true), gb_, H', ⟨by first | omega | exact Nat.le_refl _⟩, ⟨bU_ HB.out⟩⟩
    ·rw [if_neg c9] at H
     have c9b0 := decide_eq_false c9
     clear c9
     revert H
     refine bd_ fun t524 A10 H => ?_
     by_cases c11 : a2 > t524
     ·rw [if_pos c11] at H
      have c11b0 : decide (t524 < a2) = true := decide_eq_true c11
      clear c11
      have H' := ak H
      clear H
      go_wp2_with (first | (go_at_call 53; (with_reducible refine (attestorref04_Greatest.calls a0 t524 _ A10.out).mono ?_); rintro e w12 ⟨rfl, hb⟩; refine nx1_ (below_step (bU_ HB.out) hb) ?_; clear HB; intro HB; clear hb))
      go_meet
      case rel => exact ⟨_, (true), gb_, H', ⟨by first | omega | exact Nat.le_refl _⟩, ⟨bU_ HB.out⟩⟩
     ·rw [if_neg c11] at H
      have c11b0 : decide (t524 < a2) = false := decide_eq_false c11
      clear c11
      revert H
      refine bd_ fun t525 A13 H => ?_
      have H' := ak H
      clear H
      obtain rfl : t524 = t525 := Option.some.inj (A10.out.symm.trans A13.out)
      go_wp2_with (first | (go_at_call 53; (with_reducible refine (attestorref04_Greatest.calls a0 t524 _ A10.out).mono ?_); rintro e w14 ⟨rfl, hb⟩; refine nx1_ (below_step (bU_ HB.out) hb) ?_; clear HB; intro HB; clear hb) | (go_at_call 53; (with_reducible refine (attestorref04_Greatest.calls a0 t524 _ A13.out).mono ?_); rintro e w15 ⟨rfl, hb⟩; refine nx1_ (below_step (bU_ HB.out) hb) ?_; clear HB; intro HB; clear hb))
      go_meet
      case rel => exact ⟨_, (decide ((wrap64 (t523 + a2)) > t524)), gb_, H', ⟨by first | omega | exact Nat.le_refl _⟩, ⟨bU_ HB.out⟩⟩
  case rest =>
   clear HC7
   (try clear c1); (try clear p2); (try clear c5); (try clear c6); (try clear p6); (try clear c8); (try clear c8b0); (try clear c8b1); (try clear c9); (try clear c9b0); (try clear c11); (try clear c11b0)
   obtain ⟨kq, x36_6, rfl, HA, HJ6, HB⟩ := hcut
   cases kq with
   | zero => exact absurd HA.out (by simp [attestorref04_Widen.j0])
   | succ kj6 =>
    have H := HA.out
    clear HA
    simp only [attestorref04_Widen.j0] at H
    by_cases c16 : x36_6 = true
    ·subst c16
     rw [if_pos rfl] at H
     simp only [Option.some.injEq, Prod.mk.injEq] at H
     obtain ⟨rfl, rfl⟩ := H
     go_wp2
     go_ret2
     exact ⟨_, by first | rfl | (simp [errW_none, errW_some] <;> rfl) | (simp [*, errW_none, errW_some] <;> rfl), by first | exact Kd.R_nil _ _ _ _ _ | exact Kd.N_nil _ _ _ _ _ | exact Kd.V_nil _ _ _ _ _ | exact Kd.Q_nil _ _ _ _ _ | exact Kd.S_nil _ _ _ _ _, bU_ HB.out⟩
    ·replace c16 := Bool.eq_false_iff.mpr c16
     subst c16
     rw [if_neg (show ¬ (false = true) by decide)] at H
     revert H
     refine bd2_ fun t526 t527 A17 H => ?_
     try dsimp only at H
     revert H
     refine bd_ fun t530 A18 H => ?_
     revert H
     refine bd2_ fun t531 t532 A19 H => ?_
     try dsimp only at H
     simp only [Option.some.injEq, Prod.mk.injEq] at H
     obtain ⟨rfl, rfl⟩ := H
     go_wp2_with (first | ((with_reducible refine gate_callee (f := 70) rfl ?_); refine gl_ (some 40) Tryd.func70 #[.int .i64 a0, .int .u64 1, .slice A1 l1.length c1] ?_; (with_reducible refine (attestorref04_Coefficients.calls kj6 a0 1 _ _ l1 t526 t527 _ ?side1 ?side2 A17.out).mono ?_); (case side1 => exact cU_ (Kd.C_below HR1.out HB.out)); (case side2 => exact HC1.out); rintro e w20 ⟨v528, rfl, ho0, hb⟩; refine ⟨_, rfl, ?_⟩; refine nx2_ (Kd.R_lower ho0 (below_size (bU_ HB.out))) (below_step (bU_ HB.out) hb) ?_; clear HB; intro HO529 HB; clear hb ho0) | ((with_reducible refine gate_callee (f := 59) rfl ?_); refine gl_ (some 48) Tryd.func59 #[.int .i64 a0] ?_; (with_reducible refine (attestorref01_Generator.calls kj6 a0 t530 _ A18.out).mono ?_); rintro e w' ⟨rfl, ⟨nd, rfl⟩⟩; refine ⟨_, rfl, ?_⟩; obtain ⟨Ao21, co21, eo21⟩ := Kd.R_slice HO529.out; subst eo21) | ((with_reducible refine gate_callee (f := 86) rfl ?_); refine gl_ (some 50) Tryd.func86 #[.int .i64 a0, .int .i64 (wrap64 (t523 + a2)), .int .u64 t530, .slice Ao21 t526.length co21] ?_; (with_reducible refine (attestorref04_Values.calls kj6 a0 (wrap64 (t523 + a2)) t530 _ _ t526 t531 t532 _ ?side1 ?side2 A19.out).mono ?_); (case side1 => exact cU_ ((Kd.R_reads' HO529.out).2.2)); (case side2 => exact (Kd.R_reads' HO529.out).2.1); rintro e w22 ⟨v533, rfl, ho0, hb⟩; refine ⟨_, rfl, ?_⟩; refine nx3_ (Kd.R_elder' (rU_ HO529.out) (Kd.R_base ho0) hb) (Kd.R_lower (Kd.R_new' ho0 (Kd.R_lt (rU_ HO529.out))) (below_size (bU_ HB.out))) (below_step (bU_ HB.out) hb) ?_; clear HO529 HB; intro HO529 HO534 HB; clear hb ho0))
     go_ret2
     exact ⟨_, by first | rfl | (simp [errW_none, errW_some] <;> rfl) | (simp [*, errW_none, errW_some] <;> rfl), Kd.R_mono (rU_ HO534.out) (fun _ hk => trivial), bU_ HB.out⟩
 ·replace c5 := Bool.eq_false_iff.mpr c5
  subst c5
  rw [if_neg (show ¬ (false = true) by decide)] at H
  simp only [Option.some.injEq, Prod.mk.injEq] at H
  obtain ⟨rfl, rfl⟩ := H
  go_enter Tryd.func61, Tryd.ntmps61
  go_wp2_with (first | ((with_reducible refine gate_callee (f := 52) rfl ?_); refine gl_ (some 12) Tryd.func52 #[.int .i64 a0] ?_; (with_reducible refine (attestorref01_Valid.calls a0 false _ A4.out).mono ?_); rintro e w' ⟨rfl, ⟨nd, rfl⟩⟩; refine ⟨_, rfl, ?_⟩))
  go_ret2
  exact ⟨_, by first | rfl | (simp [errW_none, errW_some] <;> rfl) | (simp [*, errW_none, errW_some] <;> rfl), by first | exact Kd.R_nil _ _ _ _ _ | exact Kd.N_nil _ _ _ _ _ | exact Kd.V_nil _ _ _ _ _ | exact Kd.Q_nil _ _ _ _ _ | exact Kd.S_nil _ _ _ _ _, bU_ HB.out⟩

/-! ### attestorref05_Extend: function 26 -/
mutual
def attestorref05_Extend.l0 : Nat → Int → List (List Int) → Int → Int → Option ((List (List Int)) × Int)
 | 0, _, _, _, _ => none
 | k + 1, x0, x1, x2, x8 => if x8 < (x1.length : Int) then (if 0 ≤ x8 then (if 0 < (x1.length : Int) then (if ((rd_L1 x1 x8).length : Int) = ((rd_L1 x1 0).length : Int) then (attestorref05_Extend.l0 k x0 x1 x2 (wrap64 (x8 + 1))) else (some (([] : List (List Int)), 1))) else (none)) else (none)) else (attestorref05_Extend.l1 k x0 x1 x2 ([] : List (List Int)) 0)
def attestorref05_Extend.l1 : Nat → Int → List (List Int) → Int → List (List Int) → Int → Option ((List (List Int)) × Int)
 | 0, _, _, _, _, _ => none
 | k + 1, x0, x1, x2, x9, x10 => if x10 < (x1.length : Int) then (if 0 ≤ x10 then ((attestorref04_Widen.f k x0 (rd_L1 x1 x10) x2).bind fun bt539 => (if bt539.2 = 0 then (if x9.length < 5864062014805 then (attestorref05_Extend.l1 k x0 x1 x2 (x9 ++ [bt539.1]) (wrap64 (x10 + 1))) else (none)) else (some (([] : List (List Int)), bt539.2)))) else (none)) else (some (x9, 0))
end
def attestorref05_Extend.f (k : Nat) (a0 : Int) (l1 : List (List Int)) (a2 : Int) : Option ((List (List Int)) × Int) := (attestorref01_Valid.f a0).bind fun t535 => (if t535 = true then (attestorref05_Extend.l0 k a0 l1 a2 0) else (some (([] : List (List Int)), 1)))
set_option maxHeartbeats 8000000 in
set_option maxRecDepth 100000 in
theorem attestorref05_Extend.calls (k : Nat) (a0 : Int) (A1 : Option Addr) (c1 : Nat) (l1 : List (List Int)) (a2 : Int) (r1 : List (List Int)) (r2 : Int) (w : World) (hr1 : Kd.C (Kd.slice 22 (Kd.int .u64)) w A1 l1.length l1) (hc1 : l1.length ≤ c1) (h : attestorref05_Extend.f k a0 l1 a2 = some (r1, r2)) :
  Calls Tryd.prog 26 #[.int .i64 a0, .slice A1 l1.length c1, .int .i64 a2] w fun e w' => ∃ v0_ : Value, e = .returned (.tuple #[v0_, .int .i64 r2]) ∧ Kd.S (Kd.slice 22 (Kd.int .u64)) 33 w' w.heap.size (fun _ => True) v0_ r1 ∧ Below w.heap.size w w' := by
 have HR1 := ak hr1
 have HC1 := ak hc1
 clear hr1 hc1
 have HB := ak (Below.refl w.heap.size w)
 have H : ((attestorref01_Valid.f a0).bind fun t535 => (if t535 = true then (attestorref05_Extend.l0 k a0 l1 a2 0) else (some (([] : List (List Int)), 1)))) = some (r1, r2) := h
 clear h
 revert H
 refine bd_ fun t535 A4 H => ?_
 by_cases c5 : t535 = true
 ·subst c5
  rw [if_pos rfl] at H
  have H' := ak H
  clear H
  go_enter Tryd.func26, Tryd.ntmps26
  go_wp2_with (first | (go_at_call 52; (with_reducible refine (attestorref01_Valid.calls a0 true _ A4.out).mono ?_); rintro e w' ⟨rfl, ⟨nd, rfl⟩⟩; (try first | exact ⟨rfl, _, World.drewN_drewN _ _ _⟩ | exact ⟨rfl, _, Eq.trans (World.drewN_drewN _ _ _) (congrArg (World.drewN _) (Nat.add_assoc _ _ _))⟩)))
  repeat (go_quiet (first | (go_at_call 52; (with_reducible refine (attestorref01_Valid.calls a0 true _ A4.out).mono ?_); rintro e w' ⟨rfl, ⟨nd, rfl⟩⟩; (try first | exact ⟨rfl, _, World.drewN_drewN _ _ _⟩ | exact ⟨rfl, _, Eq.trans (World.drewN_drewN _ _ _) (congrArg (World.drewN _) (Nat.add_assoc _ _ _))⟩))); try go_wp2_with (first | (go_at_call 52; (with_reducible refine (attestorref01_Valid.calls a0 true _ A4.out).mono ?_); rintro e w' ⟨rfl, ⟨nd, rfl⟩⟩; (try first | exact ⟨rfl, _, World.drewN_drewN _ _ _⟩ | exact ⟨rfl, _, Eq.trans (World.drewN_drewN _ _ _) (congrArg (World.drewN _) (Nat.add_assoc _ _ _))⟩))))
  go_loopg [8] k (fun kq v8 w' => ∃ (x8_1 : Int), v8 = .int .i64 x8_1 ∧ Aside0 (attestorref05_Extend.l0 kq a0 l1 a2 x8_1 = some (r1, r2)) ∧ Aside0 (kq ≤ k) ∧ Aside0 (Below w.heap.size w w'))
  case atStart => exact ⟨(0), gb_, H', ⟨Nat.le_refl _⟩, ⟨bU_ HB.out⟩⟩
  case round =>
   clear H'
   (try clear c1); (try clear c2); (try clear p2); (try clear c5)
   obtain ⟨x8_1, rfl, HA, HK1, HB⟩ := hrel
   cases gk with
   | zero => exact absurd HA.out (by simp [attestorref05_Extend.l0])
   | succ k1 =>
    have H := HA.out
    clear HA
    simp only [attestorref05_Extend.l0] at H
    by_cases c6 : x8_1 < (l1.length : Int)
    ·rw [if_pos c6] at H
     have c6b0 := decide_eq_true c6
     clear c6
     obtain ⟨c7, H⟩ : (0 ≤ x8_1) ∧ _ := it_ H
     have c7b0 := decide_eq_true c7
     clear c7
     obtain ⟨c8, H⟩ : (0 < (l1.length : Int)) ∧ _ := it_ H
     have c8b0 := decide_eq_true c8
     have c8b1 : decide (0 < l1.length) = true := decide_eq_true (by omega)
     clear c8
     by_cases c9 : ((rd_L1 l1 x8_1).length : Int) = ((rd_L1 l1 0).length : Int)
     ·rw [if_pos c9] at H
      have c9b0 := beq_iff_eq.mpr c9
      have c9b1 := bne_eq_false_iff_eq.mpr c9
      have c9b2 : ((rd_L1 l1 x8_1).length == (rd_L1 l1 0).length) = true := by first | simpa using c9 | (simp at c9 ⊢; omega)
      clear c9
      have H' := ak H
      clear H
      have p536 : 0 ≤ (x8_1 : Int) := od_
      have q536 : x8_1 < (l1.length : Int) := od_
      obtain ⟨ad536, A536_0, c536_0, e536, hx536_0, hl536_0, hi536_0⟩ := at_L1 HR1.out x8_1 p536 q536
      cases e536
      replace hx536_0 := (HB.out.cell (World.block_lt_of_cell? w _ hx536_0)).trans hx536_0
      have HR536_0 := ak hi536_0
      have HC536_0 := ak hl536_0
      clear hi536_0 hl536_0
      replace p536 := eq_true p536
      replace q536 := eq_true q536
      have p537 : 0 ≤ (0 : Int) := (by omega)
      have q537 : 0 < (l1.length : Int) := od_
      obtain ⟨ad537, A537_0, c537_0, e537, hx537_0, hl537_0, hi537_0⟩ := at_L1 HR1.out 0 p537 q537
      obtain rfl : ad536 = ad537 := (by injection e537)
      have qi537 : (0 < l1.length) = True := eq_true (by omega)
      (try rw [show ((0 : Int)).toNat = 0 from rfl] at hx537_0)
      (try rw [Addr.add_zero'] at hx537_0)
      replace hx537_0 := (HB.out.cell (World.block_lt_of_cell? w _ hx537_0)).trans hx537_0
      have HR537_0 := ak hi537_0
      have HC537_0 := ak hl537_0
      clear hi537_0 hl537_0
      replace p537 := eq_true p537
      replace q537 := eq_true q537
      go_wp2
      repeat (go_quiet (fail); try go_wp2)
      go_roundg k1
      case measure => have := HK1.out; omega
      case rel => exact ⟨(wrap64 (x8_1 + 1)), gb_, H', ⟨by have := HK1.out; omega⟩, ⟨bU_ HB.out⟩⟩
     ·rw [if_neg c9] at H
      have c9b0 := beq_eq_false_iff_ne.mpr c9
      have c9b1 := bne_iff_ne.mpr c9
      have c9b2 : ((rd_L1 l1 x8_1).length == (rd_L1 l1 0).length) = false := by first | simpa using c9 | (simp at c9 ⊢; omega)
      simp only [Option.some.injEq, Prod.mk.injEq] at H
      obtain ⟨rfl, rfl⟩ := H
      have p536 : 0 ≤ (x8_1 : Int) := od_
      have q536 : x8_1 < (l1.length : Int) := od_
      obtain ⟨ad536, A536_0, c536_0, e536, hx536_0, hl536_0, hi536_0⟩ := at_L1 HR1.out x8_1 p536 q536
      cases e536
      replace hx536_0 := (HB.out.cell (World.block_lt_of_cell? w _ hx536_0)).trans hx536_0
      have HR536_0 := ak hi536_0
      have HC536_0 := ak hl536_0
      clear hi536_0 hl536_0
      replace p536 := eq_true p536
      replace q536 := eq_true q536
      have p537 : 0 ≤ (0 : Int) := (by omega)
      have q537 : 0 < (l1.length : Int) := od_
      obtain ⟨ad537, A537_0, c537_0, e537, hx537_0, hl537_0, hi537_0⟩ := at_L1 HR1.out 0 p537 q537
      obtain rfl : ad536 = ad537 := (by injection e537)
      have qi537 : (0 < l1.length) = True := eq_true (by omega)
      (try rw [show ((0 : Int)).toNat = 0 from rfl] at hx537_0)
      (try rw [Addr.add_zero'] at hx537_0)
      replace hx537_0 := (HB.out.cell (World.block_lt_of_cell? w _ hx537_0)).trans hx537_0
      have HR537_0 := ak hi537_0
      have HC537_0 := ak hl537_0
      clear hi537_0 hl537_0
      replace p537 := eq_true p537
      replace q537 := eq_true q537
      go_wp2
      repeat (go_quiet (fail); try go_wp2)
      go_ret2
      exact ⟨_, by first | rfl | (simp [errW_none, errW_some] <;> rfl) | (simp [*, errW_none, errW_some] <;> rfl), by first | exact Kd.S_nil _ _ _ _ _ | exact Kd.N_nil _ _ _ _ _ | exact Kd.V_nil _ _ _ _ _ | exact Kd.Q_nil _ _ _ _ _ | exact Kd.R_nil _ _ _ _ _, bU_ HB.out⟩
    ·rw [if_neg c6] at H
     have c6b0 := decide_eq_false c6
     clear c6
     have H' := ak H
     clear H
     go_wp2
     repeat (go_quiet (fail); try go_wp2)
     go_loopg [9, 10] k1 (fun kq v9 v10 w' => ∃ (x9_2 : List (List Int)) (x10_2 : Int), v10 = .int .i64 x10_2 ∧ Aside0 (attestorref05_Extend.l1 kq a0 l1 a2 x9_2 x10_2 = some (r1, r2)) ∧ Aside0 (kq ≤ k1) ∧ Aside0 (Kd.S (Kd.slice 22 (Kd.int .u64)) 33 w' w.heap.size (fun _ => True) v9 x9_2) ∧ Aside0 (Below w.heap.size w w'))
     case atStart => exact ⟨(([] : List (List Int))), (0), gb_, H', ⟨Nat.le_refl _⟩, ⟨by first | exact Kd.S_nil _ _ _ _ _ | exact Kd.N_nil _ _ _ _ _ | exact Kd.V_nil _ _ _ _ _ | exact Kd.Q_nil _ _ _ _ _ | exact Kd.R_nil _ _ _ _ _⟩, ⟨bU_ HB.out⟩⟩
     case round =>
      clear H'
      (try clear c1); (try clear c2); (try clear p2); (try clear c5); (try clear p5); (try clear q5); (try clear hx5); (try clear qi5); (try clear c6); (try clear c6b0); (try clear p6); (try clear c7); (try clear c7b0); (try clear c8); (try clear c8b0); (try clear c8b1); (try clear c9); (try clear c9b0); (try clear c9b1); (try clear c9b2); (try clear hx536_0); (try clear hx537_0); (try clear p536); (try clear p537); (try clear q536); (try clear q537)
      obtain ⟨x9_2, x10_2, rfl, HA, HK2, HO_9, HB⟩ := hrel
      cases gk with
      | zero => exact absurd HA.out (by simp [attestorref05_Extend.l1])
      | succ k2 =>
       have H := HA.out
       clear HA
       simp only [attestorref05_Extend.l1] at H
       by_cases c10 : x10_2 < (l1.length : Int)
       ·rw [if_pos c10] at H
        have c10b0 := decide_eq_true c10
        clear c10
        obtain ⟨c11, H⟩ : (0 ≤ x10_2) ∧ _ := it_ H
        have c11b0 := decide_eq_true c11
        clear c11
        revert H
        refine bd2_ fun t539 t540 A12 H => ?_
        try dsimp only at H
        by_cases c13 : t540 = 0
        ·rw [if_pos c13] at H
         have c13b0 := beq_iff_eq.mpr c13
         have c13b1 := bne_eq_false_iff_eq.mpr c13
         clear c13
         obtain ⟨c14, H⟩ : (x9_2.length < 5864062014805) ∧ _ := it_ H
         have LMc14 := ak c14
         clear c14
         obtain ⟨y543, hy543⟩ : ∃ y_ : List (List Int), y_ = (x9_2 ++ [t539]) := ⟨_, rfl⟩
         replace H : (attestorref05_Extend.l1 k2 a0 l1 a2 y543 (wrap64 (x10_2 + 1))) = some (r1, r2) := by first | (rw [hy543]; with_reducible exact H) | (have H2_ := (Option.bind_some _ _).symm.trans H; rw [hy543]; with_reducible exact H2_) | (have H2_ := (Option.bind_some _ _).symm.trans H; with_reducible exact H2_) | with_reducible exact H | (rw [hy543]; exact H) | exact H
         have Ny543 := ak hy543
         clear hy543
         have H' := ak H
         clear H
         have p538 : 0 ≤ (x10_2 : Int) := od_
         have q538 : x10_2 < (l1.length : Int) := od_
         obtain ⟨ad538, A538_0, c538_0, e538, hx538_0, hl538_0, hi538_0⟩ := at_L1 HR1.out x10_2 p538 q538
         cases e538
         replace hx538_0 := (HB.out.cell (World.block_lt_of_cell? w _ hx538_0)).trans hx538_0
         have HR538_0 := ak hi538_0
         have HC538_0 := ak hl538_0
         clear hi538_0 hl538_0
         replace p538 := eq_true p538
         replace q538 := eq_true q538
         go_wp2_with (first | (go_at_call 61; (with_reducible refine (attestorref04_Widen.calls k2 a0 _ _ (rd_L1 l1 x10_2) a2 t539 t540 _ ?side1 ?side2 A12.out).mono ?_); (case side1 => exact cU_ (Kd.C_below HR538_0.out HB.out)); (case side2 => exact HC538_0.out); rintro e w15 ⟨v541, rfl, ho0, hb⟩; refine nx3_ (Kd.S_elder' (by (with_reducible repeat (first | apply Kd.S_alloc | apply Kd.S_drewN | apply Kd.S_drew)); exact HO_9.out) (Kd.R_base ho0) hb) (Kd.R_lower ho0 (below_size (bU_ HB.out))) (below_step (bU_ HB.out) hb) ?_; clear HO_9 HB; intro HO_9 HO542 HB; clear hb ho0; obtain ⟨Ao17, co17, eo17⟩ := Kd.R_slice HO542.out; subst eo17) | ((with_reducible refine gate_builtin (b := .append) (xs := #[.tmp 51, .tmp 53]) rfl ?_); at_builtin; refine Kd.S_append (Kd.slice 22 (Kd.int .u64)) (w0 := w) w.heap.size rfl (.tmp 51) (.tmp 53) 37 33 (.slice none 0 0) 24 rfl Tryd.underlying37 info33 rfl (by decide) (by omega) u9 x9_2 t539 [.slice Ao17 t539.length co17] (fun _ => True) (fun k_ => some k_ = (.slice Ao17 t539.length co17 : Value).ownBlock) rfl rfl ?aP (fun k_ hk_ => ((Kd.R_mono (ok' := fun k_ => ((fun _ => True)) k_ ∧ some k_ ≠ (u9 : Value).ownBlock) (Kd.R_apart' (HO542.out) (Kd.S_typed HO_9.out) (by decide)) (fun k_ hk => ⟨trivial, hk.2⟩))).1 k_ hk_.symm) ?aF ?aO ?aB ?aS ?aL ?_; (case aP => exact Kd.M_row (Kd.R_mono (Kd.R_tight rfl (Kd.R_mono (ok' := fun k_ => ((fun _ => True)) k_ ∧ some k_ ≠ (u9 : Value).ownBlock) (Kd.R_apart' (HO542.out) (Kd.S_typed HO_9.out) (by decide)) (fun k_ hk => ⟨trivial, hk.2⟩))) (fun _ h_ => h_))); (case aB => exact (bU_ HB.out)); (case aF => exact (fun _ _ => trivial)); (case aO => exact (by (with_reducible repeat (first | apply Kd.S_alloc | apply Kd.S_drewN | apply Kd.S_drew)); exact Kd.S_mono HO_9.out (fun k_ hk => ⟨trivial, fun e_ => hk.2 e_⟩))); (case aS => exact (below_size (bU_ HB.out))); (case aL => have := LMc14.out; omega); intro v544 w16 ho hb hg hat; rw [← Ny543.out] at ho; refine nx2_ (hb) (ho) ?_; clear HB HO_9 HO542; intro HB HO545; clear ho hb hg hat))
         repeat (go_quiet (first | (go_at_call 61; (with_reducible refine (attestorref04_Widen.calls k2 a0 _ _ (rd_L1 l1 x10_2) a2 t539 t540 _ ?side1 ?side2 A12.out).mono ?_); (case side1 => exact cU_ (Kd.C_below HR538_0.out HB.out)); (case side2 => exact HC538_0.out); rintro e w15 ⟨v541, rfl, ho0, hb⟩; refine nx3_ (Kd.S_elder' (by (with_reducible repeat (first | apply Kd.S_alloc | apply Kd.S_drewN | apply Kd.S_drew)); exact HO_9.out) (Kd.R_base ho0) hb) (Kd.R_lower ho0 (below_size (bU_ HB.out))) (below_step (bU_ HB.out) hb) ?_; clear HO_9 HB; intro HO_9 HO542 HB; clear hb ho0; obtain ⟨Ao17, co17, eo17⟩ := Kd.R_slice HO542.out; subst eo17) | ((with_reducible refine gate_builtin (b := .append) (xs := #[.tmp 51, .tmp 53]) rfl ?_); at_builtin; refine Kd.S_append (Kd.slice 22 (Kd.int .u64)) (w0 := w) w.heap.size rfl (.tmp 51) (.tmp 53) 37 33 (.slice none 0 0) 24 rfl Tryd.underlying37 info33 rfl (by decide) (by omega) u9 x9_2 t539 [.slice Ao17 t539.length co17] (fun _ => True) (fun k_ => some k_ = (.slice Ao17 t539.length co17 : Value).ownBlock) rfl rfl ?aP (fun k_ hk_ => ((Kd.R_mono (ok' := fun k_ => ((fun _ => True)) k_ ∧ some k_ ≠ (u9 : Value).ownBlock) (Kd.R_apart' (HO542.out) (Kd.S_typed HO_9.out) (by decide)) (fun k_ hk => ⟨trivial, hk.2⟩))).1 k_ hk_.symm) ?aF ?aO ?aB ?aS ?aL ?_; (case aP => exact Kd.M_row (Kd.R_mono (Kd.R_tight rfl (Kd.R_mono (ok' := fun k_ => ((fun _ => True)) k_ ∧ some k_ ≠ (u9 : Value).ownBlock) (Kd.R_apart' (HO542.out) (Kd.S_typed HO_9.out) (by decide)) (fun k_ hk => ⟨trivial, hk.2⟩))) (fun _ h_ => h_))); (case aB => exact (bU_ HB.out)); (case aF => exact (fun _ _ => trivial)); (case aO => exact (by (with_reducible repeat (first | apply Kd.S_alloc | apply Kd.S_drewN | apply Kd.S_drew)); exact Kd.S_mono HO_9.out (fun k_ hk => ⟨trivial, fun e_ => hk.2 e_⟩))); (case aS => exact (below_size (bU_ HB.out))); (case aL => have := LMc14.out; omega); intro v544 w16 ho hb hg hat; rw [← Ny543.out] at ho; refine nx2_ (hb) (ho) ?_; clear HB HO_9 HO542; intro HB HO545; clear ho hb hg hat)); try go_wp2_with (first | (go_at_call 61; (with_reducible refine (attestorref04_Widen.calls k2 a0 _ _ (rd_L1 l1 x10_2) a2 t539 t540 _ ?side1 ?side2 A12.out).mono ?_); (case side1 => exact cU_ (Kd.C_below HR538_0.out HB.out)); (case side2 => exact HC538_0.out); rintro e w15 ⟨v541, rfl, ho0, hb⟩; refine nx3_ (Kd.S_elder' (by (with_reducible repeat (first | apply Kd.S_alloc | apply Kd.S_drewN | apply Kd.S_drew)); exact HO_9.out) (Kd.R_base ho0) hb) (Kd.R_lower ho0 (below_size (bU_ HB.out))) (below_step (bU_ HB.out) hb) ?_; clear HO_9 HB; intro HO_9 HO542 HB; clear hb ho0; obtain ⟨Ao17, co17, eo17⟩ := Kd.R_slice HO542.out; subst eo17) | ((with_reducible refine gate_builtin (b := .append) (xs := #[.tmp 51, .tmp 53]) rfl ?_); at_builtin; refine Kd.S_append (Kd.slice 22 (Kd.int .u64)) (w0 := w) w.heap.size rfl (.tmp 51) (.tmp 53) 37 33 (.slice none 0 0) 24 rfl Tryd.underlying37 info33 rfl (by decide) (by omega) u9 x9_2 t539 [.slice Ao17 t539.length co17] (fun _ => True) (fun k_ => some k_ = (.slice Ao17 t539.length co17 : Value).ownBlock) rfl rfl ?aP (fun k_ hk_ => ((Kd.R_mono (ok' := fun k_ => ((fun _ => True)) k_ ∧ some k_ ≠ (u9 : Value).ownBlock) (Kd.R_apart' (HO542.out) (Kd.S_typed HO_9.out) (by decide)) (fun k_ hk => ⟨trivial, hk.2⟩))).1 k_ hk_.symm) ?aF ?aO ?aB ?aS ?aL ?_; (case aP => exact Kd.M_row (Kd.R_mono (Kd.R_tight rfl (Kd.R_mono (ok' := fun k_ => ((fun _ => True)) k_ ∧ some k_ ≠ (u9 : Value).ownBlock) (Kd.R_apart' (HO542.out) (Kd.S_typed HO_9.out) (by decide)) (fun k_ hk => ⟨trivial, hk.2⟩))) (fun _ h_ => h_))); (case aB => exact (bU_ HB.out)); (case aF => exact (fun _ _ => trivial)); (case aO => exact (by (with_reducible repeat (first | apply Kd.S_alloc | apply Kd.S_drewN | apply Kd.S_drew)); exact Kd.S_mono HO_9.out (fun k_ hk => ⟨trivial, fun e_ => hk.2 e_⟩))); (case aS => exact (below_size (bU_ HB.out))); (case aL => have := LMc14.out; omega); intro v544 w16 ho hb hg hat; rw [← Ny543.out] at ho; refine nx2_ (hb) (ho) ?_; clear HB HO_9 HO542; intro HB HO545; clear ho hb hg hat)))
         go_roundg k2
         case measure => have := HK1.out; have := HK2.out; omega
         case rel => exact ⟨(y543), (wrap64 (x10_2 + 1)), gb_, H', ⟨by have := HK1.out; have := HK2.out; omega⟩, ⟨by (with_reducible repeat (first | apply Kd.S_alloc | apply Kd.S_drewN | apply Kd.S_drew)); exact HO545.out⟩, ⟨bU_ HB.out⟩⟩
        ·rw [if_neg c13] at H
         have c13b0 := beq_eq_false_iff_ne.mpr c13
         have c13b1 := bne_iff_ne.mpr c13
         simp only [Option.some.injEq, Prod.mk.injEq] at H
         obtain ⟨rfl, rfl⟩ := H
         have p538 : 0 ≤ (x10_2 : Int) := od_
         have q538 : x10_2 < (l1.length : Int) := od_
         obtain ⟨ad538, A538_0, c538_0, e538, hx538_0, hl538_0, hi538_0⟩ := at_L1 HR1.out x10_2 p538 q538
         cases e538
         replace hx538_0 := (HB.out.cell (World.block_lt_of_cell? w _ hx538_0)).trans hx538_0
         have HR538_0 := ak hi538_0
         have HC538_0 := ak hl538_0
         clear hi538_0 hl538_0
         replace p538 := eq_true p538
         replace q538 := eq_true q538
         go_wp2_with (first | (go_at_call 61; (with_reducible refine (attestorref04_Widen.calls k2 a0 _ _ (rd_L1 l1 x10_2) a2 t539 t540 _ ?side1 ?side2 A12.out).mono ?_); (case side1 => exact cU_ (Kd.C_below HR538_0.out HB.out)); (case side2 => exact HC538_0.out); rintro e w18 ⟨v541, rfl, ho0, hb⟩; refine nx3_ (Kd.S_elder' (by (with_reducible repeat (first | apply Kd.S_alloc | apply Kd.S_drewN | apply Kd.S_drew)); exact HO_9.out) (Kd.R_base ho0) hb) (Kd.R_lower ho0 (below_size (bU_ HB.out))) (below_step (bU_ HB.out) hb) ?_; clear HO_9 HB; intro HO_9 HO542 HB; clear hb ho0))
         repeat (go_quiet (first | (go_at_call 61; (with_reducible refine (attestorref04_Widen.calls k2 a0 _ _ (rd_L1 l1 x10_2) a2 t539 t540 _ ?side1 ?side2 A12.out).mono ?_); (case side1 => exact cU_ (Kd.C_below HR538_0.out HB.out)); (case side2 => exact HC538_0.out); rintro e w18 ⟨v541, rfl, ho0, hb⟩; refine nx3_ (Kd.S_elder' (by (with_reducible repeat (first | apply Kd.S_alloc | apply Kd.S_drewN | apply Kd.S_drew)); exact HO_9.out) (Kd.R_base ho0) hb) (Kd.R_lower ho0 (below_size (bU_ HB.out))) (below_step (bU_ HB.out) hb) ?_; clear HO_9 HB; intro HO_9 HO542 HB; clear hb ho0)); try go_wp2_with (first | (go_at_call 61; (with_reducible refine (attestorref04_Widen.calls k2 a0 _ _ (rd_L1 l1 x10_2) a2 t539 t540 _ ?side1 ?side2 A12.out).mono ?_); (case side1 => exact cU_ (Kd.C_below HR538_0.out HB.out)); (case side2 => exact HC538_0.out); rintro e w18 ⟨v541, rfl, ho0, hb⟩; refine nx3_ (Kd.S_elder' (by (with_reducible repeat (first | apply Kd.S_alloc | apply Kd.S_drewN | apply Kd.S_drew)); exact HO_9.out) (Kd.R_base ho0) hb) (Kd.R_lower ho0 (below_size (bU_ HB.out))) (below_step (bU_ HB.out) hb) ?_; clear HO_9 HB; intro HO_9 HO542 HB; clear hb ho0)))
         go_ret2
         exact ⟨_, by first | rfl | (simp [errW_none, errW_some] <;> rfl) | (simp [*, errW_none, errW_some] <;> rfl), by first | exact Kd.S_nil _ _ _ _ _ | exact Kd.N_nil _ _ _ _ _ | exact Kd.V_nil _ _ _ _ _ | exact Kd.Q_nil _ _ _ _ _ | exact Kd.R_nil _ _ _ _ _, bU_ HB.out⟩
       ·rw [if_neg c10] at H
        have c10b0 := decide_eq_false c10
        clear c10
        simp only [Option.some.injEq, Prod.mk.injEq] at H
        obtain ⟨rfl, rfl⟩ := H
        go_wp2
        repeat (go_quiet (fail); try go_wp2)
        go_ret2
        exact ⟨_, by first | rfl | (simp [errW_none, errW_some] <;> rfl) | (simp [*, errW_none, errW_some] <;> rfl), by (with_reducible repeat (first | apply Kd.S_alloc | apply Kd.S_drewN | apply Kd.S_drew)); exact HO_9.out, bU_ HB.out⟩
 ·replace c5 := Bool.eq_false_iff.mpr c5
  subst c5
  rw [if_neg (show ¬ (false = true) by decide)] at H
  simp only [Option.some.injEq, Prod.mk.injEq] at H
  obtain ⟨rfl, rfl⟩ := H
  go_enter Tryd.func26, Tryd.ntmps26
  go_wp2_with (first | (go_at_call 52; (with_reducible refine (attestorref01_Valid.calls a0 false _ A4.out).mono ?_); rintro e w' ⟨rfl, ⟨nd, rfl⟩⟩; (try first | exact ⟨rfl, _, World.drewN_drewN _ _ _⟩ | exact ⟨rfl, _, Eq.trans (World.drewN_drewN _ _ _) (congrArg (World.drewN _) (Nat.add_assoc _ _ _))⟩)))
  repeat (go_quiet (first | (go_at_call 52; (with_reducible refine (attestorref01_Valid.calls a0 false _ A4.out).mono ?_); rintro e w' ⟨rfl, ⟨nd, rfl⟩⟩; (try first | exact ⟨rfl, _, World.drewN_drewN _ _ _⟩ | exact ⟨rfl, _, Eq.trans (World.drewN_drewN _ _ _) (congrArg (World.drewN _) (Nat.add_assoc _ _ _))⟩))); try go_wp2_with (first | (go_at_call 52; (with_reducible refine (attestorref01_Valid.calls a0 false _ A4.out).mono ?_); rintro e w' ⟨rfl, ⟨nd, rfl⟩⟩; (try first | exact ⟨rfl, _, World.drewN_drewN _ _ _⟩ | exact ⟨rfl, _, Eq.trans (World.drewN_drewN _ _ _) (congrArg (World.drewN _) (Nat.add_assoc _ _ _))⟩))))
  go_ret2
  exact ⟨_, by first | rfl | (simp [errW_none, errW_some] <;> rfl) | (simp [*, errW_none, errW_some] <;> rfl), by first | exact Kd.S_nil _ _ _ _ _ | exact Kd.N_nil _ _ _ _ _ | exact Kd.V_nil _ _ _ _ _ | exact Kd.Q_nil _ _ _ _ _ | exact Kd.R_nil _ _ _ _ _, bU_ HB.out⟩

/-! ### attestorref03_SameLists: function 27 -/
def attestorref03_SameLists.l0 : Nat → List (List Int) → List (List Int) → Int → Option (Bool)
 | 0, _, _, _ => none
 | k + 1, x0, x1, x5 => if x5 < (x0.length : Int) then (if 0 ≤ x5 then (if x5 < (x1.length : Int) then ((attestorref01_Same.f k (rd_L1 x0 x5) (rd_L1 x1 x5)).bind fun t548 => (if t548 = true then (attestorref03_SameLists.l0 k x0 x1 (wrap64 (x5 + 1))) else (some false))) else (none)) else (none)) else (some true)
def attestorref03_SameLists.f (k : Nat) (l0 : List (List Int)) (l1 : List (List Int)) : Option (Bool) := if (l0.length : Int) = (l1.length : Int) then (attestorref03_SameLists.l0 k l0 l1 0) else (some false)
set_option maxHeartbeats 8000000 in
set_option maxRecDepth 100000 in
theorem attestorref03_SameLists.calls (k : Nat) (A0 : Option Addr) (c0 : Nat) (l0 : List (List Int)) (A1 : Option Addr) (c1 : Nat) (l1 : List (List Int)) (r : Bool) (w : World) (hr0 : Kd.C (Kd.slice 22 (Kd.int .u64)) w A0 l0.length l0) (hc0 : l0.length ≤ c0) (hr1 : Kd.C (Kd.slice 22 (Kd.int .u64)) w A1 l1.length l1) (hc1 : l1.length ≤ c1) (h : attestorref03_SameLists.f k l0 l1 = some r) :
  Calls Tryd.prog 27 #[.slice A0 l0.length c0, .slice A1 l1.length c1] w fun e w' => e = .returned (.bool r) ∧ Drawn0 w w' := by
 have HR0 := ak hr0
 have HC0 := ak hc0
 clear hr0 hc0
 have HR1 := ak hr1
 have HC1 := ak hc1
 clear hr1 hc1
 have H : (if (l0.length : Int) = (l1.length : Int) then (attestorref03_SameLists.l0 k l0 l1 0) else (some false)) = some r := h
 clear h
 by_cases c3 : (l0.length : Int) = (l1.length : Int)
 ·rw [if_pos c3] at H
  have c3b0 := beq_iff_eq.mpr c3
  have c3b1 := bne_eq_false_iff_eq.mpr c3
  have c3b2 : (l0.length == l1.length) = true := by first | simpa using c3 | (simp at c3 ⊢; omega)
  clear c3
  have H' := ak H
  clear H
  go_enter Tryd.func27, Tryd.ntmps27
  go_wp2
  repeat (go_quiet (fail); try go_wp2)
  go_loopg [5] k (fun kq v5 w' => ∃ (x5_1 : Int), v5 = .int .i64 x5_1 ∧ Aside0 (attestorref03_SameLists.l0 kq l0 l1 x5_1 = some r) ∧ Aside0 (kq ≤ k) ∧ Drawn0 w w')
  case atStart => exact ⟨(0), gb_, H', ⟨Nat.le_refl _⟩, by repeat (first | exact Drawn0.refl _ | apply Drawn0.step)⟩
  case round =>
   clear H'
   (try clear c1); (try clear c2); (try clear p2); (try clear c3); (try clear c3b0); (try clear c3b1); (try clear c3b2)
   obtain ⟨x5_1, rfl, HA, HK1, ⟨m1, rfl⟩⟩ := hrel
   cases gk with
   | zero => exact absurd HA.out (by simp [attestorref03_SameLists.l0])
   | succ k1 =>
    have H := HA.out
    clear HA
    simp only [attestorref03_SameLists.l0] at H
    by_cases c4 : x5_1 < (l0.length : Int)
    ·rw [if_pos c4] at H
     have c4b0 := decide_eq_true c4
     clear c4
     obtain ⟨c5, H⟩ : (0 ≤ x5_1) ∧ _ := it_ H
     have c5b0 := decide_eq_true c5
     clear c5
     obtain ⟨c6, H⟩ : (x5_1 < (l1.length : Int)) ∧ _ := it_ H
     have c6b0 := decide_eq_true c6
     clear c6
     revert H
     refine bd_ fun t548 A7 H => ?_
     by_cases c8 : t548 = true
     ·subst c8
      rw [if_pos rfl] at H
      have H' := ak H
      clear H
      have p546 : 0 ≤ (x5_1 : Int) := od_
      have q546 : x5_1 < (l0.length : Int) := od_
      obtain ⟨ad546, A546_0, c546_0, e546, hx546_0, hl546_0, hi546_0⟩ := at_L1 HR0.out x5_1 p546 q546
      cases e546
      have HR546_0 := ak hi546_0
      have HC546_0 := ak hl546_0
      clear hi546_0 hl546_0
      replace p546 := eq_true p546
      replace q546 := eq_true q546
      have p547 : 0 ≤ (x5_1 : Int) := od_
      have q547 : x5_1 < (l1.length : Int) := od_
      obtain ⟨ad547, A547_0, c547_0, e547, hx547_0, hl547_0, hi547_0⟩ := at_L1 HR1.out x5_1 p547 q547
      cases e547
      have HR547_0 := ak hi547_0
      have HC547_0 := ak hl547_0
      clear hi547_0 hl547_0
      replace p547 := eq_true p547
      replace q547 := eq_true q547
      go_wp2_with (first | (go_at_call 20; (with_reducible refine (attestorref01_Same.calls k1 _ _ (rd_L1 l0 x5_1) _ _ (rd_L1 l1 x5_1) true _ ?side1 ?side2 ?side3 ?side4 A7.out).mono ?_); (case side1 => exact cU_ HR546_0.out); (case side2 => exact HC546_0.out); (case side3 => exact cU_ HR547_0.out); (case side4 => exact HC547_0.out); rintro e w' ⟨rfl, ⟨nd, rfl⟩⟩; (try first | exact ⟨rfl, _, World.drewN_drewN _ _ _⟩ | exact ⟨rfl, _, Eq.trans (World.drewN_drewN _ _ _) (congrArg (World.drewN _) (Nat.add_assoc _ _ _))⟩)))
      repeat (go_quiet (first | (go_at_call 20; (with_reducible refine (attestorref01_Same.calls k1 _ _ (rd_L1 l0 x5_1) _ _ (rd_L1 l1 x5_1) true _ ?side1 ?side2 ?side3 ?side4 A7.out).mono ?_); (case side1 => exact cU_ HR546_0.out); (case side2 => exact HC546_0.out); (case side3 => exact cU_ HR547_0.out); (case side4 => exact HC547_0.out); rintro e w' ⟨rfl, ⟨nd, rfl⟩⟩; (try first | exact ⟨rfl, _, World.drewN_drewN _ _ _⟩ | exact ⟨rfl, _, Eq.trans (World.drewN_drewN _ _ _) (congrArg (World.drewN _) (Nat.add_assoc _ _ _))⟩))); try go_wp2_with (first | (go_at_call 20; (with_reducible refine (attestorref01_Same.calls k1 _ _ (rd_L1 l0 x5_1) _ _ (rd_L1 l1 x5_1) true _ ?side1 ?side2 ?side3 ?side4 A7.out).mono ?_); (case side1 => exact cU_ HR546_0.out); (case side2 => exact HC546_0.out); (case side3 => exact cU_ HR547_0.out); (case side4 => exact HC547_0.out); rintro e w' ⟨rfl, ⟨nd, rfl⟩⟩; (try first | exact ⟨rfl, _, World.drewN_drewN _ _ _⟩ | exact ⟨rfl, _, Eq.trans (World.drewN_drewN _ _ _) (congrArg (World.drewN _) (Nat.add_assoc _ _ _))⟩))))
      go_roundg k1
      case measure => have := HK1.out; omega
      case rel => exact ⟨(wrap64 (x5_1 + 1)), gb_, H', ⟨by have := HK1.out; omega⟩, by repeat (first | exact Drawn0.refl _ | apply Drawn0.step)⟩
     ·replace c8 := Bool.eq_false_iff.mpr c8
      subst c8
      rw [if_neg (show ¬ (false = true) by decide)] at H
      obtain rfl := Option.some.inj H
      have p546 : 0 ≤ (x5_1 : Int) := od_
      have q546 : x5_1 < (l0.length : Int) := od_
      obtain ⟨ad546, A546_0, c546_0, e546, hx546_0, hl546_0, hi546_0⟩ := at_L1 HR0.out x5_1 p546 q546
      cases e546
      have HR546_0 := ak hi546_0
      have HC546_0 := ak hl546_0
      clear hi546_0 hl546_0
      replace p546 := eq_true p546
      replace q546 := eq_true q546
      have p547 : 0 ≤ (x5_1 : Int) := od_
      have q547 : x5_1 < (l1.length : Int) := od_
      obtain ⟨ad547, A547_0, c547_0, e547, hx547_0, hl547_0, hi547_0⟩ := at_L1 HR1.out x5_1 p547 q547
      cases e547
      have HR547_0 := ak hi547_0
      have HC547_0 := ak hl547_0
      clear hi547_0 hl547_0
      replace p547 := eq_true p547
      replace q547 := eq_true q547
      go_wp2_with (first | (go_at_call 20; (with_reducible refine (attestorref01_Same.calls k1 _ _ (rd_L1 l0 x5_1) _ _ (rd_L1 l1 x5_1) false _ ?side1 ?side2 ?side3 ?side4 A7.out).mono ?_); (case side1 => exact cU_ HR546_0.out); (case side2 => exact HC546_0.out); (case side3 => exact cU_ HR547_0.out); (case side4 => exact HC547_0.out); rintro e w' ⟨rfl, ⟨nd, rfl⟩⟩; (try first | exact ⟨rfl, _, World.drewN_drewN _ _ _⟩ | exact ⟨rfl, _, Eq.trans (World.drewN_drewN _ _ _) (congrArg (World.drewN _) (Nat.add_assoc _ _ _))⟩)))
      repeat (go_quiet (first | (go_at_call 20; (with_reducible refine (attestorref01_Same.calls k1 _ _ (rd_L1 l0 x5_1) _ _ (rd_L1 l1 x5_1) false _ ?side1 ?side2 ?side3 ?side4 A7.out).mono ?_); (case side1 => exact cU_ HR546_0.out); (case side2 => exact HC546_0.out); (case side3 => exact cU_ HR547_0.out); (case side4 => exact HC547_0.out); rintro e w' ⟨rfl, ⟨nd, rfl⟩⟩; (try first | exact ⟨rfl, _, World.drewN_drewN _ _ _⟩ | exact ⟨rfl, _, Eq.trans (World.drewN_drewN _ _ _) (congrArg (World.drewN _) (Nat.add_assoc _ _ _))⟩))); try go_wp2_with (first | (go_at_call 20; (with_reducible refine (attestorref01_Same.calls k1 _ _ (rd_L1 l0 x5_1) _ _ (rd_L1 l1 x5_1) false _ ?side1 ?side2 ?side3 ?side4 A7.out).mono ?_); (case side1 => exact cU_ HR546_0.out); (case side2 => exact HC546_0.out); (case side3 => exact cU_ HR547_0.out); (case side4 => exact HC547_0.out); rintro e w' ⟨rfl, ⟨nd, rfl⟩⟩; (try first | exact ⟨rfl, _, World.drewN_drewN _ _ _⟩ | exact ⟨rfl, _, Eq.trans (World.drewN_drewN _ _ _) (congrArg (World.drewN _) (Nat.add_assoc _ _ _))⟩))))
      go_ret
      exact ⟨by first | rfl | (simp; done) | (simp [*]; done), by repeat (first | exact Drawn0.refl _ | apply Drawn0.step)⟩
    ·rw [if_neg c4] at H
     have c4b0 := decide_eq_false c4
     clear c4
     obtain rfl := Option.some.inj H
     go_wp2
     repeat (go_quiet (fail); try go_wp2)
     go_ret
     exact ⟨by first | rfl | (simp; done) | (simp [*]; done), by repeat (first | exact Drawn0.refl _ | apply Drawn0.step)⟩
 ·rw [if_neg c3] at H
  have c3b0 := beq_eq_false_iff_ne.mpr c3
  have c3b1 := bne_iff_ne.mpr c3
  have c3b2 : (l0.length == l1.length) = false := by first | simpa using c3 | (simp at c3 ⊢; omega)
  obtain rfl := Option.some.inj H
  go_enter Tryd.func27, Tryd.ntmps27
  go_wp2
  repeat (go_quiet (fail); try go_wp2)
  go_ret
  exact ⟨by first | rfl | (simp; done) | (simp [*]; done), by repeat (first | exact Drawn0.refl _ | apply Drawn0.step)⟩

/-! ### attestorlaw05_CodeExtends: function 4 -/
mutual
def attestorlaw05_CodeExtends.j0 : Nat → Int → List (List Int) → Int → List (List Int) → Option (Bool)
 | 0, _, _, _, _ => none
 | k + 1, x0, x1, x2, x7 => (code_Extend.f k x0 x1 x2).bind fun bt555 => ((attestorref05_Extend.f k x0 x7 x2).bind fun bt559 => (if bt555.2 = bt559.2 then ((attestorref03_SameLists.f k bt555.1 bt559.1).bind fun t563 => (if t563 = true then ((attestorref03_SameLists.f k x1 x7).bind fun t564 => (if t564 = true then ((attestorlaw05_works.f k).bind fun t565 => (some t565)) else (none))) else (none))) else (none)))
def attestorlaw05_CodeExtends.j1 : Nat → Int → List (List Int) → Int → List (List Int) → Option (Bool)
 | 0, _, _, _, _ => none
 | k + 1, x0, x1, x2, x7 => (code_Extend.f k x0 x1 x2).bind fun bt566 => ((attestorref05_Extend.f k x0 x7 x2).bind fun bt570 => (if bt566.2 = bt570.2 then ((attestorref03_SameLists.f k bt566.1 bt570.1).bind fun t574 => (if t574 = true then ((attestorref03_SameLists.f k x1 x7).bind fun t575 => (if t575 = true then ((attestorlaw05_works.f k).bind fun t576 => (some t576)) else (none))) else (none))) else (none)))
end
def attestorlaw05_CodeExtends.f (k : Nat) (a0 : Int) (l1 : List (List Int)) (a2 : Int) : Option (Bool) := (attestorlaw05_columns.f k l1 5 16).bind fun t549 => ((attestorlaw05_columns.f k t549 5 16).bind fun t552 => (if a2 > 2 then (if a2 ≤ 18 then (attestorlaw05_CodeExtends.j0 k a0 t549 (Int.tmod a2 3) t552) else (attestorlaw05_CodeExtends.j0 k a0 t549 a2 t552)) else (attestorlaw05_CodeExtends.j1 k a0 t549 a2 t552)))
set_option maxHeartbeats 8000000 in
set_option maxRecDepth 100000 in
theorem attestorlaw05_CodeExtends.calls (k : Nat) (a0 : Int) (A1 : Option Addr) (c1 : Nat) (l1 : List (List Int)) (a2 : Int) (r : Bool) (w : World) (hG : Fld w) (hr1 : Kd.C (Kd.slice 22 (Kd.int .u64)) w A1 l1.length l1) (hc1 : l1.length ≤ c1) (h : attestorlaw05_CodeExtends.f k a0 l1 a2 = some r) :
  Calls Tryd.prog 4 #[.int .i64 a0, .slice A1 l1.length c1, .int .i64 a2] w fun e w' => e = .returned (.bool r) ∧ Below w.heap.size w w' := by
 have HG := ak hG
 clear hG
 have HR1 := ak hr1
 have HC1 := ak hc1
 clear hr1 hc1
 have HB := ak (Below.refl w.heap.size w)
 have H : ((attestorlaw05_columns.f k l1 5 16).bind fun t549 => ((attestorlaw05_columns.f k t549 5 16).bind fun t552 => (if a2 > 2 then (if a2 ≤ 18 then (attestorlaw05_CodeExtends.j0 k a0 t549 (Int.tmod a2 3) t552) else (attestorlaw05_CodeExtends.j0 k a0 t549 a2 t552)) else (attestorlaw05_CodeExtends.j1 k a0 t549 a2 t552)))) = some r := h
 clear h
 revert H
 refine bd_ fun t549 A4 H => ?_
 revert H
 refine bd_ fun t552 A5 H => ?_
 by_cases c6 : a2 > 2
 ·rw [if_pos c6] at H
  have c6b0 : decide (2 < a2) = true := decide_eq_true c6
  clear c6
  have HC7 := ak H
  clear H
  go_enter Tryd.func4, Tryd.ntmps4
  go_upto_if 21 with (first | ((with_reducible refine gate_callee (f := 24) rfl ?_); refine gl_ (some 13) Tryd.func24 #[.slice A1 l1.length c1, .int .i64 5, .int .i64 16] ?_; (with_reducible refine (attestorlaw05_columns.calls k _ _ l1 5 16 t549 _ ?side1 ?side2 A4.out).mono ?_); (case side1 => exact cU_ HR1.out); (case side2 => exact HC1.out); rintro e w8 ⟨v550, rfl, ho0, hb⟩; refine ⟨_, rfl, ?_⟩; refine nx2_ (Kd.S_lower ho0 (below_size (bU_ HB.out))) (below_step (bU_ HB.out) hb) ?_; clear HB; intro HO551 HB; clear hb ho0; obtain ⟨Ao9, co9, eo9⟩ := Kd.S_slice HO551.out; subst eo9) | ((with_reducible refine gate_callee (f := 24) rfl ?_); refine gl_ (some 15) Tryd.func24 #[.slice Ao9 t549.length co9, .int .i64 5, .int .i64 16] ?_; (with_reducible refine (attestorlaw05_columns.calls k _ _ t549 5 16 t552 _ ?side1 ?side2 A5.out).mono ?_); (case side1 => exact cU_ ((Kd.S_reads' HO551.out).2.2)); (case side2 => exact (Kd.S_reads' HO551.out).2.1); rintro e w10 ⟨v553, rfl, ho0, hb⟩; refine ⟨_, rfl, ?_⟩; refine nx3_ (Kd.S_elder' (by (with_reducible repeat (first | apply Kd.S_alloc | apply Kd.S_drewN | apply Kd.S_drew)); exact HO551.out) (Kd.S_base ho0) hb) (Kd.S_lower (Kd.S_new' ho0 (Kd.S_lt (by (with_reducible repeat (first | apply Kd.S_alloc | apply Kd.S_drewN | apply Kd.S_drew)); exact HO551.out))) (below_size (bU_ HB.out))) (below_step (bU_ HB.out) hb) ?_; clear HO551 HB; intro HO551 HO554 HB; clear hb ho0))
  (try simp only [Act.put, s1_, s2_, s3_])
  go_cut [2] (fun v2 wc => ∃ (kq : Nat) (x2_6 : Int), v2 = .int .i64 x2_6 ∧ Aside0 (attestorlaw05_CodeExtends.j0 kq a0 t549 x2_6 t552 = some r) ∧ Aside0 (kq ≤ k) ∧ Aside0 (Kd.S (Kd.slice 22 (Kd.int .u64)) 33 wc w.heap.size (fun k_ => some k_ ≠ (v553 : Value).ownBlock) (.slice Ao9 t549.length co9) t549) ∧ Aside0 (Kd.S (Kd.slice 22 (Kd.int .u64)) 33 wc w.heap.size (fun k_ => some k_ ≠ ((.slice Ao9 t549.length co9) : Value).ownBlock) v553 t552) ∧ Aside0 (Below w.heap.size w wc))
  case first =>
   have H := HC7.out
   clear HC7
   by_cases c11 : a2 ≤ 18
   ·rw [if_pos c11] at H
    have c11b0 := decide_eq_true c11
    clear c11
    (first | rw [c11b0] | (simp only [i64_w, i32_w]; rw [c11b0]) | rw [c11b1] | skip)
    have H' := ak H
    clear H
    go_wp2
    go_meet
    case rel => exact ⟨_, (Int.tmod a2 3), gb_, H', ⟨by first | omega | exact Nat.le_refl _⟩, ⟨by (with_reducible repeat (first | apply Kd.S_alloc | apply Kd.S_drewN | apply Kd.S_drew)); exact Kd.S_mono HO551.out (fun _ hk => hk.2)⟩, ⟨by (with_reducible repeat (first | apply Kd.S_alloc | apply Kd.S_drewN | apply Kd.S_drew)); exact Kd.S_mono HO554.out (fun _ hk => hk.2)⟩, ⟨bU_ HB.out⟩⟩
   ·rw [if_neg c11] at H
    have c11b0 := decide_eq_false c11
    clear c11
    (first | rw [c11b0] | (simp only [i64_w, i32_w]; rw [c11b0]) | rw [c11b1] | skip)
    have H' := ak H
    clear H
    go_wp2
    go_meet
    case rel => exact ⟨_, (a2), gb_, H', ⟨by first | omega | exact Nat.le_refl _⟩, ⟨by (with_reducible repeat (first | apply Kd.S_alloc | apply Kd.S_drewN | apply Kd.S_drew)); exact Kd.S_mono HO551.out (fun _ hk => hk.2)⟩, ⟨by (with_reducible repeat (first | apply Kd.S_alloc | apply Kd.S_drewN | apply Kd.S_drew)); exact Kd.S_mono HO554.out (fun _ hk => hk.2)⟩, ⟨bU_ HB.out⟩⟩
  case rest =>
   clear HC7
   (try clear c1); (try clear c2); (try clear p2); (try clear c4); (try clear c6); (try clear c6b0); (try clear c11); (try clear c11b0); (try clear c11b1)
   obtain ⟨kq, x2_6, rfl, HA, HJ6, HO_1, HO_7, HB⟩ := hcut
   cases kq with
   | zero => exact absurd HA.out (by simp [attestorlaw05_CodeExtends.j0])
   | succ kj6 =>
    have H := HA.out
    clear HA
    simp only [attestorlaw05_CodeExtends.j0] at H
    revert H
    refine bd2_ fun t555 t556 A12 H => ?_
    try dsimp only at H
    revert H
    refine bd2_ fun t559 t560 A13 H => ?_
    try dsimp only at H
    obtain ⟨c14, H⟩ : (t556 = t560) ∧ _ := it_ H
    have c14b0 := beq_iff_eq.mpr c14
    have c14b1 := bne_eq_false_iff_eq.mpr c14
    clear c14
    revert H
    refine bd_ fun t563 A15 H => ?_
    by_cases c16 : t563 = true
    ·subst c16
     rw [if_pos rfl] at H
     revert H
     refine bd_ fun t564 A17 H => ?_
     by_cases c18 : t564 = true
     ·subst c18
      rw [if_pos rfl] at H
      revert H
      refine bd_ fun t565 A19 H => ?_
      obtain rfl := Option.some.inj H
      go_wp2_with (first | ((with_reducible refine gate_callee (f := 25) rfl ?_); refine gl_ (some 28) Tryd.func25 #[.int .i64 a0, .slice Ao9 t549.length co9, .int .i64 x2_6] ?_; (with_reducible refine (code_Extend.calls kj6 a0 _ _ t549 x2_6 t555 t556 _ ?side1 ?side2 ?side3 A12.out).mono ?_); (case side1 => exact fU_ HG.out HB.out); (case side2 => exact cU_ ((Kd.S_reads' HO_1.out).2.2)); (case side3 => exact (Kd.S_reads' HO_1.out).2.1); rintro e w20 ⟨v557, rfl, ho0, hb⟩; refine ⟨_, rfl, ?_⟩; refine nx4_ (Kd.S_elder' (by (with_reducible repeat (first | apply Kd.S_alloc | apply Kd.S_drewN | apply Kd.S_drew)); exact HO_1.out) (Kd.S_base ho0) hb) (Kd.S_elder' (by (with_reducible repeat (first | apply Kd.S_alloc | apply Kd.S_drewN | apply Kd.S_drew)); exact HO_7.out) (Kd.S_base ho0) hb) (Kd.S_lower (Kd.S_new' (Kd.S_new' ho0 (Kd.S_lt (by (with_reducible repeat (first | apply Kd.S_alloc | apply Kd.S_drewN | apply Kd.S_drew)); exact HO_1.out))) (Kd.S_lt (by (with_reducible repeat (first | apply Kd.S_alloc | apply Kd.S_drewN | apply Kd.S_drew)); exact HO_7.out))) (below_size (bU_ HB.out))) (below_step (bU_ HB.out) hb) ?_; clear HO_1 HO_7 HB; intro HO_1 HO_7 HO558 HB; clear hb ho0; obtain ⟨Ao21, co21, eo21⟩ := Kd.S_slice HO_7.out; subst eo21) | ((with_reducible refine gate_callee (f := 26) rfl ?_); refine gl_ (some 35) Tryd.func26 #[.int .i64 a0, .slice Ao21 t552.length co21, .int .i64 x2_6] ?_; (with_reducible refine (attestorref05_Extend.calls kj6 a0 _ _ t552 x2_6 t559 t560 _ ?side1 ?side2 A13.out).mono ?_); (case side1 => exact cU_ ((Kd.S_reads' HO_7.out).2.2)); (case side2 => exact (Kd.S_reads' HO_7.out).2.1); rintro e w22 ⟨v561, rfl, ho0, hb⟩; refine ⟨_, rfl, ?_⟩; refine nx5_ (Kd.S_elder' (by (with_reducible repeat (first | apply Kd.S_alloc | apply Kd.S_drewN | apply Kd.S_drew)); exact HO_1.out) (Kd.S_base ho0) hb) (Kd.S_elder' (by (with_reducible repeat (first | apply Kd.S_alloc | apply Kd.S_drewN | apply Kd.S_drew)); exact HO_7.out) (Kd.S_base ho0) hb) (Kd.S_elder' (by (with_reducible repeat (first | apply Kd.S_alloc | apply Kd.S_drewN | apply Kd.S_drew)); exact HO558.out) (Kd.S_base ho0) hb) (Kd.S_lower (Kd.S_new' (Kd.S_new' (Kd.S_new' ho0 (Kd.S_lt (by (with_reducible repeat (first | apply Kd.S_alloc | apply Kd.S_drewN | apply Kd.S_drew)); exact HO_1.out))) (Kd.S_lt (by (with_reducible repeat (first | apply Kd.S_alloc | apply Kd.S_drewN | apply Kd.S_drew)); exact HO_7.out))) (Kd.S_lt (by (with_reducible repeat (first | apply Kd.S_alloc | apply Kd.S_drewN | apply Kd.S_drew)); exact HO558.out))) (below_size (bU_ HB.out))) (below_step (bU_ HB.out) hb) ?_; clear HO_1 HO_7 HO558 HB; intro HO_1 HO_7 HO558 HO562 HB; clear hb ho0; obtain ⟨Ao23, co23, eo23⟩ := Kd.S_slice HO558.out; subst eo23; obtain ⟨Ao24, co24, eo24⟩ := Kd.S_slice HO562.out; subst eo24) | (go_at_call 27; (with_reducible refine (attestorref03_SameLists.calls kj6 _ _ t555 _ _ t559 true _ ?side1 ?side2 ?side3 ?side4 A15.out).mono ?_); (case side1 => exact cU_ ((Kd.S_reads' HO558.out).2.2)); (case side2 => exact (Kd.S_reads' HO558.out).2.1); (case side3 => exact cU_ ((Kd.S_reads' HO562.out).2.2)); (case side4 => exact (Kd.S_reads' HO562.out).2.1); rintro e w' ⟨rfl, ⟨nd, rfl⟩⟩) | (go_at_call 27; (with_reducible refine (attestorref03_SameLists.calls kj6 _ _ t549 _ _ t552 true _ ?side1 ?side2 ?side3 ?side4 A17.out).mono ?_); (case side1 => exact cU_ ((Kd.S_reads' HO_1.out).2.2)); (case side2 => exact (Kd.S_reads' HO_1.out).2.1); (case side3 => exact cU_ ((Kd.S_reads' HO_7.out).2.2)); (case side4 => exact (Kd.S_reads' HO_7.out).2.1); rintro e w' ⟨rfl, ⟨nd, rfl⟩⟩) | (go_at_call 23; (with_reducible refine (attestorlaw05_works.calls kj6  t565 _ ?side1 A19.out).mono ?_); (case side1 => exact fU_ HG.out HB.out); rintro e w25 ⟨rfl, hb⟩; refine nx5_ (Kd.S_below (by (with_reducible repeat (first | apply Kd.S_alloc | apply Kd.S_drewN | apply Kd.S_drew)); exact HO_1.out) hb) (Kd.S_below (by (with_reducible repeat (first | apply Kd.S_alloc | apply Kd.S_drewN | apply Kd.S_drew)); exact HO_7.out) hb) (Kd.S_below (by (with_reducible repeat (first | apply Kd.S_alloc | apply Kd.S_drewN | apply Kd.S_drew)); exact HO558.out) hb) (Kd.S_below (by (with_reducible repeat (first | apply Kd.S_alloc | apply Kd.S_drewN | apply Kd.S_drew)); exact HO562.out) hb) (below_step (bU_ HB.out) hb) ?_; clear HO_1 HO_7 HO558 HO562 HB; intro HO_1 HO_7 HO558 HO562 HB; clear hb))
      go_ret
      exact ⟨by first | rfl | (simp [errW_none, errW_some] <;> rfl) | (simp [*, errW_none, errW_some] <;> rfl), bU_ HB.out⟩
     ·replace c18 := Bool.eq_false_iff.mpr c18
      subst c18
      rw [if_neg (show ¬ (false = true) by decide)] at H
      exact absurd H (by simp)
    ·replace c16 := Bool.eq_false_iff.mpr c16
     subst c16
     rw [if_neg (show ¬ (false = true) by decide)] at H
     exact absurd H (by simp)
 ·rw [if_neg c6] at H
  have c6b0 : decide (2 < a2) = false := decide_eq_false c6
  clear c6
  have HC26 := ak H
  clear H
  go_enter Tryd.func4, Tryd.ntmps4
  go_upto_if 21 with (first | ((with_reducible refine gate_callee (f := 24) rfl ?_); refine gl_ (some 13) Tryd.func24 #[.slice A1 l1.length c1, .int .i64 5, .int .i64 16] ?_; (with_reducible refine (attestorlaw05_columns.calls k _ _ l1 5 16 t549 _ ?side1 ?side2 A4.out).mono ?_); (case side1 => exact cU_ HR1.out); (case side2 => exact HC1.out); rintro e w27 ⟨v550, rfl, ho0, hb⟩; refine ⟨_, rfl, ?_⟩; refine nx2_ (Kd.S_lower ho0 (below_size (bU_ HB.out))) (below_step (bU_ HB.out) hb) ?_; clear HB; intro HO551 HB; clear hb ho0; obtain ⟨Ao28, co28, eo28⟩ := Kd.S_slice HO551.out; subst eo28) | ((with_reducible refine gate_callee (f := 24) rfl ?_); refine gl_ (some 15) Tryd.func24 #[.slice Ao28 t549.length co28, .int .i64 5, .int .i64 16] ?_; (with_reducible refine (attestorlaw05_columns.calls k _ _ t549 5 16 t552 _ ?side1 ?side2 A5.out).mono ?_); (case side1 => exact cU_ ((Kd.S_reads' HO551.out).2.2)); (case side2 => exact (Kd.S_reads' HO551.out).2.1); rintro e w29 ⟨v553, rfl, ho0, hb⟩; refine ⟨_, rfl, ?_⟩; refine nx3_ (Kd.S_elder' (by (with_reducible repeat (first | apply Kd.S_alloc | apply Kd.S_drewN | apply Kd.S_drew)); exact HO551.out) (Kd.S_base ho0) hb) (Kd.S_lower (Kd.S_new' ho0 (Kd.S_lt (by (with_reducible repeat (first | apply Kd.S_alloc | apply Kd.S_drewN | apply Kd.S_drew)); exact HO551.out))) (below_size (bU_ HB.out))) (below_step (bU_ HB.out) hb) ?_; clear HO551 HB; intro HO551 HO554 HB; clear hb ho0))
  (try simp only [Act.put, s1_, s2_, s3_])
  go_cut [2] (fun v2 wc => ∃ (kq : Nat) (x2_25 : Int), v2 = .int .i64 x2_25 ∧ Aside0 (attestorlaw05_CodeExtends.j1 kq a0 t549 x2_25 t552 = some r) ∧ Aside0 (kq ≤ k) ∧ Aside0 (Kd.S (Kd.slice 22 (Kd.int .u64)) 33 wc w.heap.size (fun k_ => some k_ ≠ (v553 : Value).ownBlock) (.slice Ao28 t549.length co28) t549) ∧ Aside0 (Kd.S (Kd.slice 22 (Kd.int .u64)) 33 wc w.heap.size (fun k_ => some k_ ≠ ((.slice Ao28 t549.length co28) : Value).ownBlock) v553 t552) ∧ Aside0 (Below w.heap.size w wc))
  case first =>
   have H := HC26.out
   clear HC26
   have H' := ak H
   clear H
   go_wp2
   go_meet
   case rel => exact ⟨_, (a2), gb_, H', ⟨by first | omega | exact Nat.le_refl _⟩, ⟨by (with_reducible repeat (first | apply Kd.S_alloc | apply Kd.S_drewN | apply Kd.S_drew)); exact Kd.S_mono HO551.out (fun _ hk => hk.2)⟩, ⟨by (with_reducible repeat (first | apply Kd.S_alloc | apply Kd.S_drewN | apply Kd.S_drew)); exact Kd.S_mono HO554.out (fun _ hk => hk.2)⟩, ⟨bU_ HB.out⟩⟩
  case rest =>
   clear HC26
   (try clear c1); (try clear c2); (try clear p2); (try clear c4); (try clear c6); (try clear c6b0); (try clear c11); (try clear c11b0); (try clear c11b1); (try clear c14); (try clear c14b0); (try clear c14b1); (try clear c16); (try clear c18); (try clear c24); (try clear c25); (try clear c26)
   obtain ⟨kq, x2_25, rfl, HA, HJ25, HO_1, HO_7, HB⟩ := hcut
   cases kq with
   | zero => exact absurd HA.out (by simp [attestorlaw05_CodeExtends.j1])
   | succ kj25 =>
    have H := HA.out
    clear HA
    simp only [attestorlaw05_CodeExtends.j1] at H
    revert H
    refine bd2_ fun t566 t567 A30 H => ?_
    try dsimp only at H
    revert H
    refine bd2_ fun t570 t571 A31 H => ?_
    try dsimp only at H
    obtain ⟨c32, H⟩ : (t567 = t571) ∧ _ := it_ H
    have c32b0 := beq_iff_eq.mpr c32
    have c32b1 := bne_eq_false_iff_eq.mpr c32
    clear c32
    revert H
    refine bd_ fun t574 A33 H => ?_
    by_cases c34 : t574 = true
    ·subst c34
     rw [if_pos rfl] at H
     revert H
     refine bd_ fun t575 A35 H => ?_
     by_cases c36 : t575 = true
     ·subst c36
      rw [if_pos rfl] at H
      revert H
      refine bd_ fun t576 A37 H => ?_
      obtain rfl := Option.some.inj H
      go_wp2_with (first | ((with_reducible refine gate_callee (f := 25) rfl ?_); refine gl_ (some 28) Tryd.func25 #[.int .i64 a0, .slice Ao28 t549.length co28, .int .i64 x2_25] ?_; (with_reducible refine (code_Extend.calls kj25 a0 _ _ t549 x2_25 t566 t567 _ ?side1 ?side2 ?side3 A30.out).mono ?_); (case side1 => exact fU_ HG.out HB.out); (case side2 => exact cU_ ((Kd.S_reads' HO_1.out).2.2)); (case side3 => exact (Kd.S_reads' HO_1.out).2.1); rintro e w38 ⟨v568, rfl, ho0, hb⟩; refine ⟨_, rfl, ?_⟩; refine nx4_ (Kd.S_elder' (by (with_reducible repeat (first | apply Kd.S_alloc | apply Kd.S_drewN | apply Kd.S_drew)); exact HO_1.out) (Kd.S_base ho0) hb) (Kd.S_elder' (by (with_reducible repeat (first | apply Kd.S_alloc | apply Kd.S_drewN | apply Kd.S_drew)); exact HO_7.out) (Kd.S_base ho0) hb) (Kd.S_lower (Kd.S_new' (Kd.S_new' ho0 (Kd.S_lt (by (with_reducible repeat (first | apply Kd.S_alloc | apply Kd.S_drewN | apply Kd.S_drew)); exact HO_1.out))) (Kd.S_lt (by (with_reducible repeat (first | apply Kd.S_alloc | apply Kd.S_drewN | apply Kd.S_drew)); exact HO_7.out))) (below_size (bU_ HB.out))) (below_step (bU_ HB.out) hb) ?_; clear HO_1 HO_7 HB; intro HO_1 HO_7 HO569 HB; clear hb ho0; obtain ⟨Ao39, co39, eo39⟩ := Kd.S_slice HO_7.out; subst eo39) | ((with_reducible refine gate_callee (f := 26) rfl ?_); refine gl_ (some 35) Tryd.func26 #[.int .i64 a0, .slice Ao39 t552.length co39, .int .i64 x2_25] ?_; (with_reducible refine (attestorref05_Extend.calls kj25 a0 _ _ t552 x2_25 t570 t571 _ ?side1 ?side2 A31.out).mono ?_); (case side1 => exact cU_ ((Kd.S_reads' HO_7.out).2.2)); (case side2 => exact (Kd.S_reads' HO_7.out).2.1); rintro e w40 ⟨v572, rfl, ho0, hb⟩; refine ⟨_, rfl, ?_⟩; refine nx5_ (Kd.S_elder' (by (with_reducible repeat (first | apply Kd.S_alloc | apply Kd.S_drewN | apply Kd.S_drew)); exact HO_1.out) (Kd.S_base ho0) hb) (Kd.S_elder' (by (with_reducible repeat (first | apply Kd.S_alloc | apply Kd.S_drewN | apply Kd.S_drew)); exact HO_7.out) (Kd.S_base ho0) hb) (Kd.S_elder' (by (with_reducible repeat (first | apply Kd.S_alloc | apply Kd.S_drewN | apply Kd.S_drew)); exact HO569.out) (Kd.S_base ho0) hb) (Kd.S_lower (Kd.S_new' (Kd.S_new' (Kd.S_new' ho0 (Kd.S_lt (by (with_reducible repeat (first | apply Kd.S_alloc | apply Kd.S_drewN | apply Kd.S_drew)); exact HO_1.out))) (Kd.S_lt (by (with_reducible repeat (first | apply Kd.S_alloc | apply Kd.S_drewN | apply Kd.S_drew)); exact HO_7.out))) (Kd.S_lt (by (with_reducible repeat (first | apply Kd.S_alloc | apply Kd.S_drewN | apply Kd.S_drew)); exact HO569.out))) (below_size (bU_ HB.out))) (below_step (bU_ HB.out) hb) ?_; clear HO_1 HO_7 HO569 HB; intro HO_1 HO_7 HO569 HO573 HB; clear hb ho0; obtain ⟨Ao41, co41, eo41⟩ := Kd.S_slice HO569.out; subst eo41; obtain ⟨Ao42, co42, eo42⟩ := Kd.S_slice HO573.out; subst eo42) | (go_at_call 27; (with_reducible refine (attestorref03_SameLists.calls kj25 _ _ t566 _ _ t570 true _ ?side1 ?side2 ?side3 ?side4 A33.out).mono ?_); (case side1 => exact cU_ ((Kd.S_reads' HO569.out).2.2)); (case side2 => exact (Kd.S_reads' HO569.out).2.1); (case side3 => exact cU_ ((Kd.S_reads' HO573.out).2.2)); (case side4 => exact (Kd.S_reads' HO573.out).2.1); rintro e w' ⟨rfl, ⟨nd, rfl⟩⟩) | (go_at_call 27; (with_reducible refine (attestorref03_SameLists.calls kj25 _ _ t549 _ _ t552 true _ ?side1 ?side2 ?side3 ?side4 A35.out).mono ?_); (case side1 => exact cU_ ((Kd.S_reads' HO_1.out).2.2)); (case side2 => exact (Kd.S_reads' HO_1.out).2.1); (case side3 => exact cU_ ((Kd.S_reads' HO_7.out).2.2)); (case side4 => exact (Kd.S_reads' HO_7.out).2.1); rintro e w' ⟨rfl, ⟨nd, rfl⟩⟩) | (go_at_call 23; (with_reducible refine (attestorlaw05_works.calls kj25  t576 _ ?side1 A37.out).mono ?_); (case side1 => exact fU_ HG.out HB.out); rintro e w43 ⟨rfl, hb⟩; refine nx5_ (Kd.S_below (by (with_reducible repeat (first | apply Kd.S_alloc | apply Kd.S_drewN | apply Kd.S_drew)); exact HO_1.out) hb) (Kd.S_below (by (with_reducible repeat (first | apply Kd.S_alloc | apply Kd.S_drewN | apply Kd.S_drew)); exact HO_7.out) hb) (Kd.S_below (by (with_reducible repeat (first | apply Kd.S_alloc | apply Kd.S_drewN | apply Kd.S_drew)); exact HO569.out) hb) (Kd.S_below (by (with_reducible repeat (first | apply Kd.S_alloc | apply Kd.S_drewN | apply Kd.S_drew)); exact HO573.out) hb) (below_step (bU_ HB.out) hb) ?_; clear HO_1 HO_7 HO569 HO573 HB; intro HO_1 HO_7 HO569 HO573 HB; clear hb))
      go_ret
      exact ⟨by first | rfl | (simp [errW_none, errW_some] <;> rfl) | (simp [*, errW_none, errW_some] <;> rfl), bU_ HB.out⟩
     ·replace c36 := Bool.eq_false_iff.mpr c36
      subst c36
      rw [if_neg (show ¬ (false = true) by decide)] at H
      exact absurd H (by simp)
    ·replace c34 := Bool.eq_false_iff.mpr c34
     subst c34
     rw [if_neg (show ¬ (false = true) by decide)] at H
     exact absurd H (by simp)

end Go.Proofs.YtedapdagagkajaaDoor.Q

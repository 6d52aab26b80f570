-- Written by prx.py (this session's driver of the kit's print) out of the translation. Not trusted: Lean checks it.
import Derived.Test.YtedapdagagkajaaDoorQ0
import Derived.Test.YtedapdagagkajaaDoorQ11
namespace Go.Proofs.YtedapdagagkajaaDoor.Q
open Go.RowKit Go.Proofs.YtedapdagagkajaaDoorW.PrintWords Go.Proofs.YtedapdagagkajaaDoorW.PrintLast Go.Proofs.YtedapdagagkajaaDoorW.PrintMore
attribute [local go_sem] max2_int min2_int max_two min_two max_three min_three max_four min_four   -- for this text's walks alone
set_option linter.unusedVariables false
set_option linter.unusedSimpArgs false

/-! ### attestorlaw05_columns: function 24 -/
def attestorlaw05_columns.l0 : Nat → List (List Int) → Int → Int → List (List Int) → Int → Option ((List (List Int)))
 | 0, _, _, _, _, _ => none
 | k + 1, x0, x1, x2, x7, x8 => if x8 < (x0.length : Int) then (if x8 < x1 then (if 0 ≤ x8 then ((attestorlaw05_own.f (rd_L1 x0 x8) x2).bind fun t465 => (if x7.length < 5864062014805 then (attestorlaw05_columns.l0 k x0 x1 x2 (x7 ++ [t465]) (wrap64 (x8 + 1))) else (none))) else (none)) else (some x7)) else (some x7)
def attestorlaw05_columns.f (k : Nat) (l0 : List (List Int)) (a1 : Int) (a2 : Int) : Option ((List (List Int))) := attestorlaw05_columns.l0 k l0 a1 a2 ([] : List (List Int)) 0
set_option maxHeartbeats 8000000 in
set_option maxRecDepth 100000 in
theorem attestorlaw05_columns.calls (k : Nat) (A0 : Option Addr) (c0 : Nat) (l0 : List (List Int)) (a1 : Int) (a2 : Int) (r : List (List Int)) (w : World) (hr0 : Kd.C (Kd.slice 22 (Kd.int .u64)) w A0 l0.length l0) (hc0 : l0.length ≤ c0) (h : attestorlaw05_columns.f k l0 a1 a2 = some r) :
  Calls Tryd.prog 24 #[.slice A0 l0.length c0, .int .i64 a1, .int .i64 a2] w fun e w' => ∃ v0_ : Value, e = .returned (v0_) ∧ Kd.S (Kd.slice 22 (Kd.int .u64)) 33 w' w.heap.size (fun _ => True) v0_ r ∧ Below w.heap.size w w' := by
 have HR0 := ak hr0
 have HC0 := ak hc0
 clear hr0 hc0
 have HB := ak (Below.refl w.heap.size w)
 have H : (attestorlaw05_columns.l0 k l0 a1 a2 ([] : List (List Int)) 0) = some r := h
 clear h
 have H' := ak H
 clear H
 go_enter Tryd.func24, Tryd.ntmps24
 go_wp2
 go_loopg [7, 8] k (fun kq v7 v8 w' => ∃ (x7_1 : List (List Int)) (x8_1 : Int), v8 = .int .i64 x8_1 ∧ Aside0 (attestorlaw05_columns.l0 kq l0 a1 a2 x7_1 x8_1 = some r) ∧ Aside0 (kq ≤ k) ∧ Aside0 (Kd.S (Kd.slice 22 (Kd.int .u64)) 33 w' w.heap.size (fun _ => True) v7 x7_1) ∧ Aside0 (Below w.heap.size w w'))
 case atStart => exact ⟨(([] : List (List Int))), (0), gb_, H', ⟨Nat.le_refl _⟩, ⟨by first | exact Kd.S_nil _ _ _ _ _ | exact Kd.N_nil _ _ _ _ _ | exact Kd.V_nil _ _ _ _ _ | exact Kd.Q_nil _ _ _ _ _ | exact Kd.R_nil _ _ _ _ _⟩, ⟨bU_ HB.out⟩⟩
 case round =>
  clear H'
  (try clear c2); (try clear p2)
  obtain ⟨x7_1, x8_1, rfl, HA, HK1, HO_7, HB⟩ := hrel
  cases gk with
  | zero => exact absurd HA.out (by simp [attestorlaw05_columns.l0])
  | succ k1 =>
   have H := HA.out
   clear HA
   simp only [attestorlaw05_columns.l0] at H
   by_cases c4 : x8_1 < (l0.length : Int)
   ·rw [if_pos c4] at H
    have c4b0 := decide_eq_true c4
    clear c4
    by_cases c5 : x8_1 < a1
    ·rw [if_pos c5] at H
     have c5b0 := decide_eq_true c5
     clear c5
     obtain ⟨c6, H⟩ : (0 ≤ x8_1) ∧ _ := it_ H
     have c6b0 := decide_eq_true c6
     clear c6
     revert H
     refine bd_ fun t465 A7 H => ?_
     obtain ⟨c8, H⟩ : (x7_1.length < 5864062014805) ∧ _ := it_ H
     have LMc8 := ak c8
     clear c8
     obtain ⟨y468, hy468⟩ : ∃ y_ : List (List Int), y_ = (x7_1 ++ [t465]) := ⟨_, rfl⟩
     replace H : (attestorlaw05_columns.l0 k1 l0 a1 a2 y468 (wrap64 (x8_1 + 1))) = some r := by first | (rw [hy468]; with_reducible exact H) | (have H2_ := (Option.bind_some _ _).symm.trans H; rw [hy468]; with_reducible exact H2_) | (have H2_ := (Option.bind_some _ _).symm.trans H; with_reducible exact H2_) | with_reducible exact H | (rw [hy468]; exact H) | exact H
     have Ny468 := ak hy468
     clear hy468
     have H' := ak H
     clear H
     have p464 : 0 ≤ (x8_1 : Int) := od_
     have q464 : x8_1 < (l0.length : Int) := od_
     obtain ⟨ad464, A464_0, c464_0, e464, hx464_0, hl464_0, hi464_0⟩ := at_L1 HR0.out x8_1 p464 q464
     cases e464
     replace hx464_0 := (HB.out.cell (World.block_lt_of_cell? w _ hx464_0)).trans hx464_0
     have HR464_0 := ak hi464_0
     have HC464_0 := ak hl464_0
     clear hi464_0 hl464_0
     replace p464 := eq_true p464
     replace q464 := eq_true q464
     go_wp2_with (first | ((with_reducible refine gate_callee (f := 28) rfl ?_); refine gl_ (some 26) Tryd.func28 #[.slice A464_0 (rd_L1 l0 x8_1).length c464_0, .int .i64 a2] ?_; (with_reducible refine (attestorlaw05_own.calls _ _ (rd_L1 l0 x8_1) a2 t465 _ ?side1 ?side2 A7.out).mono ?_); (case side1 => exact cU_ (Kd.C_below HR464_0.out HB.out)); (case side2 => exact HC464_0.out); rintro e w9 ⟨v466, rfl, ho0, hb⟩; refine ⟨_, rfl, ?_⟩; refine nx3_ (Kd.S_elder' (by (with_reducible repeat (first | apply Kd.S_alloc | apply Kd.S_drewN | apply Kd.S_drew)); exact HO_7.out) (Kd.R_base ho0) hb) (Kd.R_lower ho0 (below_size (bU_ HB.out))) (below_step (bU_ HB.out) hb) ?_; clear HO_7 HB; intro HO_7 HO467 HB; clear hb ho0; obtain ⟨Ao11, co11, eo11⟩ := Kd.R_slice HO467.out; subst eo11) | ((with_reducible refine gate_builtin (b := .append) (xs := #[.tmp 20, .tmp 27]) rfl ?_); at_builtin; refine Kd.S_append (Kd.slice 22 (Kd.int .u64)) (w0 := w) w.heap.size rfl (.tmp 20) (.tmp 27) 37 33 (.slice none 0 0) 24 rfl Tryd.underlying37 info33 rfl (by decide) (by omega) u7 x7_1 t465 [.slice Ao11 t465.length co11] (fun _ => True) (fun k_ => some k_ = (.slice Ao11 t465.length co11 : Value).ownBlock) rfl rfl ?aP (fun k_ hk_ => ((Kd.R_mono (ok' := fun k_ => ((fun _ => True)) k_ ∧ some k_ ≠ (u7 : Value).ownBlock) (Kd.R_apart' (HO467.out) (Kd.S_typed HO_7.out) (by decide)) (fun k_ hk => ⟨trivial, hk.2⟩))).1 k_ hk_.symm) ?aF ?aO ?aB ?aS ?aL ?_; (case aP => exact Kd.M_row (Kd.R_mono (Kd.R_tight rfl (Kd.R_mono (ok' := fun k_ => ((fun _ => True)) k_ ∧ some k_ ≠ (u7 : Value).ownBlock) (Kd.R_apart' (HO467.out) (Kd.S_typed HO_7.out) (by decide)) (fun k_ hk => ⟨trivial, hk.2⟩))) (fun _ h_ => h_))); (case aB => exact (bU_ HB.out)); (case aF => exact (fun _ _ => trivial)); (case aO => exact (by (with_reducible repeat (first | apply Kd.S_alloc | apply Kd.S_drewN | apply Kd.S_drew)); exact Kd.S_mono HO_7.out (fun k_ hk => ⟨trivial, fun e_ => hk.2 e_⟩))); (case aS => exact (below_size (bU_ HB.out))); (case aL => have := LMc8.out; omega); intro v469 w10 ho hb hg hat; rw [← Ny468.out] at ho; refine nx2_ (hb) (ho) ?_; clear HB HO_7 HO467; intro HB HO470; clear ho hb hg hat))
     go_roundg k1
     case measure => have := HK1.out; omega
     case rel => exact ⟨(y468), (wrap64 (x8_1 + 1)), gb_, H', ⟨by have := HK1.out; omega⟩, ⟨by (with_reducible repeat (first | apply Kd.S_alloc | apply Kd.S_drewN | apply Kd.S_drew)); exact HO470.out⟩, ⟨bU_ HB.out⟩⟩
    ·rw [if_neg c5] at H
     have c5b0 := decide_eq_false c5
     clear c5
     obtain rfl := Option.some.inj H
     go_wp2
     go_ret
     exact ⟨_, by first | rfl | (simp [errW_none, errW_some] <;> rfl) | (simp [*, errW_none, errW_some] <;> rfl), by (with_reducible repeat (first | apply Kd.S_alloc | apply Kd.S_drewN | apply Kd.S_drew)); exact HO_7.out, bU_ HB.out⟩
   ·rw [if_neg c4] at H
    have c4b0 := decide_eq_false c4
    clear c4
    obtain rfl := Option.some.inj H
    go_wp2
    go_ret
    exact ⟨_, by first | rfl | (simp [errW_none, errW_some] <;> rfl) | (simp [*, errW_none, errW_some] <;> rfl), by (with_reducible repeat (first | apply Kd.S_alloc | apply Kd.S_drewN | apply Kd.S_drew)); exact HO_7.out, bU_ HB.out⟩

end Go.Proofs.YtedapdagagkajaaDoor.Q

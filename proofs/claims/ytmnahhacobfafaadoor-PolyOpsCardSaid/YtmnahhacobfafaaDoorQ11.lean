-- Written by prx.py (this session's driver of the kit's print) out of the translation. Not trusted: Lean checks it.
import Derived.Test.YtmnahhacobfafaaDoorQ0
import Derived.Test.YtmnahhacobfafaaDoorQ5
import Derived.Test.YtmnahhacobfafaaDoorQ6
namespace Go.Proofs.YtmnahhacobfafaaDoor.Q
open Go.RowKit Go.Proofs.YtmnahhacobfafaaDoorW.PrintWords Go.Proofs.YtmnahhacobfafaaDoorW.PrintLast Go.Proofs.YtmnahhacobfafaaDoorW.PrintMore
attribute [local go_sem] max2_int min2_int max_two min_two max_three min_three max_four min_four   -- for this text's walks alone
set_option linter.unusedVariables false
set_option linter.unusedSimpArgs false

/-! ### attestorref03_Degree: function 28 -/
def attestorref03_Degree.f (k : Nat) (a0 : Int) (l1 : List Int) : Option (Int) := (attestorref03_Normal.f k a0 l1).bind fun t540 => (some (wrap64 ((t540.length : Int) - 1)))
theorem attestorref03_Degree.mono : ∀ a0 a1 k, LeO (attestorref03_Degree.f k a0 a1) (attestorref03_Degree.f (k + 1) a0 a1) := by
 intro a0 a1 k
 unfold attestorref03_Degree.f
 repeat' first
   | (with_reducible exact attestorref03_Normal.mono _ _ _)
   | (with_reducible exact LeO.refl _)
   | (with_reducible exact LeO.none _)
   | (with_reducible refine LeO.ite ?_ ?_)
   | (with_reducible refine LeO.bind ?_ (fun _ => ?_))
   | exact attestorref03_Normal.mono _ _ _
   | exact LeO.none _
   | refine LeO.ite ?_ ?_
   | refine LeO.bind ?_ (fun _ => ?_)
set_option maxHeartbeats 8000000 in
set_option maxRecDepth 100000 in
theorem attestorref03_Degree.calls (k : Nat) (a0 : Int) (A1 : Option Addr) (c1 : Nat) (l1 : List Int) (r : Int) (w : World) (hr1 : Kd.C (Kd.int .u64) w A1 l1.length l1) (hc1 : l1.length ≤ c1) (h : attestorref03_Degree.f k a0 l1 = some r) :
  Calls Tryd.prog 28 #[.int .i64 a0, .slice A1 l1.length c1] w fun e w' => e = .returned (.int .i64 r) ∧ Below w.heap.size w w' := by
 have HR1 := Aside0.mk hr1
 have HC1 := Aside0.mk hc1
 clear hr1 hc1
 have HB := Aside0.mk (Below.refl w.heap.size w)
 have H : ((attestorref03_Normal.f k a0 l1).bind fun t540 => (some (wrap64 ((t540.length : Int) - 1)))) = some r := h
 clear h
 replace H := Option.bind_eq_some_iff.mp H
 obtain ⟨t540, A30, H⟩ := H
 replace H : (some (wrap64 ((t540.length : Int) - 1))) = some r := H
 have A3 := Aside0.mk A30
 clear A30
 obtain rfl := Option.some.inj H
 go_enter Tryd.func28, Tryd.ntmps28
 go_wp2_with (first | ((with_reducible refine gate_callee (f := 27) rfl ?_); refine goesL_ (some 7) rfl rfl Tryd.func27 (by kernel_rfl) rfl #[.int .i64 a0, .slice A1 l1.length c1] rfl (by (try simp only [List.map_toArray, List.map_cons, List.map_nil]); first | done | rfl | (simp only [List.length_drop, List.length_take]; rfl)) ?_; (with_reducible refine (attestorref03_Normal.calls k a0 _ _ l1 t540 _ ?side1 ?side2 A3.out).mono ?_); (case side1 => repeat (first | exact HR1.out | (with_reducible refine Kd.C_alloc ?_ _) | (with_reducible refine Kd.C_drewN ?_ _) | (with_reducible refine Kd.C_drew ?_))); (case side2 => exact HC1.out); rintro e w4 ⟨v541, rfl, ho0, hb⟩; refine ⟨_, rfl, ?_⟩; have n0_ := Aside0.mk (Kd.R_lower ho0 (below_size (bU_ HB.out))); have n1_ := Aside0.mk (below_step (bU_ HB.out) hb); clear HB; have HO542 := n0_; have HB := n1_; clear n0_ n1_; (try clear hb); (try clear hb2); (try clear hk); (try clear hi); (try clear ho0); obtain ⟨Ao5, co5, eo5⟩ := Kd.R_slice HO542.out; subst eo5))
 go_ret
 exact ⟨by first | rfl | (simp [errW_none, errW_some] <;> rfl) | (simp [*, errW_none, errW_some] <;> rfl), bU_ HB.out⟩

/-! ### attestorref03_Sub: function 31 -/
def attestorref03_Sub.f (k : Nat) (a0 : Int) (l1 : List Int) (l2 : List Int) : Option (List Int) := (attestorref01_Neg.f a0 1).bind fun t550 => ((attestorref03_Scale.f k a0 l2 t550).bind fun t551 => ((attestorref03_Add.f k a0 l1 t551).bind fun t554 => (some t554)))
theorem attestorref03_Sub.mono : ∀ a0 a1 a2 k, LeO (attestorref03_Sub.f k a0 a1 a2) (attestorref03_Sub.f (k + 1) a0 a1 a2) := by
 intro a0 a1 a2 k
 unfold attestorref03_Sub.f
 repeat' first
   | (with_reducible exact attestorref03_Add.mono _ _ _ _)
   | (with_reducible exact attestorref03_Scale.mono _ _ _ _)
   | (with_reducible exact LeO.refl _)
   | (with_reducible exact LeO.none _)
   | (with_reducible refine LeO.ite ?_ ?_)
   | (with_reducible refine LeO.bind ?_ (fun _ => ?_))
   | exact attestorref03_Add.mono _ _ _ _
   | exact attestorref03_Scale.mono _ _ _ _
   | exact LeO.none _
   | refine LeO.ite ?_ ?_
   | refine LeO.bind ?_ (fun _ => ?_)
set_option maxHeartbeats 8000000 in
set_option maxRecDepth 100000 in
theorem attestorref03_Sub.calls (k : Nat) (a0 : Int) (A1 : Option Addr) (c1 : Nat) (l1 : List Int) (A2 : Option Addr) (c2 : Nat) (l2 : List Int) (r : List Int) (w : World) (hr1 : Kd.C (Kd.int .u64) w A1 l1.length l1) (hc1 : l1.length ≤ c1) (hr2 : Kd.C (Kd.int .u64) w A2 l2.length l2) (hc2 : l2.length ≤ c2) (h : attestorref03_Sub.f k a0 l1 l2 = some r) :
  Calls Tryd.prog 31 #[.int .i64 a0, .slice A1 l1.length c1, .slice A2 l2.length c2] w fun e w' => ∃ v0_ : Value, e = .returned (v0_) ∧ Kd.R (Kd.int .u64) 32 w' w.heap.size (fun _ => True) v0_ r ∧ Below w.heap.size w w' := by
 have HR1 := Aside0.mk hr1
 have HC1 := Aside0.mk hc1
 clear hr1 hc1
 have HR2 := Aside0.mk hr2
 have HC2 := Aside0.mk hc2
 clear hr2 hc2
 have HB := Aside0.mk (Below.refl w.heap.size w)
 have H : ((attestorref01_Neg.f a0 1).bind fun t550 => ((attestorref03_Scale.f k a0 l2 t550).bind fun t551 => ((attestorref03_Add.f k a0 l1 t551).bind fun t554 => (some t554)))) = some r := h
 clear h
 replace H := Option.bind_eq_some_iff.mp H
 obtain ⟨t550, A40, H⟩ := H
 replace H : ((attestorref03_Scale.f k a0 l2 t550).bind fun t551 => ((attestorref03_Add.f k a0 l1 t551).bind fun t554 => (some t554))) = some r := H
 have A4 := Aside0.mk A40
 clear A40
 replace H := Option.bind_eq_some_iff.mp H
 obtain ⟨t551, A50, H⟩ := H
 replace H : ((attestorref03_Add.f k a0 l1 t551).bind fun t554 => (some t554)) = some r := H
 have A5 := Aside0.mk A50
 clear A50
 replace H := Option.bind_eq_some_iff.mp H
 obtain ⟨t554, A60, H⟩ := H
 replace H : (some t554) = some r := H
 have A6 := Aside0.mk A60
 clear A60
 obtain rfl := Option.some.inj H
 go_enter Tryd.func31, Tryd.ntmps31
 go_wp2_with (first | ((with_reducible refine gate_callee (f := 54) rfl ?_); refine goesL_ (some 12) rfl rfl Tryd.func54 (by kernel_rfl) rfl #[.int .i64 a0, .int .u64 1] rfl (by (try simp only [List.map_toArray, List.map_cons, List.map_nil]); first | done | rfl | (simp only [List.length_drop, List.length_take]; rfl)) ?_; (with_reducible refine (attestorref01_Neg.calls a0 1 t550 _ A4.out).mono ?_); rintro e w' ⟨rfl, ⟨nd, rfl⟩⟩; refine ⟨_, rfl, ?_⟩) | ((with_reducible refine gate_callee (f := 33) rfl ?_); refine goesL_ (some 13) rfl rfl Tryd.func33 (by kernel_rfl) rfl #[.int .i64 a0, .slice A2 l2.length c2, .int .u64 t550] rfl (by (try simp only [List.map_toArray, List.map_cons, List.map_nil]); first | done | rfl | (simp only [List.length_drop, List.length_take]; rfl)) ?_; (with_reducible refine (attestorref03_Scale.calls k a0 _ _ l2 t550 t551 _ ?side1 ?side2 A5.out).mono ?_); (case side1 => repeat (first | exact HR2.out | (with_reducible refine Kd.C_alloc ?_ _) | (with_reducible refine Kd.C_drewN ?_ _) | (with_reducible refine Kd.C_drew ?_))); (case side2 => exact HC2.out); rintro e w7 ⟨v552, rfl, ho0, hb⟩; refine ⟨_, rfl, ?_⟩; have n0_ := Aside0.mk (Kd.R_lower ho0 (below_size (bU_ HB.out))); have n1_ := Aside0.mk (below_step (bU_ HB.out) hb); clear HB; have HO553 := n0_; have HB := n1_; clear n0_ n1_; (try clear hb); (try clear hb2); (try clear hk); (try clear hi); (try clear ho0); obtain ⟨Ao8, co8, eo8⟩ := Kd.R_slice HO553.out; subst eo8) | ((with_reducible refine gate_callee (f := 29) rfl ?_); refine goesL_ (some 14) rfl rfl Tryd.func29 (by kernel_rfl) rfl #[.int .i64 a0, .slice A1 l1.length c1, .slice Ao8 t551.length co8] rfl (by (try simp only [List.map_toArray, List.map_cons, List.map_nil]); first | done | rfl | (simp only [List.length_drop, List.length_take]; rfl)) ?_; (with_reducible refine (attestorref03_Add.calls k a0 _ _ l1 _ _ t551 t554 _ ?side1 ?side2 ?side3 ?side4 A6.out).mono ?_); (case side1 => repeat (first | exact (Kd.C_below HR1.out HB.out) | (with_reducible refine Kd.C_alloc ?_ _) | (with_reducible refine Kd.C_drewN ?_ _) | (with_reducible refine Kd.C_drew ?_))); (case side2 => exact HC1.out); (case side3 => repeat (first | exact (Kd.R_reads' HO553.out).2.2 | (with_reducible refine Kd.C_alloc ?_ _) | (with_reducible refine Kd.C_drewN ?_ _) | (with_reducible refine Kd.C_drew ?_))); (case side4 => exact (Kd.R_reads' HO553.out).2.1); rintro e w9 ⟨v555, rfl, ho0, hb⟩; refine ⟨_, rfl, ?_⟩; have n0_ := Aside0.mk (Kd.R_elder' (rU_ HO553.out) (Kd.R_base ho0) hb); have n1_ := Aside0.mk (Kd.R_lower (Kd.R_new' ho0 (Kd.R_lt (rU_ HO553.out))) (below_size (bU_ HB.out))); have n2_ := Aside0.mk (below_step (bU_ HB.out) hb); clear HO553; clear HB; have HO553 := n0_; have HO556 := n1_; have HB := n2_; clear n0_ n1_ n2_; (try clear hb); (try clear hb2); (try clear hk); (try clear hi); (try clear ho0)))
 go_ret
 exact ⟨_, by first | rfl | (simp [errW_none, errW_some] <;> rfl) | (simp [*, errW_none, errW_some] <;> rfl), by (with_reducible repeat (first | apply Kd.R_alloc | apply Kd.R_drewN | apply Kd.R_drew)); exact Kd.R_mono HO556.out (fun _ hk => trivial), bU_ HB.out⟩

/-! ### attestorref03_Shift: function 36 -/
def attestorref03_Shift.l0 : Nat → Int → List Int → Int → List Int → Int → Option (List Int)
 | 0, _, _, _, _, _ => none
 | k + 1, x0, x1, x2, x7, x8 => if x8 < (x1.length : Int) then (if 0 ≤ x8 then ((attestorref01_Pow.f k x0 x2 (IntKind.u64.wrap (x8))).bind fun t558 => ((attestorref01_Mul.f x0 (rd x1 x8) t558).bind fun t559 => (if x7.length < 17592186044416 then (attestorref03_Shift.l0 k x0 x1 x2 (x7 ++ [t559]) (wrap64 (x8 + 1))) else (none)))) else (none)) else ((attestorref03_Normal.f k x0 x7).bind fun t563 => (some t563))
def attestorref03_Shift.f (k : Nat) (a0 : Int) (l1 : List Int) (a2 : Int) : Option (List Int) := attestorref03_Shift.l0 k a0 l1 a2 ([] : List Int) 0
theorem attestorref03_Shift.mono_l : ∀ k, (∀ y0 y1 y2 y3 y4, LeO (attestorref03_Shift.l0 k y0 y1 y2 y3 y4) (attestorref03_Shift.l0 (k + 1) y0 y1 y2 y3 y4))
 | 0 => fun _ _ _ _ _ r h => by simp [attestorref03_Shift.l0] at h
 | k + 1 => by
  have ih0 := attestorref03_Shift.mono_l k
  ·intro y0 y1 y2 y3 y4
   unfold attestorref03_Shift.l0
   repeat' first
   | (with_reducible exact ih0 _ _ _ _ _)
   | (with_reducible exact attestorref01_Pow.mono _ _ _ _)
   | (with_reducible exact attestorref03_Normal.mono _ _ _)
   | (with_reducible exact LeO.refl _)
   | (with_reducible exact LeO.none _)
   | (with_reducible refine LeO.ite ?_ ?_)
   | (with_reducible refine LeO.bind ?_ (fun _ => ?_))
   | exact ih0 _ _ _ _ _
   | exact attestorref01_Pow.mono _ _ _ _
   | exact attestorref03_Normal.mono _ _ _
   | exact LeO.none _
   | refine LeO.ite ?_ ?_
   | refine LeO.bind ?_ (fun _ => ?_)
theorem attestorref03_Shift.mono : ∀ a0 a1 a2 k, LeO (attestorref03_Shift.f k a0 a1 a2) (attestorref03_Shift.f (k + 1) a0 a1 a2) := by
 intro a0 a1 a2 k
 have ih0 := attestorref03_Shift.mono_l k
 unfold attestorref03_Shift.f
 repeat' first
   | (with_reducible exact ih0 _ _ _ _ _)
   | (with_reducible exact attestorref01_Pow.mono _ _ _ _)
   | (with_reducible exact attestorref03_Normal.mono _ _ _)
   | (with_reducible exact LeO.refl _)
   | (with_reducible exact LeO.none _)
   | (with_reducible refine LeO.ite ?_ ?_)
   | (with_reducible refine LeO.bind ?_ (fun _ => ?_))
   | exact ih0 _ _ _ _ _
   | exact attestorref01_Pow.mono _ _ _ _
   | exact attestorref03_Normal.mono _ _ _
   | exact LeO.none _
   | refine LeO.ite ?_ ?_
   | refine LeO.bind ?_ (fun _ => ?_)
def attestorref03_Shift.T5 : Bool × List (List Nat × List Nat) := (true, [([], []), ([], []), ([], []), ([], []), ([2, 3], [2, 3]), ([4], [4]), ([], []), ([], []), ([], []), ([8], [8]), ([6, 7, 9], [6, 7, 9]), ([1, 5, 10, 10], [1, 5, 10]), ([11], [11]), ([0, 12, 11], [0, 12]), ([13, 13, 0, 1, 2, 3, 4, 5, 6, 7, 8, 9, 10, 11, 12, 13], [0, 13])])
def attestorref03_Shift.B5 : List Nat := [0, 0, 0, 0, 12, 28, 0, 0, 0, 256, 960, 2046, 4094, 8191, 16383]
theorem attestorref03_Shift.tab5 : rtab .any (opsOf Tryd.f36 5) = attestorref03_Shift.T5 := by kernel_rfl
theorem attestorref03_Shift.bits5 : waitsOk attestorref03_Shift.T5.2 attestorref03_Shift.B5 = true := by kernel_rfl
set_option maxHeartbeats 8000000 in
set_option maxRecDepth 100000 in
theorem attestorref03_Shift.calls (k : Nat) (a0 : Int) (A1 : Option Addr) (c1 : Nat) (l1 : List Int) (a2 : Int) (r : List Int) (w : World) (hr1 : Kd.C (Kd.int .u64) w A1 l1.length l1) (hc1 : l1.length ≤ c1) (h : attestorref03_Shift.f k a0 l1 a2 = some r) :
  Calls Tryd.prog 36 #[.int .i64 a0, .slice A1 l1.length c1, .int .u64 a2] w fun e w' => ∃ v0_ : Value, e = .returned (v0_) ∧ Kd.R (Kd.int .u64) 32 w' w.heap.size (fun _ => True) v0_ r ∧ Below w.heap.size w w' := by
 have HR1 := Aside0.mk hr1
 have HC1 := Aside0.mk hc1
 clear hr1 hc1
 have HB := Aside0.mk (Below.refl w.heap.size w)
 have H : (attestorref03_Shift.l0 k a0 l1 a2 ([] : List Int) 0) = some r := h
 clear h
 have H' := Aside0.mk H
 clear H
 go_enter Tryd.func36, Tryd.ntmps36
 go_wp2
 go_loopg [7, 8] k (fun kq v7 v8 w' => ∃ (x7_1 : List Int) (x8_1 : Int), v8 = .int .i64 x8_1 ∧ Aside0 (attestorref03_Shift.l0 kq a0 l1 a2 x7_1 x8_1 = some r) ∧ Aside0 (kq ≤ k) ∧ Aside0 (Kd.R (Kd.int .u64) 32 w' w.heap.size (fun _ => True) v7 x7_1) ∧ Aside0 (Below w.heap.size w w'))
 case atStart => exact ⟨(([] : List Int)), (0), (by first | rfl | (simp; done) | (simp [*]; done)), H', ⟨Nat.le_refl _⟩, ⟨by first | exact Kd.R_nil _ _ _ _ _ | exact Kd.N_nil _ _ _ _ _ | exact Kd.V_nil _ _ _ _ _ | exact Kd.Q_nil _ _ _ _ _ | exact Kd.S_nil _ _ _ _ _⟩, ⟨bU_ HB.out⟩⟩
 case round =>
  clear H'
  try clear c1
  try clear p2
  try clear c3
  obtain ⟨x7_1, x8_1, rfl, HA, HK1, HO_7, HB⟩ := hrel
  cases gk with
  | zero => exact absurd HA.out (by simp [attestorref03_Shift.l0])
  | succ k1 =>
   have H := HA.out
   clear HA
   simp only [attestorref03_Shift.l0] at H
   by_cases c4 : x8_1 < (l1.length : Int)
   ·rw [if_pos c4] at H
    have c4b0 : decide (x8_1 < (l1.length : Int)) = true := decide_eq_true c4
    clear c4
    by_cases c5 : 0 ≤ x8_1
    ·rw [if_pos c5] at H
     have c5b0 : decide (0 ≤ x8_1) = true := decide_eq_true c5
     clear c5
     replace H := Option.bind_eq_some_iff.mp H
     obtain ⟨t558, A60, H⟩ := H
     replace H : ((attestorref01_Mul.f a0 (rd l1 x8_1) t558).bind fun t559 => (if x7_1.length < 17592186044416 then (attestorref03_Shift.l0 k1 a0 l1 a2 (x7_1 ++ [t559]) (wrap64 (x8_1 + 1))) else (none))) = some r := H
     have A6 := Aside0.mk A60
     clear A60
     replace H := Option.bind_eq_some_iff.mp H
     obtain ⟨t559, A70, H⟩ := H
     replace H : (if x7_1.length < 17592186044416 then (attestorref03_Shift.l0 k1 a0 l1 a2 (x7_1 ++ [t559]) (wrap64 (x8_1 + 1))) else (none)) = some r := H
     have A7 := Aside0.mk A70
     clear A70
     by_cases c8 : x7_1.length < 17592186044416
     ·rw [if_pos c8] at H
      have LMc8 := Aside0.mk c8
      clear c8
      obtain ⟨y560, hy560⟩ : ∃ y_ : List Int, y_ = (x7_1 ++ [t559]) := ⟨_, rfl⟩
      replace H : (attestorref03_Shift.l0 k1 a0 l1 a2 y560 (wrap64 (x8_1 + 1))) = some r := by first | (rw [hy560]; with_reducible exact H) | (have H2_ := (Option.bind_some _ _).symm.trans H; rw [hy560]; with_reducible exact H2_) | (have H2_ := (Option.bind_some _ _).symm.trans H; with_reducible exact H2_) | with_reducible exact H | (rw [hy560]; exact H) | exact H
      have Ny560 := Aside0.mk hy560
      clear hy560
      have H' := Aside0.mk H
      clear H
      try go_wp2
      have n0_ := Aside0.mk (Kd.R_drew HO_7.out)
      have n1_ := Aside0.mk (below_drew1 HB.out)
      clear HO_7
      clear HB
      have HO_7 := n0_
      have HB := n1_
      clear n0_ n1_
      have p557 : 0 ≤ (x8_1 : Int) := of_decide_eq_true (by first | (with_reducible assumption) | assumption)
      have q557 : x8_1 < (l1.length : Int) := of_decide_eq_true (by first | (with_reducible assumption) | assumption)
      obtain ⟨ad557, e557, hx557_0⟩ := Kd.at_int HR1.out x8_1 p557 q557
      have hw557_0 := hx557_0
      cases e557
      replace hx557_0 := (HB.out.cell (World.block_lt_of_cell? w _ hx557_0)).trans hx557_0
      replace p557 := eq_true p557
      replace q557 := eq_true q557
      refine start_ (n := 15) (S := fun w' => w'.cell? (ad557.add (x8_1).toNat) = some (.int .u64 (rd l1 x8_1))) (ds := []) #[false, false, false, false, false, false, false, false, false, false, false, false, false, false, false] (by kernel_rfl) rfl rfl (((HB.out.cell (World.block_lt_of_cell? w _ hw557_0)).trans hw557_0)) (fun hHeld => ?_); refine with_tabW attestorref03_Shift.tab5 attestorref03_Shift.bits5 (fun HT_ HW_ => ?_)
      generalize wr.drew = w9 at HO_7 HB hx557_0 hHeld ⊢
      refine pure_ (i := 0) (N := some 15) (v := ?_) (a' := ?_) #[true, false, false, false, false, false, false, false, false, false, false, false, false, false, false] rfl rfl (any_of HT_.out (by kernel_rfl)) (fun _ _ _ h => h) (Or.inl ⟨by rfl, ?_⟩) ?_ ?_
      rotate_left
      ·intro w'
       go_simp
       with_reducible rfl
      rotate_left
      ·simp only [Act.put, List.setIfInBounds_toArray, List.set_cons_zero, List.set_cons_succ, i64_w, i32_w]
       rfl
      refine pure_ (i := 1) (N := some 16) (v := ?_) (a' := ?_) #[true, true, false, false, false, false, false, false, false, false, false, false, false, false, false] rfl rfl (any_of HT_.out (by kernel_rfl)) (fun _ _ _ h => h) (Or.inl ⟨by rfl, ?_⟩) ?_ ?_
      rotate_left
      ·intro w'
       go_simp
       with_reducible rfl
      rotate_left
      ·simp only [Act.put, List.setIfInBounds_toArray, List.set_cons_zero, List.set_cons_succ, i64_w, i32_w]
       rfl
      refine pure_ (i := 2) (N := some 17) (v := ?_) (a' := ?_) #[true, true, true, false, false, false, false, false, false, false, false, false, false, false, false] rfl rfl (any_of HT_.out (by kernel_rfl)) (fun _ _ _ h => h) (Or.inl ⟨by rfl, ?_⟩) ?_ ?_
      rotate_left
      ·intro w'
       go_simp
       with_reducible rfl
      rotate_left
      ·simp only [Act.put, List.setIfInBounds_toArray, List.set_cons_zero, List.set_cons_succ, i64_w, i32_w]
       rfl
      refine pure_ (i := 3) (N := some 18) (v := ?_) (a' := ?_) #[true, true, true, true, false, false, false, false, false, false, false, false, false, false, false] rfl rfl (any_of HT_.out (by kernel_rfl)) (fun _ _ _ h => h) (Or.inl ⟨by rfl, ?_⟩) ?_ ?_
      rotate_left
      ·intro w'
       go_simp
       with_reducible rfl
      rotate_left
      ·simp only [Act.put, List.setIfInBounds_toArray, List.set_cons_zero, List.set_cons_succ, i64_w, i32_w]
       rfl
      refine pure_ (i := 4) (N := some 19) (v := ?_) (a' := ?_) #[true, true, true, true, true, false, false, false, false, false, false, false, false, false, false] rfl rfl (any_of HT_.out (by kernel_rfl)) (fun _ _ _ h => h) (Or.inl ⟨by rfl, ?_⟩) ?_ ?_
      rotate_left
      ·intro w'
       go_simp
       with_reducible rfl
      rotate_left
      ·simp only [Act.put, List.setIfInBounds_toArray, List.set_cons_zero, List.set_cons_succ, i64_w, i32_w]
       rfl
      refine pure_ (i := 6) (N := some 21) (v := ?_) (a' := ?_) #[true, true, true, true, true, false, true, false, false, false, false, false, false, false, false] rfl rfl (any_of HT_.out (by kernel_rfl)) (fun _ _ _ h => h) (Or.inl ⟨by rfl, ?_⟩) ?_ ?_
      rotate_left
      ·intro w'
       go_simp
       with_reducible rfl
      rotate_left
      ·simp only [Act.put, List.setIfInBounds_toArray, List.set_cons_zero, List.set_cons_succ, i64_w, i32_w]
       rfl
      refine pure_ (i := 7) (N := some 22) (v := ?_) (a' := ?_) #[true, true, true, true, true, false, true, true, false, false, false, false, false, false, false] rfl rfl (any_of HT_.out (by kernel_rfl)) (fun _ _ _ h => h) (Or.inl ⟨by rfl, ?_⟩) ?_ ?_
      rotate_left
      ·intro w'
       go_simp
       with_reducible rfl
      rotate_left
      ·simp only [Act.put, List.setIfInBounds_toArray, List.set_cons_zero, List.set_cons_succ, i64_w, i32_w]
       rfl
      refine pure_ (i := 8) (N := some 23) (v := ?_) (a' := ?_) #[true, true, true, true, true, false, true, true, true, false, false, false, false, false, false] rfl rfl (any_of HT_.out (by kernel_rfl)) (fun _ _ _ h => h) (Or.inl ⟨by rfl, ?_⟩) ?_ ?_
      rotate_left
      ·intro w'
       go_simp
       with_reducible rfl
      rotate_left
      ·simp only [Act.put, List.setIfInBounds_toArray, List.set_cons_zero, List.set_cons_succ, i64_w, i32_w]
       rfl
      refine pure_ (i := 9) (N := some 24) (v := ?_) (a' := ?_) #[true, true, true, true, true, false, true, true, true, true, false, false, false, false, false] rfl rfl (any_of HT_.out (by kernel_rfl)) (fun _ _ _ h => h) (Or.inl ⟨by rfl, ?_⟩) ?_ ?_
      rotate_left
      ·intro w'
       go_simp
       with_reducible rfl
      rotate_left
      ·simp only [Act.put, List.setIfInBounds_toArray, List.set_cons_zero, List.set_cons_succ, i64_w, i32_w]
       rfl
      refine take_ (i := 5) (N := some 20) (v := ?_) (a' := ?_) #[true, true, true, true, true, true, true, true, true, true, false, false, false, false, false] rfl rfl (take_ofW HT_.out HW_.out (by kernel_rfl)) (fun _ _ _ h => h) (Or.inl ⟨by rfl, ?_⟩) hHeld ?_ ?_
      rotate_left
      ·intro w' s0
       go_simp
       with_reducible rfl
      rotate_left
      ·simp only [Act.put, List.setIfInBounds_toArray, List.set_cons_zero, List.set_cons_succ, i64_w, i32_w]
       rfl
      refine one_ (i := 10) (N := some 25) #[true, true, true, true, true, true, true, true, true, true, true, false, false, false, false] rfl rfl (one_of HT_.out (by kernel_rfl)) (by decide) (fun K hK => ?_)
      refine goes_ Tryd.func63 (by kernel_rfl) rfl #[.int .i64 a0, .int .u64 a2, .int .u64 (IntKind.u64.wrap (x8_1))] (by rfl) rfl rfl (by (try simp only [List.map_toArray, List.map_cons, List.map_nil]); first | done | rfl | (simp only [List.length_drop, List.length_take]; rfl)) ?_
      with_reducible refine (attestorref01_Pow.calls k1 a0 a2 (IntKind.u64.wrap (x8_1)) t558 _ A6.out).mono ?_
      rintro e w' ⟨rfl, ⟨nd, rfl⟩⟩
      refine ⟨_, rfl, ?_⟩
      refine hK.out _ _ (((HB.out.cell (World.block_lt_of_cell? w _ hw557_0)).trans hw557_0)) (fun hHeld => ?_)
      clear hK K
      refine norm_ (a' := ?_) ?_ ?_
      rotate_left
      ·show Act.put _ (some 25) _ = _
       simp only [Act.put, List.setIfInBounds_toArray, List.set_cons_zero, List.set_cons_succ, i64_w, i32_w]
       rfl
      refine one_ (i := 11) (N := some 26) #[true, true, true, true, true, true, true, true, true, true, true, true, false, false, false] rfl rfl (one_of HT_.out (by kernel_rfl)) (by decide) (fun K hK => ?_)
      refine goes_ Tryd.func62 (by kernel_rfl) rfl #[.int .i64 a0, .int .u64 (rd l1 x8_1), .int .u64 t558] (by rfl) rfl rfl (by (try simp only [List.map_toArray, List.map_cons, List.map_nil]); first | done | rfl | (simp only [List.length_drop, List.length_take]; rfl)) ?_
      with_reducible refine (attestorref01_Mul.calls a0 (rd l1 x8_1) t558 t559 _ A7.out).mono ?_
      rintro e w' ⟨rfl, ⟨nd, rfl⟩⟩
      refine ⟨_, rfl, ?_⟩
      refine hK.out _ _ (((HB.out.cell (World.block_lt_of_cell? w _ hw557_0)).trans hw557_0)) (fun hHeld => ?_)
      clear hK K
      refine norm_ (a' := ?_) ?_ ?_
      rotate_left
      ·show Act.put _ (some 26) _ = _
       simp only [Act.put, List.setIfInBounds_toArray, List.set_cons_zero, List.set_cons_succ, i64_w, i32_w]
       rfl
      refine one_ (i := 12) (N := some 27) #[true, true, true, true, true, true, true, true, true, true, true, true, true, false, false] rfl rfl (one_of HT_.out (by kernel_rfl)) (by decide) (fun K hK => ?_)
      refine value_ (w1 := ?_) (v := ?_) (by rfl) rfl ?_ ?_
      rotate_left 2
      ·go_simp
       constructor
       ·rfl
       ·rfl
      refine hK.out _ _ ((World.cell?_alloc_lt _ _ _ (World.block_lt_of_cell? _ _ (((HB.out.cell (World.block_lt_of_cell? w _ hw557_0)).trans hw557_0)))).trans (((HB.out.cell (World.block_lt_of_cell? w _ hw557_0)).trans hw557_0))) (fun hHeld => ?_)
      clear hK K
      refine norm_ (a' := ?_) ?_ ?_
      rotate_left
      ·show Act.put _ (some 27) _ = _
       simp only [Act.put, List.setIfInBounds_toArray, List.set_cons_zero, List.set_cons_succ, i64_w, i32_w]
       rfl
      refine one_ (i := 13) (N := some 28) #[true, true, true, true, true, true, true, true, true, true, true, true, true, true, false] rfl rfl (one_of HT_.out (by kernel_rfl)) (by decide) (fun K hK => ?_)
      refine Kd.R_append_step (Kd.int .u64) (w0 := w) w.heap.size (by rfl) (.tmp 15) (.tmp 27) 22 32 (.int .u64 0) 8 rfl Tryd.underlying22 info32 rfl (by decide) (by omega) u7 x7_1 t559 [.int .u64 t559] (fun _ => True) (fun _ => False) rfl rfl ?aP (fun _ hk => hk.elim) ?aF ?aO ?aB ?aS ?aL ?_
      (case aP => exact rfl)
      (case aB => exact (bU_ HB.out))
      (case aF => exact (fun _ _ => trivial))
      (case aO => exact (rU_ HO_7.out))
      (case aS => exact (below_size (bU_ HB.out)))
      (case aL => have := LMc8.out; omega)
      intro v561 w10 ho hb hg hat
      rw [← Ny560.out] at ho
      have n0_ := Aside0.mk (hb)
      have n1_ := Aside0.mk (ho)
      clear HB
      clear HO_7
      have HB := n0_
      have HO562 := n1_
      clear n0_ n1_
      clear ho hb hg hat
      refine hK.out _ _ (((HB.out.cell (World.block_lt_of_cell? w _ hw557_0)).trans hw557_0)) (fun hHeld => ?_)
      clear hK K
      refine norm_ (a' := ?_) ?_ ?_
      rotate_left
      ·show Act.put _ (some 28) _ = _
       simp only [Act.put, List.setIfInBounds_toArray, List.set_cons_zero, List.set_cons_succ, i64_w, i32_w]
       rfl
      refine pure_ (i := 14) (N := some 7) (v := ?_) (a' := ?_) #[true, true, true, true, true, true, true, true, true, true, true, true, true, true, true] rfl rfl (any_of HT_.out (by kernel_rfl)) (fun _ _ _ h => h) (Or.inl ⟨by rfl, ?_⟩) ?_ ?_
      rotate_left
      ·intro w'
       go_simp
       with_reducible rfl
      rotate_left
      ·simp only [Act.put, List.setIfInBounds_toArray, List.set_cons_zero, List.set_cons_succ, i64_w, i32_w]
       rfl
      refine done_ (done_of HT_.out (by kernel_rfl)) ?_
      try go_wp2
      go_roundg k1
      case measure => have := HK1.out; omega
      case rel => exact ⟨(y560), (wrap64 (x8_1 + 1)), (by first | rfl | (simp; done) | (simp [*]; done)), H', ⟨by have := HK1.out; omega⟩, ⟨rU_ HO562.out⟩, ⟨bU_ HB.out⟩⟩
     ·rw [if_neg c8] at H
      exact absurd H (by simp)
    ·rw [if_neg c5] at H
     exact absurd H (by simp)
   ·rw [if_neg c4] at H
    have c4b0 : decide (x8_1 < (l1.length : Int)) = false := decide_eq_false c4
    clear c4
    replace H := Option.bind_eq_some_iff.mp H
    obtain ⟨t563, A110, H⟩ := H
    replace H : (some t563) = some r := H
    have A11 := Aside0.mk A110
    clear A110
    obtain rfl := Option.some.inj H
    obtain ⟨Ao12, co12, eo12⟩ := Kd.R_slice HO_7.out
    subst eo12
    go_wp2_with (first | ((with_reducible refine gate_callee (f := 27) rfl ?_); refine goesL_ (some 31) rfl rfl Tryd.func27 (by kernel_rfl) rfl #[.int .i64 a0, .slice Ao12 x7_1.length co12] rfl (by (try simp only [List.map_toArray, List.map_cons, List.map_nil]); first | done | rfl | (simp only [List.length_drop, List.length_take]; rfl)) ?_; (with_reducible refine (attestorref03_Normal.calls k1 a0 _ _ x7_1 t563 _ ?side1 ?side2 A11.out).mono ?_); (case side1 => repeat (first | exact (Kd.R_reads' HO_7.out).2.2 | (with_reducible refine Kd.C_alloc ?_ _) | (with_reducible refine Kd.C_drewN ?_ _) | (with_reducible refine Kd.C_drew ?_))); (case side2 => exact (Kd.R_reads' HO_7.out).2.1); rintro e w13 ⟨v564, rfl, ho0, hb⟩; refine ⟨_, rfl, ?_⟩; have n0_ := Aside0.mk (Kd.R_elder' (rU_ HO_7.out) (Kd.R_base ho0) hb); have n1_ := Aside0.mk (Kd.R_lower (Kd.R_new' ho0 (Kd.R_lt (rU_ HO_7.out))) (below_size (bU_ HB.out))); have n2_ := Aside0.mk (below_step (bU_ HB.out) hb); clear HO_7; clear HB; have HO_7 := n0_; have HO565 := n1_; have HB := n2_; clear n0_ n1_ n2_; (try clear hb); (try clear hb2); (try clear hk); (try clear hi); (try clear ho0)))
    go_ret
    exact ⟨_, by first | rfl | (simp [errW_none, errW_some] <;> rfl) | (simp [*, errW_none, errW_some] <;> rfl), by (with_reducible repeat (first | apply Kd.R_alloc | apply Kd.R_drewN | apply Kd.R_drew)); exact Kd.R_mono HO565.out (fun _ hk => trivial), bU_ HB.out⟩

/-! ### attestorref03_Divide: function 38 -/
mutual
def attestorref03_Divide.l0 : Nat → Int → List Int → List Int → List Int → Option (List Int × List Int × Int)
 | 0, _, _, _, _ => none
 | k + 1, x0, x2, x9, x10 => if (x9.length : Int) ≥ (x2.length : Int) then (if 0 ≤ (wrap64 ((x9.length : Int) - 1)) then (if (wrap64 ((x9.length : Int) - 1)) < (x9.length : Int) then (if 0 ≤ (wrap64 ((x2.length : Int) - 1)) then (if (wrap64 ((x2.length : Int) - 1)) < (x2.length : Int) then ((attestorref01_Div.f k x0 (rd x9 (wrap64 ((x9.length : Int) - 1))) (rd x2 (wrap64 ((x2.length : Int) - 1)))).bind fun t581 => (if 0 ≤ (wrap64 ((x9.length : Int) - (x2.length : Int))) then (if (wrap64 ((x9.length : Int) - (x2.length : Int))) < (x10.length : Int) then (attestorref03_Divide.l1 k x0 x2 x9 (x10.set ((wrap64 ((x9.length : Int) - (x2.length : Int))) : Int).toNat t581) (wrap64 ((x9.length : Int) - (x2.length : Int))) t581 0) else (none)) else (none))) else (none)) else (none)) else (none)) else (none)) else ((attestorref03_Normal.f k x0 x10).bind fun t576 => (some (t576, x9, 0)))
def attestorref03_Divide.l1 : Nat → Int → List Int → List Int → List Int → Int → Int → Int → Option (List Int × List Int × Int)
 | 0, _, _, _, _, _, _, _ => none
 | k + 1, x0, x2, x9, x10, x11, x12, x13 => if x13 < (x2.length : Int) then (if 0 ≤ (wrap64 (x11 + x13)) then (if (wrap64 (x11 + x13)) < (x9.length : Int) then (if 0 ≤ x13 then ((attestorref01_Mul.f x0 x12 (rd x2 x13)).bind fun t585 => ((attestorref01_Sub.f x0 (rd x9 (wrap64 (x11 + x13))) t585).bind fun t586 => (attestorref03_Divide.l1 k x0 x2 (x9.set ((wrap64 (x11 + x13)) : Int).toNat t586) x10 x11 x12 (wrap64 (x13 + 1))))) else (none)) else (none)) else (none)) else ((attestorref03_Normal.f k x0 x9).bind fun t588 => (attestorref03_Divide.l0 k x0 x2 t588 x10))
end
def attestorref03_Divide.f (k : Nat) (a0 : Int) (l1 : List Int) (l2 : List Int) : Option (List Int × List Int × Int) := (attestorref01_Valid.f a0).bind fun t566 => (if t566 = true then ((attestorref03_Normal.f k a0 l2).bind fun t567 => (if (t567.length : Int) = 0 then (some (([] : List Int), ([] : List Int), 2)) else ((attestorref03_Normal.f k a0 l1).bind fun t570 => (if 0 ≤ (t570.length : Int) then (if ((t570.length : Int) : Int).toNat ≤ 35184372088832 then (attestorref03_Divide.l0 k a0 t567 t570 (List.replicate ((t570.length : Int) : Int).toNat 0)) else (none)) else (none))))) else (some (([] : List Int), ([] : List Int), 1)))
theorem attestorref03_Divide.mono_l : ∀ k, (∀ y0 y1 y2 y3, LeO (attestorref03_Divide.l0 k y0 y1 y2 y3) (attestorref03_Divide.l0 (k + 1) y0 y1 y2 y3)) ∧ (∀ y0 y1 y2 y3 y4 y5 y6, LeO (attestorref03_Divide.l1 k y0 y1 y2 y3 y4 y5 y6) (attestorref03_Divide.l1 (k + 1) y0 y1 y2 y3 y4 y5 y6))
 | 0 => ⟨fun _ _ _ _ r h => by simp [attestorref03_Divide.l0] at h, fun _ _ _ _ _ _ _ r h => by simp [attestorref03_Divide.l1] at h⟩
 | k + 1 => by
  obtain ⟨ih0, ih1⟩ := attestorref03_Divide.mono_l k
  refine ⟨?_, ?_⟩
  ·intro y0 y1 y2 y3
   unfold attestorref03_Divide.l0
   repeat' first
   | (with_reducible exact ih0 _ _ _ _)
   | (with_reducible exact ih1 _ _ _ _ _ _ _)
   | (with_reducible exact attestorref01_Div.mono _ _ _ _)
   | (with_reducible exact attestorref03_Normal.mono _ _ _)
   | (with_reducible exact LeO.refl _)
   | (with_reducible exact LeO.none _)
   | (with_reducible refine LeO.ite ?_ ?_)
   | (with_reducible refine LeO.bind ?_ (fun _ => ?_))
   | exact ih0 _ _ _ _
   | exact ih1 _ _ _ _ _ _ _
   | exact attestorref01_Div.mono _ _ _ _
   | exact attestorref03_Normal.mono _ _ _
   | exact LeO.none _
   | refine LeO.ite ?_ ?_
   | refine LeO.bind ?_ (fun _ => ?_)
  ·intro y0 y1 y2 y3 y4 y5 y6
   unfold attestorref03_Divide.l1
   repeat' first
   | (with_reducible exact ih0 _ _ _ _)
   | (with_reducible exact ih1 _ _ _ _ _ _ _)
   | (with_reducible exact attestorref01_Div.mono _ _ _ _)
   | (with_reducible exact attestorref03_Normal.mono _ _ _)
   | (with_reducible exact LeO.refl _)
   | (with_reducible exact LeO.none _)
   | (with_reducible refine LeO.ite ?_ ?_)
   | (with_reducible refine LeO.bind ?_ (fun _ => ?_))
   | exact ih0 _ _ _ _
   | exact ih1 _ _ _ _ _ _ _
   | exact attestorref01_Div.mono _ _ _ _
   | exact attestorref03_Normal.mono _ _ _
   | exact LeO.none _
   | refine LeO.ite ?_ ?_
   | refine LeO.bind ?_ (fun _ => ?_)
theorem attestorref03_Divide.mono : ∀ a0 a1 a2 k, LeO (attestorref03_Divide.f k a0 a1 a2) (attestorref03_Divide.f (k + 1) a0 a1 a2) := by
 intro a0 a1 a2 k
 obtain ⟨ih0, ih1⟩ := attestorref03_Divide.mono_l k
 unfold attestorref03_Divide.f
 repeat' first
   | (with_reducible exact ih0 _ _ _ _)
   | (with_reducible exact ih1 _ _ _ _ _ _ _)
   | (with_reducible exact attestorref01_Div.mono _ _ _ _)
   | (with_reducible exact attestorref03_Normal.mono _ _ _)
   | (with_reducible exact LeO.refl _)
   | (with_reducible exact LeO.none _)
   | (with_reducible refine LeO.ite ?_ ?_)
   | (with_reducible refine LeO.bind ?_ (fun _ => ?_))
   | exact ih0 _ _ _ _
   | exact ih1 _ _ _ _ _ _ _
   | exact attestorref01_Div.mono _ _ _ _
   | exact attestorref03_Normal.mono _ _ _
   | exact LeO.none _
   | refine LeO.ite ?_ ?_
   | refine LeO.bind ?_ (fun _ => ?_)
def attestorref03_Divide.T10 : Bool × List (List Nat × List Nat) := (true, [([], []), ([], []), ([], []), ([2], [2]), ([3], [3]), ([1, 4], [1, 4]), ([5], [5]), ([], []), ([], []), ([8], [8]), ([9], [9]), ([7, 10], [7, 10]), ([11], [11]), ([0, 6, 12], [0, 6, 12]), ([13, 13, 0, 1, 2, 3, 4, 5, 6, 7, 8, 9, 10, 11, 12, 13], [13])])
def attestorref03_Divide.B10 : List Nat := [0, 0, 0, 4, 12, 30, 62, 0, 0, 256, 768, 1920, 3968, 8191, 16383]
theorem attestorref03_Divide.tab10 : rtab .any (opsOf Tryd.f38 10) = attestorref03_Divide.T10 := by kernel_rfl
theorem attestorref03_Divide.bits10 : waitsOk attestorref03_Divide.T10.2 attestorref03_Divide.B10 = true := by kernel_rfl
def attestorref03_Divide.T15 : Bool × List (List Nat × List Nat) := (true, [([], []), ([], []), ([], []), ([1, 2], [1, 2]), ([], []), ([], []), ([], []), ([], []), ([6, 7], [6, 7]), ([5, 8], [5, 8]), ([9], [9]), ([], []), ([], []), ([], []), ([], []), ([13, 14], [13, 14]), ([15], [15]), ([11, 12, 16], [11, 12, 16]), ([4, 10, 17, 17], [4, 10, 17]), ([0, 3, 0, 1, 2, 3, 4, 5, 6, 7, 8, 9, 10, 11, 12, 13, 14, 15, 16, 17, 18], [0, 3]), ([19, 18, 18, 0, 1, 2, 3, 4, 5, 6, 7, 8, 9, 10, 11, 12, 13, 14, 15, 16, 17, 18], [18, 19])])
def attestorref03_Divide.B15 : List Nat := [0, 0, 0, 6, 0, 0, 0, 0, 192, 480, 992, 0, 0, 0, 0, 24576, 57344, 129024, 262128, 524287, 1048575]
theorem attestorref03_Divide.tab15 : rtab .any (opsOf Tryd.f38 15) = attestorref03_Divide.T15 := by kernel_rfl
theorem attestorref03_Divide.bits15 : waitsOk attestorref03_Divide.T15.2 attestorref03_Divide.B15 = true := by kernel_rfl
set_option maxHeartbeats 8000000 in
set_option maxRecDepth 100000 in
theorem attestorref03_Divide.calls (k : Nat) (a0 : Int) (A1 : Option Addr) (c1 : Nat) (l1 : List Int) (A2 : Option Addr) (c2 : Nat) (l2 : List Int) (r1 : List Int) (r2 : List Int) (r3 : Int) (w : World) (hr1 : Kd.C (Kd.int .u64) w A1 l1.length l1) (hc1 : l1.length ≤ c1) (hr2 : Kd.C (Kd.int .u64) w A2 l2.length l2) (hc2 : l2.length ≤ c2) (h : attestorref03_Divide.f k a0 l1 l2 = some (r1, r2, r3)) :
  Calls Tryd.prog 38 #[.int .i64 a0, .slice A1 l1.length c1, .slice A2 l2.length c2] w fun e w' => ∃ v0_ v1_ : Value, e = .returned (.tuple #[v0_, v1_, .int .i64 r3]) ∧ Kd.R (Kd.int .u64) 32 w' w.heap.size (fun k_ => some k_ ≠ (v1_ : Value).ownBlock) v0_ r1 ∧ Kd.R (Kd.int .u64) 32 w' w.heap.size (fun k_ => some k_ ≠ (v0_ : Value).ownBlock) v1_ r2 ∧ Below w.heap.size w w' := by
 have HR1 := Aside0.mk hr1
 have HC1 := Aside0.mk hc1
 clear hr1 hc1
 have HR2 := Aside0.mk hr2
 have HC2 := Aside0.mk hc2
 clear hr2 hc2
 have HB := Aside0.mk (Below.refl w.heap.size w)
 have H : ((attestorref01_Valid.f a0).bind fun t566 => (if t566 = true then ((attestorref03_Normal.f k a0 l2).bind fun t567 => (if (t567.length : Int) = 0 then (some (([] : List Int), ([] : List Int), 2)) else ((attestorref03_Normal.f k a0 l1).bind fun t570 => (if 0 ≤ (t570.length : Int) then (if ((t570.length : Int) : Int).toNat ≤ 35184372088832 then (attestorref03_Divide.l0 k a0 t567 t570 (List.replicate ((t570.length : Int) : Int).toNat 0)) else (none)) else (none))))) else (some (([] : List Int), ([] : List Int), 1)))) = some (r1, r2, r3) := h
 clear h
 replace H := Option.bind_eq_some_iff.mp H
 obtain ⟨t566, A40, H⟩ := H
 replace H : (if t566 = true then ((attestorref03_Normal.f k a0 l2).bind fun t567 => (if (t567.length : Int) = 0 then (some (([] : List Int), ([] : List Int), 2)) else ((attestorref03_Normal.f k a0 l1).bind fun t570 => (if 0 ≤ (t570.length : Int) then (if ((t570.length : Int) : Int).toNat ≤ 35184372088832 then (attestorref03_Divide.l0 k a0 t567 t570 (List.replicate ((t570.length : Int) : Int).toNat 0)) else (none)) else (none))))) else (some (([] : List Int), ([] : List Int), 1))) = some (r1, r2, r3) := H
 have A4 := Aside0.mk A40
 clear A40
 by_cases c5 : t566 = true
 ·subst c5
  have H1 : ((attestorref03_Normal.f k a0 l2).bind fun t567 => (if (t567.length : Int) = 0 then (some (([] : List Int), ([] : List Int), 2)) else ((attestorref03_Normal.f k a0 l1).bind fun t570 => (if 0 ≤ (t570.length : Int) then (if ((t570.length : Int) : Int).toNat ≤ 35184372088832 then (attestorref03_Divide.l0 k a0 t567 t570 (List.replicate ((t570.length : Int) : Int).toNat 0)) else (none)) else (none))))) = some (r1, r2, r3) := by rw [if_pos rfl] at H; exact H
  clear H
  have H := H1
  clear H1
  replace H := Option.bind_eq_some_iff.mp H
  obtain ⟨t567, A60, H⟩ := H
  replace H : (if (t567.length : Int) = 0 then (some (([] : List Int), ([] : List Int), 2)) else ((attestorref03_Normal.f k a0 l1).bind fun t570 => (if 0 ≤ (t570.length : Int) then (if ((t570.length : Int) : Int).toNat ≤ 35184372088832 then (attestorref03_Divide.l0 k a0 t567 t570 (List.replicate ((t570.length : Int) : Int).toNat 0)) else (none)) else (none)))) = some (r1, r2, r3) := H
  have A6 := Aside0.mk A60
  clear A60
  by_cases c7 : (t567.length : Int) = 0
  ·rw [if_pos c7] at H
   have c7b0 : ((t567.length : Int) == 0) = true := beq_iff_eq.mpr c7
   have c7b1 : ((t567.length : Int) != 0) = false := bne_eq_false_iff_eq.mpr c7
   clear c7
   simp only [Option.some.injEq, Prod.mk.injEq] at H
   obtain ⟨rfl, rfl, rfl⟩ := H
   go_enter Tryd.func38, Tryd.ntmps38
   go_wp2_with (first | ((with_reducible refine gate_callee (f := 51) rfl ?_); refine goesL_ (some 15) rfl rfl Tryd.func51 (by kernel_rfl) rfl #[.int .i64 a0] rfl (by (try simp only [List.map_toArray, List.map_cons, List.map_nil]); first | done | rfl | (simp only [List.length_drop, List.length_take]; rfl)) ?_; (with_reducible refine (attestorref01_Valid.calls a0 true _ A4.out).mono ?_); rintro e w' ⟨rfl, ⟨nd, rfl⟩⟩; refine ⟨_, rfl, ?_⟩) | ((with_reducible refine gate_callee (f := 27) rfl ?_); refine goesL_ (some 19) rfl rfl Tryd.func27 (by kernel_rfl) rfl #[.int .i64 a0, .slice A2 l2.length c2] rfl (by (try simp only [List.map_toArray, List.map_cons, List.map_nil]); first | done | rfl | (simp only [List.length_drop, List.length_take]; rfl)) ?_; (with_reducible refine (attestorref03_Normal.calls k a0 _ _ l2 t567 _ ?side1 ?side2 A6.out).mono ?_); (case side1 => repeat (first | exact HR2.out | (with_reducible refine Kd.C_alloc ?_ _) | (with_reducible refine Kd.C_drewN ?_ _) | (with_reducible refine Kd.C_drew ?_))); (case side2 => exact HC2.out); rintro e w8 ⟨v568, rfl, ho0, hb⟩; refine ⟨_, rfl, ?_⟩; have n0_ := Aside0.mk (Kd.R_lower ho0 (below_size (bU_ HB.out))); have n1_ := Aside0.mk (below_step (bU_ HB.out) hb); clear HB; have HO569 := n0_; have HB := n1_; clear n0_ n1_; (try clear hb); (try clear hb2); (try clear hk); (try clear hi); (try clear ho0); obtain ⟨Ao9, co9, eo9⟩ := Kd.R_slice HO569.out; subst eo9))
   go_ret3
   exact ⟨_, _, by first | rfl | (simp [errW_none, errW_some] <;> rfl) | (simp [*, errW_none, errW_some] <;> rfl), by first | exact Kd.R_nil _ _ _ _ _ | exact Kd.N_nil _ _ _ _ _ | exact Kd.V_nil _ _ _ _ _ | exact Kd.Q_nil _ _ _ _ _ | exact Kd.S_nil _ _ _ _ _, by first | exact Kd.R_nil _ _ _ _ _ | exact Kd.N_nil _ _ _ _ _ | exact Kd.V_nil _ _ _ _ _ | exact Kd.Q_nil _ _ _ _ _ | exact Kd.S_nil _ _ _ _ _, bU_ HB.out⟩
  ·rw [if_neg c7] at H
   have c7b0 : ((t567.length : Int) == 0) = false := beq_eq_false_iff_ne.mpr c7
   have c7b1 : ((t567.length : Int) != 0) = true := bne_iff_ne.mpr c7
   have c7b2 : ¬ (t567 = []) := fun h_ => c7 (by rw [h_]; rfl)
   replace H := Option.bind_eq_some_iff.mp H
   obtain ⟨t570, A100, H⟩ := H
   replace H : (if 0 ≤ (t570.length : Int) then (if ((t570.length : Int) : Int).toNat ≤ 35184372088832 then (attestorref03_Divide.l0 k a0 t567 t570 (List.replicate ((t570.length : Int) : Int).toNat 0)) else (none)) else (none)) = some (r1, r2, r3) := H
   have A10 := Aside0.mk A100
   clear A100
   by_cases c11 : 0 ≤ (t570.length : Int)
   ·rw [if_pos c11] at H
    have c11b0 := eq_true c11
    have c11b1 : decide (0 ≤ (t570.length : Int)) = true := decide_eq_true c11
    clear c11
    by_cases c12 : ((t570.length : Int) : Int).toNat ≤ 35184372088832
    ·rw [if_pos c12] at H
     have c12b0 := eq_true c12
     have c12b1 : decide (((t570.length : Int) : Int).toNat ≤ 35184372088832) = true := decide_eq_true c12
     clear c12
     obtain ⟨y573, hy573⟩ : ∃ y_ : List Int, y_ = (List.replicate ((t570.length : Int) : Int).toNat 0) := ⟨_, rfl⟩
     replace H : (attestorref03_Divide.l0 k a0 t567 t570 y573) = some (r1, r2, r3) := by first | (rw [hy573]; with_reducible exact H) | (have H2_ := (Option.bind_some _ _).symm.trans H; rw [hy573]; with_reducible exact H2_) | (have H2_ := (Option.bind_some _ _).symm.trans H; with_reducible exact H2_) | with_reducible exact H | (rw [hy573]; exact H) | exact H
     have Ny573 := Aside0.mk hy573
     clear hy573
     have H' := Aside0.mk H
     clear H
     go_enter Tryd.func38, Tryd.ntmps38
     go_wp2_with (first | ((with_reducible refine gate_callee (f := 51) rfl ?_); refine goesL_ (some 15) rfl rfl Tryd.func51 (by kernel_rfl) rfl #[.int .i64 a0] rfl (by (try simp only [List.map_toArray, List.map_cons, List.map_nil]); first | done | rfl | (simp only [List.length_drop, List.length_take]; rfl)) ?_; (with_reducible refine (attestorref01_Valid.calls a0 true _ A4.out).mono ?_); rintro e w' ⟨rfl, ⟨nd, rfl⟩⟩; refine ⟨_, rfl, ?_⟩) | ((with_reducible refine gate_callee (f := 27) rfl ?_); refine goesL_ (some 19) rfl rfl Tryd.func27 (by kernel_rfl) rfl #[.int .i64 a0, .slice A2 l2.length c2] rfl (by (try simp only [List.map_toArray, List.map_cons, List.map_nil]); first | done | rfl | (simp only [List.length_drop, List.length_take]; rfl)) ?_; (with_reducible refine (attestorref03_Normal.calls k a0 _ _ l2 t567 _ ?side1 ?side2 A6.out).mono ?_); (case side1 => repeat (first | exact HR2.out | (with_reducible refine Kd.C_alloc ?_ _) | (with_reducible refine Kd.C_drewN ?_ _) | (with_reducible refine Kd.C_drew ?_))); (case side2 => exact HC2.out); rintro e w13 ⟨v568, rfl, ho0, hb⟩; refine ⟨_, rfl, ?_⟩; have n0_ := Aside0.mk (Kd.R_lower ho0 (below_size (bU_ HB.out))); have n1_ := Aside0.mk (below_step (bU_ HB.out) hb); clear HB; have HO569 := n0_; have HB := n1_; clear n0_ n1_; (try clear hb); (try clear hb2); (try clear hk); (try clear hi); (try clear ho0); obtain ⟨Ao14, co14, eo14⟩ := Kd.R_slice HO569.out; subst eo14) | ((with_reducible refine gate_callee (f := 27) rfl ?_); refine goesL_ (some 25) rfl rfl Tryd.func27 (by kernel_rfl) rfl #[.int .i64 a0, .slice A1 l1.length c1] rfl (by (try simp only [List.map_toArray, List.map_cons, List.map_nil]); first | done | rfl | (simp only [List.length_drop, List.length_take]; rfl)) ?_; (with_reducible refine (attestorref03_Normal.calls k a0 _ _ l1 t570 _ ?side1 ?side2 A10.out).mono ?_); (case side1 => repeat (first | exact (Kd.C_below HR1.out HB.out) | (with_reducible refine Kd.C_alloc ?_ _) | (with_reducible refine Kd.C_drewN ?_ _) | (with_reducible refine Kd.C_drew ?_))); (case side2 => exact HC1.out); rintro e w15 ⟨v571, rfl, ho0, hb⟩; refine ⟨_, rfl, ?_⟩; have n0_ := Aside0.mk (Kd.R_elder' (rU_ HO569.out) (Kd.R_base ho0) hb); have n1_ := Aside0.mk (Kd.R_lower (Kd.R_new' ho0 (Kd.R_lt (rU_ HO569.out))) (below_size (bU_ HB.out))); have n2_ := Aside0.mk (below_step (bU_ HB.out) hb); clear HO569; clear HB; have HO569 := n0_; have HO572 := n1_; have HB := n2_; clear n0_ n1_ n2_; (try clear hb); (try clear hb2); (try clear hk); (try clear hi); (try clear ho0); obtain ⟨Ao16, co16, eo16⟩ := Kd.R_slice HO572.out; subst eo16) | ((with_reducible refine gate_dst (N := 28) rfl ?_); refine Kd.R_make (Kd.int .u64) _ 32 rfl (N := 28) rfl 22 _ _ rfl (t570.length : Int) ?hx ?hy Tryd.underlying22 (.int .u64 0) 8 info32 rfl (by decide) (by omega) 0 (ok := fun _ => True) (okp := fun _ => True) rfl (fun _ hk => hk) trivial (of_decide_eq_true (by first | (with_reducible assumption) | assumption)) (Nat.le_trans (Nat.mul_le_mul_right _ (of_decide_eq_true (by first | (with_reducible assumption) | assumption) : (t570.length : Int).toNat ≤ 35184372088832)) (by omega)) (Below.refl _ _) (Nat.le_refl _) ?_; (case hx => first | rfl); (case hy => first | rfl); intro v574 w17 ho18 hb hg_ hnew_; clear hg_ hnew_; (first | rw [← Ny573.out] at ho18 | (simp only [Int.reduceToNat] at ho18; rw [← Ny573.out] at ho18)); have n0_ := Aside0.mk (Kd.R_elder' (rU_ HO569.out) (Kd.R_base ho18) hb); have n1_ := Aside0.mk (Kd.R_elder' (rU_ HO572.out) (Kd.R_base ho18) hb); have n2_ := Aside0.mk (Kd.R_lower (Kd.R_new' (Kd.R_new' ho18 (Kd.R_lt (rU_ HO569.out))) (Kd.R_lt (rU_ HO572.out))) (below_size (bU_ HB.out))); have n3_ := Aside0.mk (below_step (bU_ HB.out) hb); clear HO569; clear HO572; clear HB; have HO569 := n0_; have HO572 := n1_; have HO575 := n2_; have HB := n3_; clear n0_ n1_ n2_ n3_; clear hb ho18))
     go_loopg [9] k (fun kq v9 w' => ∃ (x2_1 : List Int) (x9_1 : List Int) (x10_1 : List Int), Aside0 (attestorref03_Divide.l0 kq a0 x2_1 x9_1 x10_1 = some (r1, r2, r3)) ∧ Aside0 (kq ≤ k) ∧ Aside0 (Kd.R (Kd.int .u64) 32 w' w.heap.size (fun k_ => some k_ ≠ (v9 : Value).ownBlock ∧ some k_ ≠ (v574 : Value).ownBlock) (.slice Ao14 t567.length co14) x2_1) ∧ Aside0 (Kd.R (Kd.int .u64) 32 w' w.heap.size (fun k_ => some k_ ≠ ((.slice Ao14 t567.length co14) : Value).ownBlock ∧ some k_ ≠ (v574 : Value).ownBlock) v9 x9_1) ∧ Aside0 (Kd.R (Kd.int .u64) 32 w' w.heap.size (fun k_ => some k_ ≠ ((.slice Ao14 t567.length co14) : Value).ownBlock ∧ some k_ ≠ (v9 : Value).ownBlock) v574 x10_1) ∧ Aside0 (Below w.heap.size w w'))
     case atStart => exact ⟨(t567), (t570), (y573), H', ⟨Nat.le_refl _⟩, ⟨by (with_reducible repeat (first | apply Kd.R_alloc | apply Kd.R_drewN | apply Kd.R_drew)); exact Kd.R_mono HO569.out (fun _ hk => ⟨hk.1.2, hk.2⟩)⟩, ⟨by (with_reducible repeat (first | apply Kd.R_alloc | apply Kd.R_drewN | apply Kd.R_drew)); exact Kd.R_mono HO572.out (fun _ hk => ⟨hk.1.2, hk.2⟩)⟩, ⟨by (with_reducible repeat (first | apply Kd.R_alloc | apply Kd.R_drewN | apply Kd.R_drew)); exact Kd.R_mono HO575.out (fun _ hk => ⟨hk.1.2, hk.2⟩)⟩, ⟨bU_ HB.out⟩⟩
     case round =>
      clear H'
      try clear c1
      try clear c2
      try clear p2
      try clear c3
      try clear c5
      try clear c7
      try clear c7b0
      try clear c7b1
      try clear c7b2
      try clear c11
      try clear c11b0
      try clear c11b1
      try clear c12
      try clear c12b0
      try clear c12b1
      obtain ⟨x2_1, x9_1, x10_1, HA, HK1, HO_2, HO_9, HO_10, HB⟩ := hrel
      have hl2_1 := (Kd.R_reads' HO_2.out).1
      rw [hl2_1] at HO_2
      (try simp only [hl2_1])
      (try simp only [hl2_1] at HO_9)
      (try simp only [hl2_1] at HO_10)
      cases gk with
      | zero => exact absurd HA.out (by simp [attestorref03_Divide.l0])
      | succ k1 =>
       have H := HA.out
       clear HA
       simp only [attestorref03_Divide.l0] at H
       by_cases c19 : (x9_1.length : Int) ≥ (x2_1.length : Int)
       ·rw [if_pos c19] at H
        have c19b0 : decide ((x2_1.length : Int) ≤ (x9_1.length : Int)) = true := decide_eq_true c19
        have c19b1 : decide (x2_1.length ≤ x9_1.length) = true := decide_eq_true (Int.ofNat_le.mp c19)
        clear c19
        obtain ⟨ji20, hji20⟩ : ∃ j_ : Int, (wrap64 ((x9_1.length : Int) - 1)) = j_ := ⟨_, rfl⟩
        replace H : (if 0 ≤ (ji20) then (if (ji20) < (x9_1.length : Int) then (if 0 ≤ (wrap64 ((x2_1.length : Int) - 1)) then (if (wrap64 ((x2_1.length : Int) - 1)) < (x2_1.length : Int) then ((attestorref01_Div.f k1 a0 (rd x9_1 (ji20)) (rd x2_1 (wrap64 ((x2_1.length : Int) - 1)))).bind fun t581 => (if 0 ≤ (wrap64 ((x9_1.length : Int) - (x2_1.length : Int))) then (if (wrap64 ((x9_1.length : Int) - (x2_1.length : Int))) < (x10_1.length : Int) then (attestorref03_Divide.l1 k1 a0 x2_1 x9_1 (x10_1.set ((wrap64 ((x9_1.length : Int) - (x2_1.length : Int))) : Int).toNat t581) (wrap64 ((x9_1.length : Int) - (x2_1.length : Int))) t581 0) else (none)) else (none))) else (none)) else (none)) else (none)) else (none)) = some (r1, r2, r3) := by first | (rw [hji20] at H; exact H) | (simp only [hji20] at H ⊢; exact H)
        have hji20w : (IntKind.i64.wrap ((x9_1.length : Int) - 1)) = ji20 := (i64_w _).trans hji20
        by_cases c21 : 0 ≤ (ji20)
        ·rw [if_pos c21] at H
         have c21b0 : decide (0 ≤ (ji20)) = true := decide_eq_true c21
         clear c21
         by_cases c22 : (ji20) < (x9_1.length : Int)
         ·rw [if_pos c22] at H
          have c22b0 : decide ((ji20) < (x9_1.length : Int)) = true := decide_eq_true c22
          clear c22
          obtain ⟨ji23, hji23⟩ : ∃ j_ : Int, (wrap64 ((x2_1.length : Int) - 1)) = j_ := ⟨_, rfl⟩
          replace H : (if 0 ≤ (ji23) then (if (ji23) < (x2_1.length : Int) then ((attestorref01_Div.f k1 a0 (rd x9_1 (ji20)) (rd x2_1 (ji23))).bind fun t581 => (if 0 ≤ (wrap64 ((x9_1.length : Int) - (x2_1.length : Int))) then (if (wrap64 ((x9_1.length : Int) - (x2_1.length : Int))) < (x10_1.length : Int) then (attestorref03_Divide.l1 k1 a0 x2_1 x9_1 (x10_1.set ((wrap64 ((x9_1.length : Int) - (x2_1.length : Int))) : Int).toNat t581) (wrap64 ((x9_1.length : Int) - (x2_1.length : Int))) t581 0) else (none)) else (none))) else (none)) else (none)) = some (r1, r2, r3) := by first | (rw [hji23] at H; exact H) | (simp only [hji23] at H ⊢; exact H)
          have hji23w : (IntKind.i64.wrap ((x2_1.length : Int) - 1)) = ji23 := (i64_w _).trans hji23
          by_cases c24 : 0 ≤ (ji23)
          ·rw [if_pos c24] at H
           have c24b0 : decide (0 ≤ (ji23)) = true := decide_eq_true c24
           clear c24
           by_cases c25 : (ji23) < (x2_1.length : Int)
           ·rw [if_pos c25] at H
            have c25b0 : decide ((ji23) < (x2_1.length : Int)) = true := decide_eq_true c25
            clear c25
            replace H := Option.bind_eq_some_iff.mp H
            obtain ⟨t581, A260, H⟩ := H
            replace H : (if 0 ≤ (wrap64 ((x9_1.length : Int) - (x2_1.length : Int))) then (if (wrap64 ((x9_1.length : Int) - (x2_1.length : Int))) < (x10_1.length : Int) then (attestorref03_Divide.l1 k1 a0 x2_1 x9_1 (x10_1.set ((wrap64 ((x9_1.length : Int) - (x2_1.length : Int))) : Int).toNat t581) (wrap64 ((x9_1.length : Int) - (x2_1.length : Int))) t581 0) else (none)) else (none)) = some (r1, r2, r3) := H
            have A26 := Aside0.mk A260
            clear A260
            obtain ⟨ji27, hji27⟩ : ∃ j_ : Int, (wrap64 ((x9_1.length : Int) - (x2_1.length : Int))) = j_ := ⟨_, rfl⟩
            replace H : (if 0 ≤ (ji27) then (if (ji27) < (x10_1.length : Int) then (attestorref03_Divide.l1 k1 a0 x2_1 x9_1 (x10_1.set ((ji27) : Int).toNat t581) ji27 t581 0) else (none)) else (none)) = some (r1, r2, r3) := by first | (rw [hji27] at H; exact H) | (simp only [hji27] at H ⊢; exact H)
            (try rw [hji27] at A26)
            have hji27w : (IntKind.i64.wrap ((x9_1.length : Int) - (x2_1.length : Int))) = ji27 := (i64_w _).trans hji27
            by_cases c28 : 0 ≤ (ji27)
            ·rw [if_pos c28] at H
             have c28b0 : decide (0 ≤ (ji27)) = true := decide_eq_true c28
             clear c28
             by_cases c29 : (ji27) < (x10_1.length : Int)
             ·rw [if_pos c29] at H
              have c29b0 : decide ((ji27) < (x10_1.length : Int)) = true := decide_eq_true c29
              clear c29
              obtain ⟨y582, hy582⟩ : ∃ y_ : List Int, y_ = (x10_1.set ((ji27) : Int).toNat t581) := ⟨_, rfl⟩
              replace H : (attestorref03_Divide.l1 k1 a0 x2_1 x9_1 y582 ji27 t581 0) = some (r1, r2, r3) := by first | (rw [hy582]; with_reducible exact H) | (have H2_ := (Option.bind_some _ _).symm.trans H; rw [hy582]; with_reducible exact H2_) | (have H2_ := (Option.bind_some _ _).symm.trans H; with_reducible exact H2_) | with_reducible exact H | (rw [hy582]; exact H) | exact H
              have Ny582 := Aside0.mk hy582
              clear hy582
              have H' := Aside0.mk H
              clear H
              obtain ⟨Ao31, co31, eo31⟩ := Kd.R_slice HO_9.out
              subst eo31
              try go_wp2
              have n0_ := Aside0.mk (Kd.R_drew HO_2.out)
              have n1_ := Aside0.mk (Kd.R_drew HO_9.out)
              have n2_ := Aside0.mk (Kd.R_drew HO_10.out)
              have n3_ := Aside0.mk (below_drew1 HB.out)
              clear HO_2
              clear HO_9
              clear HO_10
              clear HB
              have HO_2 := n0_
              have HO_9 := n1_
              have HO_10 := n2_
              have HB := n3_
              clear n0_ n1_ n2_ n3_
              have pfr33 : 0 ≤ ((ji20) : Int) := of_decide_eq_true (by first | (with_reducible assumption) | assumption)
              have qfr33 : ((ji20) : Int) < ((x9_1.length : Int) : Int) := of_decide_eq_true (by first | (with_reducible assumption) | assumption)
              obtain ⟨gofr33, cofr33, eofr33, gbfr33, glfr33, clfr33, HGfr33⟩ := Kd.R_form HO_9.out (by omega)
              (first | cases eofr33 | (injection eofr33 with ea_ en_ ec_; (first | subst ea_ | (injection ea_ with ea_; subst ea_)); subst ec_; clear en_))
              have GBfr33 := Aside0.mk gbfr33
              have GGfr33 := Aside0.mk HGfr33
              clear gbfr33 glfr33 HGfr33
              clear pfr33 qfr33
              have p579 : 0 ≤ ((ji20) : Int) := of_decide_eq_true (by first | (with_reducible assumption) | assumption)
              have q579 : (ji20) < (x9_1.length : Int) := of_decide_eq_true (by first | (with_reducible assumption) | assumption)
              obtain ⟨ad579, e579, hx579_0⟩ := Kd.at_int (Kd.R_reads' HO_9.out).2.2 (ji20) p579 q579
              obtain rfl : (⟨gofr33, 0, none⟩ : Addr) = ad579 := (by injection e579)
              (first | simp only [add_plain] at hx579_0 | simp only [add_at] at hx579_0 | simp only [Addr.add, Nat.zero_add] at hx579_0 | skip)
              replace p579 := eq_true p579
              replace q579 := eq_true q579
              have pfr34 : 0 ≤ ((ji23) : Int) := of_decide_eq_true (by first | (with_reducible assumption) | assumption)
              have qfr34 : ((ji23) : Int) < ((x2_1.length : Int) : Int) := of_decide_eq_true (by first | (with_reducible assumption) | assumption)
              obtain ⟨gofr34, cofr34, eofr34, gbfr34, glfr34, clfr34, HGfr34⟩ := Kd.R_form HO_2.out (by omega)
              (first | cases eofr34 | (injection eofr34 with ea_ en_ ec_; (first | subst ea_ | (injection ea_ with ea_; subst ea_)); subst ec_; clear en_))
              have GBfr34 := Aside0.mk gbfr34
              have GGfr34 := Aside0.mk HGfr34
              clear gbfr34 glfr34 HGfr34
              clear pfr34 qfr34
              have p580 : 0 ≤ ((ji23) : Int) := of_decide_eq_true (by first | (with_reducible assumption) | assumption)
              have q580 : (ji23) < (x2_1.length : Int) := of_decide_eq_true (by first | (with_reducible assumption) | assumption)
              obtain ⟨ad580, e580, hx580_0⟩ := Kd.at_int (Kd.R_reads' HO_2.out).2.2 (ji23) p580 q580
              obtain rfl : (⟨gofr34, 0, none⟩ : Addr) = ad580 := (by injection e580)
              (first | simp only [add_plain] at hx580_0 | simp only [add_at] at hx580_0 | simp only [Addr.add, Nat.zero_add] at hx580_0 | skip)
              replace p580 := eq_true p580
              replace q580 := eq_true q580
              refine start_ (n := 15) (S := fun w' => w'.cell? ⟨gofr33, ((ji20)).toNat, none⟩ = some (.int .u64 (rd x9_1 (ji20))) ∧ w'.cell? ⟨gofr34, ((ji23)).toNat, none⟩ = some (.int .u64 (rd x2_1 (ji23)))) (ds := []) #[false, false, false, false, false, false, false, false, false, false, false, false, false, false, false] (by kernel_rfl) rfl rfl ⟨hx579_0, hx580_0⟩ (fun hHeld => ?_); refine with_tabW attestorref03_Divide.tab10 attestorref03_Divide.bits10 (fun HT_ HW_ => ?_)
              generalize wr.drew = w32 at HO_2 HO_9 HO_10 HB hx579_0 hx580_0 hHeld ⊢
              refine pure_ (i := 0) (N := some 39) (v := ?_) (a' := ?_) #[true, false, false, false, false, false, false, false, false, false, false, false, false, false, false] rfl rfl (any_of HT_.out (by kernel_rfl)) (fun _ _ _ h => h) (Or.inl ⟨by rfl, ?_⟩) ?_ ?_
              rotate_left
              ·intro w'
               go_simp
               with_reducible rfl
              rotate_left
              ·simp only [Act.put, List.setIfInBounds_toArray, List.set_cons_zero, List.set_cons_succ, i64_w, i32_w]
               rfl
              refine pure_ (i := 1) (N := some 40) (v := ?_) (a' := ?_) #[true, true, false, false, false, false, false, false, false, false, false, false, false, false, false] rfl rfl (any_of HT_.out (by kernel_rfl)) (fun _ _ _ h => h) (Or.inl ⟨by rfl, ?_⟩) ?_ ?_
              rotate_left
              ·intro w'
               go_simp
               with_reducible rfl
              rotate_left
              ·simp only [Act.put, List.setIfInBounds_toArray, List.set_cons_zero, List.set_cons_succ, i64_w, i32_w]
               rfl
              refine pure_ (i := 2) (N := some 41) (v := ?_) (a' := ?_) #[true, true, true, false, false, false, false, false, false, false, false, false, false, false, false] rfl rfl (any_of HT_.out (by kernel_rfl)) (fun _ _ _ h => h) (Or.inl ⟨by rfl, ?_⟩) ?_ ?_
              rotate_left
              ·intro w'
               go_simp
               with_reducible rfl
              rotate_left
              ·simp only [Act.put, List.setIfInBounds_toArray, List.set_cons_zero, List.set_cons_succ, i64_w, i32_w]
               rfl
              refine pure_ (i := 3) (N := some 42) (v := ?_) (a' := ?_) #[true, true, true, true, false, false, false, false, false, false, false, false, false, false, false] rfl rfl (any_of HT_.out (by kernel_rfl)) (fun _ _ _ h => h) (Or.inl ⟨by rfl, ?_⟩) ?_ ?_
              rotate_left
              ·intro w'
               go_simp
               with_reducible rfl
              rotate_left
              ·simp only [Act.put, List.setIfInBounds_toArray, List.set_cons_zero, List.set_cons_succ, i64_w, i32_w]
               rfl
              refine pure_ (i := 4) (N := some 43) (v := ?_) (a' := ?_) #[true, true, true, true, true, false, false, false, false, false, false, false, false, false, false] rfl rfl (any_of HT_.out (by kernel_rfl)) (fun _ _ _ h => h) (Or.inl ⟨by rfl, ?_⟩) ?_ ?_
              rotate_left
              ·intro w'
               go_simp
               with_reducible rfl
              rotate_left
              ·simp only [Act.put, List.setIfInBounds_toArray, List.set_cons_zero, List.set_cons_succ, i64_w, i32_w]
               rfl
              refine pure_ (i := 5) (N := some 44) (v := ?_) (a' := ?_) #[true, true, true, true, true, true, false, false, false, false, false, false, false, false, false] rfl rfl (any_of HT_.out (by kernel_rfl)) (fun _ _ _ h => h) (Or.inl ⟨by rfl, ?_⟩) ?_ ?_
              rotate_left
              ·intro w'
               go_simp
               with_reducible rfl
              rotate_left
              ·simp only [Act.put, List.setIfInBounds_toArray, List.set_cons_zero, List.set_cons_succ, i64_w, i32_w]
               rfl
              refine pure_ (i := 7) (N := some 46) (v := ?_) (a' := ?_) #[true, true, true, true, true, true, false, true, false, false, false, false, false, false, false] rfl rfl (any_of HT_.out (by kernel_rfl)) (fun _ _ _ h => h) (Or.inl ⟨by rfl, ?_⟩) ?_ ?_
              rotate_left
              ·intro w'
               go_simp
               with_reducible rfl
              rotate_left
              ·simp only [Act.put, List.setIfInBounds_toArray, List.set_cons_zero, List.set_cons_succ, i64_w, i32_w]
               rfl
              refine pure_ (i := 8) (N := some 47) (v := ?_) (a' := ?_) #[true, true, true, true, true, true, false, true, true, false, false, false, false, false, false] rfl rfl (any_of HT_.out (by kernel_rfl)) (fun _ _ _ h => h) (Or.inl ⟨by rfl, ?_⟩) ?_ ?_
              rotate_left
              ·intro w'
               go_simp
               with_reducible rfl
              rotate_left
              ·simp only [Act.put, List.setIfInBounds_toArray, List.set_cons_zero, List.set_cons_succ, i64_w, i32_w]
               rfl
              refine pure_ (i := 9) (N := some 48) (v := ?_) (a' := ?_) #[true, true, true, true, true, true, false, true, true, true, false, false, false, false, false] rfl rfl (any_of HT_.out (by kernel_rfl)) (fun _ _ _ h => h) (Or.inl ⟨by rfl, ?_⟩) ?_ ?_
              rotate_left
              ·intro w'
               go_simp
               with_reducible rfl
              rotate_left
              ·simp only [Act.put, List.setIfInBounds_toArray, List.set_cons_zero, List.set_cons_succ, i64_w, i32_w]
               rfl
              refine pure_ (i := 10) (N := some 49) (v := ?_) (a' := ?_) #[true, true, true, true, true, true, false, true, true, true, true, false, false, false, false] rfl rfl (any_of HT_.out (by kernel_rfl)) (fun _ _ _ h => h) (Or.inl ⟨by rfl, ?_⟩) ?_ ?_
              rotate_left
              ·intro w'
               go_simp
               with_reducible rfl
              rotate_left
              ·simp only [Act.put, List.setIfInBounds_toArray, List.set_cons_zero, List.set_cons_succ, i64_w, i32_w]
               rfl
              refine pure_ (i := 11) (N := some 50) (v := ?_) (a' := ?_) #[true, true, true, true, true, true, false, true, true, true, true, true, false, false, false] rfl rfl (any_of HT_.out (by kernel_rfl)) (fun _ _ _ h => h) (Or.inl ⟨by rfl, ?_⟩) ?_ ?_
              rotate_left
              ·intro w'
               go_simp
               with_reducible rfl
              rotate_left
              ·simp only [Act.put, List.setIfInBounds_toArray, List.set_cons_zero, List.set_cons_succ, i64_w, i32_w]
               rfl
              refine take_ (i := 6) (N := some 45) (v := ?_) (a' := ?_) #[true, true, true, true, true, true, true, true, true, true, true, true, false, false, false] rfl rfl (take_ofW HT_.out HW_.out (by kernel_rfl)) (fun _ _ _ h => h) (Or.inl ⟨by rfl, ?_⟩) hHeld ?_ ?_
              rotate_left
              ·rintro w' ⟨s0, s1⟩
               go_simp
               with_reducible rfl
              rotate_left
              ·simp only [Act.put, List.setIfInBounds_toArray, List.set_cons_zero, List.set_cons_succ, i64_w, i32_w]
               rfl
              refine take_ (i := 12) (N := some 51) (v := ?_) (a' := ?_) #[true, true, true, true, true, true, true, true, true, true, true, true, true, false, false] rfl rfl (take_ofW HT_.out HW_.out (by kernel_rfl)) (fun _ _ _ h => h) (Or.inl ⟨by rfl, ?_⟩) hHeld ?_ ?_
              rotate_left
              ·rintro w' ⟨s0, s1⟩
               go_simp
               with_reducible rfl
              rotate_left
              ·simp only [Act.put, List.setIfInBounds_toArray, List.set_cons_zero, List.set_cons_succ, i64_w, i32_w]
               rfl
              refine one_ (i := 13) (N := some 52) #[true, true, true, true, true, true, true, true, true, true, true, true, true, true, false] rfl rfl (one_of HT_.out (by kernel_rfl)) (by decide) (fun K hK => ?_)
              refine goes_ Tryd.func53 (by kernel_rfl) rfl #[.int .i64 a0, .int .u64 (rd x9_1 (ji20)), .int .u64 (rd x2_1 (ji23))] (by rfl) rfl rfl (by (try simp only [List.map_toArray, List.map_cons, List.map_nil]); first | done | (simp only [hji20, hji23]; rfl) | rfl | (simp only [List.length_drop, List.length_take]; rfl)) ?_
              with_reducible refine (attestorref01_Div.calls k1 a0 (rd x9_1 (ji20)) (rd x2_1 (ji23)) t581 _ A26.out).mono ?_
              rintro e w' ⟨rfl, ⟨nd, rfl⟩⟩
              refine ⟨_, rfl, ?_⟩
              refine hK.out _ _ ⟨hHeld.1, hHeld.2⟩ (fun hHeld => ?_)
              clear hK K
              refine norm_ (a' := ?_) ?_ ?_
              rotate_left
              ·show Act.put _ (some 52) _ = _
               simp only [Act.put, List.setIfInBounds_toArray, List.set_cons_zero, List.set_cons_succ, i64_w, i32_w]
               rfl
              refine pure_ (i := 14) (N := some 12) (v := ?_) (a' := ?_) #[true, true, true, true, true, true, true, true, true, true, true, true, true, true, true] rfl rfl (any_of HT_.out (by kernel_rfl)) (fun _ _ _ h => h) (Or.inl ⟨by rfl, ?_⟩) ?_ ?_
              rotate_left
              ·intro w'
               go_simp
               with_reducible rfl
              rotate_left
              ·simp only [Act.put, List.setIfInBounds_toArray, List.set_cons_zero, List.set_cons_succ, i64_w, i32_w]
               rfl
              refine done_ (done_of HT_.out (by kernel_rfl)) ?_
              (try (rw [drewN_self w32]; generalize hq_ : World.drewN w32 _ = w32; have n0_ : Aside0 (Kd.R (Kd.int .u64) 32 w32 w.heap.size (fun k_ => some k_ ≠ (.slice (some ⟨gofr34, 0, none⟩) x2_1.length co14 : Value).ownBlock ∧ some k_ ≠ (.slice (some ⟨gofr33, 0, none⟩) x9_1.length co31 : Value).ownBlock) v574 x10_1) := ⟨by rw [← hq_]; exact (rU_ HO_10.out)⟩; have n1_ : Aside0 (Kd.R (Kd.int .u64) 32 w32 w.heap.size (fun k_ => some k_ ≠ (v574 : Value).ownBlock ∧ some k_ ≠ (.slice (some ⟨gofr33, 0, none⟩) x9_1.length co31 : Value).ownBlock) (.slice (some ⟨gofr34, 0, none⟩) x2_1.length co14) x2_1) := ⟨by rw [← hq_]; exact (by (with_reducible repeat (first | apply Kd.R_alloc | apply Kd.R_drewN | apply Kd.R_drew)); exact Kd.R_mono HO_2.out (fun _ hk => ⟨hk.2, hk.1⟩))⟩; have n2_ : Aside0 (Kd.R (Kd.int .u64) 32 w32 w.heap.size (fun k_ => some k_ ≠ (v574 : Value).ownBlock ∧ some k_ ≠ (.slice (some ⟨gofr34, 0, none⟩) x2_1.length co14 : Value).ownBlock) (.slice (some ⟨gofr33, 0, none⟩) x9_1.length co31) x9_1) := ⟨by rw [← hq_]; exact (by (with_reducible repeat (first | apply Kd.R_alloc | apply Kd.R_drewN | apply Kd.R_drew)); exact Kd.R_mono HO_9.out (fun _ hk => ⟨hk.2, hk.1⟩))⟩; have n3_ : Aside0 (Below w.heap.size w w32) := ⟨by rw [← hq_]; exact (bU_ HB.out)⟩; clear HO_10 HO_2 HO_9 HB hq_; have HO_10 := n0_; have HO_2 := n1_; have HO_9 := n2_; have HB := n3_; clear n0_ n1_ n2_ n3_))
              have p30 : 0 ≤ ((ji27) : Int) := of_decide_eq_true (by first | (with_reducible assumption) | assumption)
              have q30 : ((ji27) : Int) < ((x10_1.length : Int) : Int) := of_decide_eq_true (by first | (with_reducible assumption) | assumption)
              obtain ⟨go30, co30, eo30, gb30, gl30, cl30, HG30⟩ := Kd.R_form HO_10.out (by omega)
              (first | cases eo30 | (injection eo30 with ea_ en_ ec_; (first | subst ea_ | (injection ea_ with ea_; subst ea_)); subst ec_; clear en_))
              have GB30 := Aside0.mk gb30
              have GG30 := Aside0.mk HG30
              clear gb30 gl30 HG30
              obtain ⟨hx30_0, hf30_0⟩ := Kd.R_celln 0 HO_10.out ((ji27) : Int) p30 q30
              replace p30 := eq_true p30
              replace q30 := eq_true q30
              obtain ⟨hy35_, hz35_⟩ := Kd.R_celln 0 HO_10.out ((ji27) : Int) (of_decide_eq_true (by first | (with_reducible assumption) | assumption)) (of_decide_eq_true (by first | (with_reducible assumption) | assumption))
              have HP35 := Kd.R_putg HO_10.out ((ji27) : Int) t581
              try go_wp2_with (first | ((with_reducible refine gate_store (t := 32) (p := 56) rfl ?_); refine store_event (t := 32) (p := 56) (v := ?vo_w36) (w1 := (w32.setCell ⟨go30, ((ji27) : Int).toNat, none⟩ (.int .u64 t581))) ?hg ?ho ?hn ?hr ?_; (case ho => rfl); (case hg => rfl); (case hn => rfl); (case hr => first | (go_simp; done) | (go_simp; rfl)); intro w36 hw; have hg : w32.grownBy w36 (some go30) := (by rw [hw]; exact HP35.2); have hp_ : Kd.R (Kd.int .u64) 32 w36 w.heap.size (fun k_ => some k_ ≠ (.slice (some ⟨gofr34, 0, none⟩) x2_1.length co14 : Value).ownBlock ∧ some k_ ≠ (.slice (some ⟨gofr33, 0, none⟩) x9_1.length co31 : Value).ownBlock) (.slice (some ⟨go30, 0, none⟩) x10_1.length co30) y582 := (by rw [hw, Ny582.out]; exact HP35.1); clear HP35; have n0_ := Aside0.mk (Kd.R_after (v := (.slice (some ⟨go30, 0, none⟩) x10_1.length co30)) (v1 := (.slice (some ⟨go30, 0, none⟩) x10_1.length co30)) (ok := (fun k_ => some k_ ≠ (.slice (some ⟨gofr33, 0, none⟩) x9_1.length co31 : Value).ownBlock)) (by (with_reducible repeat (first | apply Kd.R_alloc | apply Kd.R_drewN | apply Kd.R_drew)); exact Kd.R_mono HO_2.out (fun _ hk => ⟨hk.2, hk.1⟩)) hg (.inl rfl)); have n1_ := Aside0.mk (Kd.R_after (v := (.slice (some ⟨go30, 0, none⟩) x10_1.length co30)) (v1 := (.slice (some ⟨go30, 0, none⟩) x10_1.length co30)) (ok := (fun k_ => some k_ ≠ (.slice (some ⟨gofr34, 0, none⟩) x2_1.length co14 : Value).ownBlock)) (by (with_reducible repeat (first | apply Kd.R_alloc | apply Kd.R_drewN | apply Kd.R_drew)); exact Kd.R_mono HO_9.out (fun _ hk => ⟨hk.2, hk.1⟩)) hg (.inl rfl)); have n2_ := Aside0.mk (hp_); have n3_ := Aside0.mk ((by rw [hw]; exact below_set (HB.out) GB30.out : Below w.heap.size w w36)); clear HO_2; clear HO_9; clear HO_10; clear HB; have HO_2 := n0_; have HO_9 := n1_; have HO_10 := n2_; have HB := n3_; clear n0_ n1_ n2_ n3_; clear hg hw hp_))
              go_loopg [13] k1 (fun kq v13 w' => ∃ (x9_2 : List Int) (x13_2 : Int), v13 = .int .i64 x13_2 ∧ Aside0 (attestorref03_Divide.l1 kq a0 x2_1 x9_2 y582 ji27 t581 x13_2 = some (r1, r2, r3)) ∧ Aside0 (kq ≤ k1) ∧ Aside0 (Kd.R (Kd.int .u64) 32 w' w.heap.size (fun k_ => some k_ ≠ ((.slice (some ⟨gofr33, 0, none⟩) x9_1.length co31) : Value).ownBlock ∧ some k_ ≠ ((.slice (some ⟨go30, 0, none⟩) x10_1.length co30) : Value).ownBlock) (.slice (some ⟨gofr34, 0, none⟩) x2_1.length co14) x2_1) ∧ Aside0 (Kd.R (Kd.int .u64) 32 w' w.heap.size (fun k_ => some k_ ≠ ((.slice (some ⟨gofr34, 0, none⟩) x2_1.length co14) : Value).ownBlock ∧ some k_ ≠ ((.slice (some ⟨go30, 0, none⟩) x10_1.length co30) : Value).ownBlock) (.slice (some ⟨gofr33, 0, none⟩) x9_1.length co31) x9_2) ∧ Aside0 (Kd.R (Kd.int .u64) 32 w' w.heap.size (fun k_ => some k_ ≠ ((.slice (some ⟨gofr34, 0, none⟩) x2_1.length co14) : Value).ownBlock ∧ some k_ ≠ ((.slice (some ⟨gofr33, 0, none⟩) x9_1.length co31) : Value).ownBlock) (.slice (some ⟨go30, 0, none⟩) x10_1.length co30) y582) ∧ Aside0 (Below w.heap.size w w'))
              case atStart => exact ⟨(x9_1), (0), (by first | rfl | (simp; done) | (simp [*]; done)), H', ⟨Nat.le_refl _⟩, ⟨by (try simp only [hl2_1]); (with_reducible repeat (first | apply Kd.R_alloc | apply Kd.R_drewN | apply Kd.R_drew)); exact HO_2.out⟩, ⟨by (try simp only [hl2_1]); (with_reducible repeat (first | apply Kd.R_alloc | apply Kd.R_drewN | apply Kd.R_drew)); exact HO_9.out⟩, ⟨by (try simp only [hl2_1]); (with_reducible repeat (first | apply Kd.R_alloc | apply Kd.R_drewN | apply Kd.R_drew)); exact HO_10.out⟩, ⟨bU_ HB.out⟩⟩
              case round =>
               clear H'
               try clear c1
               try clear c2
               try clear p2
               try clear c3
               try clear p3
               try clear q3
               try clear hx3
               try clear hf3
               try clear c5
               try clear p5
               try clear q5
               try clear hx5
               try clear p6
               try clear c7
               try clear c7b0
               try clear c7b1
               try clear c7b2
               try clear c11
               try clear c11b0
               try clear c11b1
               try clear c12
               try clear c12b0
               try clear c12b1
               try clear c19
               try clear c19b0
               try clear c19b1
               try clear c21
               try clear c21b0
               try clear c22
               try clear c22b0
               try clear c24
               try clear c24b0
               try clear c25
               try clear c25b0
               try clear c27
               try clear c28
               try clear c28b0
               try clear c29
               try clear c29b0
               try clear p30
               try clear q30
               try clear hx30
               try clear hf30
               try clear hx30_0
               try clear hx579_0
               try clear hx580_0
               try clear p2
               try clear p30
               try clear p579
               try clear p580
               try clear q30
               try clear q579
               try clear q580
               obtain ⟨x9_2, x13_2, rfl, HA, HK2, HO_2, HO_9, HO_10, HB⟩ := hrel
               have hl9_2 := (Kd.R_reads' HO_9.out).1
               rw [hl9_2] at HO_9
               (try simp only [hl9_2])
               (try simp only [hl9_2] at HO_2)
               (try simp only [hl9_2] at HO_10)
               have hl10_2 := (Kd.R_reads' HO_10.out).1
               rw [hl10_2] at HO_10
               (try simp only [hl10_2])
               (try simp only [hl10_2] at HO_2)
               (try simp only [hl10_2] at HO_9)
               cases gk with
               | zero => exact absurd HA.out (by simp [attestorref03_Divide.l1])
               | succ k2 =>
                have H := HA.out
                clear HA
                simp only [attestorref03_Divide.l1] at H
                by_cases c37 : x13_2 < (x2_1.length : Int)
                ·rw [if_pos c37] at H
                 have c37b0 : decide (x13_2 < (x2_1.length : Int)) = true := decide_eq_true c37
                 clear c37
                 obtain ⟨ji38, hji38⟩ : ∃ j_ : Int, (wrap64 (ji27 + x13_2)) = j_ := ⟨_, rfl⟩
                 replace H : (if 0 ≤ (ji38) then (if (ji38) < (x9_2.length : Int) then (if 0 ≤ x13_2 then ((attestorref01_Mul.f a0 t581 (rd x2_1 x13_2)).bind fun t585 => ((attestorref01_Sub.f a0 (rd x9_2 (ji38)) t585).bind fun t586 => (attestorref03_Divide.l1 k2 a0 x2_1 (x9_2.set ((ji38) : Int).toNat t586) y582 ji27 t581 (wrap64 (x13_2 + 1))))) else (none)) else (none)) else (none)) = some (r1, r2, r3) := by first | (rw [hji38] at H; exact H) | (simp only [hji38] at H ⊢; exact H)
                 have hji38w : (IntKind.i64.wrap (ji27 + x13_2)) = ji38 := (i64_w _).trans hji38
                 by_cases c39 : 0 ≤ (ji38)
                 ·rw [if_pos c39] at H
                  have c39b0 : decide (0 ≤ (ji38)) = true := decide_eq_true c39
                  clear c39
                  by_cases c40 : (ji38) < (x9_2.length : Int)
                  ·rw [if_pos c40] at H
                   have c40b0 : decide ((ji38) < (x9_2.length : Int)) = true := decide_eq_true c40
                   clear c40
                   by_cases c41 : 0 ≤ x13_2
                   ·rw [if_pos c41] at H
                    have c41b0 : decide (0 ≤ x13_2) = true := decide_eq_true c41
                    clear c41
                    replace H := Option.bind_eq_some_iff.mp H
                    obtain ⟨t585, A420, H⟩ := H
                    replace H : ((attestorref01_Sub.f a0 (rd x9_2 (ji38)) t585).bind fun t586 => (attestorref03_Divide.l1 k2 a0 x2_1 (x9_2.set ((ji38) : Int).toNat t586) y582 ji27 t581 (wrap64 (x13_2 + 1)))) = some (r1, r2, r3) := H
                    have A42 := Aside0.mk A420
                    clear A420
                    replace H := Option.bind_eq_some_iff.mp H
                    obtain ⟨t586, A430, H⟩ := H
                    replace H : (attestorref03_Divide.l1 k2 a0 x2_1 (x9_2.set ((ji38) : Int).toNat t586) y582 ji27 t581 (wrap64 (x13_2 + 1))) = some (r1, r2, r3) := H
                    have A43 := Aside0.mk A430
                    clear A430
                    obtain ⟨y587, hy587⟩ : ∃ y_ : List Int, y_ = (x9_2.set ((ji38) : Int).toNat t586) := ⟨_, rfl⟩
                    replace H : (attestorref03_Divide.l1 k2 a0 x2_1 y587 y582 ji27 t581 (wrap64 (x13_2 + 1))) = some (r1, r2, r3) := by first | (rw [hy587]; with_reducible exact H) | (have H2_ := (Option.bind_some _ _).symm.trans H; rw [hy587]; with_reducible exact H2_) | (have H2_ := (Option.bind_some _ _).symm.trans H; with_reducible exact H2_) | with_reducible exact H | (rw [hy587]; exact H) | exact H
                    have Ny587 := Aside0.mk hy587
                    clear hy587
                    have H' := Aside0.mk H
                    clear H
                    try go_wp2
                    have n0_ := Aside0.mk (Kd.R_drew HO_2.out)
                    have n1_ := Aside0.mk (Kd.R_drew HO_9.out)
                    have n2_ := Aside0.mk (Kd.R_drew HO_10.out)
                    have n3_ := Aside0.mk (below_drew1 HB.out)
                    clear HO_2
                    clear HO_9
                    clear HO_10
                    clear HB
                    have HO_2 := n0_
                    have HO_9 := n1_
                    have HO_10 := n2_
                    have HB := n3_
                    clear n0_ n1_ n2_ n3_
                    have p583 : 0 ≤ ((ji38) : Int) := of_decide_eq_true (by first | (with_reducible assumption) | assumption)
                    have q583 : (ji38) < (x9_2.length : Int) := of_decide_eq_true (by first | (with_reducible assumption) | assumption)
                    obtain ⟨ad583, e583, hx583_0⟩ := Kd.at_int (Kd.R_reads' HO_9.out).2.2 (ji38) p583 q583
                    obtain rfl : (⟨gofr33, 0, none⟩ : Addr) = ad583 := (by injection e583)
                    (first | simp only [add_plain] at hx583_0 | simp only [add_at] at hx583_0 | simp only [Addr.add, Nat.zero_add] at hx583_0 | skip)
                    replace p583 := eq_true p583
                    replace q583 := eq_true q583
                    have p584 : 0 ≤ (x13_2 : Int) := of_decide_eq_true (by first | (with_reducible assumption) | assumption)
                    have q584 : x13_2 < (x2_1.length : Int) := of_decide_eq_true (by first | (with_reducible assumption) | assumption)
                    obtain ⟨ad584, e584, hx584_0⟩ := Kd.at_int (Kd.R_reads' HO_2.out).2.2 x13_2 p584 q584
                    obtain rfl : (⟨gofr34, 0, none⟩ : Addr) = ad584 := (by injection e584)
                    (first | simp only [add_plain] at hx584_0 | simp only [add_at] at hx584_0 | simp only [Addr.add, Nat.zero_add] at hx584_0 | skip)
                    replace p584 := eq_true p584
                    replace q584 := eq_true q584
                    refine start_ (n := 21) (S := fun w' => w'.cell? ⟨gofr33, ((ji38)).toNat, none⟩ = some (.int .u64 (rd x9_2 (ji38))) ∧ w'.cell? ⟨gofr34, (x13_2).toNat, none⟩ = some (.int .u64 (rd x2_1 x13_2))) (ds := [20]) #[false, false, false, false, false, false, false, false, false, false, false, false, false, false, false, false, false, false, false, false, false] (by kernel_rfl) rfl rfl ⟨hx583_0, hx584_0⟩ (fun hHeld => ?_); refine with_tabW attestorref03_Divide.tab15 attestorref03_Divide.bits15 (fun HT_ HW_ => ?_)
                    generalize wr.drew = w45 at HO_2 HO_9 HO_10 HB hx583_0 hx584_0 hHeld ⊢
                    refine pure_ (i := 0) (N := some 63) (v := ?_) (a' := ?_) #[true, false, false, false, false, false, false, false, false, false, false, false, false, false, false, false, false, false, false, false, false] rfl rfl (any_of HT_.out (by kernel_rfl)) (fun _ _ _ h => h) (Or.inl ⟨by rfl, ?_⟩) ?_ ?_
                    rotate_left
                    ·intro w'
                     go_simp
                     with_reducible rfl
                    rotate_left
                    ·simp only [Act.put, List.setIfInBounds_toArray, List.set_cons_zero, List.set_cons_succ, i64_w, i32_w]
                     rfl
                    refine pure_ (i := 1) (N := some 64) (v := ?_) (a' := ?_) #[true, true, false, false, false, false, false, false, false, false, false, false, false, false, false, false, false, false, false, false, false] rfl rfl (any_of HT_.out (by kernel_rfl)) (fun _ _ _ h => h) (Or.inl ⟨by rfl, ?_⟩) ?_ ?_
                    rotate_left
                    ·intro w'
                     go_simp
                     with_reducible rfl
                    rotate_left
                    ·simp only [Act.put, List.setIfInBounds_toArray, List.set_cons_zero, List.set_cons_succ, i64_w, i32_w]
                     rfl
                    refine pure_ (i := 2) (N := some 65) (v := ?_) (a' := ?_) #[true, true, true, false, false, false, false, false, false, false, false, false, false, false, false, false, false, false, false, false, false] rfl rfl (any_of HT_.out (by kernel_rfl)) (fun _ _ _ h => h) (Or.inl ⟨by rfl, ?_⟩) ?_ ?_
                    rotate_left
                    ·intro w'
                     go_simp
                     with_reducible rfl
                    rotate_left
                    ·simp only [Act.put, List.setIfInBounds_toArray, List.set_cons_zero, List.set_cons_succ, i64_w, i32_w]
                     rfl
                    refine pure_ (i := 3) (N := some 66) (v := ?_) (a' := ?_) #[true, true, true, true, false, false, false, false, false, false, false, false, false, false, false, false, false, false, false, false, false] rfl rfl (any_of HT_.out (by kernel_rfl)) (fun _ _ _ h => h) (Or.inl ⟨by rfl, ?_⟩) ?_ ?_
                    rotate_left
                    ·intro w'
                     go_simp
                     with_reducible rfl
                    rotate_left
                    ·simp only [Act.put, List.setIfInBounds_toArray, List.set_cons_zero, List.set_cons_succ, i64_w, i32_w]
                     rfl
                    refine pure_ (i := 4) (N := some 67) (v := ?_) (a' := ?_) #[true, true, true, true, true, false, false, false, false, false, false, false, false, false, false, false, false, false, false, false, false] rfl rfl (any_of HT_.out (by kernel_rfl)) (fun _ _ _ h => h) (Or.inl ⟨by rfl, ?_⟩) ?_ ?_
                    rotate_left
                    ·intro w'
                     go_simp
                     with_reducible rfl
                    rotate_left
                    ·simp only [Act.put, List.setIfInBounds_toArray, List.set_cons_zero, List.set_cons_succ, i64_w, i32_w]
                     rfl
                    refine pure_ (i := 5) (N := some 68) (v := ?_) (a' := ?_) #[true, true, true, true, true, true, false, false, false, false, false, false, false, false, false, false, false, false, false, false, false] rfl rfl (any_of HT_.out (by kernel_rfl)) (fun _ _ _ h => h) (Or.inl ⟨by rfl, ?_⟩) ?_ ?_
                    rotate_left
                    ·intro w'
                     go_simp
                     with_reducible rfl
                    rotate_left
                    ·simp only [Act.put, List.setIfInBounds_toArray, List.set_cons_zero, List.set_cons_succ, i64_w, i32_w]
                     rfl
                    refine pure_ (i := 6) (N := some 69) (v := ?_) (a' := ?_) #[true, true, true, true, true, true, true, false, false, false, false, false, false, false, false, false, false, false, false, false, false] rfl rfl (any_of HT_.out (by kernel_rfl)) (fun _ _ _ h => h) (Or.inl ⟨by rfl, ?_⟩) ?_ ?_
                    rotate_left
                    ·intro w'
                     go_simp
                     with_reducible rfl
                    rotate_left
                    ·simp only [Act.put, List.setIfInBounds_toArray, List.set_cons_zero, List.set_cons_succ, i64_w, i32_w]
                     rfl
                    refine pure_ (i := 7) (N := some 70) (v := ?_) (a' := ?_) #[true, true, true, true, true, true, true, true, false, false, false, false, false, false, false, false, false, false, false, false, false] rfl rfl (any_of HT_.out (by kernel_rfl)) (fun _ _ _ h => h) (Or.inl ⟨by rfl, ?_⟩) ?_ ?_
                    rotate_left
                    ·intro w'
                     go_simp
                     with_reducible rfl
                    rotate_left
                    ·simp only [Act.put, List.setIfInBounds_toArray, List.set_cons_zero, List.set_cons_succ, i64_w, i32_w]
                     rfl
                    refine pure_ (i := 8) (N := some 71) (v := ?_) (a' := ?_) #[true, true, true, true, true, true, true, true, true, false, false, false, false, false, false, false, false, false, false, false, false] rfl rfl (any_of HT_.out (by kernel_rfl)) (fun _ _ _ h => h) (Or.inl ⟨by rfl, ?_⟩) ?_ ?_
                    rotate_left
                    ·intro w'
                     go_simp
                     with_reducible rfl
                    rotate_left
                    ·simp only [Act.put, List.setIfInBounds_toArray, List.set_cons_zero, List.set_cons_succ, i64_w, i32_w]
                     rfl
                    refine pure_ (i := 9) (N := some 72) (v := ?_) (a' := ?_) #[true, true, true, true, true, true, true, true, true, true, false, false, false, false, false, false, false, false, false, false, false] rfl rfl (any_of HT_.out (by kernel_rfl)) (fun _ _ _ h => h) (Or.inl ⟨by rfl, ?_⟩) ?_ ?_
                    rotate_left
                    ·intro w'
                     go_simp
                     with_reducible rfl
                    rotate_left
                    ·simp only [Act.put, List.setIfInBounds_toArray, List.set_cons_zero, List.set_cons_succ, i64_w, i32_w]
                     rfl
                    refine pure_ (i := 11) (N := some 74) (v := ?_) (a' := ?_) #[true, true, true, true, true, true, true, true, true, true, false, true, false, false, false, false, false, false, false, false, false] rfl rfl (any_of HT_.out (by kernel_rfl)) (fun _ _ _ h => h) (Or.inl ⟨by rfl, ?_⟩) ?_ ?_
                    rotate_left
                    ·intro w'
                     go_simp
                     with_reducible rfl
                    rotate_left
                    ·simp only [Act.put, List.setIfInBounds_toArray, List.set_cons_zero, List.set_cons_succ, i64_w, i32_w]
                     rfl
                    refine pure_ (i := 12) (N := some 75) (v := ?_) (a' := ?_) #[true, true, true, true, true, true, true, true, true, true, false, true, true, false, false, false, false, false, false, false, false] rfl rfl (any_of HT_.out (by kernel_rfl)) (fun _ _ _ h => h) (Or.inl ⟨by rfl, ?_⟩) ?_ ?_
                    rotate_left
                    ·intro w'
                     go_simp
                     with_reducible rfl
                    rotate_left
                    ·simp only [Act.put, List.setIfInBounds_toArray, List.set_cons_zero, List.set_cons_succ, i64_w, i32_w]
                     rfl
                    refine pure_ (i := 13) (N := some 76) (v := ?_) (a' := ?_) #[true, true, true, true, true, true, true, true, true, true, false, true, true, true, false, false, false, false, false, false, false] rfl rfl (any_of HT_.out (by kernel_rfl)) (fun _ _ _ h => h) (Or.inl ⟨by rfl, ?_⟩) ?_ ?_
                    rotate_left
                    ·intro w'
                     go_simp
                     with_reducible rfl
                    rotate_left
                    ·simp only [Act.put, List.setIfInBounds_toArray, List.set_cons_zero, List.set_cons_succ, i64_w, i32_w]
                     rfl
                    refine pure_ (i := 14) (N := some 77) (v := ?_) (a' := ?_) #[true, true, true, true, true, true, true, true, true, true, false, true, true, true, true, false, false, false, false, false, false] rfl rfl (any_of HT_.out (by kernel_rfl)) (fun _ _ _ h => h) (Or.inl ⟨by rfl, ?_⟩) ?_ ?_
                    rotate_left
                    ·intro w'
                     go_simp
                     with_reducible rfl
                    rotate_left
                    ·simp only [Act.put, List.setIfInBounds_toArray, List.set_cons_zero, List.set_cons_succ, i64_w, i32_w]
                     rfl
                    refine pure_ (i := 15) (N := some 78) (v := ?_) (a' := ?_) #[true, true, true, true, true, true, true, true, true, true, false, true, true, true, true, true, false, false, false, false, false] rfl rfl (any_of HT_.out (by kernel_rfl)) (fun _ _ _ h => h) (Or.inl ⟨by rfl, ?_⟩) ?_ ?_
                    rotate_left
                    ·intro w'
                     go_simp
                     with_reducible rfl
                    rotate_left
                    ·simp only [Act.put, List.setIfInBounds_toArray, List.set_cons_zero, List.set_cons_succ, i64_w, i32_w]
                     rfl
                    refine take_ (i := 10) (N := some 73) (v := ?_) (a' := ?_) #[true, true, true, true, true, true, true, true, true, true, true, true, true, true, true, true, false, false, false, false, false] rfl rfl (take_ofW HT_.out HW_.out (by kernel_rfl)) (fun _ _ _ h => h) (Or.inl ⟨by rfl, ?_⟩) hHeld ?_ ?_
                    rotate_left
                    ·rintro w' ⟨s0, s1⟩
                     go_simp
                     with_reducible rfl
                    rotate_left
                    ·simp only [Act.put, List.setIfInBounds_toArray, List.set_cons_zero, List.set_cons_succ, i64_w, i32_w]
                     rfl
                    refine take_ (i := 16) (N := some 79) (v := ?_) (a' := ?_) #[true, true, true, true, true, true, true, true, true, true, true, true, true, true, true, true, true, false, false, false, false] rfl rfl (take_ofW HT_.out HW_.out (by kernel_rfl)) (fun _ _ _ h => h) (Or.inl ⟨by rfl, ?_⟩) hHeld ?_ ?_
                    rotate_left
                    ·rintro w' ⟨s0, s1⟩
                     go_simp
                     with_reducible rfl
                    rotate_left
                    ·simp only [Act.put, List.setIfInBounds_toArray, List.set_cons_zero, List.set_cons_succ, i64_w, i32_w]
                     rfl
                    refine one_ (i := 17) (N := some 80) #[true, true, true, true, true, true, true, true, true, true, true, true, true, true, true, true, true, true, false, false, false] rfl rfl (one_of HT_.out (by kernel_rfl)) (by decide) (fun K hK => ?_)
                    refine goes_ Tryd.func62 (by kernel_rfl) rfl #[.int .i64 a0, .int .u64 t581, .int .u64 (rd x2_1 x13_2)] (by rfl) rfl rfl (by (try simp only [List.map_toArray, List.map_cons, List.map_nil]); first | done | rfl | (simp only [List.length_drop, List.length_take]; rfl)) ?_
                    with_reducible refine (attestorref01_Mul.calls a0 t581 (rd x2_1 x13_2) t585 _ A42.out).mono ?_
                    rintro e w' ⟨rfl, ⟨nd, rfl⟩⟩
                    refine ⟨_, rfl, ?_⟩
                    refine hK.out _ _ ⟨hHeld.1, hHeld.2⟩ (fun hHeld => ?_)
                    clear hK K
                    refine norm_ (a' := ?_) ?_ ?_
                    rotate_left
                    ·show Act.put _ (some 80) _ = _
                     simp only [Act.put, List.setIfInBounds_toArray, List.set_cons_zero, List.set_cons_succ, i64_w, i32_w]
                     rfl
                    refine one_ (i := 18) (N := some 81) #[true, true, true, true, true, true, true, true, true, true, true, true, true, true, true, true, true, true, true, false, false] rfl rfl (one_of HT_.out (by kernel_rfl)) (by decide) (fun K hK => ?_)
                    refine goes_ Tryd.func52 (by kernel_rfl) rfl #[.int .i64 a0, .int .u64 (rd x9_2 (ji38)), .int .u64 t585] (by rfl) rfl rfl (by (try simp only [List.map_toArray, List.map_cons, List.map_nil]); first | done | (simp only [hji38]; rfl) | rfl | (simp only [List.length_drop, List.length_take]; rfl)) ?_
                    with_reducible refine (attestorref01_Sub.calls a0 (rd x9_2 (ji38)) t585 t586 _ A43.out).mono ?_
                    rintro e w' ⟨rfl, ⟨nd, rfl⟩⟩
                    refine ⟨_, rfl, ?_⟩
                    have p44 : 0 ≤ ((ji38) : Int) := of_decide_eq_true (by first | (with_reducible assumption) | assumption)
                    have q44 : ((ji38) : Int) < ((x9_2.length : Int) : Int) := of_decide_eq_true (by first | (with_reducible assumption) | assumption)
                    obtain ⟨hx44_0, hf44_0⟩ := Kd.R_celln 0 HO_9.out ((ji38) : Int) p44 q44
                    replace p44 := eq_true p44
                    replace q44 := eq_true q44
                    have HP46 := Kd.R_putn HO_9.out ((ji38) : Int) t586
                    rw [← Ny587.out] at HP46
                    have HQ46 := Aside0.mk HP46
                    clear HP46
                    refine hK.out _ _ ⟨hHeld.1, hHeld.2⟩ (fun hHeld => ?_)
                    clear hK K
                    refine norm_ (a' := ?_) ?_ ?_
                    rotate_left
                    ·show Act.put _ (some 81) _ = _
                     simp only [Act.put, List.setIfInBounds_toArray, List.set_cons_zero, List.set_cons_succ, i64_w, i32_w]
                     rfl
                    refine pure_ (i := 19) (N := some 82) (v := ?_) (a' := ?_) #[true, true, true, true, true, true, true, true, true, true, true, true, true, true, true, true, true, true, true, true, false] rfl rfl (any_of HT_.out (by kernel_rfl)) (fun _ _ _ h => h) (Or.inl ⟨by rfl, ?_⟩) ?_ ?_
                    rotate_left
                    ·intro w'
                     go_simp
                     with_reducible rfl
                    rotate_left
                    ·simp only [Act.put, List.setIfInBounds_toArray, List.set_cons_zero, List.set_cons_succ, i64_w, i32_w]
                     rfl
                    refine last_ (i := 20) (N := none) #[true, true, true, true, true, true, true, true, true, true, true, true, true, true, true, true, true, true, true, true, true] rfl rfl (one_of HT_.out (by kernel_rfl)) (by decide) (fun K hK => ?_)
                    refine skip_ (w1 := ?_) (by rfl) rfl ?_ ?_
                    rotate_left
                    ·go_simp
                     rfl
                    refine hK.out _ _ ?_
                    clear hK K
                    refine done_ (done_of HT_.out (by kernel_rfl)) ?_
                    try go_wp2
                    (try simp only [← hl9_2, ← hl10_2])
                    go_roundg k2
                    case measure => have := HK1.out; have := HK2.out; omega
                    case rel => exact ⟨(y587), (wrap64 (x13_2 + 1)), (by first | rfl | (simp; done) | (simp [*]; done)), H', ⟨by have := HK1.out; have := HK2.out; omega⟩, ⟨by (try simp only [hl2_1]); (try simp only [hl9_2]); (try simp only [hl10_2]); (with_reducible repeat (first | apply Kd.R_alloc | apply Kd.R_drewN | apply Kd.R_drew)); exact Kd.R_mono (Kd.R_far (p := ⟨gofr33, ((ji38) : Int).toNat, none⟩) (Kd.R_mono HO_2.out (fun k_ hk => (⟨hk, fun e_ => hk.1 (by rw [e_]; rfl)⟩ : _ ∧ k_ ≠ gofr33))) (fun _ hk => hk.2) (.int .u64 t586)) (fun _ hk => ⟨hk.1.1, hk.1.2⟩)⟩, ⟨by (try simp only [hl2_1]); (try simp only [hl9_2]); (try simp only [hl10_2]); (with_reducible repeat (first | apply Kd.R_alloc | apply Kd.R_drewN | apply Kd.R_drew)); exact HQ46.out⟩, ⟨by (try simp only [hl2_1]); (try simp only [hl9_2]); (try simp only [hl10_2]); (with_reducible repeat (first | apply Kd.R_alloc | apply Kd.R_drewN | apply Kd.R_drew)); exact Kd.R_mono (Kd.R_far (p := ⟨gofr33, ((ji38) : Int).toNat, none⟩) (Kd.R_mono HO_10.out (fun k_ hk => (⟨hk, fun e_ => hk.2 (by rw [e_]; rfl)⟩ : _ ∧ k_ ≠ gofr33))) (fun _ hk => hk.2) (.int .u64 t586)) (fun _ hk => ⟨hk.1.1, hk.1.2⟩)⟩, ⟨by repeat (first | (with_reducible first | exact HB.out | apply below_alloc | apply pw_below_drewN | apply below_drew1 | refine below_set ?_ GBfr33.out) | exact HB.out)⟩⟩
                   ·rw [if_neg c41] at H
                    exact absurd H (by simp)
                  ·rw [if_neg c40] at H
                   exact absurd H (by simp)
                 ·rw [if_neg c39] at H
                  exact absurd H (by simp)
                ·rw [if_neg c37] at H
                 have c37b0 : decide (x13_2 < (x2_1.length : Int)) = false := decide_eq_false c37
                 clear c37
                 replace H := Option.bind_eq_some_iff.mp H
                 obtain ⟨t588, A470, H⟩ := H
                 replace H : (attestorref03_Divide.l0 k2 a0 x2_1 t588 y582) = some (r1, r2, r3) := H
                 have A47 := Aside0.mk A470
                 clear A470
                 have H' := Aside0.mk H
                 clear H
                 go_wp2_with (first | ((with_reducible refine gate_callee (f := 27) rfl ?_); refine goesL_ (some 85) rfl rfl Tryd.func27 (by kernel_rfl) rfl #[.int .i64 a0, .slice (some ⟨gofr33, 0, none⟩) x9_2.length co31] rfl (by (try simp only [List.map_toArray, List.map_cons, List.map_nil]); first | done | rfl | (simp only [List.length_drop, List.length_take]; rfl)) ?_; (with_reducible refine (attestorref03_Normal.calls k2 a0 _ _ x9_2 t588 _ ?side1 ?side2 A47.out).mono ?_); (case side1 => repeat (first | exact (Kd.R_reads' HO_9.out).2.2 | (with_reducible refine Kd.C_alloc ?_ _) | (with_reducible refine Kd.C_drewN ?_ _) | (with_reducible refine Kd.C_drew ?_))); (case side2 => exact (Kd.R_reads' HO_9.out).2.1); rintro e w48 ⟨v589, rfl, ho0, hb⟩; refine ⟨_, rfl, ?_⟩; have n0_ := Aside0.mk (Kd.R_elder' (rU_ HO_2.out) (Kd.R_base ho0) hb); have n1_ := Aside0.mk (Kd.R_elder' (rU_ HO_9.out) (Kd.R_base ho0) hb); have n2_ := Aside0.mk (Kd.R_elder' (rU_ HO_10.out) (Kd.R_base ho0) hb); have n3_ := Aside0.mk (Kd.R_lower (Kd.R_new' (Kd.R_new' (Kd.R_new' ho0 (Kd.R_lt (rU_ HO_2.out))) (Kd.R_lt (rU_ HO_9.out))) (Kd.R_lt (rU_ HO_10.out))) (below_size (bU_ HB.out))); have n4_ := Aside0.mk (below_step (bU_ HB.out) hb); clear HO_2; clear HO_9; clear HO_10; clear HB; have HO_2 := n0_; have HO_9 := n1_; have HO_10 := n2_; have HO590 := n3_; have HB := n4_; clear n0_ n1_ n2_ n3_ n4_; (try clear hb); (try clear hb2); (try clear hk); (try clear hi); (try clear ho0)))
                 (try simp only [← hl2_1, ← hl9_2, ← hl10_2])
                 go_roundg k2
                 case measure => have := HK1.out; have := HK2.out; omega
                 case rel => exact ⟨(x2_1), (t588), (y582), H', ⟨by have := HK1.out; have := HK2.out; omega⟩, ⟨by (try simp only [hl2_1]); (try simp only [hl9_2]); (try simp only [hl10_2]); (with_reducible repeat (first | apply Kd.R_alloc | apply Kd.R_drewN | apply Kd.R_drew)); exact Kd.R_mono HO_2.out (fun _ hk => ⟨hk.2, hk.1.2⟩)⟩, ⟨by (try simp only [hl2_1]); (try simp only [hl9_2]); (try simp only [hl10_2]); (with_reducible repeat (first | apply Kd.R_alloc | apply Kd.R_drewN | apply Kd.R_drew)); exact Kd.R_mono HO590.out (fun _ hk => ⟨hk.1.1.2, hk.2⟩)⟩, ⟨by (try simp only [hl2_1]); (try simp only [hl9_2]); (try simp only [hl10_2]); (with_reducible repeat (first | apply Kd.R_alloc | apply Kd.R_drewN | apply Kd.R_drew)); exact Kd.R_mono HO_10.out (fun _ hk => ⟨hk.1.1, hk.2⟩)⟩, ⟨bU_ HB.out⟩⟩
             ·rw [if_neg c29] at H
              exact absurd H (by simp)
            ·rw [if_neg c28] at H
             exact absurd H (by simp)
           ·rw [if_neg c25] at H
            exact absurd H (by simp)
          ·rw [if_neg c24] at H
           exact absurd H (by simp)
         ·rw [if_neg c22] at H
          exact absurd H (by simp)
        ·rw [if_neg c21] at H
         exact absurd H (by simp)
       ·rw [if_neg c19] at H
        have c19b0 : decide ((x2_1.length : Int) ≤ (x9_1.length : Int)) = false := decide_eq_false c19
        have c19b1 : decide (x2_1.length ≤ x9_1.length) = false := decide_eq_false (fun h => c19 (Int.ofNat_le.mpr h))
        clear c19
        replace H := Option.bind_eq_some_iff.mp H
        obtain ⟨t576, A490, H⟩ := H
        replace H : (some (t576, x9_1, 0)) = some (r1, r2, r3) := H
        have A49 := Aside0.mk A490
        clear A490
        simp only [Option.some.injEq, Prod.mk.injEq] at H
        obtain ⟨rfl, rfl, rfl⟩ := H
        obtain ⟨Ao50, co50, eo50⟩ := Kd.R_slice HO_9.out
        subst eo50
        obtain ⟨Ao51, co51, eo51⟩ := Kd.R_slice HO_10.out
        subst eo51
        go_wp2_with (first | ((with_reducible refine gate_callee (f := 27) rfl ?_); refine goesL_ (some 88) rfl rfl Tryd.func27 (by kernel_rfl) rfl #[.int .i64 a0, .slice Ao51 x10_1.length co51] rfl (by (try simp only [List.map_toArray, List.map_cons, List.map_nil]); first | done | rfl | (simp only [List.length_drop, List.length_take]; rfl)) ?_; (with_reducible refine (attestorref03_Normal.calls k1 a0 _ _ x10_1 t576 _ ?side1 ?side2 A49.out).mono ?_); (case side1 => repeat (first | exact (Kd.R_reads' HO_10.out).2.2 | (with_reducible refine Kd.C_alloc ?_ _) | (with_reducible refine Kd.C_drewN ?_ _) | (with_reducible refine Kd.C_drew ?_))); (case side2 => exact (Kd.R_reads' HO_10.out).2.1); rintro e w52 ⟨v577, rfl, ho0, hb⟩; refine ⟨_, rfl, ?_⟩; have n0_ := Aside0.mk (Kd.R_elder' (rU_ HO_2.out) (Kd.R_base ho0) hb); have n1_ := Aside0.mk (Kd.R_elder' (rU_ HO_9.out) (Kd.R_base ho0) hb); have n2_ := Aside0.mk (Kd.R_elder' (rU_ HO_10.out) (Kd.R_base ho0) hb); have n3_ := Aside0.mk (Kd.R_lower (Kd.R_new' (Kd.R_new' (Kd.R_new' ho0 (Kd.R_lt (rU_ HO_2.out))) (Kd.R_lt (rU_ HO_9.out))) (Kd.R_lt (rU_ HO_10.out))) (below_size (bU_ HB.out))); have n4_ := Aside0.mk (below_step (bU_ HB.out) hb); clear HO_2; clear HO_9; clear HO_10; clear HB; have HO_2 := n0_; have HO_9 := n1_; have HO_10 := n2_; have HO578 := n3_; have HB := n4_; clear n0_ n1_ n2_ n3_ n4_; (try clear hb); (try clear hb2); (try clear hk); (try clear hi); (try clear ho0)))
        go_ret3
        exact ⟨_, _, by first | rfl | (simp [errW_none, errW_some] <;> rfl) | (simp [*, errW_none, errW_some] <;> rfl), by (with_reducible repeat (first | apply Kd.R_alloc | apply Kd.R_drewN | apply Kd.R_drew)); exact Kd.R_mono HO578.out (fun _ hk => hk.1.2), by (with_reducible repeat (first | apply Kd.R_alloc | apply Kd.R_drewN | apply Kd.R_drew)); exact Kd.R_mono HO_9.out (fun _ hk => hk.2), bU_ HB.out⟩
    ·rw [if_neg c12] at H
     exact absurd H (by simp)
   ·rw [if_neg c11] at H
    exact absurd H (by simp)
 ·replace c5 := Bool.eq_false_iff.mpr c5
  subst c5
  have H1 : (some (([] : List Int), ([] : List Int), 1)) = some (r1, r2, r3) := by rw [if_neg (show ¬ (false = true) by decide)] at H; exact H
  clear H
  have H := H1
  clear H1
  simp only [Option.some.injEq, Prod.mk.injEq] at H
  obtain ⟨rfl, rfl, rfl⟩ := H
  go_enter Tryd.func38, Tryd.ntmps38
  go_wp2_with (first | ((with_reducible refine gate_callee (f := 51) rfl ?_); refine goesL_ (some 15) rfl rfl Tryd.func51 (by kernel_rfl) rfl #[.int .i64 a0] rfl (by (try simp only [List.map_toArray, List.map_cons, List.map_nil]); first | done | rfl | (simp only [List.length_drop, List.length_take]; rfl)) ?_; (with_reducible refine (attestorref01_Valid.calls a0 false _ A4.out).mono ?_); rintro e w' ⟨rfl, ⟨nd, rfl⟩⟩; refine ⟨_, rfl, ?_⟩))
  go_ret3
  exact ⟨_, _, by first | rfl | (simp [errW_none, errW_some] <;> rfl) | (simp [*, errW_none, errW_some] <;> rfl), by first | exact Kd.R_nil _ _ _ _ _ | exact Kd.N_nil _ _ _ _ _ | exact Kd.V_nil _ _ _ _ _ | exact Kd.Q_nil _ _ _ _ _ | exact Kd.S_nil _ _ _ _ _, by first | exact Kd.R_nil _ _ _ _ _ | exact Kd.N_nil _ _ _ _ _ | exact Kd.V_nil _ _ _ _ _ | exact Kd.Q_nil _ _ _ _ _ | exact Kd.S_nil _ _ _ _ _, bU_ HB.out⟩

end Go.Proofs.YtmnahhacobfafaaDoor.Q

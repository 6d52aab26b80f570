-- Written by prx.py (this session's driver of the kit's print) out of the translation. Not trusted: Lean checks it.
import Derived.Test.YtdjjdlkglinlgaaDoorQ0
import Derived.Test.YtdjjdlkglinlgaaDoorQ3
namespace Go.Proofs.YtdjjdlkglinlgaaDoor.Q
open Go.RowKit Go.Proofs.YtdjjdlkglinlgaaDoorW.PrintWords Go.Proofs.YtdjjdlkglinlgaaDoorW.PrintLast Go.Proofs.YtdjjdlkglinlgaaDoorW.PrintMore
attribute [local go_sem] max2_int min2_int max_two min_two max_three min_three max_four min_four   -- for this text's walks alone
set_option linter.unusedVariables false
set_option linter.unusedSimpArgs false

/-! ### poly_Normal: function 56 -/
def poly_Normal.l0 : Nat → Int → List Int → Int → Int → Option (List Int)
 | 0, _, _, _, _ => none
 | k + 1, x0, x5, x17, x18 => if x18 < x17 then (if 0 ≤ x18 then (if x18 < (x5.length : Int) then ((field_Reduce.f x0 (rd x5 x18)).bind fun t241 => (poly_Normal.l0 k x0 (x5.set (x18 : Int).toNat t241) x17 (wrap64 (x18 + 1)))) else (none)) else (none)) else ((poly_trim.f k x5).bind fun t243 => (some t243))
def poly_Normal.f (k : Nat) (a0 : Int) (l1 : List Int) : Option (List Int) := (field_Valid.f a0).bind fun t234 => (if t234 = true then (if 0 ≤ (l1.length : Int) then (if ((l1.length : Int) : Int).toNat ≤ 35184372088832 then ((some (List.replicate ((l1.length : Int) : Int).toNat 0 : List Int)).bind fun y235 => (poly_Normal.l0 k a0 (cpyAt y235 0 l1) (y235.length : Int) 0)) else (none)) else (none)) else (some ([] : List Int)))
theorem poly_Normal.mono_l : ∀ k, (∀ y0 y1 y2 y3, LeO (poly_Normal.l0 k y0 y1 y2 y3) (poly_Normal.l0 (k + 1) y0 y1 y2 y3))
 | 0 => fun _ _ _ _ r h => by simp [poly_Normal.l0] at h
 | k + 1 => by
  have ih0 := poly_Normal.mono_l k
  ·intro y0 y1 y2 y3
   unfold poly_Normal.l0
   with_reducible repeat' first | apply ih0 | apply poly_trim.mono | exact LeO.refl _ | exact LeO.none _ | refine LeO.ite ?_ ?_ | refine LeO.bind ?_ (fun _ => ?_)
theorem poly_Normal.mono : ∀ a0 a1 k, LeO (poly_Normal.f k a0 a1) (poly_Normal.f (k + 1) a0 a1) := by
 intro a0 a1 k
 have ih0 := poly_Normal.mono_l k
 unfold poly_Normal.f
 with_reducible repeat' first | apply ih0 | apply poly_trim.mono | exact LeO.refl _ | exact LeO.none _ | refine LeO.ite ?_ ?_ | refine LeO.bind ?_ (fun _ => ?_)
set_option maxHeartbeats 8000000 in
set_option maxRecDepth 100000 in
theorem poly_Normal.calls (k : Nat) (a0 : Int) (A1 : Option Addr) (c1 : Nat) (l1 : List Int) (r : List Int) (w : World) (hG : Fld w) (hr1 : Kd.C (Kd.int .u64) w A1 l1.length l1) (hc1 : l1.length ≤ c1) (h : poly_Normal.f k a0 l1 = some r) :
  Calls Tryd.prog 56 #[.int .i64 a0, .slice A1 l1.length c1] w fun e w' => ∃ v0_ : Value, e = .returned (v0_) ∧ Kd.R (Kd.int .u64) 22 w' w.heap.size (fun _ => True) v0_ r ∧ Below w.heap.size w w' := by
 have HG := ak hG
 clear hG
 have HR1 := ak hr1
 have HC1 := ak hc1
 clear hr1 hc1
 have HB := ak (Below.refl w.heap.size w)
 have H : ((field_Valid.f a0).bind fun t234 => (if t234 = true then (if 0 ≤ (l1.length : Int) then (if ((l1.length : Int) : Int).toNat ≤ 35184372088832 then ((some (List.replicate ((l1.length : Int) : Int).toNat 0 : List Int)).bind fun y235 => (poly_Normal.l0 k a0 (cpyAt y235 0 l1) (y235.length : Int) 0)) else (none)) else (none)) else (some ([] : List Int)))) = some r := h
 clear h
 revert H
 refine bd_ fun t234 A3 H => ?_
 by_cases c4 : t234 = true
 ·subst c4
  rw [if_pos rfl] at H
  obtain ⟨c5, H⟩ : (0 ≤ (l1.length : Int)) ∧ _ := it_ H
  have c5b0 := eq_true c5
  have c5b1 := decide_eq_true c5
  clear c5
  obtain ⟨c6, H⟩ : (((l1.length : Int) : Int).toNat ≤ 35184372088832) ∧ _ := it_ H
  have c6b0 := eq_true c6
  have c6b1 := decide_eq_true c6
  clear c6
  obtain ⟨y235, hy235⟩ : ∃ y_ : List Int, y_ = (List.replicate ((l1.length : Int) : Int).toNat 0) := ⟨_, rfl⟩
  first | rw [Option.bind_some, ← hy235] at H | rw [← hy235] at H
  have Ny235 := ak hy235
  clear hy235
  obtain ⟨y238, hy238⟩ : ∃ y_ : List Int, y_ = (cpyAt y235 0 l1) := ⟨_, rfl⟩
  first | rw [Option.bind_some, ← hy238] at H | rw [← hy238] at H
  have Ny238 := ak hy238
  clear hy238
  have H' := ak H
  clear H
  go_enter Tryd.func56, Tryd.ntmps56
  go_wp2_with (first | ((with_reducible refine gate_callee (f := 52) rfl ?_); refine gl_ (some 8) Tryd.func52 #[.int .i64 a0] ?_; (with_reducible refine (field_Valid.calls a0 true _ A3.out).mono ?_); rintro e w' ⟨rfl, ⟨nd, rfl⟩⟩; refine ⟨_, rfl, ?_⟩) | ((with_reducible refine gate_dst (N := 12) rfl ?_); refine Kd.R_make (Kd.int .u64) _ 22 rfl (N := 12) rfl 23 _ _ rfl (l1.length : Int) ?hx ?hy Tryd.underlying23 (.int .u64 0) 8 info22 rfl (by decide) (by omega) 0 (ok := fun _ => True) (okp := fun _ => True) rfl (fun _ hk => hk) trivial od_ (Nat.le_trans (Nat.mul_le_mul_right _ (od_ : (l1.length : Int).toNat ≤ 35184372088832)) (by omega)) (Below.refl _ _) (Nat.le_refl _) ?_; (case hx => first | rfl); (case hy => first | rfl); intro v236 w7 ho8 hb hg_ hnew_; clear hg_ hnew_; (first | rw [← Ny235.out] at ho8 | (simp only [Int.reduceToNat] at ho8; rw [← Ny235.out] at ho8)); refine nx2_ (Kd.R_lower ho8 (below_size (bU_ HB.out))) (below_step (bU_ HB.out) hb) ?_; clear HB; intro HO237 HB; clear hb ho8; obtain ⟨Ao10, co10, eo10⟩ := Kd.R_slice HO237.out; subst eo10) | ((with_reducible refine gate_builtin (b := .copy) (xs := #[.tmp 13, .tmp 14]) rfl ?_); skip; refine copy_own_ .u64 (w0 := w) w.heap.size rfl (.tmp 13) (.tmp 14) 23 23 22 rfl Tryd.underlying23 (show (Tryd.prog.info? 22).map (·.size) = some 1 by kernel_rfl) (.slice Ao10 y235.length co10) y235 l1 _ _ _ (fun _ => True) rfl rfl ?aO ?aR (fun _ _ h => h) ?aF ?aB ?aS ?_; (case aR => exact cU_ (Kd.C_below HR1.out HB.out)); (case aB => exact (bU_ HB.out)); (case aF => exact (fun _ _ => trivial)); (case aO => exact (rU_ HO237.out)); (case aS => exact (below_size (bU_ HB.out))); intro w9 ho hb hg hat; rw [← Ny238.out] at ho; refine nx2_ (hb) (ho) ?_; clear HB HO237; intro HB HO239; clear ho hb hg hat))
  go_loopg [18] k (fun kq v18 w' => ∃ (x5_1 : List Int) (x18_1 : Int), v18 = .int .i64 x18_1 ∧ Aside0 (poly_Normal.l0 kq a0 x5_1 (y235.length : Int) x18_1 = some r) ∧ Aside0 (kq ≤ k) ∧ Aside0 (Kd.R (Kd.int .u64) 22 w' w.heap.size (fun _ => True) (.slice Ao10 y235.length co10) x5_1) ∧ Aside0 (Below w.heap.size w w'))
  case atStart => exact ⟨(y238), (0), gb_, H', ⟨Nat.le_refl _⟩, ⟨rU_ HO239.out⟩, ⟨bU_ HB.out⟩⟩
  case round =>
   clear H'
   (try clear c1); (try clear p2); (try clear c4); (try clear c5); (try clear c5b0); (try clear c5b1); (try clear c6); (try clear c6b0); (try clear c6b1)
   obtain ⟨x5_1, x18_1, rfl, HA, HK1, HO_5, HB⟩ := hrel
   have hl5_1 := (Kd.R_reads' HO_5.out).1
   rw [hl5_1] at HO_5
   (try simp only [hl5_1])
   cases gk with
   | zero => exact absurd HA.out (by simp [poly_Normal.l0])
   | succ k1 =>
    have H := HA.out
    clear HA
    simp only [poly_Normal.l0] at H
    by_cases c11 : x18_1 < (y235.length : Int)
    ·rw [if_pos c11] at H
     have c11b0 := decide_eq_true c11
     (try (have c11b0r0 := c11b0; simp only [hl5_1] at c11b0r0))
     clear c11
     obtain ⟨c12, H⟩ : (0 ≤ x18_1) ∧ _ := it_ H
     have c12b0 := decide_eq_true c12
     clear c12
     obtain ⟨c13, H⟩ : (x18_1 < (x5_1.length : Int)) ∧ _ := it_ H
     have c13b0 := decide_eq_true c13
     clear c13
     revert H
     refine bd_ fun t241 A14 H => ?_
     obtain ⟨y242, hy242⟩ : ∃ y_ : List Int, y_ = (x5_1.set (x18_1 : Int).toNat t241) := ⟨_, rfl⟩
     first | rw [Option.bind_some, ← hy242] at H | rw [← hy242] at H
     have Ny242 := ak hy242
     clear hy242
     have H' := ak H
     clear H
     have pfr16 : 0 ≤ (x18_1 : Int) := od_
     have qfr16 : (x18_1 : Int) < ((x5_1.length : Int) : Int) := od_
     obtain ⟨gofr16, cofr16, eofr16, gbfr16, glfr16, clfr16, HGfr16⟩ := Kd.R_form HO_5.out (by omega)
     (first | cases eofr16 | (injection eofr16 with ea_ en_ ec_; (first | subst ea_ | (injection ea_ with ea_; subst ea_)); subst ec_; clear en_))
     have GBfr16 := ak gbfr16
     have GGfr16 := ak HGfr16
     clear gbfr16 glfr16 HGfr16
     clear pfr16 qfr16
     have p240 : 0 ≤ (x18_1 : Int) := od_
     have q240 : x18_1 < (x5_1.length : Int) := od_
     obtain ⟨ad240, e240, hx240_0⟩ := Kd.at_int (Kd.R_reads' HO_5.out).2.2 x18_1 p240 q240
     obtain rfl : (⟨gofr16, 0, none⟩ : Addr) = ad240 := (by injection e240)
     (first | simp only [add_plain] at hx240_0 | simp only [add_at] at hx240_0 | simp only [Addr.add, Nat.zero_add] at hx240_0 | skip)
     replace p240 := eq_true p240
     replace q240 := eq_true q240
     go_wp2_with (first | ((with_reducible refine gate_callee (f := 23) rfl ?_); refine gl_ (some 28) Tryd.func23 #[.int .i64 a0, .int .u64 (rd x5_1 x18_1)] ?_; (with_reducible refine (field_Reduce.calls a0 (rd x5_1 x18_1) t241 _ ?side1 A14.out).mono ?_); (case side1 => exact fU_ HG.out HB.out); rintro e w17 ⟨rfl, hb⟩; refine ⟨_, rfl, ?_⟩; refine nx2_ (Kd.R_below (rU_ HO_5.out) hb) (below_step (bU_ HB.out) hb) ?_; clear HO_5 HB; intro HO_5 HB; clear hb; have p15 : 0 ≤ (x18_1 : Int) := od_; have q15 : (x18_1 : Int) < ((x5_1.length : Int) : Int) := od_; obtain ⟨hx15_0, hf15_0⟩ := Kd.R_celln 0 HO_5.out (x18_1 : Int) p15 q15; replace p15 := eq_true p15; replace q15 := eq_true q15; obtain ⟨hy18_, hz18_⟩ := Kd.R_celln 0 HO_5.out (x18_1 : Int) od_ od_; have HP18 := Kd.R_putg HO_5.out (x18_1 : Int) t241) | ((with_reducible refine gate_store (t := 22) (p := 29) rfl ?_); refine store_event (t := 22) (p := 29) (v := ?vo_w19) (w1 := (w17.setCell ⟨gofr16, (x18_1 : Int).toNat, none⟩ (.int .u64 t241))) ?hg ?ho ?hn ?hr ?_; (case ho => rfl); (case hg => rfl); (case hn => rfl); (case hr => first | (go_simp; done) | (go_simp; rfl)); intro w19 hw; have hg : w17.grownBy w19 (some gofr16) := (by rw [hw]; exact HP18.2); have hp_ : Kd.R (Kd.int .u64) 22 w19 w.heap.size (fun _ => True) (.slice (some ⟨gofr16, 0, none⟩) x5_1.length co10) y242 := (by rw [hw, Ny242.out]; exact HP18.1); clear HP18; refine nx2_ (hp_) ((by rw [hw]; exact below_set (HB.out) GBfr16.out : Below w.heap.size w w19)) ?_; clear HO_5 HB; intro HO_5 HB; clear hg hw hp_))
     (try simp only [← hl5_1])
     go_roundg k1
     case measure => have := HK1.out; omega
     case rel => exact ⟨(y242), (wrap64 (x18_1 + 1)), gb_, H', ⟨by have := HK1.out; omega⟩, ⟨by (try simp only [hl5_1]); (with_reducible repeat (first | apply Kd.R_alloc | apply Kd.R_drewN | apply Kd.R_drew)); exact HO_5.out⟩, ⟨bU_ HB.out⟩⟩
    ·rw [if_neg c11] at H
     have c11b0 := decide_eq_false c11
     (try (have c11b0r0 := c11b0; simp only [hl5_1] at c11b0r0))
     clear c11
     revert H
     refine bd_ fun t243 A20 H => ?_
     obtain rfl := Option.some.inj H
     go_wp2_with (first | ((with_reducible refine gate_callee (f := 60) rfl ?_); refine gl_ (some 32) Tryd.func60 #[.slice Ao10 x5_1.length co10] ?_; (with_reducible refine (poly_trim.calls k1 (fun k_ => some k_ = (.slice Ao10 x5_1.length co10 : Value).ownBlock) (.slice Ao10 x5_1.length co10) x5_1 t243 w _ ?side1 ?side2 A20.out).mono ?_); (case side1 => repeat (first | (with_reducible first | exact HB.out | apply below_alloc | apply pw_below_drewN | apply below_drew1) | exact HB.out)); (case side2 => exact Kd.R_tight rfl HO_5.out); rintro e w21 ⟨v244, rfl, ho0, hb, hkp⟩; refine ⟨_, rfl, ?_⟩; refine nx2_ (Kd.R_mono (ok' := fun k_ => True) ho0 (fun k_ hk_ => trivial)) (hb) ?_; clear HB HO_5; intro HO245 HB; clear hb hkp ho0))
     go_ret
     exact ⟨_, by first | rfl | (simp [errW_none, errW_some] <;> rfl) | (simp [*, errW_none, errW_some] <;> rfl), rU_ HO245.out, bU_ HB.out⟩
 ·replace c4 := Bool.eq_false_iff.mpr c4
  subst c4
  rw [if_neg (show ¬ (false = true) by decide)] at H
  obtain rfl := Option.some.inj H
  go_enter Tryd.func56, Tryd.ntmps56
  go_wp2_with (first | ((with_reducible refine gate_callee (f := 52) rfl ?_); refine gl_ (some 8) Tryd.func52 #[.int .i64 a0] ?_; (with_reducible refine (field_Valid.calls a0 false _ A3.out).mono ?_); rintro e w' ⟨rfl, ⟨nd, rfl⟩⟩; refine ⟨_, rfl, ?_⟩))
  go_ret
  exact ⟨_, by first | rfl | (simp [errW_none, errW_some] <;> rfl) | (simp [*, errW_none, errW_some] <;> rfl), by first | exact Kd.R_nil _ _ _ _ _ | exact Kd.N_nil _ _ _ _ _ | exact Kd.V_nil _ _ _ _ _ | exact Kd.Q_nil _ _ _ _ _ | exact Kd.S_nil _ _ _ _ _, bU_ HB.out⟩

/-! ### transform_Multiply: function 20 -/
mutual
def transform_Multiply.j0 : Nat → Int → List Int → List Int → Int → Bool → Option (List Int × Int)
 | 0, _, _, _, _, _ => none
 | k + 1, x0, x1, x2, x8, x28 => if x28 = true then (some (([] : List Int), 0)) else ((transform_greatest.f x0).bind fun t251 => (if 0 ≤ t251 then (if x8 > (shl .i64 1 t251) then (some (([] : List Int), 2)) else ((bits_Len.f k (IntKind.u64.wrap (wrap64 (x8 - 1)))).bind fun t252 => ((transform_Values.f k x0 t252 1 x1).bind fun bt253 => ((transform_Values.f k x0 t252 1 x2).bind fun bt257 => (transform_Multiply.l0 k x0 bt253.1 bt257.1 (bt253.1.length : Int) 0))))) else (none)))
def transform_Multiply.l0 : Nat → Int → List Int → List Int → Int → Int → Option (List Int × Int)
 | 0, _, _, _, _, _ => none
 | k + 1, x0, x10, x12, x64, x65 => if x65 < x64 then (if 0 ≤ x65 then (if x65 < (x10.length : Int) then (if x65 < (x12.length : Int) then ((field_Mul.f x0 (rd x10 x65) (rd x12 x65)).bind fun t263 => (transform_Multiply.l0 k x0 (x10.set (x65 : Int).toNat t263) x12 x64 (wrap64 (x65 + 1)))) else (none)) else (none)) else (none)) else ((transform_Coefficients.f k x0 1 x10).bind fun bt265 => ((poly_Normal.f k x0 bt265.1).bind fun t269 => (some (t269, 0))))
end
def transform_Multiply.f (k : Nat) (a0 : Int) (l1 : List Int) (l2 : List Int) : Option (List Int × Int) := (field_Valid.f a0).bind fun t246 => (if t246 = true then ((poly_Degree.f k a0 l1).bind fun t247 => ((poly_Degree.f k a0 l2).bind fun t248 => ((poly_Degree.f k a0 l1).bind fun t249 => (if t249 < 0 then (transform_Multiply.j0 k a0 l1 l2 (wrap64 ((wrap64 (t247 + t248)) + 1)) true) else ((poly_Degree.f k a0 l2).bind fun t250 => (transform_Multiply.j0 k a0 l1 l2 (wrap64 ((wrap64 (t247 + t248)) + 1)) (decide (t250 < 0)))))))) else (some (([] : List Int), 1)))
theorem transform_Multiply.mono_l : ∀ k, (∀ y0 y1 y2 y3 y4, LeO (transform_Multiply.j0 k y0 y1 y2 y3 y4) (transform_Multiply.j0 (k + 1) y0 y1 y2 y3 y4)) ∧ (∀ y0 y1 y2 y3 y4, LeO (transform_Multiply.l0 k y0 y1 y2 y3 y4) (transform_Multiply.l0 (k + 1) y0 y1 y2 y3 y4))
 | 0 => ⟨fun _ _ _ _ _ r h => by simp [transform_Multiply.j0] at h, fun _ _ _ _ _ r h => by simp [transform_Multiply.l0] at h⟩
 | k + 1 => by
  obtain ⟨ih0, ih1⟩ := transform_Multiply.mono_l k
  refine ⟨?_, ?_⟩
  ·intro y0 y1 y2 y3 y4
   unfold transform_Multiply.j0
   with_reducible repeat' first | apply ih0 | apply ih1 | apply bits_Len.mono | apply poly_Degree.mono | apply poly_Normal.mono | apply transform_Coefficients.mono | apply transform_Values.mono | exact LeO.refl _ | exact LeO.none _ | refine LeO.ite ?_ ?_ | refine LeO.bind ?_ (fun _ => ?_)
  ·intro y0 y1 y2 y3 y4
   unfold transform_Multiply.l0
   with_reducible repeat' first | apply ih0 | apply ih1 | apply bits_Len.mono | apply poly_Degree.mono | apply poly_Normal.mono | apply transform_Coefficients.mono | apply transform_Values.mono | exact LeO.refl _ | exact LeO.none _ | refine LeO.ite ?_ ?_ | refine LeO.bind ?_ (fun _ => ?_)
theorem transform_Multiply.mono : ∀ a0 a1 a2 k, LeO (transform_Multiply.f k a0 a1 a2) (transform_Multiply.f (k + 1) a0 a1 a2) := by
 intro a0 a1 a2 k
 obtain ⟨ih0, ih1⟩ := transform_Multiply.mono_l k
 unfold transform_Multiply.f
 with_reducible repeat' first | apply ih0 | apply ih1 | apply bits_Len.mono | apply poly_Degree.mono | apply poly_Normal.mono | apply transform_Coefficients.mono | apply transform_Values.mono | exact LeO.refl _ | exact LeO.none _ | refine LeO.ite ?_ ?_ | refine LeO.bind ?_ (fun _ => ?_)
def transform_Multiply.T14 : Bool × List (List Nat × List Nat) := (true, [([], []), ([], []), ([], []), ([], []), ([], []), ([3, 4], [3, 4]), ([5], [5]), ([], []), ([], []), ([7, 8], [7, 8]), ([9], [9]), ([2, 6, 10], [2, 6, 10]), ([0, 1, 0, 1, 2, 3, 4, 5, 6, 7, 8, 9, 10, 11], [0, 1]), ([12, 11, 11, 0, 1, 2, 3, 4, 5, 6, 7, 8, 9, 10, 11], [11, 12])])
def transform_Multiply.B14 : List Nat := [0, 0, 0, 0, 0, 24, 56, 0, 0, 384, 896, 2044, 4095, 8191]
theorem transform_Multiply.tab14 : rtab .any (opsOf Tryd.f20 14) = transform_Multiply.T14 := by kernel_rfl
theorem transform_Multiply.bits14 : waitsOk transform_Multiply.T14.2 transform_Multiply.B14 = true := by kernel_rfl
set_option maxHeartbeats 8000000 in
set_option maxRecDepth 100000 in
theorem transform_Multiply.calls (k : Nat) (a0 : Int) (A1 : Option Addr) (c1 : Nat) (l1 : List Int) (A2 : Option Addr) (c2 : Nat) (l2 : List Int) (r1 : List Int) (r2 : Int) (w : World) (hG : Fld w) (hr1 : Kd.C (Kd.int .u64) w A1 l1.length l1) (hc1 : l1.length ≤ c1) (hr2 : Kd.C (Kd.int .u64) w A2 l2.length l2) (hc2 : l2.length ≤ c2) (h : transform_Multiply.f k a0 l1 l2 = some (r1, r2)) :
  Calls Tryd.prog 20 #[.int .i64 a0, .slice A1 l1.length c1, .slice A2 l2.length c2] w fun e w' => ∃ v0_ : Value, e = .returned (.tuple #[v0_, .int .i64 r2]) ∧ Kd.R (Kd.int .u64) 22 w' w.heap.size (fun _ => True) v0_ r1 ∧ Below w.heap.size w w' := by
 have HG := ak hG
 clear hG
 have HR1 := ak hr1
 have HC1 := ak hc1
 clear hr1 hc1
 have HR2 := ak hr2
 have HC2 := ak hc2
 clear hr2 hc2
 have HB := ak (Below.refl w.heap.size w)
 have H : ((field_Valid.f a0).bind fun t246 => (if t246 = true then ((poly_Degree.f k a0 l1).bind fun t247 => ((poly_Degree.f k a0 l2).bind fun t248 => ((poly_Degree.f k a0 l1).bind fun t249 => (if t249 < 0 then (transform_Multiply.j0 k a0 l1 l2 (wrap64 ((wrap64 (t247 + t248)) + 1)) true) else ((poly_Degree.f k a0 l2).bind fun t250 => (transform_Multiply.j0 k a0 l1 l2 (wrap64 ((wrap64 (t247 + t248)) + 1)) (decide (t250 < 0)))))))) else (some (([] : List Int), 1)))) = some (r1, r2) := h
 clear h
 revert H
 refine bd_ fun t246 A4 H => ?_
 by_cases c5 : t246 = true
 ·subst c5
  rw [if_pos rfl] at H
  revert H
  refine bd_ fun t247 A6 H => ?_
  revert H
  refine bd_ fun t248 A7 H => ?_
  have HC8 := ak H
  clear H
  go_enter Tryd.func20, Tryd.ntmps20
  go_upto_region 4 with (first | ((with_reducible refine gate_callee (f := 52) rfl ?_); refine gl_ (some 18) Tryd.func52 #[.int .i64 a0] ?_; (with_reducible refine (field_Valid.calls a0 true _ A4.out).mono ?_); rintro e w' ⟨rfl, ⟨nd, rfl⟩⟩; refine ⟨_, rfl, ?_⟩) | ((with_reducible refine gate_callee (f := 54) rfl ?_); refine gl_ (some 22) Tryd.func54 #[.int .i64 a0, .slice A1 l1.length c1] ?_; (with_reducible refine (poly_Degree.calls k a0 _ _ l1 t247 _ ?side1 ?side2 ?side3 A6.out).mono ?_); (case side1 => exact fU_ HG.out HB.out); (case side2 => exact cU_ HR1.out); (case side3 => exact HC1.out); rintro e w9 ⟨rfl, hb⟩; refine ⟨_, rfl, ?_⟩; refine nx1_ (below_step (bU_ HB.out) hb) ?_; clear HB; intro HB; clear hb) | ((with_reducible refine gate_callee (f := 54) rfl ?_); refine gl_ (some 25) Tryd.func54 #[.int .i64 a0, .slice A2 l2.length c2] ?_; (with_reducible refine (poly_Degree.calls k a0 _ _ l2 t248 _ ?side1 ?side2 ?side3 A7.out).mono ?_); (case side1 => exact fU_ HG.out HB.out); (case side2 => exact cU_ (Kd.C_below HR2.out HB.out)); (case side3 => exact HC2.out); rintro e w10 ⟨rfl, hb⟩; refine ⟨_, rfl, ?_⟩; refine nx1_ (below_step (bU_ HB.out) hb) ?_; clear HB; intro HB; clear hb))
  (try simp only [Act.put, s1_, s2_, s3_])
  go_cut [28] (fun v28 wc => ∃ (kq : Nat) (x28_7 : Bool), v28 = .bool x28_7 ∧ Aside0 (transform_Multiply.j0 kq a0 l1 l2 (wrap64 ((wrap64 (t247 + t248)) + 1)) x28_7 = some (r1, r2)) ∧ Aside0 (kq ≤ k) ∧ Aside0 (Below w.heap.size w wc))
  case first =>
   have H := HC8.out
   clear HC8
   revert H
   refine bd_ fun t249 A11 H => ?_
   by_cases c12 : t249 < 0
   ·rw [if_pos c12] at H
    have c12b0 := decide_eq_true c12
    clear c12
    (first | rw [c12b0] | (simp only [i64_w, i32_w]; rw [c12b0]) | rw [c12b1] | skip)
    have H' := ak H
    clear H
    go_wp2_with (first | ((with_reducible refine gate_callee (f := 54) rfl ?_); refine gl_ (some 31) Tryd.func54 #[.int .i64 a0, .slice A1 l1.length c1] ?_; (with_reducible refine (poly_Degree.calls k a0 _ _ l1 t249 _ ?side1 ?side2 ?side3 A11.out).mono ?_); (case side1 => exact fU_ HG.out HB.out); (case side2 => exact cU_ (Kd.C_below HR1.out HB.out)); (case side3 => exact HC1.out); rintro e w13 ⟨rfl, hb⟩; refine ⟨_, rfl, ?_⟩; refine nx1_ (below_step (bU_ HB.out) hb) ?_; clear HB; intro HB; clear hb))
    go_meet
    case rel => exact ⟨_, (true), gb_, H', ⟨by first | omega | exact Nat.le_refl _⟩, ⟨bU_ HB.out⟩⟩
   ·rw [if_neg c12] at H
    have c12b0 := decide_eq_false c12
    clear c12
    (first | rw [c12b0] | (simp only [i64_w, i32_w]; rw [c12b0]) | rw [c12b1] | skip)
    revert H
    refine bd_ fun t250 A14 H => ?_
    have H' := ak H
    clear H
    go_wp2_with (first | ((with_reducible refine gate_callee (f := 54) rfl ?_); refine gl_ (some 31) Tryd.func54 #[.int .i64 a0, .slice A1 l1.length c1] ?_; (with_reducible refine (poly_Degree.calls k a0 _ _ l1 t249 _ ?side1 ?side2 ?side3 A11.out).mono ?_); (case side1 => exact fU_ HG.out HB.out); (case side2 => exact cU_ (Kd.C_below HR1.out HB.out)); (case side3 => exact HC1.out); rintro e w15 ⟨rfl, hb⟩; refine ⟨_, rfl, ?_⟩; refine nx1_ (below_step (bU_ HB.out) hb) ?_; clear HB; intro HB; clear hb) | (go_at_call 54; (with_reducible refine (poly_Degree.calls k a0 _ _ l2 t250 _ ?side1 ?side2 ?side3 A14.out).mono ?_); (case side1 => exact fU_ HG.out HB.out); (case side2 => exact cU_ (Kd.C_below HR2.out HB.out)); (case side3 => exact HC2.out); rintro e w16 ⟨rfl, hb⟩; refine nx1_ (below_step (bU_ HB.out) hb) ?_; clear HB; intro HB; clear hb))
    go_meet
    case rel => exact ⟨_, (decide (t250 < 0)), gb_, H', ⟨by first | omega | exact Nat.le_refl _⟩, ⟨bU_ HB.out⟩⟩
  case rest =>
   clear HC8
   (try clear c1); (try clear c2); (try clear p2); (try clear c5); (try clear p6); (try clear c12); (try clear c12b0); (try clear c12b1)
   obtain ⟨kq, x28_7, rfl, HA, HJ7, HB⟩ := hcut
   cases kq with
   | zero => exact absurd HA.out (by simp [transform_Multiply.j0])
   | succ kj7 =>
    have H := HA.out
    clear HA
    simp only [transform_Multiply.j0] at H
    by_cases c17 : x28_7 = true
    ·subst c17
     rw [if_pos rfl] at H
     simp only [Option.some.injEq, Prod.mk.injEq] at H
     obtain ⟨rfl, rfl⟩ := H
     go_wp2
     go_ret2
     exact ⟨_, by first | rfl | (simp [errW_none, errW_some] <;> rfl) | (simp [*, errW_none, errW_some] <;> rfl), by first | exact Kd.R_nil _ _ _ _ _ | exact Kd.N_nil _ _ _ _ _ | exact Kd.V_nil _ _ _ _ _ | exact Kd.Q_nil _ _ _ _ _ | exact Kd.S_nil _ _ _ _ _, bU_ HB.out⟩
    ·replace c17 := Bool.eq_false_iff.mpr c17
     subst c17
     rw [if_neg (show ¬ (false = true) by decide)] at H
     revert H
     refine bd_ fun t251 A18 H => ?_
     obtain ⟨c19, H⟩ : (0 ≤ t251) ∧ _ := it_ H
     have c19b0 := eq_true c19
     have c19b1 := decide_eq_true c19
     clear c19
     obtain ⟨ji20, hji20⟩ : ∃ j_ : Int, (shl .i64 1 t251) = j_ := ⟨_, rfl⟩
     first | rw [hji20] at H | simp only [hji20] at H
     (try rw [hji20] at A18)
     have hji20_ : (IntKind.i64.wrap (1 * 2 ^ min t251.toNat 64)) = ji20 := hji20
     have hji20z : t251 ≤ 64 → (IntKind.i64.wrap (1 * 2 ^ t251.toNat)) = ji20 := shl_small hji20
     have hji20u : (IntKind.i64.wrap (2 ^ min t251.toNat 64)) = ji20 := by have h_ := hji20_; rw [Int.one_mul] at h_; exact h_
     have hji20v : t251 ≤ 64 → (IntKind.i64.wrap (2 ^ t251.toNat)) = ji20 := fun hle_ => by have h_ := hji20z hle_; rw [Int.one_mul] at h_; exact h_
     have hji20y : (wrap64 (1 * 2 ^ min t251.toNat 64)) = ji20 := (i64_w _).symm.trans hji20_
     have hji20x : t251 ≤ 64 → (wrap64 (1 * 2 ^ t251.toNat)) = ji20 := fun h_ => (i64_w _).symm.trans (hji20z h_)
     by_cases c21 : (wrap64 ((wrap64 (t247 + t248)) + 1)) > (ji20)
     ·rw [if_pos c21] at H
      have c21b0 : decide ((ji20) < (wrap64 ((wrap64 (t247 + t248)) + 1))) = true := decide_eq_true c21
      clear c21
      simp only [Option.some.injEq, Prod.mk.injEq] at H
      obtain ⟨rfl, rfl⟩ := H
      go_wp2_with (first | ((with_reducible refine gate_callee (f := 35) rfl ?_); refine gl_ (some 42) Tryd.func35 #[.int .i64 a0] ?_; (with_reducible refine (transform_greatest.calls a0 t251 _ ?side1 A18.out).mono ?_); (case side1 => exact fU_ HG.out HB.out); rintro e w22 ⟨rfl, hb⟩; refine ⟨_, rfl, ?_⟩; refine nx1_ (below_step (bU_ HB.out) hb) ?_; clear HB; intro HB; clear hb))
      go_ret2
      exact ⟨_, by first | rfl | (simp [errW_none, errW_some] <;> rfl) | (simp only [← hji20]; first | rfl | (simp [errW_none, errW_some] <;> rfl)) | (simp [*, errW_none, errW_some] <;> rfl), by first | exact Kd.R_nil _ _ _ _ _ | exact Kd.N_nil _ _ _ _ _ | exact Kd.V_nil _ _ _ _ _ | exact Kd.Q_nil _ _ _ _ _ | exact Kd.S_nil _ _ _ _ _, bU_ HB.out⟩
     ·rw [if_neg c21] at H
      have c21b0 : decide ((ji20) < (wrap64 ((wrap64 (t247 + t248)) + 1))) = false := decide_eq_false c21
      clear c21
      revert H
      refine bd_ fun t252 A23 H => ?_
      revert H
      refine bd2_ fun t253 t254 A24 H => ?_
      try dsimp only at H
      revert H
      refine bd2_ fun t257 t258 A25 H => ?_
      try dsimp only at H
      have H' := ak H
      clear H
      go_wp2_with (first | ((with_reducible refine gate_callee (f := 35) rfl ?_); refine gl_ (some 42) Tryd.func35 #[.int .i64 a0] ?_; (with_reducible refine (transform_greatest.calls a0 t251 _ ?side1 A18.out).mono ?_); (case side1 => exact fU_ HG.out HB.out); rintro e w26 ⟨rfl, hb⟩; refine ⟨_, rfl, ?_⟩; refine nx1_ (below_step (bU_ HB.out) hb) ?_; clear HB; intro HB; clear hb) | ((with_reducible refine gate_callee (f := 55) rfl ?_); refine gl_ (some 48) Tryd.func55 #[.int .u64 (IntKind.u64.wrap (wrap64 ((wrap64 ((wrap64 (t247 + t248)) + 1)) - 1)))] ?_; (with_reducible refine (bits_Len.calls kj7 (IntKind.u64.wrap (wrap64 ((wrap64 ((wrap64 (t247 + t248)) + 1)) - 1))) t252 _ A23.out).mono ?_); rintro e w' ⟨rfl, ⟨nd, rfl⟩⟩; refine ⟨_, rfl, ?_⟩) | ((with_reducible refine gate_callee (f := 12) rfl ?_); refine gl_ (some 53) Tryd.func12 #[.int .i64 a0, .int .i64 t252, .int .u64 1, .slice A1 l1.length c1] ?_; (with_reducible refine (transform_Values.calls kj7 a0 t252 1 _ _ l1 t253 t254 _ ?side1 ?side2 ?side3 A24.out).mono ?_); (case side1 => exact fU_ HG.out HB.out); (case side2 => exact (Kd.C_below HR1.out (bU_ HB.out))); (case side3 => exact HC1.out); rintro e w27 ⟨v255, rfl, ho0, hb⟩; refine ⟨_, rfl, ?_⟩; refine nx2_ (Kd.R_lower ho0 (below_size (bU_ HB.out))) (below_step (bU_ HB.out) hb) ?_; clear HB; intro HO256 HB; clear hb ho0) | ((with_reducible refine gate_callee (f := 12) rfl ?_); refine gl_ (some 60) Tryd.func12 #[.int .i64 a0, .int .i64 t252, .int .u64 1, .slice A2 l2.length c2] ?_; (with_reducible refine (transform_Values.calls kj7 a0 t252 1 _ _ l2 t257 t258 _ ?side1 ?side2 ?side3 A25.out).mono ?_); (case side1 => exact fU_ HG.out HB.out); (case side2 => exact cU_ (Kd.C_below HR2.out HB.out)); (case side3 => exact HC2.out); rintro e w28 ⟨v259, rfl, ho0, hb⟩; refine ⟨_, rfl, ?_⟩; refine nx3_ (Kd.R_elder' (rU_ HO256.out) (Kd.R_base ho0) hb) (Kd.R_lower (Kd.R_new' ho0 (Kd.R_lt (rU_ HO256.out))) (below_size (bU_ HB.out))) (below_step (bU_ HB.out) hb) ?_; clear HO256 HB; intro HO256 HO260 HB; clear hb ho0; obtain ⟨Ao29, co29, eo29⟩ := Kd.R_slice HO256.out; subst eo29))
      go_loopg [65] kj7 (fun kq v65 w' => ∃ (x10_2 : List Int) (x65_2 : Int), v65 = .int .i64 x65_2 ∧ Aside0 (transform_Multiply.l0 kq a0 x10_2 t257 (t253.length : Int) x65_2 = some (r1, r2)) ∧ Aside0 (kq ≤ kj7) ∧ Aside0 (Kd.R (Kd.int .u64) 22 w' w.heap.size (fun k_ => some k_ ≠ (v259 : Value).ownBlock) (.slice Ao29 t253.length co29) x10_2) ∧ Aside0 (Kd.R (Kd.int .u64) 22 w' w.heap.size (fun k_ => some k_ ≠ ((.slice Ao29 t253.length co29) : Value).ownBlock) v259 t257) ∧ Aside0 (Below w.heap.size w w'))
      case atStart => exact ⟨(t253), (0), gb_, H', ⟨Nat.le_refl _⟩, ⟨Kd.R_mono (rU_ HO256.out) (fun _ hk => hk.2)⟩, ⟨Kd.R_mono (rU_ HO260.out) (fun _ hk => hk.2)⟩, ⟨bU_ HB.out⟩⟩
      case round =>
       clear H'
       (try clear c1); (try clear c2); (try clear p2); (try clear c3); (try clear c5); (try clear p6); (try clear c12); (try clear c12b0); (try clear c12b1); (try clear c17); (try clear c19); (try clear c19b0); (try clear c19b1); (try clear c20); (try clear c21); (try clear c21b0)
       obtain ⟨x10_2, x65_2, rfl, HA, HK2, HO_10, HO_12, HB⟩ := hrel
       have hl10_2 := (Kd.R_reads' HO_10.out).1
       rw [hl10_2] at HO_10
       (try simp only [hl10_2])
       (try simp only [hl10_2] at HO_12)
       cases gk with
       | zero => exact absurd HA.out (by simp [transform_Multiply.l0])
       | succ k2 =>
        have H := HA.out
        clear HA
        simp only [transform_Multiply.l0] at H
        by_cases c30 : x65_2 < (t253.length : Int)
        ·rw [if_pos c30] at H
         have c30b0 := decide_eq_true c30
         (try (have c30b0r0 := c30b0; simp only [hl10_2] at c30b0r0))
         clear c30
         obtain ⟨c31, H⟩ : (0 ≤ x65_2) ∧ _ := it_ H
         have c31b0 := decide_eq_true c31
         clear c31
         obtain ⟨c32, H⟩ : (x65_2 < (x10_2.length : Int)) ∧ _ := it_ H
         have c32b0 := decide_eq_true c32
         clear c32
         obtain ⟨c33, H⟩ : (x65_2 < (t257.length : Int)) ∧ _ := it_ H
         have c33b0 := decide_eq_true c33
         clear c33
         revert H
         refine bd_ fun t263 A34 H => ?_
         obtain ⟨y264, hy264⟩ : ∃ y_ : List Int, y_ = (x10_2.set (x65_2 : Int).toNat t263) := ⟨_, rfl⟩
         first | rw [Option.bind_some, ← hy264] at H | rw [← hy264] at H
         have Ny264 := ak hy264
         clear hy264
         have H' := ak H
         clear H
         try go_wp2
         refine nx3_ (Kd.R_drew HO_10.out) (Kd.R_drew HO_12.out) (below_drew1 HB.out) ?_
         clear HO_10 HO_12 HB
         intro HO_10 HO_12 HB
         have pfr37 : 0 ≤ (x65_2 : Int) := od_
         have qfr37 : (x65_2 : Int) < ((x10_2.length : Int) : Int) := od_
         obtain ⟨gofr37, cofr37, eofr37, gbfr37, glfr37, clfr37, HGfr37⟩ := Kd.R_form HO_10.out (by omega)
         (first | cases eofr37 | (injection eofr37 with ea_ en_ ec_; (first | subst ea_ | (injection ea_ with ea_; subst ea_)); subst ec_; clear en_))
         have GBfr37 := ak gbfr37
         have GGfr37 := ak HGfr37
         clear gbfr37 glfr37 HGfr37
         clear pfr37 qfr37
         have p261 : 0 ≤ (x65_2 : Int) := od_
         have q261 : x65_2 < (x10_2.length : Int) := od_
         obtain ⟨ad261, e261, hx261_0⟩ := Kd.at_int (Kd.R_reads' HO_10.out).2.2 x65_2 p261 q261
         obtain rfl : (⟨gofr37, 0, none⟩ : Addr) = ad261 := (by injection e261)
         (first | simp only [add_plain] at hx261_0 | simp only [add_at] at hx261_0 | simp only [Addr.add, Nat.zero_add] at hx261_0 | skip)
         replace p261 := eq_true p261
         replace q261 := eq_true q261
         obtain ⟨Ao39, co39, eo39⟩ := Kd.R_slice HO_12.out
         (first | subst eo39 | (injection eo39 with f1_ f2_ f3_; have f4_ := f1_.symm; have f5_ := f3_.symm; clear f1_ f2_ f3_; subst f4_; subst f5_))
         have pfr38 : 0 ≤ (x65_2 : Int) := od_
         have qfr38 : (x65_2 : Int) < ((t257.length : Int) : Int) := od_
         obtain ⟨gofr38, cofr38, eofr38, gbfr38, glfr38, clfr38, HGfr38⟩ := Kd.R_form HO_12.out (by omega)
         (first | cases eofr38 | (injection eofr38 with ea_ en_ ec_; (first | subst ea_ | (injection ea_ with ea_; subst ea_)); subst ec_; clear en_))
         have GBfr38 := ak gbfr38
         have GGfr38 := ak HGfr38
         clear gbfr38 glfr38 HGfr38
         clear pfr38 qfr38
         have p262 : 0 ≤ (x65_2 : Int) := od_
         have q262 : x65_2 < (t257.length : Int) := od_
         obtain ⟨ad262, e262, hx262_0⟩ := Kd.at_int (Kd.R_reads' HO_12.out).2.2 x65_2 p262 q262
         obtain rfl : (⟨gofr38, 0, none⟩ : Addr) = ad262 := (by injection e262)
         (first | simp only [add_plain] at hx262_0 | simp only [add_at] at hx262_0 | simp only [Addr.add, Nat.zero_add] at hx262_0 | skip)
         replace p262 := eq_true p262
         replace q262 := eq_true q262
         refine start_ (n := 14) (S := fun w' => w'.cell? ⟨gofr37, (x65_2).toNat, none⟩ = some (.int .u64 (rd x10_2 x65_2)) ∧ w'.cell? ⟨gofr38, (x65_2).toNat, none⟩ = some (.int .u64 (rd t257 x65_2))) (ds := [13]) (bv 14 0) (by kernel_rfl) rfl rfl ⟨hx261_0, hx262_0⟩ (fun hHeld => ?_); refine with_tabW transform_Multiply.tab14 transform_Multiply.bits14 (fun HT_ HW_ => ?_)
         generalize wr.drew = w36 at HO_10 HO_12 HB hx261_0 hx262_0 hHeld ⊢
         refine pr_ (i := 0) (N := some 68) (v := ?_) (a' := ?_) (bv 14 1) HT_.out ?_ ?_ ?_; rotate_left 2; (intro w'; go_simp; with_reducible rfl); (simp only [Act.put, s1_, s2_, s3_, i64_w, i32_w]; rfl)
         refine pr_ (i := 1) (N := some 69) (v := ?_) (a' := ?_) (bv 14 3) HT_.out ?_ ?_ ?_; rotate_left 2; (intro w'; go_simp; with_reducible rfl); (simp only [Act.put, s1_, s2_, s3_, i64_w, i32_w]; rfl)
         refine pr_ (i := 2) (N := some 70) (v := ?_) (a' := ?_) (bv 14 7) HT_.out ?_ ?_ ?_; rotate_left 2; (intro w'; go_simp; with_reducible rfl); (simp only [Act.put, s1_, s2_, s3_, i64_w, i32_w]; rfl)
         refine pr_ (i := 3) (N := some 71) (v := ?_) (a' := ?_) (bv 14 15) HT_.out ?_ ?_ ?_; rotate_left 2; (intro w'; go_simp; with_reducible rfl); (simp only [Act.put, s1_, s2_, s3_, i64_w, i32_w]; rfl)
         refine pr_ (i := 4) (N := some 72) (v := ?_) (a' := ?_) (bv 14 31) HT_.out ?_ ?_ ?_; rotate_left 2; (intro w'; go_simp; with_reducible rfl); (simp only [Act.put, s1_, s2_, s3_, i64_w, i32_w]; rfl)
         refine pr_ (i := 5) (N := some 73) (v := ?_) (a' := ?_) (bv 14 63) HT_.out ?_ ?_ ?_; rotate_left 2; (intro w'; go_simp; with_reducible rfl); (simp only [Act.put, s1_, s2_, s3_, i64_w, i32_w]; rfl)
         refine pr_ (i := 7) (N := some 75) (v := ?_) (a' := ?_) (bv 14 191) HT_.out ?_ ?_ ?_; rotate_left 2; (intro w'; go_simp; with_reducible rfl); (simp only [Act.put, s1_, s2_, s3_, i64_w, i32_w]; rfl)
         refine pr_ (i := 8) (N := some 76) (v := ?_) (a' := ?_) (bv 14 447) HT_.out ?_ ?_ ?_; rotate_left 2; (intro w'; go_simp; with_reducible rfl); (simp only [Act.put, s1_, s2_, s3_, i64_w, i32_w]; rfl)
         refine pr_ (i := 9) (N := some 77) (v := ?_) (a' := ?_) (bv 14 959) HT_.out ?_ ?_ ?_; rotate_left 2; (intro w'; go_simp; with_reducible rfl); (simp only [Act.put, s1_, s2_, s3_, i64_w, i32_w]; rfl)
         refine take_ (i := 6) (N := some 74) (v := ?_) (a' := ?_) (bv 14 1023) rfl rfl (take_ofW HT_.out HW_.out (by kernel_rfl)) (fun _ _ _ h => h) (Or.inl ⟨by rfl, ?_⟩) hHeld ?_ ?_
         rotate_left
         ·rintro w' ⟨s0, s1⟩
          go_simp
          with_reducible rfl
         rotate_left
         ·simp only [Act.put, s1_, s2_, s3_, i64_w, i32_w]
          rfl
         refine take_ (i := 10) (N := some 78) (v := ?_) (a' := ?_) (bv 14 2047) rfl rfl (take_ofW HT_.out HW_.out (by kernel_rfl)) (fun _ _ _ h => h) (Or.inl ⟨by rfl, ?_⟩) hHeld ?_ ?_
         rotate_left
         ·rintro w' ⟨s0, s1⟩
          go_simp
          with_reducible rfl
         rotate_left
         ·simp only [Act.put, s1_, s2_, s3_, i64_w, i32_w]
          rfl
         refine one_ (i := 11) (N := some 79) (bv 14 4095) rfl rfl (one_of HT_.out (by kernel_rfl)) (by decide) (fun K hK => ?_)
         refine goes_ Tryd.func26 (by kernel_rfl) rfl #[.int .i64 a0, .int .u64 (rd x10_2 x65_2), .int .u64 (rd t257 x65_2)] (by rfl) rfl rfl ga_ ?_
         with_reducible refine (field_Mul.calls a0 (rd x10_2 x65_2) (rd t257 x65_2) t263 _ ?side1 A34.out).mono ?_
         (case side1 => exact fU_ HG.out HB.out)
         rintro e w40 ⟨rfl, hb⟩
         have HS0_ := (hb.cell (World.block_lt_of_cell? _ _ (hHeld.1))).trans (hHeld.1)
         have HS1_ := (hb.cell (World.block_lt_of_cell? _ _ (hHeld.2))).trans (hHeld.2)
         refine ⟨_, rfl, ?_⟩
         refine nx3_ (Kd.R_below (rU_ HO_10.out) hb) (Kd.R_below (rU_ HO_12.out) hb) (below_step (bU_ HB.out) hb) ?_
         clear HO_10 HO_12 HB
         intro HO_10 HO_12 HB
         (try clear hb)
         (try clear hb2)
         (try clear hk)
         (try clear hi)
         have p35 : 0 ≤ (x65_2 : Int) := od_
         have q35 : (x65_2 : Int) < ((x10_2.length : Int) : Int) := od_
         obtain ⟨hx35_0, hf35_0⟩ := Kd.R_celln 0 HO_10.out (x65_2 : Int) p35 q35
         replace p35 := eq_true p35
         replace q35 := eq_true q35
         have HP41 := Kd.R_putn HO_10.out (x65_2 : Int) t263
         rw [← Ny264.out] at HP41
         have HQ41 := ak HP41
         clear HP41
         refine hK.out _ _ ⟨HS0_, HS1_⟩ (fun hHeld => ?_)
         clear hK K
         refine norm_ (a' := ?_) ?_ ?_
         rotate_left
         ·show Act.put _ (some 79) _ = _
          simp only [Act.put, s1_, s2_, s3_, i64_w, i32_w]
          rfl
         refine pr_ (i := 12) (N := some 80) (v := ?_) (a' := ?_) (bv 14 8191) HT_.out ?_ ?_ ?_; rotate_left 2; (intro w'; go_simp; with_reducible rfl); (simp only [Act.put, s1_, s2_, s3_, i64_w, i32_w]; rfl)
         refine last_ (i := 13) (N := none) #[true, true, true, true, true, true, true, true, true, true, true, true, true, true] rfl rfl (one_of HT_.out (by kernel_rfl)) (by decide) (fun K hK => ?_)
         refine skip_ (w1 := ?_) (by rfl) rfl ?_ ?_
         rotate_left
         ·go_simp
          rfl
         refine hK.out _ _ ?_
         clear hK K
         refine done_ (done_of HT_.out (by kernel_rfl)) ?_
         try go_wp2
         (try simp only [← hl10_2])
         go_roundg k2
         case measure => have := HJ7.out; have := HK2.out; omega
         case rel => exact ⟨(y264), (wrap64 (x65_2 + 1)), gb_, H', ⟨by have := HJ7.out; have := HK2.out; omega⟩, ⟨by (try simp only [hl10_2]); (with_reducible repeat (first | apply Kd.R_alloc | apply Kd.R_drewN | apply Kd.R_drew)); exact HQ41.out⟩, ⟨by (try simp only [hl10_2]); (with_reducible repeat (first | apply Kd.R_alloc | apply Kd.R_drewN | apply Kd.R_drew)); exact Kd.R_mono (Kd.R_far (p := ⟨gofr37, (x65_2 : Int).toNat, none⟩) (Kd.R_mono HO_12.out (fun k_ hk => (⟨hk, fun e_ => hk (by rw [e_]; rfl)⟩ : _ ∧ k_ ≠ gofr37))) (fun _ hk => hk.2) (.int .u64 t263)) (fun _ hk => hk.1)⟩, ⟨by repeat (first | (with_reducible first | exact HB.out | apply below_alloc | apply pw_below_drewN | apply below_drew1 | refine below_set ?_ GBfr37.out) | exact HB.out)⟩⟩
        ·rw [if_neg c30] at H
         have c30b0 := decide_eq_false c30
         (try (have c30b0r0 := c30b0; simp only [hl10_2] at c30b0r0))
         clear c30
         revert H
         refine bd2_ fun t265 t266 A42 H => ?_
         try dsimp only at H
         revert H
         refine bd_ fun t269 A43 H => ?_
         simp only [Option.some.injEq, Prod.mk.injEq] at H
         obtain ⟨rfl, rfl⟩ := H
         go_wp2_with (first | ((with_reducible refine gate_callee (f := 16) rfl ?_); refine gl_ (some 85) Tryd.func16 #[.int .i64 a0, .int .u64 1, .slice Ao29 x10_2.length co29] ?_; (with_reducible refine (transform_Coefficients.calls k2 a0 1 _ _ x10_2 t265 t266 _ ?side1 ?side2 ?side3 A42.out).mono ?_); (case side1 => exact fU_ HG.out HB.out); (case side2 => exact cU_ ((Kd.R_reads' HO_10.out).2.2)); (case side3 => exact (Kd.R_reads' HO_10.out).2.1); rintro e w44 ⟨v267, rfl, ho0, hb⟩; refine ⟨_, rfl, ?_⟩; refine nx4_ (Kd.R_elder' (rU_ HO_10.out) (Kd.R_base ho0) hb) (Kd.R_elder' (rU_ HO_12.out) (Kd.R_base ho0) hb) (Kd.R_lower (Kd.R_new' (Kd.R_new' ho0 (Kd.R_lt (rU_ HO_10.out))) (Kd.R_lt (rU_ HO_12.out))) (below_size (bU_ HB.out))) (below_step (bU_ HB.out) hb) ?_; clear HO_10 HO_12 HB; intro HO_10 HO_12 HO268 HB; clear hb ho0; obtain ⟨Ao45, co45, eo45⟩ := Kd.R_slice HO268.out; subst eo45) | ((with_reducible refine gate_callee (f := 56) rfl ?_); refine gl_ (some 90) Tryd.func56 #[.int .i64 a0, .slice Ao45 t265.length co45] ?_; (with_reducible refine (poly_Normal.calls k2 a0 _ _ t265 t269 _ ?side1 ?side2 ?side3 A43.out).mono ?_); (case side1 => exact fU_ HG.out HB.out); (case side2 => exact cU_ ((Kd.R_reads' HO268.out).2.2)); (case side3 => exact (Kd.R_reads' HO268.out).2.1); rintro e w46 ⟨v270, rfl, ho0, hb⟩; refine ⟨_, rfl, ?_⟩; refine nx5_ (Kd.R_elder' (rU_ HO_10.out) (Kd.R_base ho0) hb) (Kd.R_elder' (rU_ HO_12.out) (Kd.R_base ho0) hb) (Kd.R_elder' (rU_ HO268.out) (Kd.R_base ho0) hb) (Kd.R_lower (Kd.R_new' (Kd.R_new' (Kd.R_new' ho0 (Kd.R_lt (rU_ HO_10.out))) (Kd.R_lt (rU_ HO_12.out))) (Kd.R_lt (rU_ HO268.out))) (below_size (bU_ HB.out))) (below_step (bU_ HB.out) hb) ?_; clear HO_10 HO_12 HO268 HB; intro HO_10 HO_12 HO268 HO271 HB; clear hb ho0))
         go_ret2
         exact ⟨_, by first | rfl | (simp [errW_none, errW_some] <;> rfl) | (simp only [← hji20]; first | rfl | (simp [errW_none, errW_some] <;> rfl)) | (simp [*, errW_none, errW_some] <;> rfl), Kd.R_mono (rU_ HO271.out) (fun _ hk => trivial), bU_ HB.out⟩
 ·replace c5 := Bool.eq_false_iff.mpr c5
  subst c5
  rw [if_neg (show ¬ (false = true) by decide)] at H
  simp only [Option.some.injEq, Prod.mk.injEq] at H
  obtain ⟨rfl, rfl⟩ := H
  go_enter Tryd.func20, Tryd.ntmps20
  go_wp2_with (first | ((with_reducible refine gate_callee (f := 52) rfl ?_); refine gl_ (some 18) Tryd.func52 #[.int .i64 a0] ?_; (with_reducible refine (field_Valid.calls a0 false _ A4.out).mono ?_); rintro e w' ⟨rfl, ⟨nd, rfl⟩⟩; refine ⟨_, rfl, ?_⟩))
  go_ret2
  exact ⟨_, by first | rfl | (simp [errW_none, errW_some] <;> rfl) | (simp [*, errW_none, errW_some] <;> rfl), by first | exact Kd.R_nil _ _ _ _ _ | exact Kd.N_nil _ _ _ _ _ | exact Kd.V_nil _ _ _ _ _ | exact Kd.Q_nil _ _ _ _ _ | exact Kd.S_nil _ _ _ _ _, bU_ HB.out⟩

/-! ### attestorlaw04_same: function 24 -/
def attestorlaw04_same.l0 : Nat → List Int → List Int → Int → Option (Bool)
 | 0, _, _, _ => none
 | k + 1, x0, x1, x5 => if x5 < (x0.length : Int) then (if 0 ≤ x5 then (if x5 < (x1.length : Int) then (if (rd x0 x5) = (rd x1 x5) then (attestorlaw04_same.l0 k x0 x1 (wrap64 (x5 + 1))) else (some false)) else (none)) else (none)) else (some true)
def attestorlaw04_same.f (k : Nat) (l0 : List Int) (l1 : List Int) : Option (Bool) := if (l0.length : Int) = (l1.length : Int) then (attestorlaw04_same.l0 k l0 l1 0) else (some false)
theorem attestorlaw04_same.mono_l : ∀ k, (∀ y0 y1 y2, LeO (attestorlaw04_same.l0 k y0 y1 y2) (attestorlaw04_same.l0 (k + 1) y0 y1 y2))
 | 0 => fun _ _ _ r h => by simp [attestorlaw04_same.l0] at h
 | k + 1 => by
  have ih0 := attestorlaw04_same.mono_l k
  ·intro y0 y1 y2
   unfold attestorlaw04_same.l0
   with_reducible repeat' first | apply ih0 | exact LeO.refl _ | exact LeO.none _ | refine LeO.ite ?_ ?_ | refine LeO.bind ?_ (fun _ => ?_)
theorem attestorlaw04_same.mono : ∀ a0 a1 k, LeO (attestorlaw04_same.f k a0 a1) (attestorlaw04_same.f (k + 1) a0 a1) := by
 intro a0 a1 k
 have ih0 := attestorlaw04_same.mono_l k
 unfold attestorlaw04_same.f
 with_reducible repeat' first | apply ih0 | exact LeO.refl _ | exact LeO.none _ | refine LeO.ite ?_ ?_ | refine LeO.bind ?_ (fun _ => ?_)
set_option maxHeartbeats 8000000 in
set_option maxRecDepth 100000 in
theorem attestorlaw04_same.calls (k : Nat) (A0 : Option Addr) (c0 : Nat) (l0 : List Int) (A1 : Option Addr) (c1 : Nat) (l1 : List Int) (r : Bool) (w : World) (hr0 : Kd.C (Kd.int .u64) w A0 l0.length l0) (hc0 : l0.length ≤ c0) (hr1 : Kd.C (Kd.int .u64) w A1 l1.length l1) (hc1 : l1.length ≤ c1) (h : attestorlaw04_same.f k l0 l1 = some r) :
  Calls Tryd.prog 24 #[.slice A0 l0.length c0, .slice A1 l1.length c1] w fun e w' => e = .returned (.bool r) ∧ Drawn0 w w' := by
 have HR0 := ak hr0
 have HC0 := ak hc0
 clear hr0 hc0
 have HR1 := ak hr1
 have HC1 := ak hc1
 clear hr1 hc1
 have H : (if (l0.length : Int) = (l1.length : Int) then (attestorlaw04_same.l0 k l0 l1 0) else (some false)) = some r := h
 clear h
 by_cases c3 : (l0.length : Int) = (l1.length : Int)
 ·rw [if_pos c3] at H
  have c3b0 := beq_iff_eq.mpr c3
  have c3b1 := bne_eq_false_iff_eq.mpr c3
  have c3b2 : (l0.length == l1.length) = true := by first | simpa using c3 | (simp at c3 ⊢; omega)
  clear c3
  have H' := ak H
  clear H
  go_enter Tryd.func24, Tryd.ntmps24
  go_wp2
  repeat (go_quiet (fail); try go_wp2)
  go_loopg [5] k (fun kq v5 w' => ∃ (x5_1 : Int), v5 = .int .i64 x5_1 ∧ Aside0 (attestorlaw04_same.l0 kq l0 l1 x5_1 = some r) ∧ Aside0 (kq ≤ k) ∧ Drawn0 w w')
  case atStart => exact ⟨(0), gb_, H', ⟨Nat.le_refl _⟩, by repeat (first | exact Drawn0.refl _ | apply Drawn0.step)⟩
  case round =>
   clear H'
   (try clear c1); (try clear c2); (try clear p2); (try clear c3); (try clear c3b0); (try clear c3b1); (try clear c3b2)
   obtain ⟨x5_1, rfl, HA, HK1, ⟨m1, rfl⟩⟩ := hrel
   cases gk with
   | zero => exact absurd HA.out (by simp [attestorlaw04_same.l0])
   | succ k1 =>
    have H := HA.out
    clear HA
    simp only [attestorlaw04_same.l0] at H
    by_cases c4 : x5_1 < (l0.length : Int)
    ·rw [if_pos c4] at H
     have c4b0 := decide_eq_true c4
     clear c4
     obtain ⟨c5, H⟩ : (0 ≤ x5_1) ∧ _ := it_ H
     have c5b0 := decide_eq_true c5
     clear c5
     obtain ⟨c6, H⟩ : (x5_1 < (l1.length : Int)) ∧ _ := it_ H
     have c6b0 := decide_eq_true c6
     clear c6
     by_cases c7 : (rd l0 x5_1) = (rd l1 x5_1)
     ·rw [if_pos c7] at H
      have c7b0 := beq_iff_eq.mpr c7
      have c7b1 := bne_eq_false_iff_eq.mpr c7
      clear c7
      have H' := ak H
      clear H
      have p272 : 0 ≤ (x5_1 : Int) := od_
      have q272 : x5_1 < (l0.length : Int) := od_
      obtain ⟨ad272, e272, hx272_0⟩ := Kd.at_int HR0.out x5_1 p272 q272
      cases e272
      replace p272 := eq_true p272
      replace q272 := eq_true q272
      have p273 : 0 ≤ (x5_1 : Int) := od_
      have q273 : x5_1 < (l1.length : Int) := od_
      obtain ⟨ad273, e273, hx273_0⟩ := Kd.at_int HR1.out x5_1 p273 q273
      cases e273
      replace p273 := eq_true p273
      replace q273 := eq_true q273
      go_wp2
      repeat (go_quiet (fail); try go_wp2)
      go_roundg k1
      case measure => have := HK1.out; omega
      case rel => exact ⟨(wrap64 (x5_1 + 1)), gb_, H', ⟨by have := HK1.out; omega⟩, by repeat (first | exact Drawn0.refl _ | apply Drawn0.step)⟩
     ·rw [if_neg c7] at H
      have c7b0 := beq_eq_false_iff_ne.mpr c7
      have c7b1 := bne_iff_ne.mpr c7
      obtain rfl := Option.some.inj H
      have p272 : 0 ≤ (x5_1 : Int) := od_
      have q272 : x5_1 < (l0.length : Int) := od_
      obtain ⟨ad272, e272, hx272_0⟩ := Kd.at_int HR0.out x5_1 p272 q272
      cases e272
      replace p272 := eq_true p272
      replace q272 := eq_true q272
      have p273 : 0 ≤ (x5_1 : Int) := od_
      have q273 : x5_1 < (l1.length : Int) := od_
      obtain ⟨ad273, e273, hx273_0⟩ := Kd.at_int HR1.out x5_1 p273 q273
      cases e273
      replace p273 := eq_true p273
      replace q273 := eq_true q273
      go_wp2
      repeat (go_quiet (fail); try go_wp2)
      go_ret
      exact ⟨by first | rfl | (simp; done) | (simp [*]; done), by repeat (first | exact Drawn0.refl _ | apply Drawn0.step)⟩
    ·rw [if_neg c4] at H
     have c4b0 := decide_eq_false c4
     clear c4
     obtain rfl := Option.some.inj H
     go_wp2
     repeat (go_quiet (fail); try go_wp2)
     go_ret
     exact ⟨by first | rfl | (simp; done) | (simp [*]; done), by repeat (first | exact Drawn0.refl _ | apply Drawn0.step)⟩
 ·rw [if_neg c3] at H
  have c3b0 := beq_eq_false_iff_ne.mpr c3
  have c3b1 := bne_iff_ne.mpr c3
  have c3b2 : (l0.length == l1.length) = false := by first | simpa using c3 | (simp at c3 ⊢; omega)
  obtain rfl := Option.some.inj H
  go_enter Tryd.func24, Tryd.ntmps24
  go_wp2
  repeat (go_quiet (fail); try go_wp2)
  go_ret
  exact ⟨by first | rfl | (simp; done) | (simp [*]; done), by repeat (first | exact Drawn0.refl _ | apply Drawn0.step)⟩

/-! ### attestorlaw04_works: function 15 -/
def attestorlaw04_works.f (k : Nat)  : Option (Bool) := (transform_Values.f k 0 2 1 (([0, 1] : List Int))).bind fun bt277 => ((transform_Coefficients.f k 0 5 (([11, 88] : List Int))).bind fun bt284 => ((transform_Multiply.f k 0 (([1, 1] : List Int)) (([1, 96] : List Int))).bind fun bt294 => ((transform_Widen.f k 0 (([1, 96] : List Int)) 1).bind fun bt301 => (if bt277.2 = 0 then ((attestorlaw04_same.f k bt277.1 (([1, 22, 96, 75] : List Int))).bind fun t308 => (if t308 = true then (if bt284.2 = 0 then ((attestorlaw04_same.f k bt284.1 (([1, 2] : List Int))).bind fun t312 => (if t312 = true then (if bt294.2 = 0 then ((attestorlaw04_same.f k bt294.1 (([1, 0, 96] : List Int))).bind fun t316 => (if t316 = true then (if bt301.2 = 0 then ((attestorlaw04_same.f k bt301.1 (([5, 13, 92, 84] : List Int))).bind fun t320 => (some t320)) else (none)) else (none))) else (none)) else (none))) else (none)) else (none))) else (none)))))
theorem attestorlaw04_works.mono : ∀ k, LeO (attestorlaw04_works.f k ) (attestorlaw04_works.f (k + 1) ) := by
 intro  k
 unfold attestorlaw04_works.f
 with_reducible repeat' first | apply attestorlaw04_same.mono | apply transform_Coefficients.mono | apply transform_Multiply.mono | apply transform_Values.mono | apply transform_Widen.mono | exact LeO.refl _ | exact LeO.none _ | refine LeO.ite ?_ ?_ | refine LeO.bind ?_ (fun _ => ?_)
set_option maxHeartbeats 8000000 in
set_option maxRecDepth 100000 in
theorem attestorlaw04_works.calls (k : Nat)  (r : Bool) (w : World) (hG : Fld w) (h : attestorlaw04_works.f k  = some r) :
  Calls Tryd.prog 15 #[] w fun e w' => e = .returned (.bool r) ∧ Below w.heap.size w w' := by
 have HG := ak hG
 clear hG
 have HB := ak (Below.refl w.heap.size w)
 have H : ((transform_Values.f k 0 2 1 (([0, 1] : List Int))).bind fun bt277 => ((transform_Coefficients.f k 0 5 (([11, 88] : List Int))).bind fun bt284 => ((transform_Multiply.f k 0 (([1, 1] : List Int)) (([1, 96] : List Int))).bind fun bt294 => ((transform_Widen.f k 0 (([1, 96] : List Int)) 1).bind fun bt301 => (if bt277.2 = 0 then ((attestorlaw04_same.f k bt277.1 (([1, 22, 96, 75] : List Int))).bind fun t308 => (if t308 = true then (if bt284.2 = 0 then ((attestorlaw04_same.f k bt284.1 (([1, 2] : List Int))).bind fun t312 => (if t312 = true then (if bt294.2 = 0 then ((attestorlaw04_same.f k bt294.1 (([1, 0, 96] : List Int))).bind fun t316 => (if t316 = true then (if bt301.2 = 0 then ((attestorlaw04_same.f k bt301.1 (([5, 13, 92, 84] : List Int))).bind fun t320 => (some t320)) else (none)) else (none))) else (none)) else (none))) else (none)) else (none))) else (none)))))) = some r := h
 clear h
 obtain ⟨y274, hy274⟩ : ∃ y_ : List Int, y_ = (([0, 1] : List Int)) := ⟨_, rfl⟩
 replace H : ((transform_Values.f k 0 2 1 y274).bind fun bt277 => ((transform_Coefficients.f k 0 5 (([11, 88] : List Int))).bind fun bt284 => ((transform_Multiply.f k 0 (([1, 1] : List Int)) (([1, 96] : List Int))).bind fun bt294 => ((transform_Widen.f k 0 (([1, 96] : List Int)) 1).bind fun bt301 => (if bt277.2 = 0 then ((attestorlaw04_same.f k bt277.1 (([1, 22, 96, 75] : List Int))).bind fun t308 => (if t308 = true then (if bt284.2 = 0 then ((attestorlaw04_same.f k bt284.1 (([1, 2] : List Int))).bind fun t312 => (if t312 = true then (if bt294.2 = 0 then ((attestorlaw04_same.f k bt294.1 (([1, 0, 96] : List Int))).bind fun t316 => (if t316 = true then (if bt301.2 = 0 then ((attestorlaw04_same.f k bt301.1 (([5, 13, 92, 84] : List Int))).bind fun t320 => (some t320)) else (none)) else (none))) else (none)) else (none))) else (none)) else (none))) else (none)))))) = some r := by first | (rw [hy274]; with_reducible exact H) | (have H2_ := (Option.bind_some _ _).symm.trans H; rw [hy274]; with_reducible exact H2_) | (have H2_ := (Option.bind_some _ _).symm.trans H; with_reducible exact H2_) | with_reducible exact H | (rw [hy274]; exact H) | exact H
 have Ny274 := ak hy274
 clear hy274
 revert H
 refine bd2_ fun t277 t278 A1 H => ?_
 try dsimp only at H
 obtain ⟨y281, hy281⟩ : ∃ y_ : List Int, y_ = (([11, 88] : List Int)) := ⟨_, rfl⟩
 replace H : ((transform_Coefficients.f k 0 5 y281).bind fun bt284 => ((transform_Multiply.f k 0 (([1, 1] : List Int)) (([1, 96] : List Int))).bind fun bt294 => ((transform_Widen.f k 0 (([1, 96] : List Int)) 1).bind fun bt301 => (if t278 = 0 then ((attestorlaw04_same.f k t277 (([1, 22, 96, 75] : List Int))).bind fun t308 => (if t308 = true then (if bt284.2 = 0 then ((attestorlaw04_same.f k bt284.1 (([1, 2] : List Int))).bind fun t312 => (if t312 = true then (if bt294.2 = 0 then ((attestorlaw04_same.f k bt294.1 (([1, 0, 96] : List Int))).bind fun t316 => (if t316 = true then (if bt301.2 = 0 then ((attestorlaw04_same.f k bt301.1 (([5, 13, 92, 84] : List Int))).bind fun t320 => (some t320)) else (none)) else (none))) else (none)) else (none))) else (none)) else (none))) else (none))))) = some r := by first | (rw [hy281]; with_reducible exact H) | (have H2_ := (Option.bind_some _ _).symm.trans H; rw [hy281]; with_reducible exact H2_) | (have H2_ := (Option.bind_some _ _).symm.trans H; with_reducible exact H2_) | with_reducible exact H | (rw [hy281]; exact H) | exact H
 have Ny281 := ak hy281
 clear hy281
 revert H
 refine bd2_ fun t284 t285 A2 H => ?_
 try dsimp only at H
 obtain ⟨y288, hy288⟩ : ∃ y_ : List Int, y_ = (([1, 1] : List Int)) := ⟨_, rfl⟩
 replace H : ((transform_Multiply.f k 0 y288 (([1, 96] : List Int))).bind fun bt294 => ((transform_Widen.f k 0 (([1, 96] : List Int)) 1).bind fun bt301 => (if t278 = 0 then ((attestorlaw04_same.f k t277 (([1, 22, 96, 75] : List Int))).bind fun t308 => (if t308 = true then (if t285 = 0 then ((attestorlaw04_same.f k t284 (([1, 2] : List Int))).bind fun t312 => (if t312 = true then (if bt294.2 = 0 then ((attestorlaw04_same.f k bt294.1 (([1, 0, 96] : List Int))).bind fun t316 => (if t316 = true then (if bt301.2 = 0 then ((attestorlaw04_same.f k bt301.1 (([5, 13, 92, 84] : List Int))).bind fun t320 => (some t320)) else (none)) else (none))) else (none)) else (none))) else (none)) else (none))) else (none)))) = some r := by first | (rw [hy288]; with_reducible exact H) | (have H2_ := (Option.bind_some _ _).symm.trans H; rw [hy288]; with_reducible exact H2_) | (have H2_ := (Option.bind_some _ _).symm.trans H; with_reducible exact H2_) | with_reducible exact H | (rw [hy288]; exact H) | exact H
 have Ny288 := ak hy288
 clear hy288
 obtain ⟨y291, hy291⟩ : ∃ y_ : List Int, y_ = (([1, 96] : List Int)) := ⟨_, rfl⟩
 replace H : ((transform_Multiply.f k 0 y288 y291).bind fun bt294 => ((transform_Widen.f k 0 (([1, 96] : List Int)) 1).bind fun bt301 => (if t278 = 0 then ((attestorlaw04_same.f k t277 (([1, 22, 96, 75] : List Int))).bind fun t308 => (if t308 = true then (if t285 = 0 then ((attestorlaw04_same.f k t284 (([1, 2] : List Int))).bind fun t312 => (if t312 = true then (if bt294.2 = 0 then ((attestorlaw04_same.f k bt294.1 (([1, 0, 96] : List Int))).bind fun t316 => (if t316 = true then (if bt301.2 = 0 then ((attestorlaw04_same.f k bt301.1 (([5, 13, 92, 84] : List Int))).bind fun t320 => (some t320)) else (none)) else (none))) else (none)) else (none))) else (none)) else (none))) else (none)))) = some r := by first | (rw [hy291]; with_reducible exact H) | (have H2_ := (Option.bind_some _ _).symm.trans H; rw [hy291]; with_reducible exact H2_) | (have H2_ := (Option.bind_some _ _).symm.trans H; with_reducible exact H2_) | with_reducible exact H | (rw [hy291]; exact H) | exact H
 have Ny291 := ak hy291
 clear hy291
 revert H
 refine bd2_ fun t294 t295 A3 H => ?_
 try dsimp only at H
 obtain ⟨y298, hy298⟩ : ∃ y_ : List Int, y_ = (([1, 96] : List Int)) := ⟨_, rfl⟩
 replace H : ((transform_Widen.f k 0 y298 1).bind fun bt301 => (if t278 = 0 then ((attestorlaw04_same.f k t277 (([1, 22, 96, 75] : List Int))).bind fun t308 => (if t308 = true then (if t285 = 0 then ((attestorlaw04_same.f k t284 (([1, 2] : List Int))).bind fun t312 => (if t312 = true then (if t295 = 0 then ((attestorlaw04_same.f k t294 (([1, 0, 96] : List Int))).bind fun t316 => (if t316 = true then (if bt301.2 = 0 then ((attestorlaw04_same.f k bt301.1 (([5, 13, 92, 84] : List Int))).bind fun t320 => (some t320)) else (none)) else (none))) else (none)) else (none))) else (none)) else (none))) else (none))) = some r := by first | (rw [hy298]; with_reducible exact H) | (have H2_ := (Option.bind_some _ _).symm.trans H; rw [hy298]; with_reducible exact H2_) | (have H2_ := (Option.bind_some _ _).symm.trans H; with_reducible exact H2_) | with_reducible exact H | (rw [hy298]; exact H) | exact H
 have Ny298 := ak hy298
 clear hy298
 revert H
 refine bd2_ fun t301 t302 A4 H => ?_
 try dsimp only at H
 obtain ⟨c5, H⟩ : (t278 = 0) ∧ _ := it_ H
 have c5b0 := beq_iff_eq.mpr c5
 have c5b1 := bne_eq_false_iff_eq.mpr c5
 clear c5
 obtain ⟨y305, hy305⟩ : ∃ y_ : List Int, y_ = (([1, 22, 96, 75] : List Int)) := ⟨_, rfl⟩
 replace H : ((attestorlaw04_same.f k t277 y305).bind fun t308 => (if t308 = true then (if t285 = 0 then ((attestorlaw04_same.f k t284 (([1, 2] : List Int))).bind fun t312 => (if t312 = true then (if t295 = 0 then ((attestorlaw04_same.f k t294 (([1, 0, 96] : List Int))).bind fun t316 => (if t316 = true then (if t302 = 0 then ((attestorlaw04_same.f k t301 (([5, 13, 92, 84] : List Int))).bind fun t320 => (some t320)) else (none)) else (none))) else (none)) else (none))) else (none)) else (none))) = some r := by first | (rw [hy305]; with_reducible exact H) | (have H2_ := (Option.bind_some _ _).symm.trans H; rw [hy305]; with_reducible exact H2_) | (have H2_ := (Option.bind_some _ _).symm.trans H; with_reducible exact H2_) | with_reducible exact H | (rw [hy305]; exact H) | exact H
 have Ny305 := ak hy305
 clear hy305
 revert H
 refine bd_ fun t308 A6 H => ?_
 by_cases c7 : t308 = true
 ·subst c7
  rw [if_pos rfl] at H
  obtain ⟨c8, H⟩ : (t285 = 0) ∧ _ := it_ H
  have c8b0 := beq_iff_eq.mpr c8
  have c8b1 := bne_eq_false_iff_eq.mpr c8
  clear c8
  obtain ⟨y309, hy309⟩ : ∃ y_ : List Int, y_ = (([1, 2] : List Int)) := ⟨_, rfl⟩
  replace H : ((attestorlaw04_same.f k t284 y309).bind fun t312 => (if t312 = true then (if t295 = 0 then ((attestorlaw04_same.f k t294 (([1, 0, 96] : List Int))).bind fun t316 => (if t316 = true then (if t302 = 0 then ((attestorlaw04_same.f k t301 (([5, 13, 92, 84] : List Int))).bind fun t320 => (some t320)) else (none)) else (none))) else (none)) else (none))) = some r := by first | (rw [hy309]; with_reducible exact H) | (have H2_ := (Option.bind_some _ _).symm.trans H; rw [hy309]; with_reducible exact H2_) | (have H2_ := (Option.bind_some _ _).symm.trans H; with_reducible exact H2_) | with_reducible exact H | (rw [hy309]; exact H) | exact H
  have Ny309 := ak hy309
  clear hy309
  revert H
  refine bd_ fun t312 A9 H => ?_
  by_cases c10 : t312 = true
  ·subst c10
   rw [if_pos rfl] at H
   obtain ⟨c11, H⟩ : (t295 = 0) ∧ _ := it_ H
   have c11b0 := beq_iff_eq.mpr c11
   have c11b1 := bne_eq_false_iff_eq.mpr c11
   clear c11
   obtain ⟨y313, hy313⟩ : ∃ y_ : List Int, y_ = (([1, 0, 96] : List Int)) := ⟨_, rfl⟩
   replace H : ((attestorlaw04_same.f k t294 y313).bind fun t316 => (if t316 = true then (if t302 = 0 then ((attestorlaw04_same.f k t301 (([5, 13, 92, 84] : List Int))).bind fun t320 => (some t320)) else (none)) else (none))) = some r := by first | (rw [hy313]; with_reducible exact H) | (have H2_ := (Option.bind_some _ _).symm.trans H; rw [hy313]; with_reducible exact H2_) | (have H2_ := (Option.bind_some _ _).symm.trans H; with_reducible exact H2_) | with_reducible exact H | (rw [hy313]; exact H) | exact H
   have Ny313 := ak hy313
   clear hy313
   revert H
   refine bd_ fun t316 A12 H => ?_
   by_cases c13 : t316 = true
   ·subst c13
    rw [if_pos rfl] at H
    obtain ⟨c14, H⟩ : (t302 = 0) ∧ _ := it_ H
    have c14b0 := beq_iff_eq.mpr c14
    have c14b1 := bne_eq_false_iff_eq.mpr c14
    clear c14
    obtain ⟨y317, hy317⟩ : ∃ y_ : List Int, y_ = (([5, 13, 92, 84] : List Int)) := ⟨_, rfl⟩
    replace H : ((attestorlaw04_same.f k t301 y317).bind fun t320 => (some t320)) = some r := by first | (rw [hy317]; with_reducible exact H) | (have H2_ := (Option.bind_some _ _).symm.trans H; rw [hy317]; with_reducible exact H2_) | (have H2_ := (Option.bind_some _ _).symm.trans H; with_reducible exact H2_) | with_reducible exact H | (rw [hy317]; exact H) | exact H
    have Ny317 := ak hy317
    clear hy317
    revert H
    refine bd_ fun t320 A15 H => ?_
    obtain rfl := Option.some.inj H
    go_enter Tryd.func15, Tryd.ntmps15
    go_wp2_with (first | ((with_reducible refine gate_dst (N := 10) rfl ?_); (try (refine gate_guard (by rfl) ?_; dsimp only)); refine Kd.R_lit (Kd.int .u64) _ 22 ?hg (N := 10) ?hd (xs := ([0, 1] : List Int)) (inner := [.int .u64 0, .int .u64 1]) (ok := fun _ => True) (okp := fun _ => True) ?hr ?hp (fun _ hk => hk) trivial (Below.refl _ _) (Nat.le_refl _) (by simp) ?_; (case hd => rfl); (case hg => rfl); (case hr => first | (go_simp; done) | (go_simp; rfl)); (case hp => exact (Reps.one (show Kd.M (Kd.int .u64) _ _ _ 0 [.int .u64 0] from rfl) (Reps.one (show Kd.M (Kd.int .u64) _ _ _ 1 [.int .u64 1] from rfl) (Reps.none _ _)))); intro v275 w16 ho17 hb hg_ hnew_; clear hg_ hnew_; (first | rw [← Ny274.out] at ho17 | (simp only [Int.reduceToNat] at ho17; rw [← Ny274.out] at ho17)); refine nx2_ (Kd.R_lower ho17 (below_size (bU_ HB.out))) (below_step (bU_ HB.out) hb) ?_; clear HB; intro HO276 HB; clear hb ho17; obtain ⟨Ao18, co18, eo18⟩ := Kd.R_slice HO276.out; subst eo18) | ((with_reducible refine gate_callee (f := 12) rfl ?_); refine gl_ (some 11) Tryd.func12 #[.int .i64 0, .int .i64 2, .int .u64 1, .slice Ao18 y274.length co18] ?_; (with_reducible refine (transform_Values.calls k 0 2 1 _ _ y274 t277 t278 _ ?side1 ?side2 ?side3 A1.out).mono ?_); (case side1 => exact fU_ HG.out HB.out); (case side2 => exact cU_ ((Kd.R_reads' HO276.out).2.2)); (case side3 => exact (Kd.R_reads' HO276.out).2.1); rintro e w19 ⟨v279, rfl, ho0, hb⟩; refine ⟨_, rfl, ?_⟩; refine nx3_ (Kd.R_elder' (rU_ HO276.out) (Kd.R_base ho0) hb) (Kd.R_lower (Kd.R_new' ho0 (Kd.R_lt (rU_ HO276.out))) (below_size (bU_ HB.out))) (below_step (bU_ HB.out) hb) ?_; clear HO276 HB; intro HO276 HO280 HB; clear hb ho0) | ((with_reducible refine gate_dst (N := 15) rfl ?_); (try (refine gate_guard (by rfl) ?_; dsimp only)); refine Kd.R_lit (Kd.int .u64) _ 22 ?hg (N := 15) ?hd (xs := ([11, 88] : List Int)) (inner := [.int .u64 11, .int .u64 88]) (ok := fun _ => True) (okp := fun _ => True) ?hr ?hp (fun _ hk => hk) trivial (Below.refl _ _) (Nat.le_refl _) (by simp) ?_; (case hd => rfl); (case hg => rfl); (case hr => first | (go_simp; done) | (go_simp; rfl)); (case hp => exact (Reps.one (show Kd.M (Kd.int .u64) _ _ _ 11 [.int .u64 11] from rfl) (Reps.one (show Kd.M (Kd.int .u64) _ _ _ 88 [.int .u64 88] from rfl) (Reps.none _ _)))); intro v282 w20 ho21 hb hg_ hnew_; clear hg_ hnew_; (first | rw [← Ny281.out] at ho21 | (simp only [Int.reduceToNat] at ho21; rw [← Ny281.out] at ho21)); refine nx4_ (Kd.R_elder' (rU_ HO276.out) (Kd.R_base ho21) hb) (Kd.R_elder' (rU_ HO280.out) (Kd.R_base ho21) hb) (Kd.R_lower (Kd.R_new' (Kd.R_new' ho21 (Kd.R_lt (rU_ HO276.out))) (Kd.R_lt (rU_ HO280.out))) (below_size (bU_ HB.out))) (below_step (bU_ HB.out) hb) ?_; clear HO276 HO280 HB; intro HO276 HO280 HO283 HB; clear hb ho21; obtain ⟨Ao22, co22, eo22⟩ := Kd.R_slice HO283.out; subst eo22) | ((with_reducible refine gate_callee (f := 16) rfl ?_); refine gl_ (some 16) Tryd.func16 #[.int .i64 0, .int .u64 5, .slice Ao22 y281.length co22] ?_; (with_reducible refine (transform_Coefficients.calls k 0 5 _ _ y281 t284 t285 _ ?side1 ?side2 ?side3 A2.out).mono ?_); (case side1 => exact fU_ HG.out HB.out); (case side2 => exact cU_ ((Kd.R_reads' HO283.out).2.2)); (case side3 => exact (Kd.R_reads' HO283.out).2.1); rintro e w23 ⟨v286, rfl, ho0, hb⟩; refine ⟨_, rfl, ?_⟩; refine nx5_ (Kd.R_elder' (rU_ HO276.out) (Kd.R_base ho0) hb) (Kd.R_elder' (rU_ HO280.out) (Kd.R_base ho0) hb) (Kd.R_elder' (rU_ HO283.out) (Kd.R_base ho0) hb) (Kd.R_lower (Kd.R_new' (Kd.R_new' (Kd.R_new' ho0 (Kd.R_lt (rU_ HO276.out))) (Kd.R_lt (rU_ HO280.out))) (Kd.R_lt (rU_ HO283.out))) (below_size (bU_ HB.out))) (below_step (bU_ HB.out) hb) ?_; clear HO276 HO280 HO283 HB; intro HO276 HO280 HO283 HO287 HB; clear hb ho0) | ((with_reducible refine gate_dst (N := 20) rfl ?_); (try (refine gate_guard (by rfl) ?_; dsimp only)); refine Kd.R_lit (Kd.int .u64) _ 22 ?hg (N := 20) ?hd (xs := ([1, 1] : List Int)) (inner := [.int .u64 1, .int .u64 1]) (ok := fun _ => True) (okp := fun _ => True) ?hr ?hp (fun _ hk => hk) trivial (Below.refl _ _) (Nat.le_refl _) (by simp) ?_; (case hd => rfl); (case hg => rfl); (case hr => first | (go_simp; done) | (go_simp; rfl)); (case hp => exact (Reps.one (show Kd.M (Kd.int .u64) _ _ _ 1 [.int .u64 1] from rfl) (Reps.one (show Kd.M (Kd.int .u64) _ _ _ 1 [.int .u64 1] from rfl) (Reps.none _ _)))); intro v289 w24 ho25 hb hg_ hnew_; clear hg_ hnew_; (first | rw [← Ny288.out] at ho25 | (simp only [Int.reduceToNat] at ho25; rw [← Ny288.out] at ho25)); refine nx6_ (Kd.R_elder' (rU_ HO276.out) (Kd.R_base ho25) hb) (Kd.R_elder' (rU_ HO280.out) (Kd.R_base ho25) hb) (Kd.R_elder' (rU_ HO283.out) (Kd.R_base ho25) hb) (Kd.R_elder' (rU_ HO287.out) (Kd.R_base ho25) hb) (Kd.R_lower (Kd.R_new' (Kd.R_new' (Kd.R_new' (Kd.R_new' ho25 (Kd.R_lt (rU_ HO276.out))) (Kd.R_lt (rU_ HO280.out))) (Kd.R_lt (rU_ HO283.out))) (Kd.R_lt (rU_ HO287.out))) (below_size (bU_ HB.out))) (below_step (bU_ HB.out) hb) ?_; clear HO276 HO280 HO283 HO287 HB; intro HO276 HO280 HO283 HO287 HO290 HB; clear hb ho25) | ((with_reducible refine gate_dst (N := 21) rfl ?_); (try (refine gate_guard (by rfl) ?_; dsimp only)); refine Kd.R_lit (Kd.int .u64) _ 22 ?hg (N := 21) ?hd (xs := ([1, 96] : List Int)) (inner := [.int .u64 1, .int .u64 96]) (ok := fun _ => True) (okp := fun _ => True) ?hr ?hp (fun _ hk => hk) trivial (Below.refl _ _) (Nat.le_refl _) (by simp) ?_; (case hd => rfl); (case hg => rfl); (case hr => first | (go_simp; done) | (go_simp; rfl)); (case hp => exact (Reps.one (show Kd.M (Kd.int .u64) _ _ _ 1 [.int .u64 1] from rfl) (Reps.one (show Kd.M (Kd.int .u64) _ _ _ 96 [.int .u64 96] from rfl) (Reps.none _ _)))); intro v292 w26 ho27 hb hg_ hnew_; clear hg_ hnew_; (first | rw [← Ny291.out] at ho27 | (simp only [Int.reduceToNat] at ho27; rw [← Ny291.out] at ho27)); refine nx7_ (Kd.R_elder' (rU_ HO276.out) (Kd.R_base ho27) hb) (Kd.R_elder' (rU_ HO280.out) (Kd.R_base ho27) hb) (Kd.R_elder' (rU_ HO283.out) (Kd.R_base ho27) hb) (Kd.R_elder' (rU_ HO287.out) (Kd.R_base ho27) hb) (Kd.R_elder' (rU_ HO290.out) (Kd.R_base ho27) hb) (Kd.R_lower (Kd.R_new' (Kd.R_new' (Kd.R_new' (Kd.R_new' (Kd.R_new' ho27 (Kd.R_lt (rU_ HO276.out))) (Kd.R_lt (rU_ HO280.out))) (Kd.R_lt (rU_ HO283.out))) (Kd.R_lt (rU_ HO287.out))) (Kd.R_lt (rU_ HO290.out))) (below_size (bU_ HB.out))) (below_step (bU_ HB.out) hb) ?_; clear HO276 HO280 HO283 HO287 HO290 HB; intro HO276 HO280 HO283 HO287 HO290 HO293 HB; clear hb ho27; obtain ⟨Ao28, co28, eo28⟩ := Kd.R_slice HO290.out; subst eo28; obtain ⟨Ao29, co29, eo29⟩ := Kd.R_slice HO293.out; subst eo29) | ((with_reducible refine gate_callee (f := 20) rfl ?_); refine gl_ (some 22) Tryd.func20 #[.int .i64 0, .slice Ao28 y288.length co28, .slice Ao29 y291.length co29] ?_; (with_reducible refine (transform_Multiply.calls k 0 _ _ y288 _ _ y291 t294 t295 _ ?side1 ?side2 ?side3 ?side4 ?side5 A3.out).mono ?_); (case side1 => exact fU_ HG.out HB.out); (case side2 => exact cU_ ((Kd.R_reads' HO290.out).2.2)); (case side3 => exact (Kd.R_reads' HO290.out).2.1); (case side4 => exact cU_ ((Kd.R_reads' HO293.out).2.2)); (case side5 => exact (Kd.R_reads' HO293.out).2.1); rintro e w30 ⟨v296, rfl, ho0, hb⟩; refine ⟨_, rfl, ?_⟩; refine nx8_ (Kd.R_elder' (rU_ HO276.out) (Kd.R_base ho0) hb) (Kd.R_elder' (rU_ HO280.out) (Kd.R_base ho0) hb) (Kd.R_elder' (rU_ HO283.out) (Kd.R_base ho0) hb) (Kd.R_elder' (rU_ HO287.out) (Kd.R_base ho0) hb) (Kd.R_elder' (rU_ HO290.out) (Kd.R_base ho0) hb) (Kd.R_elder' (rU_ HO293.out) (Kd.R_base ho0) hb) (Kd.R_lower (Kd.R_new' (Kd.R_new' (Kd.R_new' (Kd.R_new' (Kd.R_new' (Kd.R_new' ho0 (Kd.R_lt (rU_ HO276.out))) (Kd.R_lt (rU_ HO280.out))) (Kd.R_lt (rU_ HO283.out))) (Kd.R_lt (rU_ HO287.out))) (Kd.R_lt (rU_ HO290.out))) (Kd.R_lt (rU_ HO293.out))) (below_size (bU_ HB.out))) (below_step (bU_ HB.out) hb) ?_; clear HO276 HO280 HO283 HO287 HO290 HO293 HB; intro HO276 HO280 HO283 HO287 HO290 HO293 HO297 HB; clear hb ho0) | ((with_reducible refine gate_dst (N := 26) rfl ?_); (try (refine gate_guard (by rfl) ?_; dsimp only)); refine Kd.R_lit (Kd.int .u64) _ 22 ?hg (N := 26) ?hd (xs := ([1, 96] : List Int)) (inner := [.int .u64 1, .int .u64 96]) (ok := fun _ => True) (okp := fun _ => True) ?hr ?hp (fun _ hk => hk) trivial (Below.refl _ _) (Nat.le_refl _) (by simp) ?_; (case hd => rfl); (case hg => rfl); (case hr => first | (go_simp; done) | (go_simp; rfl)); (case hp => exact (Reps.one (show Kd.M (Kd.int .u64) _ _ _ 1 [.int .u64 1] from rfl) (Reps.one (show Kd.M (Kd.int .u64) _ _ _ 96 [.int .u64 96] from rfl) (Reps.none _ _)))); intro v299 w31 ho32 hb hg_ hnew_; clear hg_ hnew_; (first | rw [← Ny298.out] at ho32 | (simp only [Int.reduceToNat] at ho32; rw [← Ny298.out] at ho32)); refine nx9_ (Kd.R_elder' (rU_ HO276.out) (Kd.R_base ho32) hb) (Kd.R_elder' (rU_ HO280.out) (Kd.R_base ho32) hb) (Kd.R_elder' (rU_ HO283.out) (Kd.R_base ho32) hb) (Kd.R_elder' (rU_ HO287.out) (Kd.R_base ho32) hb) (Kd.R_elder' (rU_ HO290.out) (Kd.R_base ho32) hb) (Kd.R_elder' (rU_ HO293.out) (Kd.R_base ho32) hb) (Kd.R_elder' (rU_ HO297.out) (Kd.R_base ho32) hb) (Kd.R_lower (Kd.R_new' (Kd.R_new' (Kd.R_new' (Kd.R_new' (Kd.R_new' (Kd.R_new' (Kd.R_new' ho32 (Kd.R_lt (rU_ HO276.out))) (Kd.R_lt (rU_ HO280.out))) (Kd.R_lt (rU_ HO283.out))) (Kd.R_lt (rU_ HO287.out))) (Kd.R_lt (rU_ HO290.out))) (Kd.R_lt (rU_ HO293.out))) (Kd.R_lt (rU_ HO297.out))) (below_size (bU_ HB.out))) (below_step (bU_ HB.out) hb) ?_; clear HO276 HO280 HO283 HO287 HO290 HO293 HO297 HB; intro HO276 HO280 HO283 HO287 HO290 HO293 HO297 HO300 HB; clear hb ho32; obtain ⟨Ao33, co33, eo33⟩ := Kd.R_slice HO300.out; subst eo33) | ((with_reducible refine gate_callee (f := 18) rfl ?_); refine gl_ (some 27) Tryd.func18 #[.int .i64 0, .slice Ao33 y298.length co33, .int .i64 1] ?_; (with_reducible refine (transform_Widen.calls k 0 _ _ y298 1 t301 t302 _ ?side1 ?side2 ?side3 A4.out).mono ?_); (case side1 => exact fU_ HG.out HB.out); (case side2 => exact cU_ ((Kd.R_reads' HO300.out).2.2)); (case side3 => exact (Kd.R_reads' HO300.out).2.1); rintro e w34 ⟨v303, rfl, ho0, hb⟩; refine ⟨_, rfl, ?_⟩; refine nx10_ (Kd.R_elder' (rU_ HO276.out) (Kd.R_base ho0) hb) (Kd.R_elder' (rU_ HO280.out) (Kd.R_base ho0) hb) (Kd.R_elder' (rU_ HO283.out) (Kd.R_base ho0) hb) (Kd.R_elder' (rU_ HO287.out) (Kd.R_base ho0) hb) (Kd.R_elder' (rU_ HO290.out) (Kd.R_base ho0) hb) (Kd.R_elder' (rU_ HO293.out) (Kd.R_base ho0) hb) (Kd.R_elder' (rU_ HO297.out) (Kd.R_base ho0) hb) (Kd.R_elder' (rU_ HO300.out) (Kd.R_base ho0) hb) (Kd.R_lower (Kd.R_new' (Kd.R_new' (Kd.R_new' (Kd.R_new' (Kd.R_new' (Kd.R_new' (Kd.R_new' (Kd.R_new' ho0 (Kd.R_lt (rU_ HO276.out))) (Kd.R_lt (rU_ HO280.out))) (Kd.R_lt (rU_ HO283.out))) (Kd.R_lt (rU_ HO287.out))) (Kd.R_lt (rU_ HO290.out))) (Kd.R_lt (rU_ HO293.out))) (Kd.R_lt (rU_ HO297.out))) (Kd.R_lt (rU_ HO300.out))) (below_size (bU_ HB.out))) (below_step (bU_ HB.out) hb) ?_; clear HO276 HO280 HO283 HO287 HO290 HO293 HO297 HO300 HB; intro HO276 HO280 HO283 HO287 HO290 HO293 HO297 HO300 HO304 HB; clear hb ho0) | ((with_reducible refine gate_dst (N := 34) rfl ?_); (try (refine gate_guard (by rfl) ?_; dsimp only)); refine Kd.R_lit (Kd.int .u64) _ 22 ?hg (N := 34) ?hd (xs := ([1, 22, 96, 75] : List Int)) (inner := [.int .u64 1, .int .u64 22, .int .u64 96, .int .u64 75]) (ok := fun _ => True) (okp := fun _ => True) ?hr ?hp (fun _ hk => hk) trivial (Below.refl _ _) (Nat.le_refl _) (by simp) ?_; (case hd => rfl); (case hg => rfl); (case hr => first | (go_simp; done) | (go_simp; rfl)); (case hp => exact (Reps.one (show Kd.M (Kd.int .u64) _ _ _ 1 [.int .u64 1] from rfl) (Reps.one (show Kd.M (Kd.int .u64) _ _ _ 22 [.int .u64 22] from rfl) (Reps.one (show Kd.M (Kd.int .u64) _ _ _ 96 [.int .u64 96] from rfl) (Reps.one (show Kd.M (Kd.int .u64) _ _ _ 75 [.int .u64 75] from rfl) (Reps.none _ _)))))); intro v306 w35 ho36 hb hg_ hnew_; clear hg_ hnew_; (first | rw [← Ny305.out] at ho36 | (simp only [Int.reduceToNat] at ho36; rw [← Ny305.out] at ho36)); refine nx11_ (Kd.R_elder' (rU_ HO276.out) (Kd.R_base ho36) hb) (Kd.R_elder' (rU_ HO280.out) (Kd.R_base ho36) hb) (Kd.R_elder' (rU_ HO283.out) (Kd.R_base ho36) hb) (Kd.R_elder' (rU_ HO287.out) (Kd.R_base ho36) hb) (Kd.R_elder' (rU_ HO290.out) (Kd.R_base ho36) hb) (Kd.R_elder' (rU_ HO293.out) (Kd.R_base ho36) hb) (Kd.R_elder' (rU_ HO297.out) (Kd.R_base ho36) hb) (Kd.R_elder' (rU_ HO300.out) (Kd.R_base ho36) hb) (Kd.R_elder' (rU_ HO304.out) (Kd.R_base ho36) hb) (Kd.R_lower (Kd.R_new' (Kd.R_new' (Kd.R_new' (Kd.R_new' (Kd.R_new' (Kd.R_new' (Kd.R_new' (Kd.R_new' (Kd.R_new' ho36 (Kd.R_lt (rU_ HO276.out))) (Kd.R_lt (rU_ HO280.out))) (Kd.R_lt (rU_ HO283.out))) (Kd.R_lt (rU_ HO287.out))) (Kd.R_lt (rU_ HO290.out))) (Kd.R_lt (rU_ HO293.out))) (Kd.R_lt (rU_ HO297.out))) (Kd.R_lt (rU_ HO300.out))) (Kd.R_lt (rU_ HO304.out))) (below_size (bU_ HB.out))) (below_step (bU_ HB.out) hb) ?_; clear HO276 HO280 HO283 HO287 HO290 HO293 HO297 HO300 HO304 HB; intro HO276 HO280 HO283 HO287 HO290 HO293 HO297 HO300 HO304 HO307 HB; clear hb ho36; obtain ⟨Ao37, co37, eo37⟩ := Kd.R_slice HO280.out; subst eo37; obtain ⟨Ao38, co38, eo38⟩ := Kd.R_slice HO307.out; subst eo38) | (go_at_call 24; (with_reducible refine (attestorlaw04_same.calls k _ _ t277 _ _ y305 true _ ?side1 ?side2 ?side3 ?side4 A6.out).mono ?_); (case side1 => exact cU_ ((Kd.R_reads' HO280.out).2.2)); (case side2 => exact (Kd.R_reads' HO280.out).2.1); (case side3 => exact cU_ ((Kd.R_reads' HO307.out).2.2)); (case side4 => exact (Kd.R_reads' HO307.out).2.1); rintro e w' ⟨rfl, ⟨nd, rfl⟩⟩) | ((with_reducible refine gate_dst (N := 43) rfl ?_); (try (refine gate_guard (by rfl) ?_; dsimp only)); refine Kd.R_lit (Kd.int .u64) _ 22 ?hg (N := 43) ?hd (xs := ([1, 2] : List Int)) (inner := [.int .u64 1, .int .u64 2]) (ok := fun _ => True) (okp := fun _ => True) ?hr ?hp (fun _ hk => hk) trivial (Below.refl _ _) (Nat.le_refl _) (by simp) ?_; (case hd => rfl); (case hg => rfl); (case hr => first | (go_simp; done) | (go_simp; rfl)); (case hp => exact (Reps.one (show Kd.M (Kd.int .u64) _ _ _ 1 [.int .u64 1] from rfl) (Reps.one (show Kd.M (Kd.int .u64) _ _ _ 2 [.int .u64 2] from rfl) (Reps.none _ _)))); intro v310 w39 ho40 hb hg_ hnew_; clear hg_ hnew_; (first | rw [← Ny309.out] at ho40 | (simp only [Int.reduceToNat] at ho40; rw [← Ny309.out] at ho40)); refine nx12_ (Kd.R_elder' (rU_ HO276.out) (Kd.R_base ho40) hb) (Kd.R_elder' (rU_ HO280.out) (Kd.R_base ho40) hb) (Kd.R_elder' (rU_ HO283.out) (Kd.R_base ho40) hb) (Kd.R_elder' (rU_ HO287.out) (Kd.R_base ho40) hb) (Kd.R_elder' (rU_ HO290.out) (Kd.R_base ho40) hb) (Kd.R_elder' (rU_ HO293.out) (Kd.R_base ho40) hb) (Kd.R_elder' (rU_ HO297.out) (Kd.R_base ho40) hb) (Kd.R_elder' (rU_ HO300.out) (Kd.R_base ho40) hb) (Kd.R_elder' (rU_ HO304.out) (Kd.R_base ho40) hb) (Kd.R_elder' (rU_ HO307.out) (Kd.R_base ho40) hb) (Kd.R_lower (Kd.R_new' (Kd.R_new' (Kd.R_new' (Kd.R_new' (Kd.R_new' (Kd.R_new' (Kd.R_new' (Kd.R_new' (Kd.R_new' (Kd.R_new' ho40 (Kd.R_lt (rU_ HO276.out))) (Kd.R_lt (rU_ HO280.out))) (Kd.R_lt (rU_ HO283.out))) (Kd.R_lt (rU_ HO287.out))) (Kd.R_lt (rU_ HO290.out))) (Kd.R_lt (rU_ HO293.out))) (Kd.R_lt (rU_ HO297.out))) (Kd.R_lt (rU_ HO300.out))) (Kd.R_lt (rU_ HO304.out))) (Kd.R_lt (rU_ HO307.out))) (below_size (bU_ HB.out))) (below_step (bU_ HB.out) hb) ?_; clear HO276 HO280 HO283 HO287 HO290 HO293 HO297 HO300 HO304 HO307 HB; intro HO276 HO280 HO283 HO287 HO290 HO293 HO297 HO300 HO304 HO307 HO311 HB; clear hb ho40; obtain ⟨Ao41, co41, eo41⟩ := Kd.R_slice HO287.out; subst eo41; obtain ⟨Ao42, co42, eo42⟩ := Kd.R_slice HO311.out; subst eo42) | (go_at_call 24; (with_reducible refine (attestorlaw04_same.calls k _ _ t284 _ _ y309 true _ ?side1 ?side2 ?side3 ?side4 A9.out).mono ?_); (case side1 => exact cU_ ((Kd.R_reads' HO287.out).2.2)); (case side2 => exact (Kd.R_reads' HO287.out).2.1); (case side3 => exact cU_ ((Kd.R_reads' HO311.out).2.2)); (case side4 => exact (Kd.R_reads' HO311.out).2.1); rintro e w' ⟨rfl, ⟨nd, rfl⟩⟩) | ((with_reducible refine gate_dst (N := 52) rfl ?_); (try (refine gate_guard (by rfl) ?_; dsimp only)); refine Kd.R_lit (Kd.int .u64) _ 22 ?hg (N := 52) ?hd (xs := ([1, 0, 96] : List Int)) (inner := [.int .u64 1, .int .u64 0, .int .u64 96]) (ok := fun _ => True) (okp := fun _ => True) ?hr ?hp (fun _ hk => hk) trivial (Below.refl _ _) (Nat.le_refl _) (by simp) ?_; (case hd => rfl); (case hg => rfl); (case hr => first | (go_simp; done) | (go_simp; rfl)); (case hp => exact (Reps.one (show Kd.M (Kd.int .u64) _ _ _ 1 [.int .u64 1] from rfl) (Reps.one (show Kd.M (Kd.int .u64) _ _ _ 0 [.int .u64 0] from rfl) (Reps.one (show Kd.M (Kd.int .u64) _ _ _ 96 [.int .u64 96] from rfl) (Reps.none _ _))))); intro v314 w43 ho44 hb hg_ hnew_; clear hg_ hnew_; (first | rw [← Ny313.out] at ho44 | (simp only [Int.reduceToNat] at ho44; rw [← Ny313.out] at ho44)); refine nx13_ (Kd.R_elder' (rU_ HO276.out) (Kd.R_base ho44) hb) (Kd.R_elder' (rU_ HO280.out) (Kd.R_base ho44) hb) (Kd.R_elder' (rU_ HO283.out) (Kd.R_base ho44) hb) (Kd.R_elder' (rU_ HO287.out) (Kd.R_base ho44) hb) (Kd.R_elder' (rU_ HO290.out) (Kd.R_base ho44) hb) (Kd.R_elder' (rU_ HO293.out) (Kd.R_base ho44) hb) (Kd.R_elder' (rU_ HO297.out) (Kd.R_base ho44) hb) (Kd.R_elder' (rU_ HO300.out) (Kd.R_base ho44) hb) (Kd.R_elder' (rU_ HO304.out) (Kd.R_base ho44) hb) (Kd.R_elder' (rU_ HO307.out) (Kd.R_base ho44) hb) (Kd.R_elder' (rU_ HO311.out) (Kd.R_base ho44) hb) (Kd.R_lower (Kd.R_new' (Kd.R_new' (Kd.R_new' (Kd.R_new' (Kd.R_new' (Kd.R_new' (Kd.R_new' (Kd.R_new' (Kd.R_new' (Kd.R_new' (Kd.R_new' ho44 (Kd.R_lt (rU_ HO276.out))) (Kd.R_lt (rU_ HO280.out))) (Kd.R_lt (rU_ HO283.out))) (Kd.R_lt (rU_ HO287.out))) (Kd.R_lt (rU_ HO290.out))) (Kd.R_lt (rU_ HO293.out))) (Kd.R_lt (rU_ HO297.out))) (Kd.R_lt (rU_ HO300.out))) (Kd.R_lt (rU_ HO304.out))) (Kd.R_lt (rU_ HO307.out))) (Kd.R_lt (rU_ HO311.out))) (below_size (bU_ HB.out))) (below_step (bU_ HB.out) hb) ?_; clear HO276 HO280 HO283 HO287 HO290 HO293 HO297 HO300 HO304 HO307 HO311 HB; intro HO276 HO280 HO283 HO287 HO290 HO293 HO297 HO300 HO304 HO307 HO311 HO315 HB; clear hb ho44; obtain ⟨Ao45, co45, eo45⟩ := Kd.R_slice HO297.out; subst eo45; obtain ⟨Ao46, co46, eo46⟩ := Kd.R_slice HO315.out; subst eo46) | (go_at_call 24; (with_reducible refine (attestorlaw04_same.calls k _ _ t294 _ _ y313 true _ ?side1 ?side2 ?side3 ?side4 A12.out).mono ?_); (case side1 => exact cU_ ((Kd.R_reads' HO297.out).2.2)); (case side2 => exact (Kd.R_reads' HO297.out).2.1); (case side3 => exact cU_ ((Kd.R_reads' HO315.out).2.2)); (case side4 => exact (Kd.R_reads' HO315.out).2.1); rintro e w' ⟨rfl, ⟨nd, rfl⟩⟩) | ((with_reducible refine gate_dst (N := 61) rfl ?_); (try (refine gate_guard (by rfl) ?_; dsimp only)); refine Kd.R_lit (Kd.int .u64) _ 22 ?hg (N := 61) ?hd (xs := ([5, 13, 92, 84] : List Int)) (inner := [.int .u64 5, .int .u64 13, .int .u64 92, .int .u64 84]) (ok := fun _ => True) (okp := fun _ => True) ?hr ?hp (fun _ hk => hk) trivial (Below.refl _ _) (Nat.le_refl _) (by simp) ?_; (case hd => rfl); (case hg => rfl); (case hr => first | (go_simp; done) | (go_simp; rfl)); (case hp => exact (Reps.one (show Kd.M (Kd.int .u64) _ _ _ 5 [.int .u64 5] from rfl) (Reps.one (show Kd.M (Kd.int .u64) _ _ _ 13 [.int .u64 13] from rfl) (Reps.one (show Kd.M (Kd.int .u64) _ _ _ 92 [.int .u64 92] from rfl) (Reps.one (show Kd.M (Kd.int .u64) _ _ _ 84 [.int .u64 84] from rfl) (Reps.none _ _)))))); intro v318 w47 ho48 hb hg_ hnew_; clear hg_ hnew_; (first | rw [← Ny317.out] at ho48 | (simp only [Int.reduceToNat] at ho48; rw [← Ny317.out] at ho48)); refine nx14_ (Kd.R_elder' (rU_ HO276.out) (Kd.R_base ho48) hb) (Kd.R_elder' (rU_ HO280.out) (Kd.R_base ho48) hb) (Kd.R_elder' (rU_ HO283.out) (Kd.R_base ho48) hb) (Kd.R_elder' (rU_ HO287.out) (Kd.R_base ho48) hb) (Kd.R_elder' (rU_ HO290.out) (Kd.R_base ho48) hb) (Kd.R_elder' (rU_ HO293.out) (Kd.R_base ho48) hb) (Kd.R_elder' (rU_ HO297.out) (Kd.R_base ho48) hb) (Kd.R_elder' (rU_ HO300.out) (Kd.R_base ho48) hb) (Kd.R_elder' (rU_ HO304.out) (Kd.R_base ho48) hb) (Kd.R_elder' (rU_ HO307.out) (Kd.R_base ho48) hb) (Kd.R_elder' (rU_ HO311.out) (Kd.R_base ho48) hb) (Kd.R_elder' (rU_ HO315.out) (Kd.R_base ho48) hb) (Kd.R_lower (Kd.R_new' (Kd.R_new' (Kd.R_new' (Kd.R_new' (Kd.R_new' (Kd.R_new' (Kd.R_new' (Kd.R_new' (Kd.R_new' (Kd.R_new' (Kd.R_new' (Kd.R_new' ho48 (Kd.R_lt (rU_ HO276.out))) (Kd.R_lt (rU_ HO280.out))) (Kd.R_lt (rU_ HO283.out))) (Kd.R_lt (rU_ HO287.out))) (Kd.R_lt (rU_ HO290.out))) (Kd.R_lt (rU_ HO293.out))) (Kd.R_lt (rU_ HO297.out))) (Kd.R_lt (rU_ HO300.out))) (Kd.R_lt (rU_ HO304.out))) (Kd.R_lt (rU_ HO307.out))) (Kd.R_lt (rU_ HO311.out))) (Kd.R_lt (rU_ HO315.out))) (below_size (bU_ HB.out))) (below_step (bU_ HB.out) hb) ?_; clear HO276 HO280 HO283 HO287 HO290 HO293 HO297 HO300 HO304 HO307 HO311 HO315 HB; intro HO276 HO280 HO283 HO287 HO290 HO293 HO297 HO300 HO304 HO307 HO311 HO315 HO319 HB; clear hb ho48; obtain ⟨Ao49, co49, eo49⟩ := Kd.R_slice HO304.out; subst eo49; obtain ⟨Ao50, co50, eo50⟩ := Kd.R_slice HO319.out; subst eo50) | (go_at_call 24; (with_reducible refine (attestorlaw04_same.calls k _ _ t301 _ _ y317 t320 _ ?side1 ?side2 ?side3 ?side4 A15.out).mono ?_); (case side1 => exact cU_ ((Kd.R_reads' HO304.out).2.2)); (case side2 => exact (Kd.R_reads' HO304.out).2.1); (case side3 => exact cU_ ((Kd.R_reads' HO319.out).2.2)); (case side4 => exact (Kd.R_reads' HO319.out).2.1); rintro e w' ⟨rfl, ⟨nd, rfl⟩⟩))
    go_ret
    exact ⟨by first | rfl | (simp [errW_none, errW_some] <;> rfl) | (simp [*, errW_none, errW_some] <;> rfl), bU_ HB.out⟩
   ·replace c13 := Bool.eq_false_iff.mpr c13
    subst c13
    rw [if_neg (show ¬ (false = true) by decide)] at H
    exact absurd H (by simp)
  ·replace c10 := Bool.eq_false_iff.mpr c10
   subst c10
   rw [if_neg (show ¬ (false = true) by decide)] at H
   exact absurd H (by simp)
 ·replace c7 := Bool.eq_false_iff.mpr c7
  subst c7
  rw [if_neg (show ¬ (false = true) by decide)] at H
  exact absurd H (by simp)

end Go.Proofs.YtdjjdlkglinlgaaDoor.Q

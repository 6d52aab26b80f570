import Derived.Test.YtmnahhacobfafaaDoorQ0
import Derived.Test.YtmnahhacobfafaaDoorQ1
namespace Go.Proofs.YtmnahhacobfafaaDoor.Q
open Go.RowKit Go.Proofs.YtmnahhacobfafaaDoorW.PrintWords Go.Proofs.YtmnahhacobfafaaDoorW.PrintLast Go.Proofs.YtmnahhacobfafaaDoorW.PrintMore
open Kd (R_below R_mono R_far R_lower R_new' R_elder' R_base R_lt R_slice R_reads' R_tight R_lit R_make C_below fresh' R_drew)
attribute [local go_sem] max2_int min2_int max_two min_two max_three min_three max_four min_four   -- for this text's walks alone
set_option linter.unusedVariables false
set_option linter.unusedSimpArgs false

def poly_Vanish.l0 : Nat → Int → List Int → List Int → Int → Int → Option (List Int × Int)
 | 0, _, _, _, _, _ => none
 | k + 1, x0, x6, x18, x19, x20 => if x20 < x19 then (if 0 ≤ x20 then (if x20 < (x18.length : Int) then ((poly_times.f k x0 x6 (rd x18 x20)).bind fun t187 => (poly_Vanish.l0 k x0 t187 x18 x19 (wrap64 (x20 + 1)))) else (none)) else (none)) else (some (x6, 0))
def poly_Vanish.f (k : Nat) (a0 : Int) (l1 : List Int) : Option (List Int × Int) := (field_Valid.f a0).bind fun t182 => (if t182 = true then (if (l1.length : Int) > 1024 then (some (([] : List Int), 3)) else (poly_Vanish.l0 k a0 (([1] : List Int)) l1 (l1.length : Int) 0)) else (some (([] : List Int), 1)))
theorem poly_Vanish.mono_l : ∀ k, (∀ y0 y1 y2 y3 y4, LeO (poly_Vanish.l0 k y0 y1 y2 y3 y4) (poly_Vanish.l0 (k + 1) y0 y1 y2 y3 y4))
 | 0 => fun _ _ _ _ _ r h => by simp [poly_Vanish.l0] at h
 | k + 1 => by
  have ih0 := poly_Vanish.mono_l k
  ·intro y0 y1 y2 y3 y4
   unfold poly_Vanish.l0
   with_reducible repeat' first | apply ih0 | apply poly_times.mono | exact LeO.refl _ | exact LeO.none _ | refine LeO.ite ?_ ?_ | refine LeO.bind ?_ (fun _ => ?_)
theorem poly_Vanish.mono : ∀ a0 a1 k, LeO (poly_Vanish.f k a0 a1) (poly_Vanish.f (k + 1) a0 a1) := by
 intro a0 a1 k
 have ih0 := poly_Vanish.mono_l k
 unfold poly_Vanish.f
 with_reducible repeat' first | apply ih0 | apply poly_times.mono | exact LeO.refl _ | exact LeO.none _ | refine LeO.ite ?_ ?_ | refine LeO.bind ?_ (fun _ => ?_)
set_option maxHeartbeats 8000000 in
set_option maxRecDepth 100000 in
theorem poly_Vanish.calls (k : Nat) (a0 : Int) (A1 : Option Addr) (c1 : Nat) (l1 : List Int) (r1 : List Int) (r2 : Int) (w : World) (hG : Fld w) (hr1 : Kd.C (Kd.int .u64) w A1 l1.length l1) (hc1 : l1.length ≤ c1) (h : poly_Vanish.f k a0 l1 = some (r1, r2)) :
  Calls Tryd.prog 14 #[.int .i64 a0, .slice A1 l1.length c1] w fun e w' => ∃ v0_ : Value, e = .returned (.tuple #[v0_, .int .i64 r2]) ∧ Kd.R (Kd.int .u64) 32 w' w.heap.size (fun _ => True) v0_ r1 ∧ Below w.heap.size w w' := by
 have HG := ak hG
 clear hG
 have HR1 := ak hr1
 have HC1 := ak hc1
 clear hr1 hc1
 have HB := ak (Below.refl w.heap.size w)
 have H := h
 clear h
 unfold poly_Vanish.f at H
 revert H
 refine bd_ fun t182 A3 H => ?_
 by_cases c4 : t182 = true
 ·subst c4
  rw [if_pos rfl] at H
  by_cases c5 : (l1.length : Int) > 1024
  ·rw [if_pos c5] at H
   have c5b0 : decide (1024 < (l1.length : Int)) = true := decide_eq_true c5
   have c5b1 : decide (1024 < l1.length) = true := decide_eq_true (by omega)
   clear c5
   simp only [Option.some.injEq, Prod.mk.injEq] at H
   obtain ⟨rfl, rfl⟩ := H
   go_enter Tryd.func14, Tryd.ntmps14
   go_wp2_with (first | ((with_reducible refine gate_callee (f := 47) rfl ?_); refine gl_ (some 11) Tryd.func47 #[.int .i64 a0] ?_; (with_reducible refine (field_Valid.calls a0 true _ A3.out).mono ?_); rintro e w' ⟨rfl, ⟨nd, rfl⟩⟩; refine ⟨_, rfl, ?_⟩))
   go_ret2
   exact ⟨_, eW_, by first | exact Kd.R_nil _ _ _ _ _ | exact Kd.N_nil _ _ _ _ _ | exact Kd.V_nil _ _ _ _ _ | exact Kd.Q_nil _ _ _ _ _ | exact Kd.S_nil _ _ _ _ _, bU_ HB.out⟩
  rw [if_neg c5] at H
  have c5b0 : decide (1024 < (l1.length : Int)) = false := decide_eq_false c5
  have c5b1 : decide (1024 < l1.length) = false := decide_eq_false (by omega)
  clear c5
  obtain ⟨y183, hy183⟩ : ∃ y_ : List Int, y_ = (([1] : List Int)) := ⟨_, rfl⟩
  replace H : (poly_Vanish.l0 k a0 y183 l1 (l1.length : Int) 0) = some (r1, r2) := by first | (rw [hy183]; with_reducible exact H) | (have H2_ := (Option.bind_some _ _).symm.trans H; rw [hy183]; with_reducible exact H2_) | (have H2_ := (Option.bind_some _ _).symm.trans H; with_reducible exact H2_) | with_reducible exact H | (rw [hy183]; exact H) | exact H
  have Ny183 := ak hy183
  clear hy183
  have H' := ak H
  clear H
  go_enter Tryd.func14, Tryd.ntmps14
  go_wp2_with (first | ((with_reducible refine gate_callee (f := 47) rfl ?_); refine gl_ (some 11) Tryd.func47 #[.int .i64 a0] ?_; (with_reducible refine (field_Valid.calls a0 true _ A3.out).mono ?_); rintro e w' ⟨rfl, ⟨nd, rfl⟩⟩; refine ⟨_, rfl, ?_⟩) | ((with_reducible refine gate_dst (N := 17) rfl ?_); refine R_lit (Kd.int .u64) _ 32 ?hg (N := 17) ?hd (xs := ([1] : List Int)) (inner := [.int .u64 1]) (ok := fun _ => True) (okp := fun _ => True) ?hr ?hp (fun _ hk => hk) trivial (Below.refl _ _) (Nat.le_refl _) (by simp) ?_; (case hd => rfl); (case hg => rfl); (case hr => first | (go_simp; done) | (go_simp; rfl)); (case hp => exact (Reps.one (show Kd.M (Kd.int .u64) _ _ _ 1 [.int .u64 1] from rfl) (Reps.none _ _))); intro v184 w6 ho7 hb hg_ hnew_; clear hg_ hnew_; (first | rw [← Ny183.out] at ho7 | (simp only [Int.reduceToNat] at ho7; rw [← Ny183.out] at ho7)); refine nx2_ (R_lower ho7 (below_size (bU_ HB.out))) (below_step (bU_ HB.out) hb) ?_; clear HB; intro HO185 HB; clear hb ho7))
  go_loopg [6, 20] k (fun kq v6 v20 w' => ∃ (x6_1 : List Int) (x20_1 : Int), v20 = .int .i64 x20_1 ∧ Aside0 (poly_Vanish.l0 kq a0 x6_1 l1 (l1.length : Int) x20_1 = some (r1, r2)) ∧ Aside0 (kq ≤ k) ∧ Aside0 (Kd.R (Kd.int .u64) 32 w' w.heap.size (fun _ => True) v6 x6_1) ∧ Aside0 (Below w.heap.size w w'))
  case atStart => exact ⟨(y183), (0), gb_, H', ⟨Nat.le_refl _⟩, ⟨rU_ HO185.out⟩, ⟨bU_ HB.out⟩⟩
  case round =>
   clear H'
   (try clear c1); (try clear p2); (try clear c4); (try clear c5); (try clear c5b0); (try clear c5b1)
   obtain ⟨x6_1, x20_1, rfl, HA, HK1, HO_6, HB⟩ := hrel
   cases gk with
   | zero => exact absurd HA.out (by simp [poly_Vanish.l0])
   | succ k1 =>
    have H := HA.out
    clear HA
    simp only [poly_Vanish.l0] at H
    by_cases c8 : x20_1 < (l1.length : Int)
    ·rw [if_pos c8] at H
     have c8b0 := decide_eq_true c8
     clear c8
     obtain ⟨c9, H⟩ : (0 ≤ x20_1) ∧ _ := it_ H
     have c9b0 := decide_eq_true c9
     clear c9
     obtain ⟨c10, H⟩ : (x20_1 < (l1.length : Int)) ∧ _ := it_ H
     have c10b0 := decide_eq_true c10
     clear c10
     revert H
     refine bd_ fun t187 A11 H => ?_
     have H' := ak H
     clear H
     have p186 : 0 ≤ (x20_1 : Int) := od_
     have q186 : x20_1 < (l1.length : Int) := od_
     obtain ⟨ad186, e186, hx186_0⟩ := Kd.at_int HR1.out x20_1 p186 q186
     cases e186
     replace hx186_0 := (HB.out.cell (World.block_lt_of_cell? w _ hx186_0)).trans hx186_0
     replace p186 := eq_true p186
     replace q186 := eq_true q186
     obtain ⟨Ao12, co12, eo12⟩ := R_slice HO_6.out
     subst eo12
     go_wp2_with (first | ((with_reducible refine gate_callee (f := 50) rfl ?_); refine gl_ (some 27) Tryd.func50 #[.int .i64 a0, .slice Ao12 x6_1.length co12, .int .u64 (rd l1 x20_1)] ?_; (with_reducible refine (poly_times.calls k1 a0 _ _ x6_1 (rd l1 x20_1) t187 _ ?side1 ?side2 ?side3 A11.out).mono ?_); (case side1 => exact fU_ HG.out HB.out); (case side2 => exact cU_ ((R_reads' HO_6.out).2.2)); (case side3 => exact (R_reads' HO_6.out).2.1); rintro e w13 ⟨v188, rfl, ho0, hb⟩; refine ⟨_, rfl, ?_⟩; refine nx3_ (R_elder' (rU_ HO_6.out) (R_base ho0) hb) (R_lower (R_new' ho0 (R_lt (rU_ HO_6.out))) (below_size (bU_ HB.out))) (below_step (bU_ HB.out) hb) ?_; clear HO_6 HB; intro HO_6 HO189 HB; clear hb ho0))
     go_roundg k1
     case measure => have := HK1.out; omega
     case rel => exact ⟨(t187), (wrap64 (x20_1 + 1)), gb_, H', ⟨by have := HK1.out; omega⟩, ⟨R_mono (rU_ HO189.out) (fun _ hk => trivial)⟩, ⟨bU_ HB.out⟩⟩
    rw [if_neg c8] at H
    have c8b0 := decide_eq_false c8
    clear c8
    simp only [Option.some.injEq, Prod.mk.injEq] at H
    obtain ⟨rfl, rfl⟩ := H
    go_wp2
    go_ret2
    exact ⟨_, eW_, rU_ HO_6.out, bU_ HB.out⟩
 replace c4 := Bool.eq_false_iff.mpr c4
 subst c4
 rw [if_neg (show ¬ (false = true) by decide)] at H
 simp only [Option.some.injEq, Prod.mk.injEq] at H
 obtain ⟨rfl, rfl⟩ := H
 go_enter Tryd.func14, Tryd.ntmps14
 go_wp2_with (first | ((with_reducible refine gate_callee (f := 47) rfl ?_); refine gl_ (some 11) Tryd.func47 #[.int .i64 a0] ?_; (with_reducible refine (field_Valid.calls a0 false _ A3.out).mono ?_); rintro e w' ⟨rfl, ⟨nd, rfl⟩⟩; refine ⟨_, rfl, ?_⟩))
 go_ret2
 exact ⟨_, eW_, by first | exact Kd.R_nil _ _ _ _ _ | exact Kd.N_nil _ _ _ _ _ | exact Kd.V_nil _ _ _ _ _ | exact Kd.Q_nil _ _ _ _ _ | exact Kd.S_nil _ _ _ _ _, bU_ HB.out⟩

def poly_Degree.l0 : Nat → Int → List Int → Int → Option (Int)
 | 0, _, _, _ => none
 | k + 1, x0, x1, x5 => if x5 > 0 then (if 0 ≤ (wrap64 (x5 - 1)) then (if (wrap64 (x5 - 1)) < (x1.length : Int) then ((field_Reduce.f x0 (rd x1 (wrap64 (x5 - 1)))).bind fun t191 => (if t191 = 0 then (poly_Degree.l0 k x0 x1 (wrap64 (x5 - 1))) else (some (wrap64 (x5 - 1))))) else (none)) else (none)) else (some (-1))
def poly_Degree.f (k : Nat) (a0 : Int) (l1 : List Int) : Option (Int) := poly_Degree.l0 k a0 l1 (l1.length : Int)
theorem poly_Degree.mono_l : ∀ k, (∀ y0 y1 y2, LeO (poly_Degree.l0 k y0 y1 y2) (poly_Degree.l0 (k + 1) y0 y1 y2))
 | 0 => fun _ _ _ r h => by simp [poly_Degree.l0] at h
 | k + 1 => by
  have ih0 := poly_Degree.mono_l k
  ·intro y0 y1 y2
   unfold poly_Degree.l0
   with_reducible repeat' first | apply ih0 | exact LeO.refl _ | exact LeO.none _ | refine LeO.ite ?_ ?_ | refine LeO.bind ?_ (fun _ => ?_)
theorem poly_Degree.mono : ∀ a0 a1 k, LeO (poly_Degree.f k a0 a1) (poly_Degree.f (k + 1) a0 a1) := by
 intro a0 a1 k
 have ih0 := poly_Degree.mono_l k
 unfold poly_Degree.f
 with_reducible repeat' first | apply ih0 | exact LeO.refl _ | exact LeO.none _ | refine LeO.ite ?_ ?_ | refine LeO.bind ?_ (fun _ => ?_)
set_option maxHeartbeats 8000000 in
set_option maxRecDepth 100000 in
theorem poly_Degree.calls (k : Nat) (a0 : Int) (A1 : Option Addr) (c1 : Nat) (l1 : List Int) (r : Int) (w : World) (hG : Fld w) (hr1 : Kd.C (Kd.int .u64) w A1 l1.length l1) (hc1 : l1.length ≤ c1) (h : poly_Degree.f k a0 l1 = some r) :
  Calls Tryd.prog 18 #[.int .i64 a0, .slice A1 l1.length c1] w fun e w' => e = .returned (.int .i64 r) ∧ Below w.heap.size w w' := by
 have HG := ak hG
 clear hG
 have HR1 := ak hr1
 have HC1 := ak hc1
 clear hr1 hc1
 have HB := ak (Below.refl w.heap.size w)
 have H : (poly_Degree.l0 k a0 l1 (l1.length : Int)) = some r := h
 clear h
 have H' := ak H
 clear H
 go_enter Tryd.func18, Tryd.ntmps18
 go_wp2
 go_loopg [5] k (fun kq v5 w' => ∃ (x5_1 : Int), v5 = .int .i64 x5_1 ∧ Aside0 (poly_Degree.l0 kq a0 l1 x5_1 = some r) ∧ Aside0 (kq ≤ k) ∧ Aside0 (Below w.heap.size w w'))
 case atStart => exact ⟨((l1.length : Int)), gb_, H', ⟨Nat.le_refl _⟩, ⟨bU_ HB.out⟩⟩
 case round =>
  clear H'
  (try clear c1); (try clear p2)
  obtain ⟨x5_1, rfl, HA, HK1, HB⟩ := hrel
  cases gk with
  | zero => exact absurd HA.out (by simp [poly_Degree.l0])
  | succ k1 =>
   have H := HA.out
   clear HA
   simp only [poly_Degree.l0] at H
   by_cases c3 : x5_1 > 0
   ·rw [if_pos c3] at H
    have c3b0 : decide (0 < x5_1) = true := decide_eq_true c3
    clear c3
    obtain ⟨ji4, hji4⟩ : ∃ j_ : Int, (wrap64 (x5_1 - 1)) = j_ := ⟨_, rfl⟩
    first | rw [hji4] at H | simp only [hji4] at H
    have hji4w : (IntKind.i64.wrap (x5_1 - 1)) = ji4 := (i64_w _).trans hji4
    obtain ⟨c5, H⟩ : (0 ≤ (ji4)) ∧ _ := it_ H
    have c5b0 := decide_eq_true c5
    clear c5
    obtain ⟨c6, H⟩ : ((ji4) < (l1.length : Int)) ∧ _ := it_ H
    have c6b0 := decide_eq_true c6
    clear c6
    revert H
    refine bd_ fun t191 A7 H => ?_
    by_cases c8 : t191 = 0
    ·rw [if_pos c8] at H
     have c8b0 := beq_iff_eq.mpr c8
     have c8b1 := bne_eq_false_iff_eq.mpr c8
     clear c8
     have H' := ak H
     clear H
     have p190 : 0 ≤ ((ji4) : Int) := od_
     have q190 : (ji4) < (l1.length : Int) := od_
     obtain ⟨ad190, e190, hx190_0⟩ := Kd.at_int HR1.out (ji4) p190 q190
     cases e190
     replace hx190_0 := (HB.out.cell (World.block_lt_of_cell? w _ hx190_0)).trans hx190_0
     replace p190 := eq_true p190
     replace q190 := eq_true q190
     go_wp2_with (first | ((with_reducible refine gate_callee (f := 26) rfl ?_); refine goesL_ (some 18) rfl rfl Tryd.func26 (by kernel_rfl) rfl #[.int .i64 a0, .int .u64 (rd l1 (ji4))] rfl (by (try simp only [List.map_toArray, List.map_cons, List.map_nil]); first | done | (simp only [hji4]; rfl) | rfl | (simp only [List.length_drop, List.length_take]; rfl)) ?_; (with_reducible refine (field_Reduce.calls a0 (rd l1 (ji4)) t191 _ ?side1 A7.out).mono ?_); (case side1 => exact fU_ HG.out HB.out); rintro e w9 ⟨rfl, hb⟩; refine ⟨_, rfl, ?_⟩; refine nx1_ (below_step (bU_ HB.out) hb) ?_; clear HB; intro HB; clear hb))
     go_roundg k1
     case measure => have := HK1.out; omega
     case rel => exact ⟨(ji4), (by first | rfl | (simp; done) | (simp only [← hji4] <;> (first | rfl | simp)) | (simp [*]; done)), H', ⟨by have := HK1.out; omega⟩, ⟨bU_ HB.out⟩⟩
    rw [if_neg c8] at H
    have c8b0 := beq_eq_false_iff_ne.mpr c8
    have c8b1 := bne_iff_ne.mpr c8
    obtain rfl := Option.some.inj H
    have p190 : 0 ≤ ((ji4) : Int) := od_
    have q190 : (ji4) < (l1.length : Int) := od_
    obtain ⟨ad190, e190, hx190_0⟩ := Kd.at_int HR1.out (ji4) p190 q190
    cases e190
    replace hx190_0 := (HB.out.cell (World.block_lt_of_cell? w _ hx190_0)).trans hx190_0
    replace p190 := eq_true p190
    replace q190 := eq_true q190
    go_wp2_with (first | ((with_reducible refine gate_callee (f := 26) rfl ?_); refine goesL_ (some 18) rfl rfl Tryd.func26 (by kernel_rfl) rfl #[.int .i64 a0, .int .u64 (rd l1 (ji4))] rfl (by (try simp only [List.map_toArray, List.map_cons, List.map_nil]); first | done | (simp only [hji4]; rfl) | rfl | (simp only [List.length_drop, List.length_take]; rfl)) ?_; (with_reducible refine (field_Reduce.calls a0 (rd l1 (ji4)) t191 _ ?side1 A7.out).mono ?_); (case side1 => exact fU_ HG.out HB.out); rintro e w10 ⟨rfl, hb⟩; refine ⟨_, rfl, ?_⟩; refine nx1_ (below_step (bU_ HB.out) hb) ?_; clear HB; intro HB; clear hb))
    go_ret
    exact ⟨by first | rfl | (simp [errW_none, errW_some] <;> rfl) | (simp only [← hji4]; first | rfl | (simp [errW_none, errW_some] <;> rfl)) | (simp [*, errW_none, errW_some] <;> rfl), bU_ HB.out⟩
   rw [if_neg c3] at H
   have c3b0 : decide (0 < x5_1) = false := decide_eq_false c3
   clear c3
   obtain rfl := Option.some.inj H
   go_wp2
   go_ret
   exact ⟨eW_, bU_ HB.out⟩

mutual
def poly_Divide.l0 : Nat → Int → List Int → List Int → List Int → Int → Int → Int → Option (List Int × List Int × Int)
 | 0, _, _, _, _, _, _, _ => none
 | k + 1, x0, x2, x6, x7, x9, x49, x50 => if x50 < x49 then (if 0 ≤ (wrap64 ((wrap64 ((wrap64 ((wrap64 ((x6.length : Int) - 1)) - x50)) + (x2.length : Int))) - 1)) then (if (wrap64 ((wrap64 ((wrap64 ((wrap64 ((x6.length : Int) - 1)) - x50)) + (x2.length : Int))) - 1)) < (x7.length : Int) then ((field_Mul.f x0 (rd x7 (wrap64 ((wrap64 ((wrap64 ((wrap64 ((x6.length : Int) - 1)) - x50)) + (x2.length : Int))) - 1))) x9).bind fun t211 => (if 0 ≤ (wrap64 ((wrap64 ((x6.length : Int) - 1)) - x50)) then (if (wrap64 ((wrap64 ((x6.length : Int) - 1)) - x50)) < (x6.length : Int) then (poly_Divide.l1 k x0 x2 (x6.set ((wrap64 ((wrap64 ((x6.length : Int) - 1)) - x50)) : Int).toNat t211) x7 x9 (wrap64 ((wrap64 ((x6.length : Int) - 1)) - x50)) t211 x49 x50 x2 (x2.length : Int) 0) else (none)) else (none))) else (none)) else (none)) else ((poly_trim.f k x6).bind fun t204 => ((poly_trim.f k x7).bind fun t207 => (some (t204, t207, 0))))
def poly_Divide.l1 : Nat → Int → List Int → List Int → List Int → Int → Int → Int → Int → Int → List Int → Int → Int → Option (List Int × List Int × Int)
 | 0, _, _, _, _, _, _, _, _, _, _, _, _ => none
 | k + 1, x0, x2, x6, x7, x9, x11, x12, x49, x50, x73, x74, x75 => if x75 < x74 then (if 0 ≤ x75 then (if x75 < (x73.length : Int) then (if 0 ≤ (wrap64 (x11 + x75)) then (if (wrap64 (x11 + x75)) < (x7.length : Int) then ((field_Mul.f x0 x12 (rd x73 x75)).bind fun t215 => ((field_Sub.f x0 (rd x7 (wrap64 (x11 + x75))) t215).bind fun t216 => (poly_Divide.l1 k x0 x2 x6 (x7.set ((wrap64 (x11 + x75)) : Int).toNat t216) x9 x11 x12 x49 x50 x73 x74 (wrap64 (x75 + 1))))) else (none)) else (none)) else (none)) else (none)) else (poly_Divide.l0 k x0 x2 x6 x7 x9 x49 (wrap64 (x50 + 1)))
end
def poly_Divide.f (k : Nat) (a0 : Int) (l1 : List Int) (l2 : List Int) : Option (List Int × List Int × Int) := (field_Valid.f a0).bind fun t192 => (if t192 = true then ((poly_Normal.f k a0 l2).bind fun t193 => (if (t193.length : Int) = 0 then (some (([] : List Int), ([] : List Int), 2)) else ((poly_Normal.f k a0 l1).bind fun t196 => (if (t196.length : Int) < (t193.length : Int) then (some (([] : List Int), t196, 0)) else (if 0 ≤ (wrap64 ((t193.length : Int) - 1)) then (if (wrap64 ((t193.length : Int) - 1)) < (t193.length : Int) then ((field_Inv.f k a0 (rd t193 (wrap64 ((t193.length : Int) - 1)))).bind fun t200 => (if 0 ≤ (wrap64 ((wrap64 ((t196.length : Int) - (t193.length : Int))) + 1)) then (if (wrap64 ((wrap64 ((t196.length : Int) - (t193.length : Int))) + 1) : Int).toNat ≤ 35184372088832 then ((some (List.replicate (wrap64 ((wrap64 ((t196.length : Int) - (t193.length : Int))) + 1) : Int).toNat 0 : List Int)).bind fun y201 => (poly_Divide.l0 k a0 t193 y201 t196 t200 (y201.length : Int) 0)) else (none)) else (none))) else (none)) else (none)))))) else (some (([] : List Int), ([] : List Int), 1)))
theorem poly_Divide.mono_l : ∀ k, (∀ y0 y1 y2 y3 y4 y5 y6, LeO (poly_Divide.l0 k y0 y1 y2 y3 y4 y5 y6) (poly_Divide.l0 (k + 1) y0 y1 y2 y3 y4 y5 y6)) ∧ (∀ y0 y1 y2 y3 y4 y5 y6 y7 y8 y9 y10 y11, LeO (poly_Divide.l1 k y0 y1 y2 y3 y4 y5 y6 y7 y8 y9 y10 y11) (poly_Divide.l1 (k + 1) y0 y1 y2 y3 y4 y5 y6 y7 y8 y9 y10 y11))
 | 0 => ⟨fun _ _ _ _ _ _ _ r h => by simp [poly_Divide.l0] at h, fun _ _ _ _ _ _ _ _ _ _ _ _ r h => by simp [poly_Divide.l1] at h⟩
 | k + 1 => by
  obtain ⟨ih0, ih1⟩ := poly_Divide.mono_l k
  refine ⟨?_, ?_⟩
  ·intro y0 y1 y2 y3 y4 y5 y6
   unfold poly_Divide.l0
   with_reducible repeat' first | apply ih0 | apply ih1 | apply field_Inv.mono | apply poly_Normal.mono | apply poly_trim.mono | exact LeO.refl _ | exact LeO.none _ | refine LeO.ite ?_ ?_ | refine LeO.bind ?_ (fun _ => ?_)
  intro y0 y1 y2 y3 y4 y5 y6 y7 y8 y9 y10 y11
  unfold poly_Divide.l1
  with_reducible repeat' first | apply ih0 | apply ih1 | apply field_Inv.mono | apply poly_Normal.mono | apply poly_trim.mono | exact LeO.refl _ | exact LeO.none _ | refine LeO.ite ?_ ?_ | refine LeO.bind ?_ (fun _ => ?_)
theorem poly_Divide.mono : ∀ a0 a1 a2 k, LeO (poly_Divide.f k a0 a1 a2) (poly_Divide.f (k + 1) a0 a1 a2) := by
 intro a0 a1 a2 k
 obtain ⟨ih0, ih1⟩ := poly_Divide.mono_l k
 unfold poly_Divide.f
 with_reducible repeat' first | apply ih0 | apply ih1 | apply field_Inv.mono | apply poly_Normal.mono | apply poly_trim.mono | exact LeO.refl _ | exact LeO.none _ | refine LeO.ite ?_ ?_ | refine LeO.bind ?_ (fun _ => ?_)
def poly_Divide.T20 : Bool × List (List Nat × List Nat) := (true, [([], []), ([], []), ([], []), ([1, 2], [1, 2]), ([], []), ([], []), ([], []), ([], []), ([6, 7], [6, 7]), ([5, 8], [5, 8]), ([9], [9]), ([], []), ([], []), ([], []), ([11, 12, 13], [11, 12, 13]), ([4, 10, 14, 14], [4, 10, 14]), ([0, 3, 0, 1, 2, 3, 4, 5, 6, 7, 8, 9, 10, 11, 12, 13, 14, 15], [0, 3]), ([16, 15, 15, 0, 1, 2, 3, 4, 5, 6, 7, 8, 9, 10, 11, 12, 13, 14, 15], [15, 16])])
def poly_Divide.B20 : List Nat := [0, 0, 0, 6, 0, 0, 0, 0, 192, 480, 992, 0, 0, 0, 14336, 32752, 65535, 131071]
theorem poly_Divide.tab20 : rtab .any (opsOf Tryd.f19 20) = poly_Divide.T20 := by kernel_rfl
theorem poly_Divide.bits20 : waitsOk poly_Divide.T20.2 poly_Divide.B20 = true := by kernel_rfl
set_option maxHeartbeats 8000000 in
set_option maxRecDepth 100000 in
theorem poly_Divide.calls (k : Nat) (a0 : Int) (A1 : Option Addr) (c1 : Nat) (l1 : List Int) (A2 : Option Addr) (c2 : Nat) (l2 : List Int) (r1 : List Int) (r2 : List Int) (r3 : Int) (w : World) (hG : Fld w) (hr1 : Kd.C (Kd.int .u64) w A1 l1.length l1) (hc1 : l1.length ≤ c1) (hr2 : Kd.C (Kd.int .u64) w A2 l2.length l2) (hc2 : l2.length ≤ c2) (h : poly_Divide.f k a0 l1 l2 = some (r1, r2, r3)) :
  Calls Tryd.prog 19 #[.int .i64 a0, .slice A1 l1.length c1, .slice A2 l2.length c2] w fun e w' => ∃ v0_ v1_ : Value, e = .returned (.tuple #[v0_, v1_, .int .i64 r3]) ∧ Kd.R (Kd.int .u64) 32 w' w.heap.size (fun k_ => some k_ ≠ (v1_ : Value).ownBlock) v0_ r1 ∧ Kd.R (Kd.int .u64) 32 w' w.heap.size (fun k_ => some k_ ≠ (v0_ : Value).ownBlock) v1_ r2 ∧ Below w.heap.size w w' := by
 have HG := ak hG
 clear hG
 have HR1 := ak hr1
 have HC1 := ak hc1
 clear hr1 hc1
 have HR2 := ak hr2
 have HC2 := ak hc2
 clear hr2 hc2
 have HB := ak (Below.refl w.heap.size w)
 have H := h
 clear h
 unfold poly_Divide.f at H
 revert H
 refine bd_ fun t192 A4 H => ?_
 by_cases c5 : t192 = true
 ·subst c5
  rw [if_pos rfl] at H
  revert H
  refine bd_ fun t193 A6 H => ?_
  by_cases c7 : (t193.length : Int) = 0
  ·rw [if_pos c7] at H
   have c7b0 := beq_iff_eq.mpr c7
   have c7b1 := bne_eq_false_iff_eq.mpr c7
   clear c7
   simp only [Option.some.injEq, Prod.mk.injEq] at H
   obtain ⟨rfl, rfl, rfl⟩ := H
   go_enter Tryd.func19, Tryd.ntmps19
   go_wp2_with (first | ((with_reducible refine gate_callee (f := 47) rfl ?_); refine gl_ (some 16) Tryd.func47 #[.int .i64 a0] ?_; (with_reducible refine (field_Valid.calls a0 true _ A4.out).mono ?_); rintro e w' ⟨rfl, ⟨nd, rfl⟩⟩; refine ⟨_, rfl, ?_⟩) | ((with_reducible refine gate_callee (f := 23) rfl ?_); refine gl_ (some 20) Tryd.func23 #[.int .i64 a0, .slice A2 l2.length c2] ?_; (with_reducible refine (poly_Normal.calls k a0 _ _ l2 t193 _ ?side1 ?side2 ?side3 A6.out).mono ?_); (case side1 => exact fU_ HG.out HB.out); (case side2 => exact cU_ HR2.out); (case side3 => exact HC2.out); rintro e w8 ⟨v194, rfl, ho0, hb⟩; refine ⟨_, rfl, ?_⟩; refine nx2_ (R_lower ho0 (below_size (bU_ HB.out))) (below_step (bU_ HB.out) hb) ?_; clear HB; intro HO195 HB; clear hb ho0; obtain ⟨Ao9, co9, eo9⟩ := R_slice HO195.out; subst eo9))
   go_ret3
   exact ⟨_, _, eW_, by first | exact Kd.R_nil _ _ _ _ _ | exact Kd.N_nil _ _ _ _ _ | exact Kd.V_nil _ _ _ _ _ | exact Kd.Q_nil _ _ _ _ _ | exact Kd.S_nil _ _ _ _ _, by first | exact Kd.R_nil _ _ _ _ _ | exact Kd.N_nil _ _ _ _ _ | exact Kd.V_nil _ _ _ _ _ | exact Kd.Q_nil _ _ _ _ _ | exact Kd.S_nil _ _ _ _ _, bU_ HB.out⟩
  rw [if_neg c7] at H
  have c7b0 := beq_eq_false_iff_ne.mpr c7
  have c7b1 := bne_iff_ne.mpr c7
  have c7b2 : ¬ (t193 = []) := fun h_ => c7 (by rw [h_]; rfl)
  revert H
  refine bd_ fun t196 A10 H => ?_
  by_cases c11 : (t196.length : Int) < (t193.length : Int)
  ·rw [if_pos c11] at H
   have c11b0 := decide_eq_true c11
   have c11b1 : decide (t196.length < t193.length) = true := decide_eq_true (Int.ofNat_lt.mp c11)
   clear c11
   simp only [Option.some.injEq, Prod.mk.injEq] at H
   obtain ⟨rfl, rfl, rfl⟩ := H
   go_enter Tryd.func19, Tryd.ntmps19
   go_wp2_with (first | ((with_reducible refine gate_callee (f := 47) rfl ?_); refine gl_ (some 16) Tryd.func47 #[.int .i64 a0] ?_; (with_reducible refine (field_Valid.calls a0 true _ A4.out).mono ?_); rintro e w' ⟨rfl, ⟨nd, rfl⟩⟩; refine ⟨_, rfl, ?_⟩) | ((with_reducible refine gate_callee (f := 23) rfl ?_); refine gl_ (some 20) Tryd.func23 #[.int .i64 a0, .slice A2 l2.length c2] ?_; (with_reducible refine (poly_Normal.calls k a0 _ _ l2 t193 _ ?side1 ?side2 ?side3 A6.out).mono ?_); (case side1 => exact fU_ HG.out HB.out); (case side2 => exact cU_ HR2.out); (case side3 => exact HC2.out); rintro e w12 ⟨v194, rfl, ho0, hb⟩; refine ⟨_, rfl, ?_⟩; refine nx2_ (R_lower ho0 (below_size (bU_ HB.out))) (below_step (bU_ HB.out) hb) ?_; clear HB; intro HO195 HB; clear hb ho0; obtain ⟨Ao13, co13, eo13⟩ := R_slice HO195.out; subst eo13) | ((with_reducible refine gate_callee (f := 23) rfl ?_); refine gl_ (some 26) Tryd.func23 #[.int .i64 a0, .slice A1 l1.length c1] ?_; (with_reducible refine (poly_Normal.calls k a0 _ _ l1 t196 _ ?side1 ?side2 ?side3 A10.out).mono ?_); (case side1 => exact fU_ HG.out HB.out); (case side2 => exact cU_ (C_below HR1.out HB.out)); (case side3 => exact HC1.out); rintro e w14 ⟨v197, rfl, ho0, hb⟩; refine ⟨_, rfl, ?_⟩; refine nx3_ (R_elder' (rU_ HO195.out) (R_base ho0) hb) (R_lower (R_new' ho0 (R_lt (rU_ HO195.out))) (below_size (bU_ HB.out))) (below_step (bU_ HB.out) hb) ?_; clear HO195 HB; intro HO195 HO198 HB; clear hb ho0; obtain ⟨Ao15, co15, eo15⟩ := R_slice HO198.out; subst eo15))
   go_ret3
   exact ⟨_, _, eW_, by first | exact Kd.R_nil _ _ _ _ _ | exact Kd.N_nil _ _ _ _ _ | exact Kd.V_nil _ _ _ _ _ | exact Kd.Q_nil _ _ _ _ _ | exact Kd.S_nil _ _ _ _ _, R_mono (rU_ HO198.out) (fun _ hk => (by simp [Value.ownBlock])), bU_ HB.out⟩
  rw [if_neg c11] at H
  have c11b0 := decide_eq_false c11
  have c11b1 : decide (t196.length < t193.length) = false := decide_eq_false (fun h => c11 (Int.ofNat_lt.mpr h))
  clear c11
  obtain ⟨ji16, hji16⟩ : ∃ j_ : Int, (wrap64 ((t193.length : Int) - 1)) = j_ := ⟨_, rfl⟩
  first | rw [hji16] at H | simp only [hji16] at H
  (try rw [hji16] at A4)
  (try rw [hji16] at A6)
  (try rw [hji16] at A10)
  have hji16w : (IntKind.i64.wrap ((t193.length : Int) - 1)) = ji16 := (i64_w _).trans hji16
  obtain ⟨c17, H⟩ : (0 ≤ (ji16)) ∧ _ := it_ H
  have c17b0 := decide_eq_true c17
  clear c17
  obtain ⟨c18, H⟩ : ((ji16) < (t193.length : Int)) ∧ _ := it_ H
  have c18b0 := decide_eq_true c18
  clear c18
  revert H
  refine bd_ fun t200 A19 H => ?_
  obtain ⟨ji20, hji20⟩ : ∃ j_ : Int, (wrap64 ((wrap64 ((t196.length : Int) - (t193.length : Int))) + 1)) = j_ := ⟨_, rfl⟩
  first | rw [hji20] at H | simp only [hji20] at H
  (try rw [hji20] at A4)
  (try rw [hji20] at A6)
  (try rw [hji20] at A10)
  (try rw [hji20] at A19)
  have hji20w : (IntKind.i64.wrap ((wrap64 ((t196.length : Int) - (t193.length : Int))) + 1)) = ji20 := (i64_w _).trans hji20
  obtain ⟨c21, H⟩ : (0 ≤ (ji20)) ∧ _ := it_ H
  have c21b0 := eq_true c21
  have c21b1 := decide_eq_true c21
  clear c21
  obtain ⟨c22, H⟩ : ((ji20 : Int).toNat ≤ 35184372088832) ∧ _ := it_ H
  have c22b0 := eq_true c22
  have c22b1 := decide_eq_true c22
  clear c22
  obtain ⟨y201, hy201⟩ : ∃ y_ : List Int, y_ = (List.replicate (ji20 : Int).toNat 0) := ⟨_, rfl⟩
  first | rw [Option.bind_some, ← hy201] at H | rw [← hy201] at H
  have Ny201 := ak hy201
  clear hy201
  have H' := ak H
  clear H
  go_enter Tryd.func19, Tryd.ntmps19
  go_wp2_with (first | ((with_reducible refine gate_callee (f := 47) rfl ?_); refine gl_ (some 16) Tryd.func47 #[.int .i64 a0] ?_; (with_reducible refine (field_Valid.calls a0 true _ A4.out).mono ?_); rintro e w' ⟨rfl, ⟨nd, rfl⟩⟩; refine ⟨_, rfl, ?_⟩) | ((with_reducible refine gate_callee (f := 23) rfl ?_); refine gl_ (some 20) Tryd.func23 #[.int .i64 a0, .slice A2 l2.length c2] ?_; (with_reducible refine (poly_Normal.calls k a0 _ _ l2 t193 _ ?side1 ?side2 ?side3 A6.out).mono ?_); (case side1 => exact fU_ HG.out HB.out); (case side2 => exact cU_ HR2.out); (case side3 => exact HC2.out); rintro e w23 ⟨v194, rfl, ho0, hb⟩; refine ⟨_, rfl, ?_⟩; refine nx2_ (R_lower ho0 (below_size (bU_ HB.out))) (below_step (bU_ HB.out) hb) ?_; clear HB; intro HO195 HB; clear hb ho0; obtain ⟨Ao24, co24, eo24⟩ := R_slice HO195.out; subst eo24) | ((with_reducible refine gate_callee (f := 23) rfl ?_); refine gl_ (some 26) Tryd.func23 #[.int .i64 a0, .slice A1 l1.length c1] ?_; (with_reducible refine (poly_Normal.calls k a0 _ _ l1 t196 _ ?side1 ?side2 ?side3 A10.out).mono ?_); (case side1 => exact fU_ HG.out HB.out); (case side2 => exact cU_ (C_below HR1.out HB.out)); (case side3 => exact HC1.out); rintro e w25 ⟨v197, rfl, ho0, hb⟩; refine ⟨_, rfl, ?_⟩; refine nx3_ (R_elder' (rU_ HO195.out) (R_base ho0) hb) (R_lower (R_new' ho0 (R_lt (rU_ HO195.out))) (below_size (bU_ HB.out))) (below_step (bU_ HB.out) hb) ?_; clear HO195 HB; intro HO195 HO198 HB; clear hb ho0; obtain ⟨Ao26, co26, eo26⟩ := R_slice HO198.out; subst eo26; have pfr27 : 0 ≤ ((ji16) : Int) := od_; have qfr27 : ((ji16) : Int) < ((t193.length : Int) : Int) := od_; obtain ⟨gofr27, cofr27, eofr27, gbfr27, glfr27, clfr27, HGfr27⟩ := Kd.R_form HO195.out (by omega); (first | cases eofr27 | (injection eofr27 with ea_ en_ ec_; (first | subst ea_ | (injection ea_ with ea_; subst ea_)); subst ec_; clear en_)); have GBfr27 := ak gbfr27; have GGfr27 := ak HGfr27; clear gbfr27 glfr27 HGfr27; clear pfr27 qfr27; have p199 : 0 ≤ ((ji16) : Int) := od_; have q199 : (ji16) < (t193.length : Int) := od_; obtain ⟨ad199, e199, hx199_0⟩ := Kd.at_int (R_reads' HO195.out).2.2 (ji16) p199 q199; obtain rfl : (⟨gofr27, 0, none⟩ : Addr) = ad199 := (by injection e199); (first | simp only [add_plain] at hx199_0 | simp only [add_at] at hx199_0 | simp only [Addr.add, Nat.zero_add] at hx199_0 | skip); replace p199 := eq_true p199; replace q199 := eq_true q199) | ((with_reducible refine gate_callee (f := 55) rfl ?_); refine goesL_ (some 40) rfl rfl Tryd.func55 (by kernel_rfl) rfl #[.int .i64 a0, .int .u64 (rd t193 (ji16))] rfl (by (try simp only [List.map_toArray, List.map_cons, List.map_nil]); first | done | (simp only [hji16]; rfl) | rfl | (simp only [List.length_drop, List.length_take]; rfl)) ?_; (with_reducible refine (field_Inv.calls k a0 (rd t193 (ji16)) t200 _ ?side1 A19.out).mono ?_); (case side1 => exact fU_ HG.out HB.out); rintro e w28 ⟨rfl, hb⟩; refine ⟨_, rfl, ?_⟩; refine nx3_ (R_below (rU_ HO195.out) hb) (R_below (rU_ HO198.out) hb) (below_step (bU_ HB.out) hb) ?_; clear HO195 HO198 HB; intro HO195 HO198 HB; clear hb) | ((with_reducible refine gate_dst (N := 47) rfl ?_); refine R_make (Kd.int .u64) _ 32 rfl (N := 47) rfl 22 _ _ rfl ji20 ?hx ?hy Tryd.underlying22 (.int .u64 0) 8 info32 rfl (by decide) (by omega) 0 (ok := fun _ => True) (okp := fun _ => True) rfl (fun _ hk => hk) trivial od_ (Nat.le_trans (Nat.mul_le_mul_right _ (od_ : ji20.toNat ≤ 35184372088832)) (by omega)) (Below.refl _ _) (Nat.le_refl _) ?_; (case hx => first | rfl | (simp only [hji16, hji20]; rfl)); (case hy => first | rfl | (simp only [hji16, hji20]; rfl)); intro v202 w29 ho30 hb hg_ hnew_; clear hg_ hnew_; (first | rw [← Ny201.out] at ho30 | (simp only [Int.reduceToNat] at ho30; rw [← Ny201.out] at ho30)); refine nx4_ (R_elder' (rU_ HO195.out) (R_base ho30) hb) (R_elder' (rU_ HO198.out) (R_base ho30) hb) (R_lower (R_new' (R_new' ho30 (R_lt (rU_ HO195.out))) (R_lt (rU_ HO198.out))) (below_size (bU_ HB.out))) (below_step (bU_ HB.out) hb) ?_; clear HO195 HO198 HB; intro HO195 HO198 HO203 HB; clear hb ho30; obtain ⟨Ao31, co31, eo31⟩ := R_slice HO203.out; subst eo31))
  go_loopg [50] k (fun kq v50 w' => ∃ (x6_1 : List Int) (x7_1 : List Int) (x50_1 : Int), v50 = .int .i64 x50_1 ∧ Aside0 (poly_Divide.l0 kq a0 t193 x6_1 x7_1 t200 (y201.length : Int) x50_1 = some (r1, r2, r3)) ∧ Aside0 (kq ≤ k) ∧ Aside0 (Kd.R (Kd.int .u64) 32 w' w.heap.size (fun k_ => some k_ ≠ ((.slice Ao31 y201.length co31) : Value).ownBlock ∧ some k_ ≠ ((.slice Ao26 t196.length co26) : Value).ownBlock) (.slice (some ⟨gofr27, 0, none⟩) t193.length co24) t193) ∧ Aside0 (Kd.R (Kd.int .u64) 32 w' w.heap.size (fun k_ => some k_ ≠ ((.slice (some ⟨gofr27, 0, none⟩) t193.length co24) : Value).ownBlock ∧ some k_ ≠ ((.slice Ao26 t196.length co26) : Value).ownBlock) (.slice Ao31 y201.length co31) x6_1) ∧ Aside0 (Kd.R (Kd.int .u64) 32 w' w.heap.size (fun k_ => some k_ ≠ ((.slice (some ⟨gofr27, 0, none⟩) t193.length co24) : Value).ownBlock ∧ some k_ ≠ ((.slice Ao31 y201.length co31) : Value).ownBlock) (.slice Ao26 t196.length co26) x7_1) ∧ Aside0 (Below w.heap.size w w'))
  case atStart => exact ⟨(y201), (t196), (0), gb_, H', ⟨Nat.le_refl _⟩, ⟨R_mono (rU_ HO195.out) (fun _ hk => ⟨hk.2, hk.1.2⟩)⟩, ⟨R_mono (rU_ HO203.out) (fun _ hk => ⟨hk.1.2, hk.2⟩)⟩, ⟨R_mono (rU_ HO198.out) (fun _ hk => ⟨hk.1.2, hk.2⟩)⟩, ⟨bU_ HB.out⟩⟩
  case round =>
   clear H'
   (try clear c1); (try clear p1); (try clear q1); (try clear hx1); (try clear c2); (try clear p2); (try clear c4); (try clear c5); (try clear p6); (try clear c7); (try clear c7b0); (try clear c7b1); (try clear c7b2); (try clear c11); (try clear c11b0); (try clear c11b1); (try clear c17); (try clear c17b0); (try clear c18); (try clear c18b0); (try clear c19); (try clear p19); (try clear q19); (try clear hx19); (try clear c21); (try clear c21b0); (try clear c21b1); (try clear c22); (try clear c22b0); (try clear c22b1); (try clear c23); (try clear hx199_0); (try clear p199); (try clear q199)
   obtain ⟨x6_1, x7_1, x50_1, rfl, HA, HK1, HO_2, HO_6, HO_7, HB⟩ := hrel
   have hl6_1 := (R_reads' HO_6.out).1
   rw [hl6_1] at HO_6
   (try simp only [hl6_1])
   (try simp only [hl6_1] at HO_2)
   (try simp only [hl6_1] at HO_7)
   have hl7_1 := (R_reads' HO_7.out).1
   rw [hl7_1] at HO_7
   (try simp only [hl7_1])
   (try simp only [hl7_1] at HO_2)
   (try simp only [hl7_1] at HO_6)
   cases gk with
   | zero => exact absurd HA.out (by simp [poly_Divide.l0])
   | succ k1 =>
    have H := HA.out
    clear HA
    simp only [poly_Divide.l0] at H
    by_cases c32 : x50_1 < (y201.length : Int)
    ·rw [if_pos c32] at H
     have c32b0 := decide_eq_true c32
     (try (have c32b0r0 := c32b0; simp only [hl6_1] at c32b0r0))
     clear c32
     obtain ⟨ji33, hji33⟩ : ∃ j_ : Int, (wrap64 ((wrap64 ((wrap64 ((wrap64 ((x6_1.length : Int) - 1)) - x50_1)) + (t193.length : Int))) - 1)) = j_ := ⟨_, rfl⟩
     first | rw [hji33] at H | simp only [hji33] at H
     have hji33w : (IntKind.i64.wrap ((wrap64 ((wrap64 ((wrap64 ((x6_1.length : Int) - 1)) - x50_1)) + (t193.length : Int))) - 1)) = ji33 := (i64_w _).trans hji33
     obtain ⟨c34, H⟩ : (0 ≤ (ji33)) ∧ _ := it_ H
     have c34b0 := decide_eq_true c34
     clear c34
     obtain ⟨c35, H⟩ : ((ji33) < (x7_1.length : Int)) ∧ _ := it_ H
     have c35b0 := decide_eq_true c35
     clear c35
     revert H
     refine bd_ fun t211 A36 H => ?_
     obtain ⟨ji37, hji37⟩ : ∃ j_ : Int, (wrap64 ((wrap64 ((x6_1.length : Int) - 1)) - x50_1)) = j_ := ⟨_, rfl⟩
     first | rw [hji37] at H | simp only [hji37] at H
     (try rw [hji37] at A36)
     have hji37w : (IntKind.i64.wrap ((wrap64 ((x6_1.length : Int) - 1)) - x50_1)) = ji37 := (i64_w _).trans hji37
     (try (have hji33_ji37 := hji33; rw [hji37] at hji33_ji37))
     (try (have hji33_ji37w := hji33w; rw [hji37] at hji33_ji37w))
     obtain ⟨c38, H⟩ : (0 ≤ (ji37)) ∧ _ := it_ H
     have c38b0 := decide_eq_true c38
     clear c38
     obtain ⟨c39, H⟩ : ((ji37) < (x6_1.length : Int)) ∧ _ := it_ H
     have c39b0 := decide_eq_true c39
     clear c39
     obtain ⟨y212, hy212⟩ : ∃ y_ : List Int, y_ = (x6_1.set ((ji37) : Int).toNat t211) := ⟨_, rfl⟩
     first | rw [Option.bind_some, ← hy212] at H | rw [← hy212] at H
     have Ny212 := ak hy212
     clear hy212
     have H' := ak H
     clear H
     have pfr41 : 0 ≤ ((ji33) : Int) := od_
     have qfr41 : ((ji33) : Int) < ((x7_1.length : Int) : Int) := od_
     obtain ⟨gofr41, cofr41, eofr41, gbfr41, glfr41, clfr41, HGfr41⟩ := Kd.R_form HO_7.out (by omega)
     (first | cases eofr41 | (injection eofr41 with ea_ en_ ec_; (first | subst ea_ | (injection ea_ with ea_; subst ea_)); subst ec_; clear en_))
     have GBfr41 := ak gbfr41
     have GGfr41 := ak HGfr41
     clear gbfr41 glfr41 HGfr41
     clear pfr41 qfr41
     have p210 : 0 ≤ ((ji33) : Int) := od_
     have q210 : (ji33) < (x7_1.length : Int) := od_
     obtain ⟨ad210, e210, hx210_0⟩ := Kd.at_int (R_reads' HO_7.out).2.2 (ji33) p210 q210
     obtain rfl : (⟨gofr41, 0, none⟩ : Addr) = ad210 := (by injection e210)
     (first | simp only [add_plain] at hx210_0 | simp only [add_at] at hx210_0 | simp only [Addr.add, Nat.zero_add] at hx210_0 | skip)
     replace p210 := eq_true p210
     replace q210 := eq_true q210
     go_wp2_with (first | ((with_reducible refine gate_callee (f := 44) rfl ?_); refine goesL_ (some 68) rfl rfl Tryd.func44 (by kernel_rfl) rfl #[.int .i64 a0, .int .u64 (rd x7_1 (ji33)), .int .u64 t200] rfl (by (try simp only [List.map_toArray, List.map_cons, List.map_nil]); first | done | (simp only [hji33]; rfl) | rfl | (simp only [List.length_drop, List.length_take]; rfl)) ?_; (with_reducible refine (field_Mul.calls a0 (rd x7_1 (ji33)) t200 t211 _ ?side1 A36.out).mono ?_); (case side1 => exact fU_ HG.out HB.out); rintro e w42 ⟨rfl, hb⟩; refine ⟨_, rfl, ?_⟩; refine nx4_ (R_below (rU_ HO_2.out) hb) (R_below (rU_ HO_6.out) hb) (R_below (rU_ HO_7.out) hb) (below_step (bU_ HB.out) hb) ?_; clear HO_2 HO_6 HO_7 HB; intro HO_2 HO_6 HO_7 HB; clear hb; have p40 : 0 ≤ ((ji37) : Int) := od_; have q40 : ((ji37) : Int) < ((x6_1.length : Int) : Int) := od_; obtain ⟨go40, co40, eo40, gb40, gl40, cl40, HG40⟩ := Kd.R_form HO_6.out (by omega); (first | cases eo40 | (injection eo40 with ea_ en_ ec_; (first | subst ea_ | (injection ea_ with ea_; subst ea_)); subst ec_; clear en_)); have GB40 := ak gb40; have GG40 := ak HG40; clear gb40 gl40 HG40; obtain ⟨hx40_0, hf40_0⟩ := Kd.R_celln 0 HO_6.out ((ji37) : Int) p40 q40; replace p40 := eq_true p40; replace q40 := eq_true q40; obtain ⟨hy43_, hz43_⟩ := Kd.R_celln 0 HO_6.out ((ji37) : Int) od_ od_; have HP43 := Kd.R_putg HO_6.out ((ji37) : Int) t211) | ((with_reducible refine gate_store (t := 32) (p := 72) rfl ?_); refine store_event (t := 32) (p := 72) (v := ?vo_w44) (w1 := (w42.setCell ⟨go40, ((ji37) : Int).toNat, none⟩ (.int .u64 t211))) ?hg ?ho ?hn ?hr ?_; (case ho => rfl); (case hg => rfl); (case hn => rfl); (case hr => first | (go_simp; done) | (go_simp; rfl)); intro w44 hw; have hg : w42.grownBy w44 (some go40) := (by rw [hw]; exact HP43.2); have hp_ : Kd.R (Kd.int .u64) 32 w44 w.heap.size (fun k_ => some k_ ≠ (.slice (some ⟨gofr27, 0, none⟩) t193.length co24 : Value).ownBlock ∧ some k_ ≠ (.slice (some ⟨gofr41, 0, none⟩) x7_1.length co26 : Value).ownBlock) (.slice (some ⟨go40, 0, none⟩) x6_1.length co31) y212 := (by rw [hw, Ny212.out]; exact HP43.1); clear HP43; refine nx4_ (Kd.R_after (v := (.slice (some ⟨go40, 0, none⟩) x6_1.length co31)) (v1 := (.slice (some ⟨go40, 0, none⟩) x6_1.length co31)) (ok := (fun k_ => some k_ ≠ (.slice (some ⟨gofr41, 0, none⟩) x7_1.length co26 : Value).ownBlock)) (R_mono (rU_ HO_2.out) (fun _ hk => ⟨hk.2, hk.1⟩)) hg (.inl rfl)) (hp_) (Kd.R_after (v := (.slice (some ⟨go40, 0, none⟩) x6_1.length co31)) (v1 := (.slice (some ⟨go40, 0, none⟩) x6_1.length co31)) (ok := (fun k_ => some k_ ≠ (.slice (some ⟨gofr27, 0, none⟩) t193.length co24 : Value).ownBlock)) (rU_ HO_7.out) hg (.inl rfl)) ((by rw [hw]; exact below_set (HB.out) GB40.out : Below w.heap.size w w44)) ?_; clear HO_2 HO_6 HO_7 HB; intro HO_2 HO_6 HO_7 HB; clear hg hw hp_))
     go_loopg [75] k1 (fun kq v75 w' => ∃ (x7_2 : List Int) (x75_2 : Int), v75 = .int .i64 x75_2 ∧ Aside0 (poly_Divide.l1 kq a0 t193 y212 x7_2 t200 ji37 t211 (y201.length : Int) x50_1 t193 (t193.length : Int) x75_2 = some (r1, r2, r3)) ∧ Aside0 (kq ≤ k1) ∧ Aside0 (Kd.R (Kd.int .u64) 32 w' w.heap.size (fun k_ => some k_ ≠ ((.slice (some ⟨go40, 0, none⟩) x6_1.length co31) : Value).ownBlock ∧ some k_ ≠ ((.slice (some ⟨gofr41, 0, none⟩) x7_1.length co26) : Value).ownBlock) (.slice (some ⟨gofr27, 0, none⟩) t193.length co24) t193) ∧ Aside0 (Kd.R (Kd.int .u64) 32 w' w.heap.size (fun k_ => some k_ ≠ ((.slice (some ⟨gofr27, 0, none⟩) t193.length co24) : Value).ownBlock ∧ some k_ ≠ ((.slice (some ⟨gofr41, 0, none⟩) x7_1.length co26) : Value).ownBlock ∧ some k_ ≠ ((.slice (some ⟨gofr27, 0, none⟩) t193.length co24) : Value).ownBlock) (.slice (some ⟨go40, 0, none⟩) x6_1.length co31) y212) ∧ Aside0 (Kd.R (Kd.int .u64) 32 w' w.heap.size (fun k_ => some k_ ≠ ((.slice (some ⟨gofr27, 0, none⟩) t193.length co24) : Value).ownBlock ∧ some k_ ≠ ((.slice (some ⟨go40, 0, none⟩) x6_1.length co31) : Value).ownBlock ∧ some k_ ≠ ((.slice (some ⟨gofr27, 0, none⟩) t193.length co24) : Value).ownBlock) (.slice (some ⟨gofr41, 0, none⟩) x7_1.length co26) x7_2) ∧ Aside0 (Kd.R (Kd.int .u64) 32 w' w.heap.size (fun k_ => some k_ ≠ ((.slice (some ⟨go40, 0, none⟩) x6_1.length co31) : Value).ownBlock ∧ some k_ ≠ ((.slice (some ⟨gofr41, 0, none⟩) x7_1.length co26) : Value).ownBlock) (.slice (some ⟨gofr27, 0, none⟩) t193.length co24) t193) ∧ Aside0 (Below w.heap.size w w'))
     case atStart => exact ⟨(x7_1), (0), gb_, H', ⟨Nat.le_refl _⟩, ⟨by (try simp only [hl6_1]); (try simp only [hl7_1]); (with_reducible repeat (first | apply Kd.R_alloc | apply Kd.R_drewN | apply R_drew)); exact R_mono HO_2.out (fun _ hk => ⟨hk.2, hk.1⟩)⟩, ⟨by (try simp only [hl6_1]); (try simp only [hl7_1]); (with_reducible repeat (first | apply Kd.R_alloc | apply Kd.R_drewN | apply R_drew)); exact R_mono HO_6.out (fun _ hk => ⟨hk.1, ⟨hk.2, hk.1⟩⟩)⟩, ⟨by (try simp only [hl6_1]); (try simp only [hl7_1]); (with_reducible repeat (first | apply Kd.R_alloc | apply Kd.R_drewN | apply R_drew)); exact R_mono HO_7.out (fun _ hk => ⟨hk.1, ⟨hk.2, hk.1⟩⟩)⟩, ⟨by (try simp only [hl6_1]); (try simp only [hl7_1]); (with_reducible repeat (first | apply Kd.R_alloc | apply Kd.R_drewN | apply R_drew)); exact R_mono HO_2.out (fun _ hk => ⟨hk.2, hk.1⟩)⟩, ⟨bU_ HB.out⟩⟩
     case round =>
      clear H'
      (try clear c1); (try clear p1); (try clear q1); (try clear hx1); (try clear c2); (try clear p2); (try clear q2); (try clear hx2); (try clear c3); (try clear c4); (try clear p4); (try clear q4); (try clear hx4); (try clear hf4); (try clear c5); (try clear p6); (try clear c7); (try clear c7b0); (try clear c7b1); (try clear c7b2); (try clear c11); (try clear c11b0); (try clear c11b1); (try clear c17); (try clear c17b0); (try clear c18); (try clear c18b0); (try clear c19); (try clear p19); (try clear q19); (try clear hx19); (try clear c21); (try clear c21b0); (try clear c21b1); (try clear p21); (try clear q21); (try clear hx21); (try clear c22); (try clear c22b0); (try clear c22b1); (try clear c23); (try clear c32); (try clear c32b0); (try clear c34); (try clear c34b0); (try clear c35); (try clear c35b0); (try clear c38); (try clear c38b0); (try clear c39); (try clear c39b0); (try clear p40); (try clear q40); (try clear hx40); (try clear hf40); (try clear c44); (try clear hx199_0); (try clear hx210_0); (try clear hx40_0); (try clear p199); (try clear p210); (try clear q199); (try clear q210)
      obtain ⟨x7_2, x75_2, rfl, HA, HK2, HO_2, HO_6, HO_7, HO_73, HB⟩ := hrel
      have hl6_2 := (R_reads' HO_6.out).1
      rw [hl6_2] at HO_6
      (try simp only [hl6_2])
      (try simp only [hl6_2] at HO_2)
      (try simp only [hl6_2] at HO_7)
      (try simp only [hl6_2] at HO_73)
      have hl7_2 := (R_reads' HO_7.out).1
      rw [hl7_2] at HO_7
      (try simp only [hl7_2])
      (try simp only [hl7_2] at HO_2)
      (try simp only [hl7_2] at HO_6)
      (try simp only [hl7_2] at HO_73)
      cases gk with
      | zero => exact absurd HA.out (by simp [poly_Divide.l1])
      | succ k2 =>
       have H := HA.out
       clear HA
       simp only [poly_Divide.l1] at H
       by_cases c45 : x75_2 < (t193.length : Int)
       ·rw [if_pos c45] at H
        have c45b0 := decide_eq_true c45
        clear c45
        obtain ⟨c46, H⟩ : (0 ≤ x75_2) ∧ _ := it_ H
        have c46b0 := decide_eq_true c46
        clear c46
        obtain ⟨c47, H⟩ : (x75_2 < (t193.length : Int)) ∧ _ := it_ H
        have c47b0 := decide_eq_true c47
        clear c47
        obtain ⟨ji48, hji48⟩ : ∃ j_ : Int, (wrap64 (ji37 + x75_2)) = j_ := ⟨_, rfl⟩
        first | rw [hji48] at H | simp only [hji48] at H
        have hji48w : (IntKind.i64.wrap (ji37 + x75_2)) = ji48 := (i64_w _).trans hji48
        obtain ⟨c49, H⟩ : (0 ≤ (ji48)) ∧ _ := it_ H
        have c49b0 := decide_eq_true c49
        clear c49
        obtain ⟨c50, H⟩ : ((ji48) < (x7_2.length : Int)) ∧ _ := it_ H
        have c50b0 := decide_eq_true c50
        clear c50
        revert H
        refine bd_ fun t215 A51 H => ?_
        revert H
        refine bd_ fun t216 A52 H => ?_
        obtain ⟨y217, hy217⟩ : ∃ y_ : List Int, y_ = (x7_2.set ((ji48) : Int).toNat t216) := ⟨_, rfl⟩
        first | rw [Option.bind_some, ← hy217] at H | rw [← hy217] at H
        have Ny217 := ak hy217
        clear hy217
        have H' := ak H
        clear H
        have p213 : 0 ≤ (x75_2 : Int) := od_
        have q213 : x75_2 < (t193.length : Int) := od_
        obtain ⟨ad213, e213, hx213_0⟩ := Kd.at_int (R_reads' HO_73.out).2.2 x75_2 p213 q213
        obtain rfl : (⟨gofr27, 0, none⟩ : Addr) = ad213 := (by injection e213)
        (first | simp only [add_plain] at hx213_0 | simp only [add_at] at hx213_0 | simp only [Addr.add, Nat.zero_add] at hx213_0 | skip)
        replace p213 := eq_true p213
        replace q213 := eq_true q213
        try go_wp2
        refine nx5_ (R_drew HO_2.out) (R_drew HO_6.out) (R_drew HO_7.out) (R_drew HO_73.out) (below_drew1 HB.out) ?_
        clear HO_2 HO_6 HO_7 HO_73 HB
        intro HO_2 HO_6 HO_7 HO_73 HB
        have p214 : 0 ≤ ((ji48) : Int) := od_
        have q214 : (ji48) < (x7_2.length : Int) := od_
        obtain ⟨ad214, e214, hx214_0⟩ := Kd.at_int (R_reads' HO_7.out).2.2 (ji48) p214 q214
        obtain rfl : (⟨gofr41, 0, none⟩ : Addr) = ad214 := (by injection e214)
        (first | simp only [add_plain] at hx214_0 | simp only [add_at] at hx214_0 | simp only [Addr.add, Nat.zero_add] at hx214_0 | skip)
        replace p214 := eq_true p214
        replace q214 := eq_true q214
        refine start_ (n := 18) (S := fun w' => w'.cell? ⟨gofr41, ((ji48)).toNat, none⟩ = some (.int .u64 (rd x7_2 (ji48)))) (ds := [17]) (bv 18 0) (by kernel_rfl) rfl rfl (hx214_0) (fun hHeld => ?_); refine with_tabW poly_Divide.tab20 poly_Divide.bits20 (fun HT_ HW_ => ?_)
        generalize wr.drew = w54 at HO_2 HO_6 HO_7 HO_73 HB hx214_0 hHeld ⊢
        refine pq_ 0 80 18 1 HT_.out ?_
        refine pq_ 1 81 18 3 HT_.out ?_
        refine pq_ 2 82 18 7 HT_.out ?_
        refine pq_ 3 83 18 15 HT_.out ?_
        refine pq_ 4 84 18 31 HT_.out ?_
        refine pq_ 5 85 18 63 HT_.out ?_
        refine pq_ 6 86 18 127 HT_.out ?_
        refine pq_ 7 87 18 255 HT_.out ?_
        refine pq_ 8 88 18 511 HT_.out ?_
        refine pq_ 9 89 18 1023 HT_.out ?_
        refine pq_ 11 91 18 3071 HT_.out ?_
        refine pq_ 12 92 18 7167 HT_.out ?_
        refine pq_ 13 93 18 15359 HT_.out ?_
        refine take_ (i := 10) (N := some 90) (v := ?_) (a' := ?_) (bv 18 16383) rfl rfl (take_ofW HT_.out HW_.out (by kernel_rfl)) (fun _ _ _ h => h) (Or.inl ⟨by rfl, ?_⟩) hHeld ?_ ?_
        rotate_left
        ·intro w' s0
         go_simp
         with_reducible rfl
        rotate_left
        ·simp only [Act.put, s1_, s2_, s3_, i64_w, i32_w]
         rfl
        refine oq_ 14 94 18 32767 HT_.out fun K hK => ?_
        refine gs_ Tryd.func44 #[.int .i64 a0, .int .u64 t211, .int .u64 (rd t193 x75_2)] ?_
        with_reducible refine (field_Mul.calls a0 t211 (rd t193 x75_2) t215 _ ?side1 A51.out).mono ?_
        (case side1 => exact fU_ HG.out HB.out)
        rintro e w55 ⟨rfl, hb⟩
        have HS0_ := (hb.cell (World.block_lt_of_cell? _ _ (hHeld))).trans (hHeld)
        refine ⟨_, rfl, ?_⟩
        refine nx5_ (R_below (rU_ HO_2.out) hb) (R_below (rU_ HO_6.out) hb) (R_below (rU_ HO_7.out) hb) (R_below (rU_ HO_73.out) hb) (below_step (bU_ HB.out) hb) ?_
        clear HO_2 HO_6 HO_7 HO_73 HB
        intro HO_2 HO_6 HO_7 HO_73 HB
        (try clear hb)
        (try clear hb2)
        (try clear hk)
        (try clear hi)
        refine hK.out _ _ (HS0_) (fun hHeld => ?_)
        clear hK K
        refine norm_ (a' := ?_) ?_ ?_
        rotate_left
        ·show Act.put _ (some 94) _ = _
         simp only [Act.put, s1_, s2_, s3_, i64_w, i32_w]
         rfl
        refine oq_ 15 95 18 65535 HT_.out fun K hK => ?_
        refine goes_ Tryd.func24 (by kernel_rfl) rfl #[.int .i64 a0, .int .u64 (rd x7_2 (ji48)), .int .u64 t215] (by rfl) rfl rfl (by (try simp only [List.map_toArray, List.map_cons, List.map_nil]); first | done | (simp only [hji48]; rfl) | rfl | (simp only [List.length_drop, List.length_take]; rfl)) ?_
        with_reducible refine (field_Sub.calls a0 (rd x7_2 (ji48)) t215 t216 _ ?side1 A52.out).mono ?_
        (case side1 => exact fU_ HG.out HB.out)
        rintro e w56 ⟨rfl, hb⟩
        have HS0_ := (hb.cell (World.block_lt_of_cell? _ _ (hHeld))).trans (hHeld)
        refine ⟨_, rfl, ?_⟩
        refine nx5_ (R_below (rU_ HO_2.out) hb) (R_below (rU_ HO_6.out) hb) (R_below (rU_ HO_7.out) hb) (R_below (rU_ HO_73.out) hb) (below_step (bU_ HB.out) hb) ?_
        clear HO_2 HO_6 HO_7 HO_73 HB
        intro HO_2 HO_6 HO_7 HO_73 HB
        (try clear hb)
        (try clear hb2)
        (try clear hk)
        (try clear hi)
        have p53 : 0 ≤ ((ji48) : Int) := od_
        have q53 : ((ji48) : Int) < ((x7_2.length : Int) : Int) := od_
        obtain ⟨hx53_0, hf53_0⟩ := Kd.R_celln 0 HO_7.out ((ji48) : Int) p53 q53
        replace p53 := eq_true p53
        replace q53 := eq_true q53
        have HP57 := Kd.R_putn HO_7.out ((ji48) : Int) t216
        rw [← Ny217.out] at HP57
        have HQ57 := ak HP57
        clear HP57
        refine hK.out _ _ (HS0_) (fun hHeld => ?_)
        clear hK K
        refine norm_ (a' := ?_) ?_ ?_
        rotate_left
        ·show Act.put _ (some 95) _ = _
         simp only [Act.put, s1_, s2_, s3_, i64_w, i32_w]
         rfl
        refine pq_ 16 96 18 131071 HT_.out ?_
        refine last_ (i := 17) (N := none) #[true, true, true, true, true, true, true, true, true, true, true, true, true, true, true, true, true, true] rfl rfl (one_of HT_.out (by kernel_rfl)) (by decide) (fun K hK => ?_)
        refine skip_ (w1 := ?_) (by rfl) rfl ?_ ?_
        rotate_left
        ·go_simp
         rfl
        refine hK.out _ _ ?_
        clear hK K
        refine done_ (done_of HT_.out (by kernel_rfl)) ?_
        try go_wp2
        (try simp only [← hl6_2, ← hl7_2])
        go_roundg k2
        case measure => have := HK1.out; have := HK2.out; omega
        case rel => exact ⟨(y217), (wrap64 (x75_2 + 1)), gb_, H', ⟨by have := HK1.out; have := HK2.out; omega⟩, ⟨by (try simp only [hl6_1]); (try simp only [hl7_1]); (try simp only [hl6_2]); (try simp only [hl7_2]); (with_reducible repeat (first | apply Kd.R_alloc | apply Kd.R_drewN | apply R_drew)); exact R_mono (R_far (p := ⟨gofr41, ((ji48) : Int).toNat, none⟩) (R_mono HO_2.out (fun k_ hk => (⟨hk, fun e_ => hk.2 (by rw [e_]; rfl)⟩ : _ ∧ k_ ≠ gofr41))) (fun _ hk => hk.2) (.int .u64 t216)) (fun _ hk => ⟨hk.1.1, hk.1.2⟩)⟩, ⟨by (try simp only [hl6_1]); (try simp only [hl7_1]); (try simp only [hl6_2]); (try simp only [hl7_2]); (with_reducible repeat (first | apply Kd.R_alloc | apply Kd.R_drewN | apply R_drew)); exact R_mono (R_far (p := ⟨gofr41, ((ji48) : Int).toNat, none⟩) (R_mono HO_6.out (fun k_ hk => (⟨hk, fun e_ => hk.2.1 (by rw [e_]; rfl)⟩ : _ ∧ k_ ≠ gofr41))) (fun _ hk => hk.2) (.int .u64 t216)) (fun _ hk => ⟨hk.1.1, ⟨hk.1.2.1, hk.1.2.2⟩⟩)⟩, ⟨by (try simp only [hl6_1]); (try simp only [hl7_1]); (try simp only [hl6_2]); (try simp only [hl7_2]); (with_reducible repeat (first | apply Kd.R_alloc | apply Kd.R_drewN | apply R_drew)); exact HQ57.out⟩, ⟨by (try simp only [hl6_1]); (try simp only [hl7_1]); (try simp only [hl6_2]); (try simp only [hl7_2]); (with_reducible repeat (first | apply Kd.R_alloc | apply Kd.R_drewN | apply R_drew)); exact R_mono (R_far (p := ⟨gofr41, ((ji48) : Int).toNat, none⟩) (R_mono HO_73.out (fun k_ hk => (⟨hk, fun e_ => hk.2 (by rw [e_]; rfl)⟩ : _ ∧ k_ ≠ gofr41))) (fun _ hk => hk.2) (.int .u64 t216)) (fun _ hk => ⟨hk.1.1, hk.1.2⟩)⟩, ⟨sU_⟩⟩
       rw [if_neg c45] at H
       have c45b0 := decide_eq_false c45
       clear c45
       have H' := ak H
       clear H
       go_wp2
       (try simp only [← hl6_1, ← hl7_1, ← hl6_2, ← hl7_2])
       go_roundg k2
       case measure => have := HK1.out; have := HK2.out; omega
       case rel => exact ⟨(y212), (x7_2), (wrap64 (x50_1 + 1)), gb_, H', ⟨by have := HK1.out; have := HK2.out; omega⟩, ⟨by (try simp only [hl6_1]); (try simp only [hl7_1]); (try simp only [hl6_2]); (try simp only [hl7_2]); (with_reducible repeat (first | apply Kd.R_alloc | apply Kd.R_drewN | apply R_drew)); exact HO_2.out⟩, ⟨by (try simp only [hl6_1]); (try simp only [hl7_1]); (try simp only [hl6_2]); (try simp only [hl7_2]); (with_reducible repeat (first | apply Kd.R_alloc | apply Kd.R_drewN | apply R_drew)); exact R_mono HO_6.out (fun _ hk => ⟨hk.1, hk.2.1⟩)⟩, ⟨by (try simp only [hl6_1]); (try simp only [hl7_1]); (try simp only [hl6_2]); (try simp only [hl7_2]); (with_reducible repeat (first | apply Kd.R_alloc | apply Kd.R_drewN | apply R_drew)); exact R_mono HO_7.out (fun _ hk => ⟨hk.1, hk.2.1⟩)⟩, ⟨bU_ HB.out⟩⟩
    rw [if_neg c32] at H
    have c32b0 := decide_eq_false c32
    (try (have c32b0r0 := c32b0; simp only [hl6_1] at c32b0r0))
    clear c32
    revert H
    refine bd_ fun t204 A58 H => ?_
    revert H
    refine bd_ fun t207 A59 H => ?_
    simp only [Option.some.injEq, Prod.mk.injEq] at H
    obtain ⟨rfl, rfl, rfl⟩ := H
    go_wp2_with (first | ((with_reducible refine gate_callee (f := 56) rfl ?_); refine gl_ (some 100) Tryd.func56 #[.slice Ao31 x6_1.length co31] ?_; (with_reducible refine (poly_trim.calls k1 (fun k_ => some k_ = (.slice Ao31 x6_1.length co31 : Value).ownBlock) (.slice Ao31 x6_1.length co31) x6_1 t204 w _ ?side1 ?side2 A58.out).mono ?_); (case side1 => repeat (first | (with_reducible first | exact HB.out | apply below_alloc | apply pw_below_drewN | apply below_drew1) | exact HB.out)); (case side2 => exact R_tight rfl HO_6.out); rintro e w60 ⟨v205, rfl, ho0, hb, hkp⟩; refine ⟨_, rfl, ?_⟩; refine nx4_ (R_mono (ok' := fun k_ => some k_ ≠ (.slice Ao26 x7_1.length co26 : Value).ownBlock ∧ some k_ ≠ (v205 : Value).ownBlock) (Kd.R_keptB (HO_2.out) hkp (fun k_ hk_ hs_ => (hk_.1) hs_)) (fun k_ hk_ => ⟨hk_.1.2, fun e_ => Or.elim (ho0.1 k_ e_.symm) (fun hs_ => hk_.2.1 hs_) (fun hn_ => Nat.not_le.2 hk_.2.2 hn_)⟩)) (R_mono (ok' := fun k_ => some k_ ≠ (.slice (some ⟨gofr27, 0, none⟩) t193.length co24 : Value).ownBlock ∧ some k_ ≠ (v205 : Value).ownBlock) (Kd.R_keptB (HO_7.out) hkp (fun k_ hk_ hs_ => (hk_.2) hs_)) (fun k_ hk_ => ⟨hk_.1.1, fun e_ => Or.elim (ho0.1 k_ e_.symm) (fun hs_ => hk_.2.1 hs_) (fun hn_ => Nat.not_le.2 hk_.2.2 hn_)⟩)) (R_mono (ok' := fun k_ => some k_ ≠ (.slice (some ⟨gofr27, 0, none⟩) t193.length co24 : Value).ownBlock ∧ some k_ ≠ (.slice Ao26 x7_1.length co26 : Value).ownBlock) ho0 (fun k_ hk_ => ⟨Or.elim hk_ (fun hs_ => fun e_ => (((HO_2.out).1 k_ e_.symm).1) hs_) (fun hn_ => (fresh' (R_lt (rU_ HO_2.out)) k_ hn_)), Or.elim hk_ (fun hs_ => fun e_ => (((HO_7.out).1 k_ e_.symm).2) hs_) (fun hn_ => (fresh' (R_lt (rU_ HO_7.out)) k_ hn_))⟩)) (hb) ?_; clear HO_2 HO_7 HB HO_6; intro HO_2 HO_7 HO206 HB; clear hb hkp ho0) | ((with_reducible refine gate_callee (f := 56) rfl ?_); refine gl_ (some 102) Tryd.func56 #[.slice Ao26 x7_1.length co26] ?_; (with_reducible refine (poly_trim.calls k1 (fun k_ => some k_ = (.slice Ao26 x7_1.length co26 : Value).ownBlock) (.slice Ao26 x7_1.length co26) x7_1 t207 w _ ?side1 ?side2 A59.out).mono ?_); (case side1 => repeat (first | (with_reducible first | exact HB.out | apply below_alloc | apply pw_below_drewN | apply below_drew1) | exact HB.out)); (case side2 => exact R_tight rfl HO_7.out); rintro e w61 ⟨v208, rfl, ho0, hb, hkp⟩; refine ⟨_, rfl, ?_⟩; refine nx4_ (R_mono (ok' := fun k_ => some k_ ≠ (v205 : Value).ownBlock ∧ some k_ ≠ (v208 : Value).ownBlock) (Kd.R_keptB (HO_2.out) hkp (fun k_ hk_ hs_ => (hk_.1) hs_)) (fun k_ hk_ => ⟨hk_.1.2, fun e_ => Or.elim (ho0.1 k_ e_.symm) (fun hs_ => hk_.2.1 hs_) (fun hn_ => Nat.not_le.2 hk_.2.2 hn_)⟩)) (R_mono (ok' := fun k_ => some k_ ≠ (.slice (some ⟨gofr27, 0, none⟩) t193.length co24 : Value).ownBlock ∧ some k_ ≠ (v208 : Value).ownBlock) (Kd.R_keptB (HO206.out) hkp (fun k_ hk_ hs_ => (hk_.2) hs_)) (fun k_ hk_ => ⟨hk_.1.1, fun e_ => Or.elim (ho0.1 k_ e_.symm) (fun hs_ => hk_.2.1 hs_) (fun hn_ => Nat.not_le.2 hk_.2.2 hn_)⟩)) (R_mono (ok' := fun k_ => some k_ ≠ (.slice (some ⟨gofr27, 0, none⟩) t193.length co24 : Value).ownBlock ∧ some k_ ≠ (v205 : Value).ownBlock) ho0 (fun k_ hk_ => ⟨Or.elim hk_ (fun hs_ => fun e_ => (((HO_2.out).1 k_ e_.symm).1) hs_) (fun hn_ => (fresh' (R_lt (rU_ HO_2.out)) k_ hn_)), Or.elim hk_ (fun hs_ => fun e_ => (((HO206.out).1 k_ e_.symm).2) hs_) (fun hn_ => (fresh' (R_lt (rU_ HO206.out)) k_ hn_))⟩)) (hb) ?_; clear HO_2 HO206 HB HO_7; intro HO_2 HO206 HO209 HB; clear hb hkp ho0))
    go_ret3
    exact ⟨_, _, by first | rfl | (simp [errW_none, errW_some] <;> rfl) | (simp only [← hji16, ← hji20]; first | rfl | (simp [errW_none, errW_some] <;> rfl)) | (simp [*, errW_none, errW_some] <;> rfl), R_mono (rU_ HO206.out) (fun _ hk => hk.2), R_mono (rU_ HO209.out) (fun _ hk => hk.2), bU_ HB.out⟩
 replace c5 := Bool.eq_false_iff.mpr c5
 subst c5
 rw [if_neg (show ¬ (false = true) by decide)] at H
 simp only [Option.some.injEq, Prod.mk.injEq] at H
 obtain ⟨rfl, rfl, rfl⟩ := H
 go_enter Tryd.func19, Tryd.ntmps19
 go_wp2_with (first | ((with_reducible refine gate_callee (f := 47) rfl ?_); refine gl_ (some 16) Tryd.func47 #[.int .i64 a0] ?_; (with_reducible refine (field_Valid.calls a0 false _ A4.out).mono ?_); rintro e w' ⟨rfl, ⟨nd, rfl⟩⟩; refine ⟨_, rfl, ?_⟩))
 go_ret3
 exact ⟨_, _, eW_, by first | exact Kd.R_nil _ _ _ _ _ | exact Kd.N_nil _ _ _ _ _ | exact Kd.V_nil _ _ _ _ _ | exact Kd.Q_nil _ _ _ _ _ | exact Kd.S_nil _ _ _ _ _, by first | exact Kd.R_nil _ _ _ _ _ | exact Kd.N_nil _ _ _ _ _ | exact Kd.V_nil _ _ _ _ _ | exact Kd.Q_nil _ _ _ _ _ | exact Kd.S_nil _ _ _ _ _, bU_ HB.out⟩

mutual
def poly_Mul.j0 : Nat → Int → List Int → List Int → Int → Bool → Option (List Int × Int)
 | 0, _, _, _, _, _ => none
 | k + 1, x0, x1, x2, x8, x29 => if x29 = true then (some (([] : List Int), 0)) else (if x8 > 32768 then (some (([] : List Int), 3)) else (if 0 ≤ x8 then (if (x8 : Int).toNat ≤ 35184372088832 then (poly_Mul.l0 k x0 x2 (List.replicate (x8 : Int).toNat 0) x1 (x1.length : Int) 0) else (none)) else (none)))
def poly_Mul.l0 : Nat → Int → List Int → List Int → List Int → Int → Int → Option (List Int × Int)
 | 0, _, _, _, _, _, _ => none
 | k + 1, x0, x2, x9, x43, x44, x45 => if x45 < x44 then (if 0 ≤ x45 then (if x45 < (x43.length : Int) then (if (rd x43 x45) = 0 then (poly_Mul.l0 k x0 x2 x9 x43 x44 (wrap64 (x45 + 1))) else (poly_Mul.l1 k x0 x2 x9 x45 (rd x43 x45) x43 x44 x45 x2 (x2.length : Int) 0)) else (none)) else (none)) else (some (x9, 0))
def poly_Mul.l1 : Nat → Int → List Int → List Int → Int → Int → List Int → Int → Int → List Int → Int → Int → Option (List Int × Int)
 | 0, _, _, _, _, _, _, _, _, _, _, _ => none
 | k + 1, x0, x2, x9, x10, x11, x43, x44, x45, x52, x53, x54 => if x54 < x53 then (if 0 ≤ x54 then (if x54 < (x52.length : Int) then (if 0 ≤ (wrap64 (x10 + x54)) then (if (wrap64 (x10 + x54)) < (x9.length : Int) then ((field_Mul.f x0 x11 (rd x52 x54)).bind fun t231 => ((field_Add.f x0 (rd x9 (wrap64 (x10 + x54))) t231).bind fun t232 => (poly_Mul.l1 k x0 x2 (x9.set ((wrap64 (x10 + x54)) : Int).toNat t232) x10 x11 x43 x44 x45 x52 x53 (wrap64 (x54 + 1))))) else (none)) else (none)) else (none)) else (none)) else (poly_Mul.l0 k x0 x2 x9 x43 x44 (wrap64 (x45 + 1)))
end
def poly_Mul.f (k : Nat) (a0 : Int) (l1 : List Int) (l2 : List Int) : Option (List Int × Int) := (field_Valid.f a0).bind fun t218 => (if t218 = true then ((poly_Normal.f k a0 l1).bind fun t219 => ((poly_Normal.f k a0 l2).bind fun t222 => (if (t219.length : Int) = 0 then (poly_Mul.j0 k a0 t219 t222 (wrap64 ((wrap64 ((t219.length : Int) + (t222.length : Int))) - 1)) true) else (poly_Mul.j0 k a0 t219 t222 (wrap64 ((wrap64 ((t219.length : Int) + (t222.length : Int))) - 1)) ((t222.length : Int) == 0))))) else (some (([] : List Int), 1)))
theorem poly_Mul.mono_l : ∀ k, (∀ y0 y1 y2 y3 y4, LeO (poly_Mul.j0 k y0 y1 y2 y3 y4) (poly_Mul.j0 (k + 1) y0 y1 y2 y3 y4)) ∧ (∀ y0 y1 y2 y3 y4 y5, LeO (poly_Mul.l0 k y0 y1 y2 y3 y4 y5) (poly_Mul.l0 (k + 1) y0 y1 y2 y3 y4 y5)) ∧ (∀ y0 y1 y2 y3 y4 y5 y6 y7 y8 y9 y10, LeO (poly_Mul.l1 k y0 y1 y2 y3 y4 y5 y6 y7 y8 y9 y10) (poly_Mul.l1 (k + 1) y0 y1 y2 y3 y4 y5 y6 y7 y8 y9 y10))
 | 0 => ⟨fun _ _ _ _ _ r h => by simp [poly_Mul.j0] at h, fun _ _ _ _ _ _ r h => by simp [poly_Mul.l0] at h, fun _ _ _ _ _ _ _ _ _ _ _ r h => by simp [poly_Mul.l1] at h⟩
 | k + 1 => by
  obtain ⟨ih0, ih1, ih2⟩ := poly_Mul.mono_l k
  refine ⟨?_, ?_, ?_⟩
  ·intro y0 y1 y2 y3 y4
   unfold poly_Mul.j0
   with_reducible repeat' first | apply ih0 | apply ih1 | apply ih2 | apply poly_Normal.mono | exact LeO.refl _ | exact LeO.none _ | refine LeO.ite ?_ ?_ | refine LeO.bind ?_ (fun _ => ?_)
  ·intro y0 y1 y2 y3 y4 y5
   unfold poly_Mul.l0
   with_reducible repeat' first | apply ih0 | apply ih1 | apply ih2 | apply poly_Normal.mono | exact LeO.refl _ | exact LeO.none _ | refine LeO.ite ?_ ?_ | refine LeO.bind ?_ (fun _ => ?_)
  intro y0 y1 y2 y3 y4 y5 y6 y7 y8 y9 y10
  unfold poly_Mul.l1
  with_reducible repeat' first | apply ih0 | apply ih1 | apply ih2 | apply poly_Normal.mono | exact LeO.refl _ | exact LeO.none _ | refine LeO.ite ?_ ?_ | refine LeO.bind ?_ (fun _ => ?_)
theorem poly_Mul.mono : ∀ a0 a1 a2 k, LeO (poly_Mul.f k a0 a1 a2) (poly_Mul.f (k + 1) a0 a1 a2) := by
 intro a0 a1 a2 k
 obtain ⟨ih0, ih1, ih2⟩ := poly_Mul.mono_l k
 unfold poly_Mul.f
 with_reducible repeat' first | apply ih0 | apply ih1 | apply ih2 | apply poly_Normal.mono | exact LeO.refl _ | exact LeO.none _ | refine LeO.ite ?_ ?_ | refine LeO.bind ?_ (fun _ => ?_)
def poly_Mul.T17 : Bool × List (List Nat × List Nat) := (true, [([], []), ([], []), ([], []), ([1, 2], [1, 2]), ([], []), ([], []), ([], []), ([], []), ([6, 7], [6, 7]), ([5, 8], [5, 8]), ([9], [9]), ([], []), ([], []), ([], []), ([11, 12, 13], [11, 12, 13]), ([4, 10, 14, 14], [4, 10, 14]), ([0, 3, 0, 1, 2, 3, 4, 5, 6, 7, 8, 9, 10, 11, 12, 13, 14, 15], [0, 3]), ([16, 15, 15, 0, 1, 2, 3, 4, 5, 6, 7, 8, 9, 10, 11, 12, 13, 14, 15], [15, 16])])
def poly_Mul.B17 : List Nat := [0, 0, 0, 6, 0, 0, 0, 0, 192, 480, 992, 0, 0, 0, 14336, 32752, 65535, 131071]
theorem poly_Mul.tab17 : rtab .any (opsOf Tryd.f20 17) = poly_Mul.T17 := by kernel_rfl
theorem poly_Mul.bits17 : waitsOk poly_Mul.T17.2 poly_Mul.B17 = true := by kernel_rfl
set_option maxHeartbeats 8000000 in
set_option maxRecDepth 100000 in
theorem poly_Mul.calls (k : Nat) (a0 : Int) (A1 : Option Addr) (c1 : Nat) (l1 : List Int) (A2 : Option Addr) (c2 : Nat) (l2 : List Int) (r1 : List Int) (r2 : Int) (w : World) (hG : Fld w) (hr1 : Kd.C (Kd.int .u64) w A1 l1.length l1) (hc1 : l1.length ≤ c1) (hr2 : Kd.C (Kd.int .u64) w A2 l2.length l2) (hc2 : l2.length ≤ c2) (h : poly_Mul.f k a0 l1 l2 = some (r1, r2)) :
  Calls Tryd.prog 20 #[.int .i64 a0, .slice A1 l1.length c1, .slice A2 l2.length c2] w fun e w' => ∃ v0_ : Value, e = .returned (.tuple #[v0_, .int .i64 r2]) ∧ Kd.R (Kd.int .u64) 32 w' w.heap.size (fun _ => True) v0_ r1 ∧ Below w.heap.size w w' := by
 have HG := ak hG
 clear hG
 have HR1 := ak hr1
 have HC1 := ak hc1
 clear hr1 hc1
 have HR2 := ak hr2
 have HC2 := ak hc2
 clear hr2 hc2
 have HB := ak (Below.refl w.heap.size w)
 have H := h
 clear h
 unfold poly_Mul.f at H
 revert H
 refine bd_ fun t218 A4 H => ?_
 by_cases c5 : t218 = true
 ·subst c5
  rw [if_pos rfl] at H
  revert H
  refine bd_ fun t219 A6 H => ?_
  revert H
  refine bd_ fun t222 A7 H => ?_
  have HC8 := ak H
  clear H
  go_enter Tryd.func20, Tryd.ntmps20
  go_upto_region 5 with (first | ((with_reducible refine gate_callee (f := 47) rfl ?_); refine gl_ (some 15) Tryd.func47 #[.int .i64 a0] ?_; (with_reducible refine (field_Valid.calls a0 true _ A4.out).mono ?_); rintro e w' ⟨rfl, ⟨nd, rfl⟩⟩; refine ⟨_, rfl, ?_⟩) | ((with_reducible refine gate_callee (f := 23) rfl ?_); refine gl_ (some 19) Tryd.func23 #[.int .i64 a0, .slice A1 l1.length c1] ?_; (with_reducible refine (poly_Normal.calls k a0 _ _ l1 t219 _ ?side1 ?side2 ?side3 A6.out).mono ?_); (case side1 => exact fU_ HG.out HB.out); (case side2 => exact cU_ HR1.out); (case side3 => exact HC1.out); rintro e w9 ⟨v220, rfl, ho0, hb⟩; refine ⟨_, rfl, ?_⟩; refine nx2_ (R_lower ho0 (below_size (bU_ HB.out))) (below_step (bU_ HB.out) hb) ?_; clear HB; intro HO221 HB; clear hb ho0) | ((with_reducible refine gate_callee (f := 23) rfl ?_); refine gl_ (some 22) Tryd.func23 #[.int .i64 a0, .slice A2 l2.length c2] ?_; (with_reducible refine (poly_Normal.calls k a0 _ _ l2 t222 _ ?side1 ?side2 ?side3 A7.out).mono ?_); (case side1 => exact fU_ HG.out HB.out); (case side2 => exact cU_ (C_below HR2.out HB.out)); (case side3 => exact HC2.out); rintro e w10 ⟨v223, rfl, ho0, hb⟩; refine ⟨_, rfl, ?_⟩; refine nx3_ (R_elder' (rU_ HO221.out) (R_base ho0) hb) (R_lower (R_new' ho0 (R_lt (rU_ HO221.out))) (below_size (bU_ HB.out))) (below_step (bU_ HB.out) hb) ?_; clear HO221 HB; intro HO221 HO224 HB; clear hb ho0; obtain ⟨Ao11, co11, eo11⟩ := R_slice HO221.out; subst eo11; obtain ⟨Ao12, co12, eo12⟩ := R_slice HO224.out; subst eo12))
  (try simp only [Act.put, s1_, s2_, s3_])
  go_cut [29] (fun v29 wc => ∃ (kq : Nat) (x29_7 : Bool), v29 = .bool x29_7 ∧ Aside0 (poly_Mul.j0 kq a0 t219 t222 (wrap64 ((wrap64 ((t219.length : Int) + (t222.length : Int))) - 1)) x29_7 = some (r1, r2)) ∧ Aside0 (kq ≤ k) ∧ Aside0 (Kd.R (Kd.int .u64) 32 wc w.heap.size (fun k_ => some k_ ≠ ((.slice Ao12 t222.length co12) : Value).ownBlock) (.slice Ao11 t219.length co11) t219) ∧ Aside0 (Kd.R (Kd.int .u64) 32 wc w.heap.size (fun k_ => some k_ ≠ ((.slice Ao11 t219.length co11) : Value).ownBlock) (.slice Ao12 t222.length co12) t222) ∧ Aside0 (Below w.heap.size w wc))
  case first =>
   have H := HC8.out
   clear HC8
   by_cases c13 : (t219.length : Int) = 0
   ·rw [if_pos c13] at H
    have c13b0 := beq_iff_eq.mpr c13
    have c13b1 := bne_eq_false_iff_eq.mpr c13
    clear c13
    (first | rw [c13b0] | (simp only [i64_w, i32_w]; rw [c13b0]) | rw [c13b1] | skip)
    have H' := ak H
    clear H
    go_wp2
    go_meet
    case rel => exact ⟨_, (true), gb_, H', ⟨by first | omega | exact Nat.le_refl _⟩, ⟨R_mono (rU_ HO221.out) (fun _ hk => hk.2)⟩, ⟨R_mono (rU_ HO224.out) (fun _ hk => hk.2)⟩, ⟨bU_ HB.out⟩⟩
   rw [if_neg c13] at H
   have c13b0 := beq_eq_false_iff_ne.mpr c13
   have c13b1 := bne_iff_ne.mpr c13
   have c13b2 : ¬ (t219 = []) := fun h_ => c13 (by rw [h_]; rfl)
   (first | rw [c13b0] | (simp only [i64_w, i32_w]; rw [c13b0]) | rw [c13b1] | skip)
   have H' := ak H
   clear H
   go_wp2
   go_meet
   case rel => exact ⟨_, (((t222.length : Int) == 0)), gb_, H', ⟨by first | omega | exact Nat.le_refl _⟩, ⟨R_mono (rU_ HO221.out) (fun _ hk => hk.2)⟩, ⟨R_mono (rU_ HO224.out) (fun _ hk => hk.2)⟩, ⟨bU_ HB.out⟩⟩
  case rest =>
   clear HC8
   (try clear c1); (try clear c2); (try clear p2); (try clear c4); (try clear c5); (try clear p6); (try clear c13); (try clear c13b0); (try clear c13b1); (try clear c13b2)
   obtain ⟨kq, x29_7, rfl, HA, HJ7, HO_1, HO_2, HB⟩ := hcut
   cases kq with
   | zero => exact absurd HA.out (by simp [poly_Mul.j0])
   | succ kj7 =>
    have H := HA.out
    clear HA
    simp only [poly_Mul.j0] at H
    by_cases c14 : x29_7 = true
    ·subst c14
     rw [if_pos rfl] at H
     simp only [Option.some.injEq, Prod.mk.injEq] at H
     obtain ⟨rfl, rfl⟩ := H
     go_wp2
     go_ret2
     exact ⟨_, eW_, by first | exact Kd.R_nil _ _ _ _ _ | exact Kd.N_nil _ _ _ _ _ | exact Kd.V_nil _ _ _ _ _ | exact Kd.Q_nil _ _ _ _ _ | exact Kd.S_nil _ _ _ _ _, bU_ HB.out⟩
    replace c14 := Bool.eq_false_iff.mpr c14
    subst c14
    rw [if_neg (show ¬ (false = true) by decide)] at H
    by_cases c15 : (wrap64 ((wrap64 ((t219.length : Int) + (t222.length : Int))) - 1)) > 32768
    ·rw [if_pos c15] at H
     have c15b0 : decide (32768 < (wrap64 ((wrap64 ((t219.length : Int) + (t222.length : Int))) - 1))) = true := decide_eq_true c15
     clear c15
     simp only [Option.some.injEq, Prod.mk.injEq] at H
     obtain ⟨rfl, rfl⟩ := H
     go_wp2
     go_ret2
     exact ⟨_, eW_, by first | exact Kd.R_nil _ _ _ _ _ | exact Kd.N_nil _ _ _ _ _ | exact Kd.V_nil _ _ _ _ _ | exact Kd.Q_nil _ _ _ _ _ | exact Kd.S_nil _ _ _ _ _, bU_ HB.out⟩
    rw [if_neg c15] at H
    have c15b0 : decide (32768 < (wrap64 ((wrap64 ((t219.length : Int) + (t222.length : Int))) - 1))) = false := decide_eq_false c15
    clear c15
    obtain ⟨ji16, hji16⟩ : ∃ j_ : Int, (wrap64 ((wrap64 ((t219.length : Int) + (t222.length : Int))) - 1)) = j_ := ⟨_, rfl⟩
    first | rw [hji16] at H | simp only [hji16] at H
    (try rw [hji16] at c15b0)
    have hji16w : (IntKind.i64.wrap ((wrap64 ((t219.length : Int) + (t222.length : Int))) - 1)) = ji16 := (i64_w _).trans hji16
    obtain ⟨c17, H⟩ : (0 ≤ (ji16)) ∧ _ := it_ H
    have c17b0 := eq_true c17
    have c17b1 := decide_eq_true c17
    clear c17
    obtain ⟨c18, H⟩ : (((ji16) : Int).toNat ≤ 35184372088832) ∧ _ := it_ H
    have c18b0 := eq_true c18
    have c18b1 := decide_eq_true c18
    clear c18
    obtain ⟨y225, hy225⟩ : ∃ y_ : List Int, y_ = (List.replicate ((ji16) : Int).toNat 0) := ⟨_, rfl⟩
    first | rw [Option.bind_some, ← hy225] at H | rw [← hy225] at H
    have Ny225 := ak hy225
    clear hy225
    have H' := ak H
    clear H
    go_wp2_with (first | ((with_reducible refine gate_dst (N := 42) rfl ?_); (try (refine gate_guard (by rfl) ?_; dsimp only)); refine R_make (Kd.int .u64) _ 32 rfl (N := 42) rfl 22 _ _ rfl (ji16) ?hx ?hy Tryd.underlying22 (.int .u64 0) 8 info32 rfl (by decide) (by omega) 0 (ok := fun _ => True) (okp := fun _ => True) rfl (fun _ hk => hk) trivial od_ (Nat.le_trans (Nat.mul_le_mul_right _ (od_ : (ji16).toNat ≤ 35184372088832)) (by omega)) (Below.refl _ _) (Nat.le_refl _) ?_; (case hx => first | rfl | (simp only [hji16]; rfl)); (case hy => first | rfl | (simp only [hji16]; rfl)); intro v226 w19 ho20 hb hg_ hnew_; clear hg_ hnew_; (first | rw [← Ny225.out] at ho20 | (simp only [Int.reduceToNat] at ho20; rw [← Ny225.out] at ho20)); refine nx4_ (R_elder' (rU_ HO_1.out) (R_base ho20) hb) (R_elder' (rU_ HO_2.out) (R_base ho20) hb) (R_lower (R_new' (R_new' ho20 (R_lt (rU_ HO_1.out))) (R_lt (rU_ HO_2.out))) (below_size (bU_ HB.out))) (below_step (bU_ HB.out) hb) ?_; clear HO_1 HO_2 HB; intro HO_1 HO_2 HO227 HB; clear hb ho20))
    go_loopg [45] kj7 (fun kq v45 w' => ∃ (x9_2 : List Int) (x45_2 : Int), v45 = .int .i64 x45_2 ∧ Aside0 (poly_Mul.l0 kq a0 t222 x9_2 t219 (t219.length : Int) x45_2 = some (r1, r2)) ∧ Aside0 (kq ≤ kj7) ∧ Aside0 (Kd.R (Kd.int .u64) 32 w' w.heap.size (fun k_ => some k_ ≠ (v226 : Value).ownBlock ∧ some k_ ≠ ((.slice Ao11 t219.length co11) : Value).ownBlock) (.slice Ao12 t222.length co12) t222) ∧ Aside0 (Kd.R (Kd.int .u64) 32 w' w.heap.size (fun k_ => some k_ ≠ ((.slice Ao12 t222.length co12) : Value).ownBlock ∧ some k_ ≠ ((.slice Ao11 t219.length co11) : Value).ownBlock) v226 x9_2) ∧ Aside0 (Kd.R (Kd.int .u64) 32 w' w.heap.size (fun k_ => some k_ ≠ ((.slice Ao12 t222.length co12) : Value).ownBlock ∧ some k_ ≠ (v226 : Value).ownBlock) (.slice Ao11 t219.length co11) t219) ∧ Aside0 (Below w.heap.size w w'))
    case atStart => exact ⟨(y225), (0), gb_, H', ⟨Nat.le_refl _⟩, ⟨R_mono (rU_ HO_2.out) (fun _ hk => ⟨hk.2, hk.1⟩)⟩, ⟨R_mono (rU_ HO227.out) (fun _ hk => ⟨hk.2, hk.1.2⟩)⟩, ⟨rU_ HO_1.out⟩, ⟨bU_ HB.out⟩⟩
    case round =>
     clear H'
     (try clear c1); (try clear c2); (try clear p2); (try clear c4); (try clear c5); (try clear p6); (try clear c13); (try clear c13b0); (try clear c13b1); (try clear c13b2); (try clear c14); (try clear c15); (try clear c15b0); (try clear c17); (try clear c17b0); (try clear c17b1); (try clear c18); (try clear c18b0); (try clear c18b1); (try clear c20)
     obtain ⟨x9_2, x45_2, rfl, HA, HK2, HO_2, HO_9, HO_43, HB⟩ := hrel
     cases gk with
     | zero => exact absurd HA.out (by simp [poly_Mul.l0])
     | succ k2 =>
      have H := HA.out
      clear HA
      simp only [poly_Mul.l0] at H
      by_cases c21 : x45_2 < (t219.length : Int)
      ·rw [if_pos c21] at H
       have c21b0 := decide_eq_true c21
       clear c21
       obtain ⟨c22, H⟩ : (0 ≤ x45_2) ∧ _ := it_ H
       have c22b0 := decide_eq_true c22
       clear c22
       obtain ⟨c23, H⟩ : (x45_2 < (t219.length : Int)) ∧ _ := it_ H
       have c23b0 := decide_eq_true c23
       clear c23
       by_cases c24 : (rd t219 x45_2) = 0
       ·rw [if_pos c24] at H
        have c24b0 := beq_iff_eq.mpr c24
        have c24b1 := bne_eq_false_iff_eq.mpr c24
        clear c24
        have H' := ak H
        clear H
        have pfr25 : 0 ≤ (x45_2 : Int) := od_
        have qfr25 : (x45_2 : Int) < ((t219.length : Int) : Int) := od_
        obtain ⟨gofr25, cofr25, eofr25, gbfr25, glfr25, clfr25, HGfr25⟩ := Kd.R_form HO_43.out (by omega)
        (first | cases eofr25 | (injection eofr25 with ea_ en_ ec_; (first | subst ea_ | (injection ea_ with ea_; subst ea_)); subst ec_; clear en_))
        have GBfr25 := ak gbfr25
        have GGfr25 := ak HGfr25
        clear gbfr25 glfr25 HGfr25
        clear pfr25 qfr25
        have p228 : 0 ≤ (x45_2 : Int) := od_
        have q228 : x45_2 < (t219.length : Int) := od_
        obtain ⟨ad228, e228, hx228_0⟩ := Kd.at_int (R_reads' HO_43.out).2.2 x45_2 p228 q228
        obtain rfl : (⟨gofr25, 0, none⟩ : Addr) = ad228 := (by injection e228)
        (first | simp only [add_plain] at hx228_0 | simp only [add_at] at hx228_0 | simp only [Addr.add, Nat.zero_add] at hx228_0 | skip)
        replace p228 := eq_true p228
        replace q228 := eq_true q228
        go_wp2
        go_roundg k2
        case measure => have := HJ7.out; have := HK2.out; omega
        case rel => exact ⟨(x9_2), (wrap64 (x45_2 + 1)), gb_, H', ⟨by have := HJ7.out; have := HK2.out; omega⟩, ⟨rU_ HO_2.out⟩, ⟨rU_ HO_9.out⟩, ⟨rU_ HO_43.out⟩, ⟨bU_ HB.out⟩⟩
       rw [if_neg c24] at H
       have c24b0 := beq_eq_false_iff_ne.mpr c24
       have c24b1 := bne_iff_ne.mpr c24
       have H' := ak H
       clear H
       have pfr26 : 0 ≤ (x45_2 : Int) := od_
       have qfr26 : (x45_2 : Int) < ((t219.length : Int) : Int) := od_
       obtain ⟨gofr26, cofr26, eofr26, gbfr26, glfr26, clfr26, HGfr26⟩ := Kd.R_form HO_43.out (by omega)
       (first | cases eofr26 | (injection eofr26 with ea_ en_ ec_; (first | subst ea_ | (injection ea_ with ea_; subst ea_)); subst ec_; clear en_))
       have GBfr26 := ak gbfr26
       have GGfr26 := ak HGfr26
       clear gbfr26 glfr26 HGfr26
       clear pfr26 qfr26
       have p228 : 0 ≤ (x45_2 : Int) := od_
       have q228 : x45_2 < (t219.length : Int) := od_
       obtain ⟨ad228, e228, hx228_0⟩ := Kd.at_int (R_reads' HO_43.out).2.2 x45_2 p228 q228
       obtain rfl : (⟨gofr26, 0, none⟩ : Addr) = ad228 := (by injection e228)
       (first | simp only [add_plain] at hx228_0 | simp only [add_at] at hx228_0 | simp only [Addr.add, Nat.zero_add] at hx228_0 | skip)
       replace p228 := eq_true p228
       replace q228 := eq_true q228
       go_wp2
       go_loopg [54] k2 (fun kq v54 w' => ∃ (x9_3 : List Int) (x54_3 : Int), v54 = .int .i64 x54_3 ∧ Aside0 (poly_Mul.l1 kq a0 t222 x9_3 x45_2 (rd t219 x45_2) t219 (t219.length : Int) x45_2 t222 (t222.length : Int) x54_3 = some (r1, r2)) ∧ Aside0 (kq ≤ k2) ∧ Aside0 (Kd.R (Kd.int .u64) 32 w' w.heap.size (fun k_ => some k_ ≠ (v226 : Value).ownBlock ∧ some k_ ≠ ((.slice (some ⟨gofr26, 0, none⟩) t219.length co11) : Value).ownBlock) (.slice Ao12 t222.length co12) t222) ∧ Aside0 (Kd.R (Kd.int .u64) 32 w' w.heap.size (fun k_ => some k_ ≠ ((.slice Ao12 t222.length co12) : Value).ownBlock ∧ some k_ ≠ ((.slice (some ⟨gofr26, 0, none⟩) t219.length co11) : Value).ownBlock ∧ some k_ ≠ ((.slice Ao12 t222.length co12) : Value).ownBlock) v226 x9_3) ∧ Aside0 (Kd.R (Kd.int .u64) 32 w' w.heap.size (fun k_ => some k_ ≠ ((.slice Ao12 t222.length co12) : Value).ownBlock ∧ some k_ ≠ (v226 : Value).ownBlock ∧ some k_ ≠ ((.slice Ao12 t222.length co12) : Value).ownBlock) (.slice (some ⟨gofr26, 0, none⟩) t219.length co11) t219) ∧ Aside0 (Kd.R (Kd.int .u64) 32 w' w.heap.size (fun k_ => some k_ ≠ (v226 : Value).ownBlock ∧ some k_ ≠ ((.slice (some ⟨gofr26, 0, none⟩) t219.length co11) : Value).ownBlock) (.slice Ao12 t222.length co12) t222) ∧ Aside0 (Below w.heap.size w w'))
       case atStart => exact ⟨(x9_2), (0), gb_, H', ⟨Nat.le_refl _⟩, ⟨rU_ HO_2.out⟩, ⟨R_mono (rU_ HO_9.out) (fun _ hk => ⟨hk.1, ⟨hk.2, hk.1⟩⟩)⟩, ⟨R_mono (rU_ HO_43.out) (fun _ hk => ⟨hk.1, ⟨hk.2, hk.1⟩⟩)⟩, ⟨rU_ HO_2.out⟩, ⟨bU_ HB.out⟩⟩
       case round =>
        clear H'
        (try clear c1); (try clear c2); (try clear p2); (try clear q2); (try clear hx2); (try clear c4); (try clear c5); (try clear p6); (try clear c13); (try clear c13b0); (try clear c13b1); (try clear c13b2); (try clear c14); (try clear c15); (try clear c15b0); (try clear c17); (try clear c17b0); (try clear c17b1); (try clear c18); (try clear c18b0); (try clear c18b1); (try clear c20); (try clear c21); (try clear c21b0); (try clear c22); (try clear c22b0); (try clear p22); (try clear q22); (try clear hx22); (try clear c23); (try clear c23b0); (try clear c24); (try clear c24b0); (try clear c24b1); (try clear hx228_0); (try clear p228); (try clear q228)
        obtain ⟨x9_3, x54_3, rfl, HA, HK3, HO_2, HO_9, HO_43, HO_52, HB⟩ := hrel
        cases gk with
        | zero => exact absurd HA.out (by simp [poly_Mul.l1])
        | succ k3 =>
         have H := HA.out
         clear HA
         simp only [poly_Mul.l1] at H
         by_cases c27 : x54_3 < (t222.length : Int)
         ·rw [if_pos c27] at H
          have c27b0 := decide_eq_true c27
          clear c27
          obtain ⟨c28, H⟩ : (0 ≤ x54_3) ∧ _ := it_ H
          have c28b0 := decide_eq_true c28
          clear c28
          obtain ⟨c29, H⟩ : (x54_3 < (t222.length : Int)) ∧ _ := it_ H
          have c29b0 := decide_eq_true c29
          clear c29
          obtain ⟨ji30, hji30⟩ : ∃ j_ : Int, (wrap64 (x45_2 + x54_3)) = j_ := ⟨_, rfl⟩
          first | rw [hji30] at H | simp only [hji30] at H
          have hji30w : (IntKind.i64.wrap (x45_2 + x54_3)) = ji30 := (i64_w _).trans hji30
          obtain ⟨c31, H⟩ : (0 ≤ (ji30)) ∧ _ := it_ H
          have c31b0 := decide_eq_true c31
          clear c31
          obtain ⟨c32, H⟩ : ((ji30) < (x9_3.length : Int)) ∧ _ := it_ H
          have c32b0 := decide_eq_true c32
          clear c32
          revert H
          refine bd_ fun t231 A33 H => ?_
          revert H
          refine bd_ fun t232 A34 H => ?_
          obtain ⟨y233, hy233⟩ : ∃ y_ : List Int, y_ = (x9_3.set ((ji30) : Int).toNat t232) := ⟨_, rfl⟩
          first | rw [Option.bind_some, ← hy233] at H | rw [← hy233] at H
          have Ny233 := ak hy233
          clear hy233
          have H' := ak H
          clear H
          have pfr36 : 0 ≤ (x54_3 : Int) := od_
          have qfr36 : (x54_3 : Int) < ((t222.length : Int) : Int) := od_
          obtain ⟨gofr36, cofr36, eofr36, gbfr36, glfr36, clfr36, HGfr36⟩ := Kd.R_form HO_52.out (by omega)
          (first | cases eofr36 | (injection eofr36 with ea_ en_ ec_; (first | subst ea_ | (injection ea_ with ea_; subst ea_)); subst ec_; clear en_))
          have GBfr36 := ak gbfr36
          have GGfr36 := ak HGfr36
          clear gbfr36 glfr36 HGfr36
          clear pfr36 qfr36
          have p229 : 0 ≤ (x54_3 : Int) := od_
          have q229 : x54_3 < (t222.length : Int) := od_
          obtain ⟨ad229, e229, hx229_0⟩ := Kd.at_int (R_reads' HO_52.out).2.2 x54_3 p229 q229
          obtain rfl : (⟨gofr36, 0, none⟩ : Addr) = ad229 := (by injection e229)
          (first | simp only [add_plain] at hx229_0 | simp only [add_at] at hx229_0 | simp only [Addr.add, Nat.zero_add] at hx229_0 | skip)
          replace p229 := eq_true p229
          replace q229 := eq_true q229
          try go_wp2
          refine nx5_ (R_drew HO_2.out) (R_drew HO_9.out) (R_drew HO_43.out) (R_drew HO_52.out) (below_drew1 HB.out) ?_
          clear HO_2 HO_9 HO_43 HO_52 HB
          intro HO_2 HO_9 HO_43 HO_52 HB
          obtain ⟨Ao39, co39, eo39⟩ := R_slice HO_9.out
          (first | subst eo39 | (injection eo39 with f1_ f2_ f3_; have f4_ := f1_.symm; have f5_ := f3_.symm; clear f1_ f2_ f3_; subst f4_; subst f5_))
          have pfr38 : 0 ≤ ((ji30) : Int) := od_
          have qfr38 : ((ji30) : Int) < ((x9_3.length : Int) : Int) := od_
          obtain ⟨gofr38, cofr38, eofr38, gbfr38, glfr38, clfr38, HGfr38⟩ := Kd.R_form HO_9.out (by omega)
          (first | cases eofr38 | (injection eofr38 with ea_ en_ ec_; (first | subst ea_ | (injection ea_ with ea_; subst ea_)); subst ec_; clear en_))
          have GBfr38 := ak gbfr38
          have GGfr38 := ak HGfr38
          clear gbfr38 glfr38 HGfr38
          clear pfr38 qfr38
          have p230 : 0 ≤ ((ji30) : Int) := od_
          have q230 : (ji30) < (x9_3.length : Int) := od_
          obtain ⟨ad230, e230, hx230_0⟩ := Kd.at_int (R_reads' HO_9.out).2.2 (ji30) p230 q230
          obtain rfl : (⟨gofr38, 0, none⟩ : Addr) = ad230 := (by injection e230)
          (first | simp only [add_plain] at hx230_0 | simp only [add_at] at hx230_0 | simp only [Addr.add, Nat.zero_add] at hx230_0 | skip)
          replace p230 := eq_true p230
          replace q230 := eq_true q230
          refine start_ (n := 18) (S := fun w' => w'.cell? ⟨gofr38, ((ji30)).toNat, none⟩ = some (.int .u64 (rd x9_3 (ji30)))) (ds := [17]) (bv 18 0) (by kernel_rfl) rfl rfl (hx230_0) (fun hHeld => ?_); refine with_tabW poly_Mul.tab17 poly_Mul.bits17 (fun HT_ HW_ => ?_)
          generalize wr.drew = w37 at HO_2 HO_9 HO_43 HO_52 HB hx230_0 hHeld ⊢
          refine pq_ 0 59 18 1 HT_.out ?_
          refine pq_ 1 60 18 3 HT_.out ?_
          refine pq_ 2 61 18 7 HT_.out ?_
          refine pq_ 3 62 18 15 HT_.out ?_
          refine pq_ 4 63 18 31 HT_.out ?_
          refine pq_ 5 64 18 63 HT_.out ?_
          refine pq_ 6 65 18 127 HT_.out ?_
          refine pq_ 7 66 18 255 HT_.out ?_
          refine pq_ 8 67 18 511 HT_.out ?_
          refine pq_ 9 68 18 1023 HT_.out ?_
          refine pq_ 11 70 18 3071 HT_.out ?_
          refine pq_ 12 71 18 7167 HT_.out ?_
          refine pq_ 13 72 18 15359 HT_.out ?_
          refine take_ (i := 10) (N := some 69) (v := ?_) (a' := ?_) (bv 18 16383) rfl rfl (take_ofW HT_.out HW_.out (by kernel_rfl)) (fun _ _ _ h => h) (Or.inl ⟨by rfl, ?_⟩) hHeld ?_ ?_
          rotate_left
          ·intro w' s0
           go_simp
           with_reducible rfl
          rotate_left
          ·simp only [Act.put, s1_, s2_, s3_, i64_w, i32_w]
           rfl
          refine oq_ 14 73 18 32767 HT_.out fun K hK => ?_
          refine gs_ Tryd.func44 #[.int .i64 a0, .int .u64 (rd t219 x45_2), .int .u64 (rd t222 x54_3)] ?_
          with_reducible refine (field_Mul.calls a0 (rd t219 x45_2) (rd t222 x54_3) t231 _ ?side1 A33.out).mono ?_
          (case side1 => exact fU_ HG.out HB.out)
          rintro e w40 ⟨rfl, hb⟩
          have HS0_ := (hb.cell (World.block_lt_of_cell? _ _ (hHeld))).trans (hHeld)
          refine ⟨_, rfl, ?_⟩
          refine nx5_ (R_below (rU_ HO_2.out) hb) (R_below (rU_ HO_9.out) hb) (R_below (rU_ HO_43.out) hb) (R_below (rU_ HO_52.out) hb) (below_step (bU_ HB.out) hb) ?_
          clear HO_2 HO_9 HO_43 HO_52 HB
          intro HO_2 HO_9 HO_43 HO_52 HB
          (try clear hb)
          (try clear hb2)
          (try clear hk)
          (try clear hi)
          refine hK.out _ _ (HS0_) (fun hHeld => ?_)
          clear hK K
          refine norm_ (a' := ?_) ?_ ?_
          rotate_left
          ·show Act.put _ (some 73) _ = _
           simp only [Act.put, s1_, s2_, s3_, i64_w, i32_w]
           rfl
          refine oq_ 15 74 18 65535 HT_.out fun K hK => ?_
          refine goes_ Tryd.func45 (by kernel_rfl) rfl #[.int .i64 a0, .int .u64 (rd x9_3 (ji30)), .int .u64 t231] (by rfl) rfl rfl (by (try simp only [List.map_toArray, List.map_cons, List.map_nil]); first | done | (simp only [hji30]; rfl) | rfl | (simp only [List.length_drop, List.length_take]; rfl)) ?_
          with_reducible refine (field_Add.calls a0 (rd x9_3 (ji30)) t231 t232 _ ?side1 A34.out).mono ?_
          (case side1 => exact fU_ HG.out HB.out)
          rintro e w41 ⟨rfl, hb⟩
          have HS0_ := (hb.cell (World.block_lt_of_cell? _ _ (hHeld))).trans (hHeld)
          refine ⟨_, rfl, ?_⟩
          refine nx5_ (R_below (rU_ HO_2.out) hb) (R_below (rU_ HO_9.out) hb) (R_below (rU_ HO_43.out) hb) (R_below (rU_ HO_52.out) hb) (below_step (bU_ HB.out) hb) ?_
          clear HO_2 HO_9 HO_43 HO_52 HB
          intro HO_2 HO_9 HO_43 HO_52 HB
          (try clear hb)
          (try clear hb2)
          (try clear hk)
          (try clear hi)
          have p35 : 0 ≤ ((ji30) : Int) := od_
          have q35 : ((ji30) : Int) < ((x9_3.length : Int) : Int) := od_
          obtain ⟨hx35_0, hf35_0⟩ := Kd.R_celln 0 HO_9.out ((ji30) : Int) p35 q35
          replace p35 := eq_true p35
          replace q35 := eq_true q35
          have HP42 := Kd.R_putn HO_9.out ((ji30) : Int) t232
          rw [← Ny233.out] at HP42
          have HQ42 := ak HP42
          clear HP42
          refine hK.out _ _ (HS0_) (fun hHeld => ?_)
          clear hK K
          refine norm_ (a' := ?_) ?_ ?_
          rotate_left
          ·show Act.put _ (some 74) _ = _
           simp only [Act.put, s1_, s2_, s3_, i64_w, i32_w]
           rfl
          refine pq_ 16 75 18 131071 HT_.out ?_
          refine last_ (i := 17) (N := none) #[true, true, true, true, true, true, true, true, true, true, true, true, true, true, true, true, true, true] rfl rfl (one_of HT_.out (by kernel_rfl)) (by decide) (fun K hK => ?_)
          refine skip_ (w1 := ?_) (by rfl) rfl ?_ ?_
          rotate_left
          ·go_simp
           rfl
          refine hK.out _ _ ?_
          clear hK K
          refine done_ (done_of HT_.out (by kernel_rfl)) ?_
          try go_wp2
          go_roundg k3
          case measure => have := HJ7.out; have := HK2.out; have := HK3.out; omega
          case rel => exact ⟨(y233), (wrap64 (x54_3 + 1)), gb_, H', ⟨by have := HJ7.out; have := HK2.out; have := HK3.out; omega⟩, ⟨by (with_reducible repeat (first | apply Kd.R_alloc | apply Kd.R_drewN | apply R_drew)); exact R_mono (R_far (p := ⟨gofr38, ((ji30) : Int).toNat, none⟩) (R_mono HO_2.out (fun k_ hk => (⟨hk, fun e_ => hk.1 (by rw [e_]; rfl)⟩ : _ ∧ k_ ≠ gofr38))) (fun _ hk => hk.2) (.int .u64 t232)) (fun _ hk => ⟨hk.1.1, hk.1.2⟩)⟩, ⟨rU_ HQ42.out⟩, ⟨by (with_reducible repeat (first | apply Kd.R_alloc | apply Kd.R_drewN | apply R_drew)); exact R_mono (R_far (p := ⟨gofr38, ((ji30) : Int).toNat, none⟩) (R_mono HO_43.out (fun k_ hk => (⟨hk, fun e_ => hk.2.1 (by rw [e_]; rfl)⟩ : _ ∧ k_ ≠ gofr38))) (fun _ hk => hk.2) (.int .u64 t232)) (fun _ hk => ⟨hk.1.1, ⟨hk.1.2.1, hk.1.2.2⟩⟩)⟩, ⟨by (with_reducible repeat (first | apply Kd.R_alloc | apply Kd.R_drewN | apply R_drew)); exact R_mono (R_far (p := ⟨gofr38, ((ji30) : Int).toNat, none⟩) (R_mono HO_52.out (fun k_ hk => (⟨hk, fun e_ => hk.1 (by rw [e_]; rfl)⟩ : _ ∧ k_ ≠ gofr38))) (fun _ hk => hk.2) (.int .u64 t232)) (fun _ hk => ⟨hk.1.1, hk.1.2⟩)⟩, ⟨sU_⟩⟩
         rw [if_neg c27] at H
         have c27b0 := decide_eq_false c27
         clear c27
         have H' := ak H
         clear H
         go_wp2
         go_roundg k3
         case measure => have := HJ7.out; have := HK2.out; have := HK3.out; omega
         case rel => exact ⟨(x9_3), (wrap64 (x45_2 + 1)), gb_, H', ⟨by have := HJ7.out; have := HK2.out; have := HK3.out; omega⟩, ⟨rU_ HO_2.out⟩, ⟨R_mono (rU_ HO_9.out) (fun _ hk => ⟨hk.1, hk.2.1⟩)⟩, ⟨R_mono (rU_ HO_43.out) (fun _ hk => ⟨hk.1, hk.2.1⟩)⟩, ⟨bU_ HB.out⟩⟩
      rw [if_neg c21] at H
      have c21b0 := decide_eq_false c21
      clear c21
      simp only [Option.some.injEq, Prod.mk.injEq] at H
      obtain ⟨rfl, rfl⟩ := H
      go_wp2
      go_ret2
      exact ⟨_, by first | rfl | (simp [errW_none, errW_some] <;> rfl) | (simp only [← hji16]; first | rfl | (simp [errW_none, errW_some] <;> rfl)) | (simp [*, errW_none, errW_some] <;> rfl), R_mono (rU_ HO_9.out) (fun _ hk => trivial), bU_ HB.out⟩
 replace c5 := Bool.eq_false_iff.mpr c5
 subst c5
 rw [if_neg (show ¬ (false = true) by decide)] at H
 simp only [Option.some.injEq, Prod.mk.injEq] at H
 obtain ⟨rfl, rfl⟩ := H
 go_enter Tryd.func20, Tryd.ntmps20
 go_wp2_with (first | ((with_reducible refine gate_callee (f := 47) rfl ?_); refine gl_ (some 15) Tryd.func47 #[.int .i64 a0] ?_; (with_reducible refine (field_Valid.calls a0 false _ A4.out).mono ?_); rintro e w' ⟨rfl, ⟨nd, rfl⟩⟩; refine ⟨_, rfl, ?_⟩))
 go_ret2
 exact ⟨_, eW_, by first | exact Kd.R_nil _ _ _ _ _ | exact Kd.N_nil _ _ _ _ _ | exact Kd.V_nil _ _ _ _ _ | exact Kd.Q_nil _ _ _ _ _ | exact Kd.S_nil _ _ _ _ _, bU_ HB.out⟩

def attestorlaw03_same.l0 : Nat → List Int → List Int → Int → Option (Bool)
 | 0, _, _, _ => none
 | k + 1, x0, x1, x5 => if x5 < (x0.length : Int) then (if 0 ≤ x5 then (if x5 < (x1.length : Int) then (if (rd x0 x5) = (rd x1 x5) then (attestorlaw03_same.l0 k x0 x1 (wrap64 (x5 + 1))) else (some false)) else (none)) else (none)) else (some true)
def attestorlaw03_same.f (k : Nat) (l0 : List Int) (l1 : List Int) : Option (Bool) := if (l0.length : Int) = (l1.length : Int) then (attestorlaw03_same.l0 k l0 l1 0) else (some false)
theorem attestorlaw03_same.mono_l : ∀ k, (∀ y0 y1 y2, LeO (attestorlaw03_same.l0 k y0 y1 y2) (attestorlaw03_same.l0 (k + 1) y0 y1 y2))
 | 0 => fun _ _ _ r h => by simp [attestorlaw03_same.l0] at h
 | k + 1 => by
  have ih0 := attestorlaw03_same.mono_l k
  ·intro y0 y1 y2
   unfold attestorlaw03_same.l0
   with_reducible repeat' first | apply ih0 | exact LeO.refl _ | exact LeO.none _ | refine LeO.ite ?_ ?_ | refine LeO.bind ?_ (fun _ => ?_)
theorem attestorlaw03_same.mono : ∀ a0 a1 k, LeO (attestorlaw03_same.f k a0 a1) (attestorlaw03_same.f (k + 1) a0 a1) := by
 intro a0 a1 k
 have ih0 := attestorlaw03_same.mono_l k
 unfold attestorlaw03_same.f
 with_reducible repeat' first | apply ih0 | exact LeO.refl _ | exact LeO.none _ | refine LeO.ite ?_ ?_ | refine LeO.bind ?_ (fun _ => ?_)
set_option maxHeartbeats 8000000 in
set_option maxRecDepth 100000 in
theorem attestorlaw03_same.calls (k : Nat) (A0 : Option Addr) (c0 : Nat) (l0 : List Int) (A1 : Option Addr) (c1 : Nat) (l1 : List Int) (r : Bool) (w : World) (hr0 : Kd.C (Kd.int .u64) w A0 l0.length l0) (hc0 : l0.length ≤ c0) (hr1 : Kd.C (Kd.int .u64) w A1 l1.length l1) (hc1 : l1.length ≤ c1) (h : attestorlaw03_same.f k l0 l1 = some r) :
  Calls Tryd.prog 21 #[.slice A0 l0.length c0, .slice A1 l1.length c1] w fun e w' => e = .returned (.bool r) ∧ Drawn0 w w' := by
 have HR0 := ak hr0
 have HC0 := ak hc0
 clear hr0 hc0
 have HR1 := ak hr1
 have HC1 := ak hc1
 clear hr1 hc1
 have H : (if (l0.length : Int) = (l1.length : Int) then (attestorlaw03_same.l0 k l0 l1 0) else (some false)) = some r := h
 clear h
 by_cases c3 : (l0.length : Int) = (l1.length : Int)
 ·rw [if_pos c3] at H
  have c3b0 := beq_iff_eq.mpr c3
  have c3b1 := bne_eq_false_iff_eq.mpr c3
  have c3b2 : (l0.length == l1.length) = true := by first | simpa using c3 | (simp at c3 ⊢; omega)
  clear c3
  have H' := ak H
  clear H
  go_enter Tryd.func21, Tryd.ntmps21
  go_wp2
  repeat (go_quiet (fail); try go_wp2)
  go_loopg [5] k (fun kq v5 w' => ∃ (x5_1 : Int), v5 = .int .i64 x5_1 ∧ Aside0 (attestorlaw03_same.l0 kq l0 l1 x5_1 = some r) ∧ Aside0 (kq ≤ k) ∧ Drawn0 w w')
  case atStart => exact ⟨(0), gb_, H', ⟨Nat.le_refl _⟩, by repeat (first | exact Drawn0.refl _ | apply Drawn0.step)⟩
  case round =>
   clear H'
   (try clear c1); (try clear c2); (try clear p2); (try clear c3); (try clear c3b0); (try clear c3b1); (try clear c3b2)
   obtain ⟨x5_1, rfl, HA, HK1, ⟨m1, rfl⟩⟩ := hrel
   cases gk with
   | zero => exact absurd HA.out (by simp [attestorlaw03_same.l0])
   | succ k1 =>
    have H := HA.out
    clear HA
    simp only [attestorlaw03_same.l0] at H
    by_cases c4 : x5_1 < (l0.length : Int)
    ·rw [if_pos c4] at H
     have c4b0 := decide_eq_true c4
     clear c4
     obtain ⟨c5, H⟩ : (0 ≤ x5_1) ∧ _ := it_ H
     have c5b0 := decide_eq_true c5
     clear c5
     obtain ⟨c6, H⟩ : (x5_1 < (l1.length : Int)) ∧ _ := it_ H
     have c6b0 := decide_eq_true c6
     clear c6
     by_cases c7 : (rd l0 x5_1) = (rd l1 x5_1)
     ·rw [if_pos c7] at H
      have c7b0 := beq_iff_eq.mpr c7
      have c7b1 := bne_eq_false_iff_eq.mpr c7
      clear c7
      have H' := ak H
      clear H
      have p234 : 0 ≤ (x5_1 : Int) := od_
      have q234 : x5_1 < (l0.length : Int) := od_
      obtain ⟨ad234, e234, hx234_0⟩ := Kd.at_int HR0.out x5_1 p234 q234
      cases e234
      replace p234 := eq_true p234
      replace q234 := eq_true q234
      have p235 : 0 ≤ (x5_1 : Int) := od_
      have q235 : x5_1 < (l1.length : Int) := od_
      obtain ⟨ad235, e235, hx235_0⟩ := Kd.at_int HR1.out x5_1 p235 q235
      cases e235
      replace p235 := eq_true p235
      replace q235 := eq_true q235
      go_wp2
      repeat (go_quiet (fail); try go_wp2)
      go_roundg k1
      case measure => have := HK1.out; omega
      case rel => exact ⟨(wrap64 (x5_1 + 1)), gb_, H', ⟨by have := HK1.out; omega⟩, by repeat (first | exact Drawn0.refl _ | apply Drawn0.step)⟩
     rw [if_neg c7] at H
     have c7b0 := beq_eq_false_iff_ne.mpr c7
     have c7b1 := bne_iff_ne.mpr c7
     obtain rfl := Option.some.inj H
     have p234 : 0 ≤ (x5_1 : Int) := od_
     have q234 : x5_1 < (l0.length : Int) := od_
     obtain ⟨ad234, e234, hx234_0⟩ := Kd.at_int HR0.out x5_1 p234 q234
     cases e234
     replace p234 := eq_true p234
     replace q234 := eq_true q234
     have p235 : 0 ≤ (x5_1 : Int) := od_
     have q235 : x5_1 < (l1.length : Int) := od_
     obtain ⟨ad235, e235, hx235_0⟩ := Kd.at_int HR1.out x5_1 p235 q235
     cases e235
     replace p235 := eq_true p235
     replace q235 := eq_true q235
     go_wp2
     repeat (go_quiet (fail); try go_wp2)
     go_ret
     exact ⟨by first | rfl | (simp; done) | (simp [*]; done), by repeat (first | exact Drawn0.refl _ | apply Drawn0.step)⟩
    rw [if_neg c4] at H
    have c4b0 := decide_eq_false c4
    clear c4
    obtain rfl := Option.some.inj H
    go_wp2
    repeat (go_quiet (fail); try go_wp2)
    go_ret
    exact ⟨by first | rfl | (simp; done) | (simp [*]; done), by repeat (first | exact Drawn0.refl _ | apply Drawn0.step)⟩
 rw [if_neg c3] at H
 have c3b0 := beq_eq_false_iff_ne.mpr c3
 have c3b1 := bne_iff_ne.mpr c3
 have c3b2 : (l0.length == l1.length) = false := by first | simpa using c3 | (simp at c3 ⊢; omega)
 obtain rfl := Option.some.inj H
 go_enter Tryd.func21, Tryd.ntmps21
 go_wp2
 repeat (go_quiet (fail); try go_wp2)
 go_ret
 exact ⟨by first | rfl | (simp; done) | (simp [*]; done), by repeat (first | exact Drawn0.refl _ | apply Drawn0.step)⟩

def poly_Shift.l0 : Nat → Int → Int → List Int → Int → List Int → Int → Int → Option (List Int)
 | 0, _, _, _, _, _, _, _ => none
 | k + 1, x0, x2, x7, x8, x14, x15, x16 => if x16 < x15 then (if 0 ≤ x16 then (if x16 < (x14.length : Int) then ((field_Mul.f x0 (rd x14 x16) x8).bind fun t240 => (if x16 < (x7.length : Int) then ((field_Mul.f x0 x8 x2).bind fun t242 => (poly_Shift.l0 k x0 x2 (x7.set (x16 : Int).toNat t240) t242 x14 x15 (wrap64 (x16 + 1)))) else (none))) else (none)) else (none)) else ((poly_trim.f k x7).bind fun t243 => (some t243))
def poly_Shift.f (k : Nat) (a0 : Int) (l1 : List Int) (a2 : Int) : Option (List Int) := if 0 ≤ (l1.length : Int) then (if ((l1.length : Int) : Int).toNat ≤ 35184372088832 then (poly_Shift.l0 k a0 a2 (List.replicate ((l1.length : Int) : Int).toNat 0) 1 l1 (l1.length : Int) 0) else (none)) else (none)
theorem poly_Shift.mono_l : ∀ k, (∀ y0 y1 y2 y3 y4 y5 y6, LeO (poly_Shift.l0 k y0 y1 y2 y3 y4 y5 y6) (poly_Shift.l0 (k + 1) y0 y1 y2 y3 y4 y5 y6))
 | 0 => fun _ _ _ _ _ _ _ r h => by simp [poly_Shift.l0] at h
 | k + 1 => by
  have ih0 := poly_Shift.mono_l k
  ·intro y0 y1 y2 y3 y4 y5 y6
   unfold poly_Shift.l0
   with_reducible repeat' first | apply ih0 | apply poly_trim.mono | exact LeO.refl _ | exact LeO.none _ | refine LeO.ite ?_ ?_ | refine LeO.bind ?_ (fun _ => ?_)
theorem poly_Shift.mono : ∀ a0 a1 a2 k, LeO (poly_Shift.f k a0 a1 a2) (poly_Shift.f (k + 1) a0 a1 a2) := by
 intro a0 a1 a2 k
 have ih0 := poly_Shift.mono_l k
 unfold poly_Shift.f
 with_reducible repeat' first | apply ih0 | apply poly_trim.mono | exact LeO.refl _ | exact LeO.none _ | refine LeO.ite ?_ ?_ | refine LeO.bind ?_ (fun _ => ?_)
set_option maxHeartbeats 8000000 in
set_option maxRecDepth 100000 in
theorem poly_Shift.calls (k : Nat) (a0 : Int) (A1 : Option Addr) (c1 : Nat) (l1 : List Int) (a2 : Int) (r : List Int) (w : World) (hG : Fld w) (hr1 : Kd.C (Kd.int .u64) w A1 l1.length l1) (hc1 : l1.length ≤ c1) (h : poly_Shift.f k a0 l1 a2 = some r) :
  Calls Tryd.prog 35 #[.int .i64 a0, .slice A1 l1.length c1, .int .u64 a2] w fun e w' => ∃ v0_ : Value, e = .returned (v0_) ∧ Kd.R (Kd.int .u64) 32 w' w.heap.size (fun _ => True) v0_ r ∧ Below w.heap.size w w' := by
 have HG := ak hG
 clear hG
 have HR1 := ak hr1
 have HC1 := ak hc1
 clear hr1 hc1
 have HB := ak (Below.refl w.heap.size w)
 have H := h
 clear h
 unfold poly_Shift.f at H
 obtain ⟨c4, H⟩ : (0 ≤ (l1.length : Int)) ∧ _ := it_ H
 have c4b0 := eq_true c4
 have c4b1 := decide_eq_true c4
 clear c4
 obtain ⟨c5, H⟩ : (((l1.length : Int) : Int).toNat ≤ 35184372088832) ∧ _ := it_ H
 have c5b0 := eq_true c5
 have c5b1 := decide_eq_true c5
 clear c5
 obtain ⟨y236, hy236⟩ : ∃ y_ : List Int, y_ = (List.replicate ((l1.length : Int) : Int).toNat 0) := ⟨_, rfl⟩
 first | rw [Option.bind_some, ← hy236] at H | rw [← hy236] at H
 have Ny236 := ak hy236
 clear hy236
 have H' := ak H
 clear H
 go_enter Tryd.func35, Tryd.ntmps35
 go_wp2_with (first | ((with_reducible refine gate_dst (N := 13) rfl ?_); refine R_make (Kd.int .u64) _ 32 rfl (N := 13) rfl 22 _ _ rfl (l1.length : Int) ?hx ?hy Tryd.underlying22 (.int .u64 0) 8 info32 rfl (by decide) (by omega) 0 (ok := fun _ => True) (okp := fun _ => True) rfl (fun _ hk => hk) trivial od_ (Nat.le_trans (Nat.mul_le_mul_right _ (od_ : (l1.length : Int).toNat ≤ 35184372088832)) (by omega)) (Below.refl _ _) (Nat.le_refl _) ?_; (case hx => first | rfl); (case hy => first | rfl); intro v237 w6 ho7 hb hg_ hnew_; clear hg_ hnew_; (first | rw [← Ny236.out] at ho7 | (simp only [Int.reduceToNat] at ho7; rw [← Ny236.out] at ho7)); refine nx2_ (R_lower ho7 (below_size (bU_ HB.out))) (below_step (bU_ HB.out) hb) ?_; clear HB; intro HO238 HB; clear hb ho7))
 go_loopg [8, 16] k (fun kq v8 v16 w' => ∃ (x7_1 : List Int) (x8_1 : Int) (x16_1 : Int), v8 = .int .u64 x8_1 ∧ v16 = .int .i64 x16_1 ∧ Aside0 (poly_Shift.l0 kq a0 a2 x7_1 x8_1 l1 (l1.length : Int) x16_1 = some r) ∧ Aside0 (kq ≤ k) ∧ Aside0 (Kd.R (Kd.int .u64) 32 w' w.heap.size (fun _ => True) v237 x7_1) ∧ Aside0 (Below w.heap.size w w'))
 case atStart => exact ⟨(y236), (1), (0), gb_, gb_, H', ⟨Nat.le_refl _⟩, ⟨rU_ HO238.out⟩, ⟨bU_ HB.out⟩⟩
 case round =>
  clear H'
  (try clear c1); (try clear p2); (try clear c3); (try clear c4); (try clear c4b0); (try clear c4b1); (try clear c5); (try clear c5b0); (try clear c5b1)
  obtain ⟨x7_1, x8_1, x16_1, rfl, rfl, HA, HK1, HO_7, HB⟩ := hrel
  cases gk with
  | zero => exact absurd HA.out (by simp [poly_Shift.l0])
  | succ k1 =>
   have H := HA.out
   clear HA
   simp only [poly_Shift.l0] at H
   by_cases c8 : x16_1 < (l1.length : Int)
   ·rw [if_pos c8] at H
    have c8b0 := decide_eq_true c8
    clear c8
    obtain ⟨c9, H⟩ : (0 ≤ x16_1) ∧ _ := it_ H
    have c9b0 := decide_eq_true c9
    clear c9
    obtain ⟨c10, H⟩ : (x16_1 < (l1.length : Int)) ∧ _ := it_ H
    have c10b0 := decide_eq_true c10
    clear c10
    revert H
    refine bd_ fun t240 A11 H => ?_
    obtain ⟨c12, H⟩ : (x16_1 < (x7_1.length : Int)) ∧ _ := it_ H
    have c12b0 := decide_eq_true c12
    clear c12
    obtain ⟨y241, hy241⟩ : ∃ y_ : List Int, y_ = (x7_1.set (x16_1 : Int).toNat t240) := ⟨_, rfl⟩
    first | rw [Option.bind_some, ← hy241] at H | rw [← hy241] at H
    have Ny241 := ak hy241
    clear hy241
    revert H
    refine bd_ fun t242 A14 H => ?_
    have H' := ak H
    clear H
    have p239 : 0 ≤ (x16_1 : Int) := od_
    have q239 : x16_1 < (l1.length : Int) := od_
    obtain ⟨ad239, e239, hx239_0⟩ := Kd.at_int HR1.out x16_1 p239 q239
    cases e239
    replace hx239_0 := (HB.out.cell (World.block_lt_of_cell? w _ hx239_0)).trans hx239_0
    replace p239 := eq_true p239
    replace q239 := eq_true q239
    go_wp2_with (first | ((with_reducible refine gate_callee (f := 44) rfl ?_); refine gl_ (some 26) Tryd.func44 #[.int .i64 a0, .int .u64 (rd l1 x16_1), .int .u64 x8_1] ?_; (with_reducible refine (field_Mul.calls a0 (rd l1 x16_1) x8_1 t240 _ ?side1 A11.out).mono ?_); (case side1 => exact fU_ HG.out HB.out); rintro e w15 ⟨rfl, hb⟩; refine ⟨_, rfl, ?_⟩; refine nx2_ (R_below (rU_ HO_7.out) hb) (below_step (bU_ HB.out) hb) ?_; clear HO_7 HB; intro HO_7 HB; clear hb; have p13 : 0 ≤ (x16_1 : Int) := od_; have q13 : (x16_1 : Int) < ((x7_1.length : Int) : Int) := od_; obtain ⟨go13, co13, eo13, gb13, gl13, cl13, HG13⟩ := Kd.R_form HO_7.out (by omega); (first | cases eo13 | (injection eo13 with ea_ en_ ec_; (first | subst ea_ | (injection ea_ with ea_; subst ea_)); subst ec_; clear en_)); have GB13 := ak gb13; have GG13 := ak HG13; clear gb13 gl13 HG13; obtain ⟨hx13_0, hf13_0⟩ := Kd.R_celln 0 HO_7.out (x16_1 : Int) p13 q13; replace p13 := eq_true p13; replace q13 := eq_true q13; obtain ⟨hy16_, hz16_⟩ := Kd.R_celln 0 HO_7.out (x16_1 : Int) od_ od_; have HP16 := Kd.R_putg HO_7.out (x16_1 : Int) t240) | ((with_reducible refine gate_store (t := 32) (p := 27) rfl ?_); refine store_event (t := 32) (p := 27) (v := ?vo_w17) (w1 := (w15.setCell ⟨go13, (x16_1 : Int).toNat, none⟩ (.int .u64 t240))) ?hg ?ho ?hn ?hr ?_; (case ho => rfl); (case hg => rfl); (case hn => rfl); (case hr => first | (go_simp; done) | (go_simp; rfl)); intro w17 hw; have hg : w15.grownBy w17 (some go13) := (by rw [hw]; exact HP16.2); have hp_ : Kd.R (Kd.int .u64) 32 w17 w.heap.size (fun _ => True) (.slice (some ⟨go13, 0, none⟩) x7_1.length co13) y241 := (by rw [hw, Ny241.out]; exact HP16.1); clear HP16; refine nx2_ (hp_) ((by rw [hw]; exact below_set (HB.out) GB13.out : Below w.heap.size w w17)) ?_; clear HO_7 HB; intro HO_7 HB; clear hg hw hp_) | ((with_reducible refine gate_callee (f := 44) rfl ?_); refine gl_ (some 31) Tryd.func44 #[.int .i64 a0, .int .u64 x8_1, .int .u64 a2] ?_; (with_reducible refine (field_Mul.calls a0 x8_1 a2 t242 _ ?side1 A14.out).mono ?_); (case side1 => exact fU_ HG.out HB.out); rintro e w18 ⟨rfl, hb⟩; refine ⟨_, rfl, ?_⟩; refine nx2_ (R_below (rU_ HO_7.out) hb) (below_step (bU_ HB.out) hb) ?_; clear HO_7 HB; intro HO_7 HB; clear hb))
    go_roundg k1
    case measure => have := HK1.out; omega
    case rel => exact ⟨(y241), (t242), (wrap64 (x16_1 + 1)), gb_, gb_, H', ⟨by have := HK1.out; omega⟩, ⟨rU_ HO_7.out⟩, ⟨bU_ HB.out⟩⟩
   rw [if_neg c8] at H
   have c8b0 := decide_eq_false c8
   clear c8
   revert H
   refine bd_ fun t243 A19 H => ?_
   obtain rfl := Option.some.inj H
   obtain ⟨Ao20, co20, eo20⟩ := R_slice HO_7.out
   subst eo20
   go_wp2_with (first | ((with_reducible refine gate_callee (f := 56) rfl ?_); refine gl_ (some 34) Tryd.func56 #[.slice Ao20 x7_1.length co20] ?_; (with_reducible refine (poly_trim.calls k1 (fun k_ => some k_ = (.slice Ao20 x7_1.length co20 : Value).ownBlock) (.slice Ao20 x7_1.length co20) x7_1 t243 w _ ?side1 ?side2 A19.out).mono ?_); (case side1 => repeat (first | (with_reducible first | exact HB.out | apply below_alloc | apply pw_below_drewN | apply below_drew1) | exact HB.out)); (case side2 => exact R_tight rfl HO_7.out); rintro e w21 ⟨v244, rfl, ho0, hb, hkp⟩; refine ⟨_, rfl, ?_⟩; refine nx2_ (R_mono (ok' := fun k_ => True) ho0 (fun k_ hk_ => trivial)) (hb) ?_; clear HB HO_7; intro HO245 HB; clear hb hkp ho0))
   go_ret
   exact ⟨_, eW_, rU_ HO245.out, bU_ HB.out⟩

def attestorlaw03_works.f (k : Nat)  : Option (Bool) := (poly_Mul.f k 0 (([1, 1] : List Int)) (([1, 96] : List Int))).bind fun bt252 => ((poly_Divide.f k 0 (([96, 0, 1] : List Int)) (([96, 1] : List Int))).bind fun bt262 => ((poly_Through.f k 0 (([1, 2, 3] : List Int)) (([1, 4, 9] : List Int))).bind fun bt275 => ((poly_Vanish.f k 0 (([1, 2] : List Int))).bind fun bt282 => (if bt252.2 = 0 then ((attestorlaw03_same.f k bt252.1 (([1, 0, 96] : List Int))).bind fun t289 => (if t289 = true then (if bt262.2.2 = 0 then ((attestorlaw03_same.f k bt262.1 (([1, 1] : List Int))).bind fun t293 => (if t293 = true then (if (bt262.2.1.length : Int) = 0 then (if bt275.2 = 0 then ((attestorlaw03_same.f k bt275.1 (([0, 0, 1] : List Int))).bind fun t297 => (if t297 = true then (if bt282.2 = 0 then ((attestorlaw03_same.f k bt282.1 (([2, 94, 1] : List Int))).bind fun t301 => (if t301 = true then ((poly_Eval.f k 0 (([3, 2] : List Int)) 5).bind fun t305 => (if t305 = 13 then ((poly_Shift.f k 0 (([1, 1, 1] : List Int)) 2).bind fun t309 => ((attestorlaw03_same.f k t309 (([1, 2, 4] : List Int))).bind fun t315 => (if t315 = true then ((poly_Degree.f k 0 (([0, 0, 97] : List Int))).bind fun t319 => (some (t319 == (-1)))) else (none)))) else (none))) else (none))) else (none)) else (none))) else (none)) else (none)) else (none))) else (none)) else (none))) else (none)))))
theorem attestorlaw03_works.mono : ∀ k, LeO (attestorlaw03_works.f k ) (attestorlaw03_works.f (k + 1) ) := by
 intro  k
 unfold attestorlaw03_works.f
 with_reducible repeat' first | apply attestorlaw03_same.mono | apply poly_Degree.mono | apply poly_Divide.mono | apply poly_Eval.mono | apply poly_Mul.mono | apply poly_Shift.mono | apply poly_Through.mono | apply poly_Vanish.mono | exact LeO.refl _ | exact LeO.none _ | refine LeO.ite ?_ ?_ | refine LeO.bind ?_ (fun _ => ?_)
set_option maxHeartbeats 8000000 in
set_option maxRecDepth 100000 in
theorem attestorlaw03_works.calls (k : Nat)  (r : Bool) (w : World) (hG : Fld w) (h : attestorlaw03_works.f k  = some r) :
  Calls Tryd.prog 17 #[] w fun e w' => e = .returned (.bool r) ∧ Below w.heap.size w w' := by
 have HG := ak hG
 clear hG
 have HB := ak (Below.refl w.heap.size w)
 have H := h
 clear h
 unfold attestorlaw03_works.f at H
 obtain ⟨y246, hy246⟩ : ∃ y_ : List Int, y_ = (([1, 1] : List Int)) := ⟨_, rfl⟩
 replace H : ((poly_Mul.f k 0 y246 (([1, 96] : List Int))).bind fun bt252 => ((poly_Divide.f k 0 (([96, 0, 1] : List Int)) (([96, 1] : List Int))).bind fun bt262 => ((poly_Through.f k 0 (([1, 2, 3] : List Int)) (([1, 4, 9] : List Int))).bind fun bt275 => ((poly_Vanish.f k 0 (([1, 2] : List Int))).bind fun bt282 => (if bt252.2 = 0 then ((attestorlaw03_same.f k bt252.1 (([1, 0, 96] : List Int))).bind fun t289 => (if t289 = true then (if bt262.2.2 = 0 then ((attestorlaw03_same.f k bt262.1 (([1, 1] : List Int))).bind fun t293 => (if t293 = true then (if (bt262.2.1.length : Int) = 0 then (if bt275.2 = 0 then ((attestorlaw03_same.f k bt275.1 (([0, 0, 1] : List Int))).bind fun t297 => (if t297 = true then (if bt282.2 = 0 then ((attestorlaw03_same.f k bt282.1 (([2, 94, 1] : List Int))).bind fun t301 => (if t301 = true then ((poly_Eval.f k 0 (([3, 2] : List Int)) 5).bind fun t305 => (if t305 = 13 then ((poly_Shift.f k 0 (([1, 1, 1] : List Int)) 2).bind fun t309 => ((attestorlaw03_same.f k t309 (([1, 2, 4] : List Int))).bind fun t315 => (if t315 = true then ((poly_Degree.f k 0 (([0, 0, 97] : List Int))).bind fun t319 => (some (t319 == (-1)))) else (none)))) else (none))) else (none))) else (none)) else (none))) else (none)) else (none)) else (none))) else (none)) else (none))) else (none)))))) = some r := by first | (rw [hy246]; with_reducible exact H) | (have H2_ := (Option.bind_some _ _).symm.trans H; rw [hy246]; with_reducible exact H2_) | (have H2_ := (Option.bind_some _ _).symm.trans H; with_reducible exact H2_) | with_reducible exact H | (rw [hy246]; exact H) | exact H
 have Ny246 := ak hy246
 clear hy246
 obtain ⟨y249, hy249⟩ : ∃ y_ : List Int, y_ = (([1, 96] : List Int)) := ⟨_, rfl⟩
 replace H : ((poly_Mul.f k 0 y246 y249).bind fun bt252 => ((poly_Divide.f k 0 (([96, 0, 1] : List Int)) (([96, 1] : List Int))).bind fun bt262 => ((poly_Through.f k 0 (([1, 2, 3] : List Int)) (([1, 4, 9] : List Int))).bind fun bt275 => ((poly_Vanish.f k 0 (([1, 2] : List Int))).bind fun bt282 => (if bt252.2 = 0 then ((attestorlaw03_same.f k bt252.1 (([1, 0, 96] : List Int))).bind fun t289 => (if t289 = true then (if bt262.2.2 = 0 then ((attestorlaw03_same.f k bt262.1 (([1, 1] : List Int))).bind fun t293 => (if t293 = true then (if (bt262.2.1.length : Int) = 0 then (if bt275.2 = 0 then ((attestorlaw03_same.f k bt275.1 (([0, 0, 1] : List Int))).bind fun t297 => (if t297 = true then (if bt282.2 = 0 then ((attestorlaw03_same.f k bt282.1 (([2, 94, 1] : List Int))).bind fun t301 => (if t301 = true then ((poly_Eval.f k 0 (([3, 2] : List Int)) 5).bind fun t305 => (if t305 = 13 then ((poly_Shift.f k 0 (([1, 1, 1] : List Int)) 2).bind fun t309 => ((attestorlaw03_same.f k t309 (([1, 2, 4] : List Int))).bind fun t315 => (if t315 = true then ((poly_Degree.f k 0 (([0, 0, 97] : List Int))).bind fun t319 => (some (t319 == (-1)))) else (none)))) else (none))) else (none))) else (none)) else (none))) else (none)) else (none)) else (none))) else (none)) else (none))) else (none)))))) = some r := by first | (rw [hy249]; with_reducible exact H) | (have H2_ := (Option.bind_some _ _).symm.trans H; rw [hy249]; with_reducible exact H2_) | (have H2_ := (Option.bind_some _ _).symm.trans H; with_reducible exact H2_) | with_reducible exact H | (rw [hy249]; exact H) | exact H
 have Ny249 := ak hy249
 clear hy249
 revert H
 refine bd2_ fun t252 t253 A1 H => ?_
 try dsimp only at H
 obtain ⟨y256, hy256⟩ : ∃ y_ : List Int, y_ = (([96, 0, 1] : List Int)) := ⟨_, rfl⟩
 replace H : ((poly_Divide.f k 0 y256 (([96, 1] : List Int))).bind fun bt262 => ((poly_Through.f k 0 (([1, 2, 3] : List Int)) (([1, 4, 9] : List Int))).bind fun bt275 => ((poly_Vanish.f k 0 (([1, 2] : List Int))).bind fun bt282 => (if t253 = 0 then ((attestorlaw03_same.f k t252 (([1, 0, 96] : List Int))).bind fun t289 => (if t289 = true then (if bt262.2.2 = 0 then ((attestorlaw03_same.f k bt262.1 (([1, 1] : List Int))).bind fun t293 => (if t293 = true then (if (bt262.2.1.length : Int) = 0 then (if bt275.2 = 0 then ((attestorlaw03_same.f k bt275.1 (([0, 0, 1] : List Int))).bind fun t297 => (if t297 = true then (if bt282.2 = 0 then ((attestorlaw03_same.f k bt282.1 (([2, 94, 1] : List Int))).bind fun t301 => (if t301 = true then ((poly_Eval.f k 0 (([3, 2] : List Int)) 5).bind fun t305 => (if t305 = 13 then ((poly_Shift.f k 0 (([1, 1, 1] : List Int)) 2).bind fun t309 => ((attestorlaw03_same.f k t309 (([1, 2, 4] : List Int))).bind fun t315 => (if t315 = true then ((poly_Degree.f k 0 (([0, 0, 97] : List Int))).bind fun t319 => (some (t319 == (-1)))) else (none)))) else (none))) else (none))) else (none)) else (none))) else (none)) else (none)) else (none))) else (none)) else (none))) else (none))))) = some r := by first | (rw [hy256]; with_reducible exact H) | (have H2_ := (Option.bind_some _ _).symm.trans H; rw [hy256]; with_reducible exact H2_) | (have H2_ := (Option.bind_some _ _).symm.trans H; with_reducible exact H2_) | with_reducible exact H | (rw [hy256]; exact H) | exact H
 have Ny256 := ak hy256
 clear hy256
 obtain ⟨y259, hy259⟩ : ∃ y_ : List Int, y_ = (([96, 1] : List Int)) := ⟨_, rfl⟩
 replace H : ((poly_Divide.f k 0 y256 y259).bind fun bt262 => ((poly_Through.f k 0 (([1, 2, 3] : List Int)) (([1, 4, 9] : List Int))).bind fun bt275 => ((poly_Vanish.f k 0 (([1, 2] : List Int))).bind fun bt282 => (if t253 = 0 then ((attestorlaw03_same.f k t252 (([1, 0, 96] : List Int))).bind fun t289 => (if t289 = true then (if bt262.2.2 = 0 then ((attestorlaw03_same.f k bt262.1 (([1, 1] : List Int))).bind fun t293 => (if t293 = true then (if (bt262.2.1.length : Int) = 0 then (if bt275.2 = 0 then ((attestorlaw03_same.f k bt275.1 (([0, 0, 1] : List Int))).bind fun t297 => (if t297 = true then (if bt282.2 = 0 then ((attestorlaw03_same.f k bt282.1 (([2, 94, 1] : List Int))).bind fun t301 => (if t301 = true then ((poly_Eval.f k 0 (([3, 2] : List Int)) 5).bind fun t305 => (if t305 = 13 then ((poly_Shift.f k 0 (([1, 1, 1] : List Int)) 2).bind fun t309 => ((attestorlaw03_same.f k t309 (([1, 2, 4] : List Int))).bind fun t315 => (if t315 = true then ((poly_Degree.f k 0 (([0, 0, 97] : List Int))).bind fun t319 => (some (t319 == (-1)))) else (none)))) else (none))) else (none))) else (none)) else (none))) else (none)) else (none)) else (none))) else (none)) else (none))) else (none))))) = some r := by first | (rw [hy259]; with_reducible exact H) | (have H2_ := (Option.bind_some _ _).symm.trans H; rw [hy259]; with_reducible exact H2_) | (have H2_ := (Option.bind_some _ _).symm.trans H; with_reducible exact H2_) | with_reducible exact H | (rw [hy259]; exact H) | exact H
 have Ny259 := ak hy259
 clear hy259
 revert H
 refine bd3_ fun t262 t263 t264 A2 H => ?_
 try dsimp only at H
 obtain ⟨y269, hy269⟩ : ∃ y_ : List Int, y_ = (([1, 2, 3] : List Int)) := ⟨_, rfl⟩
 replace H : ((poly_Through.f k 0 y269 (([1, 4, 9] : List Int))).bind fun bt275 => ((poly_Vanish.f k 0 (([1, 2] : List Int))).bind fun bt282 => (if t253 = 0 then ((attestorlaw03_same.f k t252 (([1, 0, 96] : List Int))).bind fun t289 => (if t289 = true then (if t264 = 0 then ((attestorlaw03_same.f k t262 (([1, 1] : List Int))).bind fun t293 => (if t293 = true then (if (t263.length : Int) = 0 then (if bt275.2 = 0 then ((attestorlaw03_same.f k bt275.1 (([0, 0, 1] : List Int))).bind fun t297 => (if t297 = true then (if bt282.2 = 0 then ((attestorlaw03_same.f k bt282.1 (([2, 94, 1] : List Int))).bind fun t301 => (if t301 = true then ((poly_Eval.f k 0 (([3, 2] : List Int)) 5).bind fun t305 => (if t305 = 13 then ((poly_Shift.f k 0 (([1, 1, 1] : List Int)) 2).bind fun t309 => ((attestorlaw03_same.f k t309 (([1, 2, 4] : List Int))).bind fun t315 => (if t315 = true then ((poly_Degree.f k 0 (([0, 0, 97] : List Int))).bind fun t319 => (some (t319 == (-1)))) else (none)))) else (none))) else (none))) else (none)) else (none))) else (none)) else (none)) else (none))) else (none)) else (none))) else (none)))) = some r := by first | (rw [hy269]; with_reducible exact H) | (have H2_ := (Option.bind_some _ _).symm.trans H; rw [hy269]; with_reducible exact H2_) | (have H2_ := (Option.bind_some _ _).symm.trans H; with_reducible exact H2_) | with_reducible exact H | (rw [hy269]; exact H) | exact H
 have Ny269 := ak hy269
 clear hy269
 obtain ⟨y272, hy272⟩ : ∃ y_ : List Int, y_ = (([1, 4, 9] : List Int)) := ⟨_, rfl⟩
 replace H : ((poly_Through.f k 0 y269 y272).bind fun bt275 => ((poly_Vanish.f k 0 (([1, 2] : List Int))).bind fun bt282 => (if t253 = 0 then ((attestorlaw03_same.f k t252 (([1, 0, 96] : List Int))).bind fun t289 => (if t289 = true then (if t264 = 0 then ((attestorlaw03_same.f k t262 (([1, 1] : List Int))).bind fun t293 => (if t293 = true then (if (t263.length : Int) = 0 then (if bt275.2 = 0 then ((attestorlaw03_same.f k bt275.1 (([0, 0, 1] : List Int))).bind fun t297 => (if t297 = true then (if bt282.2 = 0 then ((attestorlaw03_same.f k bt282.1 (([2, 94, 1] : List Int))).bind fun t301 => (if t301 = true then ((poly_Eval.f k 0 (([3, 2] : List Int)) 5).bind fun t305 => (if t305 = 13 then ((poly_Shift.f k 0 (([1, 1, 1] : List Int)) 2).bind fun t309 => ((attestorlaw03_same.f k t309 (([1, 2, 4] : List Int))).bind fun t315 => (if t315 = true then ((poly_Degree.f k 0 (([0, 0, 97] : List Int))).bind fun t319 => (some (t319 == (-1)))) else (none)))) else (none))) else (none))) else (none)) else (none))) else (none)) else (none)) else (none))) else (none)) else (none))) else (none)))) = some r := by first | (rw [hy272]; with_reducible exact H) | (have H2_ := (Option.bind_some _ _).symm.trans H; rw [hy272]; with_reducible exact H2_) | (have H2_ := (Option.bind_some _ _).symm.trans H; with_reducible exact H2_) | with_reducible exact H | (rw [hy272]; exact H) | exact H
 have Ny272 := ak hy272
 clear hy272
 revert H
 refine bd2_ fun t275 t276 A3 H => ?_
 try dsimp only at H
 obtain ⟨y279, hy279⟩ : ∃ y_ : List Int, y_ = (([1, 2] : List Int)) := ⟨_, rfl⟩
 replace H : ((poly_Vanish.f k 0 y279).bind fun bt282 => (if t253 = 0 then ((attestorlaw03_same.f k t252 (([1, 0, 96] : List Int))).bind fun t289 => (if t289 = true then (if t264 = 0 then ((attestorlaw03_same.f k t262 (([1, 1] : List Int))).bind fun t293 => (if t293 = true then (if (t263.length : Int) = 0 then (if t276 = 0 then ((attestorlaw03_same.f k t275 (([0, 0, 1] : List Int))).bind fun t297 => (if t297 = true then (if bt282.2 = 0 then ((attestorlaw03_same.f k bt282.1 (([2, 94, 1] : List Int))).bind fun t301 => (if t301 = true then ((poly_Eval.f k 0 (([3, 2] : List Int)) 5).bind fun t305 => (if t305 = 13 then ((poly_Shift.f k 0 (([1, 1, 1] : List Int)) 2).bind fun t309 => ((attestorlaw03_same.f k t309 (([1, 2, 4] : List Int))).bind fun t315 => (if t315 = true then ((poly_Degree.f k 0 (([0, 0, 97] : List Int))).bind fun t319 => (some (t319 == (-1)))) else (none)))) else (none))) else (none))) else (none)) else (none))) else (none)) else (none)) else (none))) else (none)) else (none))) else (none))) = some r := by first | (rw [hy279]; with_reducible exact H) | (have H2_ := (Option.bind_some _ _).symm.trans H; rw [hy279]; with_reducible exact H2_) | (have H2_ := (Option.bind_some _ _).symm.trans H; with_reducible exact H2_) | with_reducible exact H | (rw [hy279]; exact H) | exact H
 have Ny279 := ak hy279
 clear hy279
 revert H
 refine bd2_ fun t282 t283 A4 H => ?_
 try dsimp only at H
 obtain ⟨c5, H⟩ : (t253 = 0) ∧ _ := it_ H
 have c5b0 := beq_iff_eq.mpr c5
 have c5b1 := bne_eq_false_iff_eq.mpr c5
 clear c5
 obtain ⟨y286, hy286⟩ : ∃ y_ : List Int, y_ = (([1, 0, 96] : List Int)) := ⟨_, rfl⟩
 replace H : ((attestorlaw03_same.f k t252 y286).bind fun t289 => (if t289 = true then (if t264 = 0 then ((attestorlaw03_same.f k t262 (([1, 1] : List Int))).bind fun t293 => (if t293 = true then (if (t263.length : Int) = 0 then (if t276 = 0 then ((attestorlaw03_same.f k t275 (([0, 0, 1] : List Int))).bind fun t297 => (if t297 = true then (if t283 = 0 then ((attestorlaw03_same.f k t282 (([2, 94, 1] : List Int))).bind fun t301 => (if t301 = true then ((poly_Eval.f k 0 (([3, 2] : List Int)) 5).bind fun t305 => (if t305 = 13 then ((poly_Shift.f k 0 (([1, 1, 1] : List Int)) 2).bind fun t309 => ((attestorlaw03_same.f k t309 (([1, 2, 4] : List Int))).bind fun t315 => (if t315 = true then ((poly_Degree.f k 0 (([0, 0, 97] : List Int))).bind fun t319 => (some (t319 == (-1)))) else (none)))) else (none))) else (none))) else (none)) else (none))) else (none)) else (none)) else (none))) else (none)) else (none))) = some r := by first | (rw [hy286]; with_reducible exact H) | (have H2_ := (Option.bind_some _ _).symm.trans H; rw [hy286]; with_reducible exact H2_) | (have H2_ := (Option.bind_some _ _).symm.trans H; with_reducible exact H2_) | with_reducible exact H | (rw [hy286]; exact H) | exact H
 have Ny286 := ak hy286
 clear hy286
 revert H
 refine bd_ fun t289 A6 H => ?_
 by_cases c7 : t289 = true
 ·subst c7
  rw [if_pos rfl] at H
  obtain ⟨c8, H⟩ : (t264 = 0) ∧ _ := it_ H
  have c8b0 := beq_iff_eq.mpr c8
  have c8b1 := bne_eq_false_iff_eq.mpr c8
  clear c8
  obtain ⟨y290, hy290⟩ : ∃ y_ : List Int, y_ = (([1, 1] : List Int)) := ⟨_, rfl⟩
  replace H : ((attestorlaw03_same.f k t262 y290).bind fun t293 => (if t293 = true then (if (t263.length : Int) = 0 then (if t276 = 0 then ((attestorlaw03_same.f k t275 (([0, 0, 1] : List Int))).bind fun t297 => (if t297 = true then (if t283 = 0 then ((attestorlaw03_same.f k t282 (([2, 94, 1] : List Int))).bind fun t301 => (if t301 = true then ((poly_Eval.f k 0 (([3, 2] : List Int)) 5).bind fun t305 => (if t305 = 13 then ((poly_Shift.f k 0 (([1, 1, 1] : List Int)) 2).bind fun t309 => ((attestorlaw03_same.f k t309 (([1, 2, 4] : List Int))).bind fun t315 => (if t315 = true then ((poly_Degree.f k 0 (([0, 0, 97] : List Int))).bind fun t319 => (some (t319 == (-1)))) else (none)))) else (none))) else (none))) else (none)) else (none))) else (none)) else (none)) else (none))) = some r := by first | (rw [hy290]; with_reducible exact H) | (have H2_ := (Option.bind_some _ _).symm.trans H; rw [hy290]; with_reducible exact H2_) | (have H2_ := (Option.bind_some _ _).symm.trans H; with_reducible exact H2_) | with_reducible exact H | (rw [hy290]; exact H) | exact H
  have Ny290 := ak hy290
  clear hy290
  revert H
  refine bd_ fun t293 A9 H => ?_
  by_cases c10 : t293 = true
  ·subst c10
   rw [if_pos rfl] at H
   obtain ⟨c11, H⟩ : ((t263.length : Int) = 0) ∧ _ := it_ H
   have c11b0 := beq_iff_eq.mpr c11
   have c11b1 := bne_eq_false_iff_eq.mpr c11
   clear c11
   obtain ⟨c12, H⟩ : (t276 = 0) ∧ _ := it_ H
   have c12b0 := beq_iff_eq.mpr c12
   have c12b1 := bne_eq_false_iff_eq.mpr c12
   clear c12
   obtain ⟨y294, hy294⟩ : ∃ y_ : List Int, y_ = (([0, 0, 1] : List Int)) := ⟨_, rfl⟩
   replace H : ((attestorlaw03_same.f k t275 y294).bind fun t297 => (if t297 = true then (if t283 = 0 then ((attestorlaw03_same.f k t282 (([2, 94, 1] : List Int))).bind fun t301 => (if t301 = true then ((poly_Eval.f k 0 (([3, 2] : List Int)) 5).bind fun t305 => (if t305 = 13 then ((poly_Shift.f k 0 (([1, 1, 1] : List Int)) 2).bind fun t309 => ((attestorlaw03_same.f k t309 (([1, 2, 4] : List Int))).bind fun t315 => (if t315 = true then ((poly_Degree.f k 0 (([0, 0, 97] : List Int))).bind fun t319 => (some (t319 == (-1)))) else (none)))) else (none))) else (none))) else (none)) else (none))) = some r := by first | (rw [hy294]; with_reducible exact H) | (have H2_ := (Option.bind_some _ _).symm.trans H; rw [hy294]; with_reducible exact H2_) | (have H2_ := (Option.bind_some _ _).symm.trans H; with_reducible exact H2_) | with_reducible exact H | (rw [hy294]; exact H) | exact H
   have Ny294 := ak hy294
   clear hy294
   revert H
   refine bd_ fun t297 A13 H => ?_
   by_cases c14 : t297 = true
   ·subst c14
    rw [if_pos rfl] at H
    obtain ⟨c15, H⟩ : (t283 = 0) ∧ _ := it_ H
    have c15b0 := beq_iff_eq.mpr c15
    have c15b1 := bne_eq_false_iff_eq.mpr c15
    clear c15
    obtain ⟨y298, hy298⟩ : ∃ y_ : List Int, y_ = (([2, 94, 1] : List Int)) := ⟨_, rfl⟩
    replace H : ((attestorlaw03_same.f k t282 y298).bind fun t301 => (if t301 = true then ((poly_Eval.f k 0 (([3, 2] : List Int)) 5).bind fun t305 => (if t305 = 13 then ((poly_Shift.f k 0 (([1, 1, 1] : List Int)) 2).bind fun t309 => ((attestorlaw03_same.f k t309 (([1, 2, 4] : List Int))).bind fun t315 => (if t315 = true then ((poly_Degree.f k 0 (([0, 0, 97] : List Int))).bind fun t319 => (some (t319 == (-1)))) else (none)))) else (none))) else (none))) = some r := by first | (rw [hy298]; with_reducible exact H) | (have H2_ := (Option.bind_some _ _).symm.trans H; rw [hy298]; with_reducible exact H2_) | (have H2_ := (Option.bind_some _ _).symm.trans H; with_reducible exact H2_) | with_reducible exact H | (rw [hy298]; exact H) | exact H
    have Ny298 := ak hy298
    clear hy298
    revert H
    refine bd_ fun t301 A16 H => ?_
    by_cases c17 : t301 = true
    ·subst c17
     rw [if_pos rfl] at H
     obtain ⟨y302, hy302⟩ : ∃ y_ : List Int, y_ = (([3, 2] : List Int)) := ⟨_, rfl⟩
     replace H : ((poly_Eval.f k 0 y302 5).bind fun t305 => (if t305 = 13 then ((poly_Shift.f k 0 (([1, 1, 1] : List Int)) 2).bind fun t309 => ((attestorlaw03_same.f k t309 (([1, 2, 4] : List Int))).bind fun t315 => (if t315 = true then ((poly_Degree.f k 0 (([0, 0, 97] : List Int))).bind fun t319 => (some (t319 == (-1)))) else (none)))) else (none))) = some r := by first | (rw [hy302]; with_reducible exact H) | (have H2_ := (Option.bind_some _ _).symm.trans H; rw [hy302]; with_reducible exact H2_) | (have H2_ := (Option.bind_some _ _).symm.trans H; with_reducible exact H2_) | with_reducible exact H | (rw [hy302]; exact H) | exact H
     have Ny302 := ak hy302
     clear hy302
     revert H
     refine bd_ fun t305 A18 H => ?_
     obtain ⟨c19, H⟩ : (t305 = 13) ∧ _ := it_ H
     have c19b0 := beq_iff_eq.mpr c19
     have c19b1 := bne_eq_false_iff_eq.mpr c19
     clear c19
     obtain ⟨y306, hy306⟩ : ∃ y_ : List Int, y_ = (([1, 1, 1] : List Int)) := ⟨_, rfl⟩
     replace H : ((poly_Shift.f k 0 y306 2).bind fun t309 => ((attestorlaw03_same.f k t309 (([1, 2, 4] : List Int))).bind fun t315 => (if t315 = true then ((poly_Degree.f k 0 (([0, 0, 97] : List Int))).bind fun t319 => (some (t319 == (-1)))) else (none)))) = some r := by first | (rw [hy306]; with_reducible exact H) | (have H2_ := (Option.bind_some _ _).symm.trans H; rw [hy306]; with_reducible exact H2_) | (have H2_ := (Option.bind_some _ _).symm.trans H; with_reducible exact H2_) | with_reducible exact H | (rw [hy306]; exact H) | exact H
     have Ny306 := ak hy306
     clear hy306
     revert H
     refine bd_ fun t309 A20 H => ?_
     obtain ⟨y312, hy312⟩ : ∃ y_ : List Int, y_ = (([1, 2, 4] : List Int)) := ⟨_, rfl⟩
     replace H : ((attestorlaw03_same.f k t309 y312).bind fun t315 => (if t315 = true then ((poly_Degree.f k 0 (([0, 0, 97] : List Int))).bind fun t319 => (some (t319 == (-1)))) else (none))) = some r := by first | (rw [hy312]; with_reducible exact H) | (have H2_ := (Option.bind_some _ _).symm.trans H; rw [hy312]; with_reducible exact H2_) | (have H2_ := (Option.bind_some _ _).symm.trans H; with_reducible exact H2_) | with_reducible exact H | (rw [hy312]; exact H) | exact H
     have Ny312 := ak hy312
     clear hy312
     revert H
     refine bd_ fun t315 A21 H => ?_
     by_cases c22 : t315 = true
     ·subst c22
      rw [if_pos rfl] at H
      obtain ⟨y316, hy316⟩ : ∃ y_ : List Int, y_ = (([0, 0, 97] : List Int)) := ⟨_, rfl⟩
      replace H : ((poly_Degree.f k 0 y316).bind fun t319 => (some (t319 == (-1)))) = some r := by first | (rw [hy316]; with_reducible exact H) | (have H2_ := (Option.bind_some _ _).symm.trans H; rw [hy316]; with_reducible exact H2_) | (have H2_ := (Option.bind_some _ _).symm.trans H; with_reducible exact H2_) | with_reducible exact H | (rw [hy316]; exact H) | exact H
      have Ny316 := ak hy316
      clear hy316
      revert H
      refine bd_ fun t319 A23 H => ?_
      obtain rfl := Option.some.inj H
      go_enter Tryd.func17, Tryd.ntmps17
      go_wp2_with (first | ((with_reducible refine gate_dst (N := 11) rfl ?_); (try (refine gate_guard (by rfl) ?_; dsimp only)); refine R_lit (Kd.int .u64) _ 32 ?hg (N := 11) ?hd (xs := ([1, 1] : List Int)) (inner := [.int .u64 1, .int .u64 1]) (ok := fun _ => True) (okp := fun _ => True) ?hr ?hp (fun _ hk => hk) trivial (Below.refl _ _) (Nat.le_refl _) (by simp) ?_; (case hd => rfl); (case hg => rfl); (case hr => first | (go_simp; done) | (go_simp; rfl)); (case hp => exact (Reps.one (show Kd.M (Kd.int .u64) _ _ _ 1 [.int .u64 1] from rfl) (Reps.one (show Kd.M (Kd.int .u64) _ _ _ 1 [.int .u64 1] from rfl) (Reps.none _ _)))); intro v247 w24 ho25 hb hg_ hnew_; clear hg_ hnew_; (first | rw [← Ny246.out] at ho25 | (simp only [Int.reduceToNat] at ho25; rw [← Ny246.out] at ho25)); refine nx2_ (R_lower ho25 (below_size (bU_ HB.out))) (below_step (bU_ HB.out) hb) ?_; clear HB; intro HO248 HB; clear hb ho25) | ((with_reducible refine gate_dst (N := 12) rfl ?_); (try (refine gate_guard (by rfl) ?_; dsimp only)); refine R_lit (Kd.int .u64) _ 32 ?hg (N := 12) ?hd (xs := ([1, 96] : List Int)) (inner := [.int .u64 1, .int .u64 96]) (ok := fun _ => True) (okp := fun _ => True) ?hr ?hp (fun _ hk => hk) trivial (Below.refl _ _) (Nat.le_refl _) (by simp) ?_; (case hd => rfl); (case hg => rfl); (case hr => first | (go_simp; done) | (go_simp; rfl)); (case hp => exact (Reps.one (show Kd.M (Kd.int .u64) _ _ _ 1 [.int .u64 1] from rfl) (Reps.one (show Kd.M (Kd.int .u64) _ _ _ 96 [.int .u64 96] from rfl) (Reps.none _ _)))); intro v250 w26 ho27 hb hg_ hnew_; clear hg_ hnew_; (first | rw [← Ny249.out] at ho27 | (simp only [Int.reduceToNat] at ho27; rw [← Ny249.out] at ho27)); refine nx3_ (R_elder' (rU_ HO248.out) (R_base ho27) hb) (R_lower (R_new' ho27 (R_lt (rU_ HO248.out))) (below_size (bU_ HB.out))) (below_step (bU_ HB.out) hb) ?_; clear HO248 HB; intro HO248 HO251 HB; clear hb ho27; obtain ⟨Ao28, co28, eo28⟩ := R_slice HO248.out; subst eo28; obtain ⟨Ao29, co29, eo29⟩ := R_slice HO251.out; subst eo29) | ((with_reducible refine gate_callee (f := 20) rfl ?_); refine gl_ (some 13) Tryd.func20 #[.int .i64 0, .slice Ao28 y246.length co28, .slice Ao29 y249.length co29] ?_; (with_reducible refine (poly_Mul.calls k 0 _ _ y246 _ _ y249 t252 t253 _ ?side1 ?side2 ?side3 ?side4 ?side5 A1.out).mono ?_); (case side1 => exact fU_ HG.out HB.out); (case side2 => exact cU_ ((R_reads' HO248.out).2.2)); (case side3 => exact (R_reads' HO248.out).2.1); (case side4 => exact cU_ ((R_reads' HO251.out).2.2)); (case side5 => exact (R_reads' HO251.out).2.1); rintro e w30 ⟨v254, rfl, ho0, hb⟩; refine ⟨_, rfl, ?_⟩; refine nx4_ (R_elder' (rU_ HO248.out) (R_base ho0) hb) (R_elder' (rU_ HO251.out) (R_base ho0) hb) (R_lower (R_new' (R_new' ho0 (R_lt (rU_ HO248.out))) (R_lt (rU_ HO251.out))) (below_size (bU_ HB.out))) (below_step (bU_ HB.out) hb) ?_; clear HO248 HO251 HB; intro HO248 HO251 HO255 HB; clear hb ho0) | ((with_reducible refine gate_dst (N := 17) rfl ?_); (try (refine gate_guard (by rfl) ?_; dsimp only)); refine R_lit (Kd.int .u64) _ 32 ?hg (N := 17) ?hd (xs := ([96, 0, 1] : List Int)) (inner := [.int .u64 96, .int .u64 0, .int .u64 1]) (ok := fun _ => True) (okp := fun _ => True) ?hr ?hp (fun _ hk => hk) trivial (Below.refl _ _) (Nat.le_refl _) (by simp) ?_; (case hd => rfl); (case hg => rfl); (case hr => first | (go_simp; done) | (go_simp; rfl)); (case hp => exact (Reps.one (show Kd.M (Kd.int .u64) _ _ _ 96 [.int .u64 96] from rfl) (Reps.one (show Kd.M (Kd.int .u64) _ _ _ 0 [.int .u64 0] from rfl) (Reps.one (show Kd.M (Kd.int .u64) _ _ _ 1 [.int .u64 1] from rfl) (Reps.none _ _))))); intro v257 w31 ho32 hb hg_ hnew_; clear hg_ hnew_; (first | rw [← Ny256.out] at ho32 | (simp only [Int.reduceToNat] at ho32; rw [← Ny256.out] at ho32)); refine nx5_ (R_elder' (rU_ HO248.out) (R_base ho32) hb) (R_elder' (rU_ HO251.out) (R_base ho32) hb) (R_elder' (rU_ HO255.out) (R_base ho32) hb) (R_lower (R_new' (R_new' (R_new' ho32 (R_lt (rU_ HO248.out))) (R_lt (rU_ HO251.out))) (R_lt (rU_ HO255.out))) (below_size (bU_ HB.out))) (below_step (bU_ HB.out) hb) ?_; clear HO248 HO251 HO255 HB; intro HO248 HO251 HO255 HO258 HB; clear hb ho32) | ((with_reducible refine gate_dst (N := 18) rfl ?_); (try (refine gate_guard (by rfl) ?_; dsimp only)); refine R_lit (Kd.int .u64) _ 32 ?hg (N := 18) ?hd (xs := ([96, 1] : List Int)) (inner := [.int .u64 96, .int .u64 1]) (ok := fun _ => True) (okp := fun _ => True) ?hr ?hp (fun _ hk => hk) trivial (Below.refl _ _) (Nat.le_refl _) (by simp) ?_; (case hd => rfl); (case hg => rfl); (case hr => first | (go_simp; done) | (go_simp; rfl)); (case hp => exact (Reps.one (show Kd.M (Kd.int .u64) _ _ _ 96 [.int .u64 96] from rfl) (Reps.one (show Kd.M (Kd.int .u64) _ _ _ 1 [.int .u64 1] from rfl) (Reps.none _ _)))); intro v260 w33 ho34 hb hg_ hnew_; clear hg_ hnew_; (first | rw [← Ny259.out] at ho34 | (simp only [Int.reduceToNat] at ho34; rw [← Ny259.out] at ho34)); refine nx6_ (R_elder' (rU_ HO248.out) (R_base ho34) hb) (R_elder' (rU_ HO251.out) (R_base ho34) hb) (R_elder' (rU_ HO255.out) (R_base ho34) hb) (R_elder' (rU_ HO258.out) (R_base ho34) hb) (R_lower (R_new' (R_new' (R_new' (R_new' ho34 (R_lt (rU_ HO248.out))) (R_lt (rU_ HO251.out))) (R_lt (rU_ HO255.out))) (R_lt (rU_ HO258.out))) (below_size (bU_ HB.out))) (below_step (bU_ HB.out) hb) ?_; clear HO248 HO251 HO255 HO258 HB; intro HO248 HO251 HO255 HO258 HO261 HB; clear hb ho34; obtain ⟨Ao35, co35, eo35⟩ := R_slice HO258.out; subst eo35; obtain ⟨Ao36, co36, eo36⟩ := R_slice HO261.out; subst eo36) | ((with_reducible refine gate_callee (f := 19) rfl ?_); refine gl_ (some 19) Tryd.func19 #[.int .i64 0, .slice Ao35 y256.length co35, .slice Ao36 y259.length co36] ?_; (with_reducible refine (poly_Divide.calls k 0 _ _ y256 _ _ y259 t262 t263 t264 _ ?side1 ?side2 ?side3 ?side4 ?side5 A2.out).mono ?_); (case side1 => exact fU_ HG.out HB.out); (case side2 => exact cU_ ((R_reads' HO258.out).2.2)); (case side3 => exact (R_reads' HO258.out).2.1); (case side4 => exact cU_ ((R_reads' HO261.out).2.2)); (case side5 => exact (R_reads' HO261.out).2.1); rintro e w37 ⟨v265, v267, rfl, ho0, ho1, hb⟩; refine ⟨_, rfl, ?_⟩; refine nx8_ (R_mono (Kd.R_told (Kd.R_told (Kd.R_old (rU_ HO248.out) hb) (R_base ho0)) (R_base ho1)) (fun _ h_ => h_.1)) (R_mono (Kd.R_told (Kd.R_told (Kd.R_old (rU_ HO251.out) hb) (R_base ho0)) (R_base ho1)) (fun _ h_ => h_.1)) (R_mono (Kd.R_told (Kd.R_told (Kd.R_old (rU_ HO255.out) hb) (R_base ho0)) (R_base ho1)) (fun _ h_ => h_.1)) (R_mono (Kd.R_told (Kd.R_told (Kd.R_old (rU_ HO258.out) hb) (R_base ho0)) (R_base ho1)) (fun _ h_ => h_.1)) (R_mono (Kd.R_told (Kd.R_told (Kd.R_old (rU_ HO261.out) hb) (R_base ho0)) (R_base ho1)) (fun _ h_ => h_.1)) (R_lower (R_new' (R_new' (R_new' (R_new' (R_new' ho0 (R_lt (rU_ HO248.out))) (R_lt (rU_ HO251.out))) (R_lt (rU_ HO255.out))) (R_lt (rU_ HO258.out))) (R_lt (rU_ HO261.out))) (below_size (bU_ HB.out))) (R_lower (R_new' (R_new' (R_new' (R_new' (R_new' ho1 (R_lt (rU_ HO248.out))) (R_lt (rU_ HO251.out))) (R_lt (rU_ HO255.out))) (R_lt (rU_ HO258.out))) (R_lt (rU_ HO261.out))) (below_size (bU_ HB.out))) (below_step (bU_ HB.out) hb) ?_; clear HO248 HO251 HO255 HO258 HO261 HB; intro HO248 HO251 HO255 HO258 HO261 HO266 HO268 HB; clear hb ho0 ho1) | ((with_reducible refine gate_dst (N := 24) rfl ?_); (try (refine gate_guard (by rfl) ?_; dsimp only)); refine R_lit (Kd.int .u64) _ 32 ?hg (N := 24) ?hd (xs := ([1, 2, 3] : List Int)) (inner := [.int .u64 1, .int .u64 2, .int .u64 3]) (ok := fun _ => True) (okp := fun _ => True) ?hr ?hp (fun _ hk => hk) trivial (Below.refl _ _) (Nat.le_refl _) (by simp) ?_; (case hd => rfl); (case hg => rfl); (case hr => first | (go_simp; done) | (go_simp; rfl)); (case hp => exact (Reps.one (show Kd.M (Kd.int .u64) _ _ _ 1 [.int .u64 1] from rfl) (Reps.one (show Kd.M (Kd.int .u64) _ _ _ 2 [.int .u64 2] from rfl) (Reps.one (show Kd.M (Kd.int .u64) _ _ _ 3 [.int .u64 3] from rfl) (Reps.none _ _))))); intro v270 w38 ho39 hb hg_ hnew_; clear hg_ hnew_; (first | rw [← Ny269.out] at ho39 | (simp only [Int.reduceToNat] at ho39; rw [← Ny269.out] at ho39)); refine nx9_ (R_elder' (rU_ HO248.out) (R_base ho39) hb) (R_elder' (rU_ HO251.out) (R_base ho39) hb) (R_elder' (rU_ HO255.out) (R_base ho39) hb) (R_elder' (rU_ HO258.out) (R_base ho39) hb) (R_elder' (rU_ HO261.out) (R_base ho39) hb) (R_elder' (rU_ HO266.out) (R_base ho39) hb) (R_elder' (rU_ HO268.out) (R_base ho39) hb) (R_lower (R_new' (R_new' (R_new' (R_new' (R_new' (R_new' (R_new' ho39 (R_lt (rU_ HO248.out))) (R_lt (rU_ HO251.out))) (R_lt (rU_ HO255.out))) (R_lt (rU_ HO258.out))) (R_lt (rU_ HO261.out))) (R_lt (rU_ HO266.out))) (R_lt (rU_ HO268.out))) (below_size (bU_ HB.out))) (below_step (bU_ HB.out) hb) ?_; clear HO248 HO251 HO255 HO258 HO261 HO266 HO268 HB; intro HO248 HO251 HO255 HO258 HO261 HO266 HO268 HO271 HB; clear hb ho39) | ((with_reducible refine gate_dst (N := 25) rfl ?_); (try (refine gate_guard (by rfl) ?_; dsimp only)); refine R_lit (Kd.int .u64) _ 32 ?hg (N := 25) ?hd (xs := ([1, 4, 9] : List Int)) (inner := [.int .u64 1, .int .u64 4, .int .u64 9]) (ok := fun _ => True) (okp := fun _ => True) ?hr ?hp (fun _ hk => hk) trivial (Below.refl _ _) (Nat.le_refl _) (by simp) ?_; (case hd => rfl); (case hg => rfl); (case hr => first | (go_simp; done) | (go_simp; rfl)); (case hp => exact (Reps.one (show Kd.M (Kd.int .u64) _ _ _ 1 [.int .u64 1] from rfl) (Reps.one (show Kd.M (Kd.int .u64) _ _ _ 4 [.int .u64 4] from rfl) (Reps.one (show Kd.M (Kd.int .u64) _ _ _ 9 [.int .u64 9] from rfl) (Reps.none _ _))))); intro v273 w40 ho41 hb hg_ hnew_; clear hg_ hnew_; (first | rw [← Ny272.out] at ho41 | (simp only [Int.reduceToNat] at ho41; rw [← Ny272.out] at ho41)); refine nx10_ (R_elder' (rU_ HO248.out) (R_base ho41) hb) (R_elder' (rU_ HO251.out) (R_base ho41) hb) (R_elder' (rU_ HO255.out) (R_base ho41) hb) (R_elder' (rU_ HO258.out) (R_base ho41) hb) (R_elder' (rU_ HO261.out) (R_base ho41) hb) (R_elder' (rU_ HO266.out) (R_base ho41) hb) (R_elder' (rU_ HO268.out) (R_base ho41) hb) (R_elder' (rU_ HO271.out) (R_base ho41) hb) (R_lower (R_new' (R_new' (R_new' (R_new' (R_new' (R_new' (R_new' (R_new' ho41 (R_lt (rU_ HO248.out))) (R_lt (rU_ HO251.out))) (R_lt (rU_ HO255.out))) (R_lt (rU_ HO258.out))) (R_lt (rU_ HO261.out))) (R_lt (rU_ HO266.out))) (R_lt (rU_ HO268.out))) (R_lt (rU_ HO271.out))) (below_size (bU_ HB.out))) (below_step (bU_ HB.out) hb) ?_; clear HO248 HO251 HO255 HO258 HO261 HO266 HO268 HO271 HB; intro HO248 HO251 HO255 HO258 HO261 HO266 HO268 HO271 HO274 HB; clear hb ho41; obtain ⟨Ao42, co42, eo42⟩ := R_slice HO271.out; subst eo42; obtain ⟨Ao43, co43, eo43⟩ := R_slice HO274.out; subst eo43) | ((with_reducible refine gate_callee (f := 12) rfl ?_); refine gl_ (some 26) Tryd.func12 #[.int .i64 0, .slice Ao42 y269.length co42, .slice Ao43 y272.length co43] ?_; (with_reducible refine (poly_Through.calls k 0 _ _ y269 _ _ y272 t275 t276 _ ?side1 ?side2 ?side3 ?side4 ?side5 A3.out).mono ?_); (case side1 => exact fU_ HG.out HB.out); (case side2 => exact cU_ ((R_reads' HO271.out).2.2)); (case side3 => exact (R_reads' HO271.out).2.1); (case side4 => exact cU_ ((R_reads' HO274.out).2.2)); (case side5 => exact (R_reads' HO274.out).2.1); rintro e w44 ⟨v277, rfl, ho0, hb⟩; refine ⟨_, rfl, ?_⟩; refine nx11_ (R_elder' (rU_ HO248.out) (R_base ho0) hb) (R_elder' (rU_ HO251.out) (R_base ho0) hb) (R_elder' (rU_ HO255.out) (R_base ho0) hb) (R_elder' (rU_ HO258.out) (R_base ho0) hb) (R_elder' (rU_ HO261.out) (R_base ho0) hb) (R_elder' (rU_ HO266.out) (R_base ho0) hb) (R_elder' (rU_ HO268.out) (R_base ho0) hb) (R_elder' (rU_ HO271.out) (R_base ho0) hb) (R_elder' (rU_ HO274.out) (R_base ho0) hb) (R_lower (R_new' (R_new' (R_new' (R_new' (R_new' (R_new' (R_new' (R_new' (R_new' ho0 (R_lt (rU_ HO248.out))) (R_lt (rU_ HO251.out))) (R_lt (rU_ HO255.out))) (R_lt (rU_ HO258.out))) (R_lt (rU_ HO261.out))) (R_lt (rU_ HO266.out))) (R_lt (rU_ HO268.out))) (R_lt (rU_ HO271.out))) (R_lt (rU_ HO274.out))) (below_size (bU_ HB.out))) (below_step (bU_ HB.out) hb) ?_; clear HO248 HO251 HO255 HO258 HO261 HO266 HO268 HO271 HO274 HB; intro HO248 HO251 HO255 HO258 HO261 HO266 HO268 HO271 HO274 HO278 HB; clear hb ho0) | ((with_reducible refine gate_dst (N := 30) rfl ?_); (try (refine gate_guard (by rfl) ?_; dsimp only)); refine R_lit (Kd.int .u64) _ 32 ?hg (N := 30) ?hd (xs := ([1, 2] : List Int)) (inner := [.int .u64 1, .int .u64 2]) (ok := fun _ => True) (okp := fun _ => True) ?hr ?hp (fun _ hk => hk) trivial (Below.refl _ _) (Nat.le_refl _) (by simp) ?_; (case hd => rfl); (case hg => rfl); (case hr => first | (go_simp; done) | (go_simp; rfl)); (case hp => exact (Reps.one (show Kd.M (Kd.int .u64) _ _ _ 1 [.int .u64 1] from rfl) (Reps.one (show Kd.M (Kd.int .u64) _ _ _ 2 [.int .u64 2] from rfl) (Reps.none _ _)))); intro v280 w45 ho46 hb hg_ hnew_; clear hg_ hnew_; (first | rw [← Ny279.out] at ho46 | (simp only [Int.reduceToNat] at ho46; rw [← Ny279.out] at ho46)); refine nx12_ (R_elder' (rU_ HO248.out) (R_base ho46) hb) (R_elder' (rU_ HO251.out) (R_base ho46) hb) (R_elder' (rU_ HO255.out) (R_base ho46) hb) (R_elder' (rU_ HO258.out) (R_base ho46) hb) (R_elder' (rU_ HO261.out) (R_base ho46) hb) (R_elder' (rU_ HO266.out) (R_base ho46) hb) (R_elder' (rU_ HO268.out) (R_base ho46) hb) (R_elder' (rU_ HO271.out) (R_base ho46) hb) (R_elder' (rU_ HO274.out) (R_base ho46) hb) (R_elder' (rU_ HO278.out) (R_base ho46) hb) (R_lower (R_new' (R_new' (R_new' (R_new' (R_new' (R_new' (R_new' (R_new' (R_new' (R_new' ho46 (R_lt (rU_ HO248.out))) (R_lt (rU_ HO251.out))) (R_lt (rU_ HO255.out))) (R_lt (rU_ HO258.out))) (R_lt (rU_ HO261.out))) (R_lt (rU_ HO266.out))) (R_lt (rU_ HO268.out))) (R_lt (rU_ HO271.out))) (R_lt (rU_ HO274.out))) (R_lt (rU_ HO278.out))) (below_size (bU_ HB.out))) (below_step (bU_ HB.out) hb) ?_; clear HO248 HO251 HO255 HO258 HO261 HO266 HO268 HO271 HO274 HO278 HB; intro HO248 HO251 HO255 HO258 HO261 HO266 HO268 HO271 HO274 HO278 HO281 HB; clear hb ho46; obtain ⟨Ao47, co47, eo47⟩ := R_slice HO281.out; subst eo47) | ((with_reducible refine gate_callee (f := 14) rfl ?_); refine gl_ (some 31) Tryd.func14 #[.int .i64 0, .slice Ao47 y279.length co47] ?_; (with_reducible refine (poly_Vanish.calls k 0 _ _ y279 t282 t283 _ ?side1 ?side2 ?side3 A4.out).mono ?_); (case side1 => exact fU_ HG.out HB.out); (case side2 => exact cU_ ((R_reads' HO281.out).2.2)); (case side3 => exact (R_reads' HO281.out).2.1); rintro e w48 ⟨v284, rfl, ho0, hb⟩; refine ⟨_, rfl, ?_⟩; refine nx13_ (R_elder' (rU_ HO248.out) (R_base ho0) hb) (R_elder' (rU_ HO251.out) (R_base ho0) hb) (R_elder' (rU_ HO255.out) (R_base ho0) hb) (R_elder' (rU_ HO258.out) (R_base ho0) hb) (R_elder' (rU_ HO261.out) (R_base ho0) hb) (R_elder' (rU_ HO266.out) (R_base ho0) hb) (R_elder' (rU_ HO268.out) (R_base ho0) hb) (R_elder' (rU_ HO271.out) (R_base ho0) hb) (R_elder' (rU_ HO274.out) (R_base ho0) hb) (R_elder' (rU_ HO278.out) (R_base ho0) hb) (R_elder' (rU_ HO281.out) (R_base ho0) hb) (R_lower (R_new' (R_new' (R_new' (R_new' (R_new' (R_new' (R_new' (R_new' (R_new' (R_new' (R_new' ho0 (R_lt (rU_ HO248.out))) (R_lt (rU_ HO251.out))) (R_lt (rU_ HO255.out))) (R_lt (rU_ HO258.out))) (R_lt (rU_ HO261.out))) (R_lt (rU_ HO266.out))) (R_lt (rU_ HO268.out))) (R_lt (rU_ HO271.out))) (R_lt (rU_ HO274.out))) (R_lt (rU_ HO278.out))) (R_lt (rU_ HO281.out))) (below_size (bU_ HB.out))) (below_step (bU_ HB.out) hb) ?_; clear HO248 HO251 HO255 HO258 HO261 HO266 HO268 HO271 HO274 HO278 HO281 HB; intro HO248 HO251 HO255 HO258 HO261 HO266 HO268 HO271 HO274 HO278 HO281 HO285 HB; clear hb ho0) | ((with_reducible refine gate_dst (N := 38) rfl ?_); (try (refine gate_guard (by rfl) ?_; dsimp only)); refine R_lit (Kd.int .u64) _ 32 ?hg (N := 38) ?hd (xs := ([1, 0, 96] : List Int)) (inner := [.int .u64 1, .int .u64 0, .int .u64 96]) (ok := fun _ => True) (okp := fun _ => True) ?hr ?hp (fun _ hk => hk) trivial (Below.refl _ _) (Nat.le_refl _) (by simp) ?_; (case hd => rfl); (case hg => rfl); (case hr => first | (go_simp; done) | (go_simp; rfl)); (case hp => exact (Reps.one (show Kd.M (Kd.int .u64) _ _ _ 1 [.int .u64 1] from rfl) (Reps.one (show Kd.M (Kd.int .u64) _ _ _ 0 [.int .u64 0] from rfl) (Reps.one (show Kd.M (Kd.int .u64) _ _ _ 96 [.int .u64 96] from rfl) (Reps.none _ _))))); intro v287 w49 ho50 hb hg_ hnew_; clear hg_ hnew_; (first | rw [← Ny286.out] at ho50 | (simp only [Int.reduceToNat] at ho50; rw [← Ny286.out] at ho50)); refine nx14_ (R_elder' (rU_ HO248.out) (R_base ho50) hb) (R_elder' (rU_ HO251.out) (R_base ho50) hb) (R_elder' (rU_ HO255.out) (R_base ho50) hb) (R_elder' (rU_ HO258.out) (R_base ho50) hb) (R_elder' (rU_ HO261.out) (R_base ho50) hb) (R_elder' (rU_ HO266.out) (R_base ho50) hb) (R_elder' (rU_ HO268.out) (R_base ho50) hb) (R_elder' (rU_ HO271.out) (R_base ho50) hb) (R_elder' (rU_ HO274.out) (R_base ho50) hb) (R_elder' (rU_ HO278.out) (R_base ho50) hb) (R_elder' (rU_ HO281.out) (R_base ho50) hb) (R_elder' (rU_ HO285.out) (R_base ho50) hb) (R_lower (R_new' (R_new' (R_new' (R_new' (R_new' (R_new' (R_new' (R_new' (R_new' (R_new' (R_new' (R_new' ho50 (R_lt (rU_ HO248.out))) (R_lt (rU_ HO251.out))) (R_lt (rU_ HO255.out))) (R_lt (rU_ HO258.out))) (R_lt (rU_ HO261.out))) (R_lt (rU_ HO266.out))) (R_lt (rU_ HO268.out))) (R_lt (rU_ HO271.out))) (R_lt (rU_ HO274.out))) (R_lt (rU_ HO278.out))) (R_lt (rU_ HO281.out))) (R_lt (rU_ HO285.out))) (below_size (bU_ HB.out))) (below_step (bU_ HB.out) hb) ?_; clear HO248 HO251 HO255 HO258 HO261 HO266 HO268 HO271 HO274 HO278 HO281 HO285 HB; intro HO248 HO251 HO255 HO258 HO261 HO266 HO268 HO271 HO274 HO278 HO281 HO285 HO288 HB; clear hb ho50; obtain ⟨Ao51, co51, eo51⟩ := R_slice HO255.out; subst eo51; obtain ⟨Ao52, co52, eo52⟩ := R_slice HO288.out; subst eo52) | (go_at_call 21; (with_reducible refine (attestorlaw03_same.calls k _ _ t252 _ _ y286 true _ ?side1 ?side2 ?side3 ?side4 A6.out).mono ?_); (case side1 => exact cU_ ((R_reads' HO255.out).2.2)); (case side2 => exact (R_reads' HO255.out).2.1); (case side3 => exact cU_ ((R_reads' HO288.out).2.2)); (case side4 => exact (R_reads' HO288.out).2.1); rintro e w' ⟨rfl, ⟨nd, rfl⟩⟩) | ((with_reducible refine gate_dst (N := 47) rfl ?_); (try (refine gate_guard (by rfl) ?_; dsimp only)); refine R_lit (Kd.int .u64) _ 32 ?hg (N := 47) ?hd (xs := ([1, 1] : List Int)) (inner := [.int .u64 1, .int .u64 1]) (ok := fun _ => True) (okp := fun _ => True) ?hr ?hp (fun _ hk => hk) trivial (Below.refl _ _) (Nat.le_refl _) (by simp) ?_; (case hd => rfl); (case hg => rfl); (case hr => first | (go_simp; done) | (go_simp; rfl)); (case hp => exact (Reps.one (show Kd.M (Kd.int .u64) _ _ _ 1 [.int .u64 1] from rfl) (Reps.one (show Kd.M (Kd.int .u64) _ _ _ 1 [.int .u64 1] from rfl) (Reps.none _ _)))); intro v291 w53 ho54 hb hg_ hnew_; clear hg_ hnew_; (first | rw [← Ny290.out] at ho54 | (simp only [Int.reduceToNat] at ho54; rw [← Ny290.out] at ho54)); refine nx15_ (R_elder' (rU_ HO248.out) (R_base ho54) hb) (R_elder' (rU_ HO251.out) (R_base ho54) hb) (R_elder' (rU_ HO255.out) (R_base ho54) hb) (R_elder' (rU_ HO258.out) (R_base ho54) hb) (R_elder' (rU_ HO261.out) (R_base ho54) hb) (R_elder' (rU_ HO266.out) (R_base ho54) hb) (R_elder' (rU_ HO268.out) (R_base ho54) hb) (R_elder' (rU_ HO271.out) (R_base ho54) hb) (R_elder' (rU_ HO274.out) (R_base ho54) hb) (R_elder' (rU_ HO278.out) (R_base ho54) hb) (R_elder' (rU_ HO281.out) (R_base ho54) hb) (R_elder' (rU_ HO285.out) (R_base ho54) hb) (R_elder' (rU_ HO288.out) (R_base ho54) hb) (R_lower (R_new' (R_new' (R_new' (R_new' (R_new' (R_new' (R_new' (R_new' (R_new' (R_new' (R_new' (R_new' (R_new' ho54 (R_lt (rU_ HO248.out))) (R_lt (rU_ HO251.out))) (R_lt (rU_ HO255.out))) (R_lt (rU_ HO258.out))) (R_lt (rU_ HO261.out))) (R_lt (rU_ HO266.out))) (R_lt (rU_ HO268.out))) (R_lt (rU_ HO271.out))) (R_lt (rU_ HO274.out))) (R_lt (rU_ HO278.out))) (R_lt (rU_ HO281.out))) (R_lt (rU_ HO285.out))) (R_lt (rU_ HO288.out))) (below_size (bU_ HB.out))) (below_step (bU_ HB.out) hb) ?_; clear HO248 HO251 HO255 HO258 HO261 HO266 HO268 HO271 HO274 HO278 HO281 HO285 HO288 HB; intro HO248 HO251 HO255 HO258 HO261 HO266 HO268 HO271 HO274 HO278 HO281 HO285 HO288 HO292 HB; clear hb ho54; obtain ⟨Ao55, co55, eo55⟩ := R_slice HO266.out; subst eo55; obtain ⟨Ao56, co56, eo56⟩ := R_slice HO292.out; subst eo56) | (go_at_call 21; (with_reducible refine (attestorlaw03_same.calls k _ _ t262 _ _ y290 true _ ?side1 ?side2 ?side3 ?side4 A9.out).mono ?_); (case side1 => exact cU_ ((R_reads' HO266.out).2.2)); (case side2 => exact (R_reads' HO266.out).2.1); (case side3 => exact cU_ ((R_reads' HO292.out).2.2)); (case side4 => exact (R_reads' HO292.out).2.1); rintro e w' ⟨rfl, ⟨nd, rfl⟩⟩; obtain ⟨Ao57, co57, eo57⟩ := R_slice HO268.out; subst eo57) | ((with_reducible refine gate_dst (N := 61) rfl ?_); (try (refine gate_guard (by rfl) ?_; dsimp only)); refine R_lit (Kd.int .u64) _ 32 ?hg (N := 61) ?hd (xs := ([0, 0, 1] : List Int)) (inner := [.int .u64 0, .int .u64 0, .int .u64 1]) (ok := fun _ => True) (okp := fun _ => True) ?hr ?hp (fun _ hk => hk) trivial (Below.refl _ _) (Nat.le_refl _) (by simp) ?_; (case hd => rfl); (case hg => rfl); (case hr => first | (go_simp; done) | (go_simp; rfl)); (case hp => exact (Reps.one (show Kd.M (Kd.int .u64) _ _ _ 0 [.int .u64 0] from rfl) (Reps.one (show Kd.M (Kd.int .u64) _ _ _ 0 [.int .u64 0] from rfl) (Reps.one (show Kd.M (Kd.int .u64) _ _ _ 1 [.int .u64 1] from rfl) (Reps.none _ _))))); intro v295 w58 ho59 hb hg_ hnew_; clear hg_ hnew_; (first | rw [← Ny294.out] at ho59 | (simp only [Int.reduceToNat] at ho59; rw [← Ny294.out] at ho59)); refine nx16_ (R_elder' (rU_ HO248.out) (R_base ho59) hb) (R_elder' (rU_ HO251.out) (R_base ho59) hb) (R_elder' (rU_ HO255.out) (R_base ho59) hb) (R_elder' (rU_ HO258.out) (R_base ho59) hb) (R_elder' (rU_ HO261.out) (R_base ho59) hb) (R_elder' (rU_ HO266.out) (R_base ho59) hb) (R_elder' (rU_ HO268.out) (R_base ho59) hb) (R_elder' (rU_ HO271.out) (R_base ho59) hb) (R_elder' (rU_ HO274.out) (R_base ho59) hb) (R_elder' (rU_ HO278.out) (R_base ho59) hb) (R_elder' (rU_ HO281.out) (R_base ho59) hb) (R_elder' (rU_ HO285.out) (R_base ho59) hb) (R_elder' (rU_ HO288.out) (R_base ho59) hb) (R_elder' (rU_ HO292.out) (R_base ho59) hb) (R_lower (R_new' (R_new' (R_new' (R_new' (R_new' (R_new' (R_new' (R_new' (R_new' (R_new' (R_new' (R_new' (R_new' (R_new' ho59 (R_lt (rU_ HO248.out))) (R_lt (rU_ HO251.out))) (R_lt (rU_ HO255.out))) (R_lt (rU_ HO258.out))) (R_lt (rU_ HO261.out))) (R_lt (rU_ HO266.out))) (R_lt (rU_ HO268.out))) (R_lt (rU_ HO271.out))) (R_lt (rU_ HO274.out))) (R_lt (rU_ HO278.out))) (R_lt (rU_ HO281.out))) (R_lt (rU_ HO285.out))) (R_lt (rU_ HO288.out))) (R_lt (rU_ HO292.out))) (below_size (bU_ HB.out))) (below_step (bU_ HB.out) hb) ?_; clear HO248 HO251 HO255 HO258 HO261 HO266 HO268 HO271 HO274 HO278 HO281 HO285 HO288 HO292 HB; intro HO248 HO251 HO255 HO258 HO261 HO266 HO268 HO271 HO274 HO278 HO281 HO285 HO288 HO292 HO296 HB; clear hb ho59; obtain ⟨Ao60, co60, eo60⟩ := R_slice HO278.out; subst eo60; obtain ⟨Ao61, co61, eo61⟩ := R_slice HO296.out; subst eo61) | (go_at_call 21; (with_reducible refine (attestorlaw03_same.calls k _ _ t275 _ _ y294 true _ ?side1 ?side2 ?side3 ?side4 A13.out).mono ?_); (case side1 => exact cU_ ((R_reads' HO278.out).2.2)); (case side2 => exact (R_reads' HO278.out).2.1); (case side3 => exact cU_ ((R_reads' HO296.out).2.2)); (case side4 => exact (R_reads' HO296.out).2.1); rintro e w' ⟨rfl, ⟨nd, rfl⟩⟩) | ((with_reducible refine gate_dst (N := 70) rfl ?_); (try (refine gate_guard (by rfl) ?_; dsimp only)); refine R_lit (Kd.int .u64) _ 32 ?hg (N := 70) ?hd (xs := ([2, 94, 1] : List Int)) (inner := [.int .u64 2, .int .u64 94, .int .u64 1]) (ok := fun _ => True) (okp := fun _ => True) ?hr ?hp (fun _ hk => hk) trivial (Below.refl _ _) (Nat.le_refl _) (by simp) ?_; (case hd => rfl); (case hg => rfl); (case hr => first | (go_simp; done) | (go_simp; rfl)); (case hp => exact (Reps.one (show Kd.M (Kd.int .u64) _ _ _ 2 [.int .u64 2] from rfl) (Reps.one (show Kd.M (Kd.int .u64) _ _ _ 94 [.int .u64 94] from rfl) (Reps.one (show Kd.M (Kd.int .u64) _ _ _ 1 [.int .u64 1] from rfl) (Reps.none _ _))))); intro v299 w62 ho63 hb hg_ hnew_; clear hg_ hnew_; (first | rw [← Ny298.out] at ho63 | (simp only [Int.reduceToNat] at ho63; rw [← Ny298.out] at ho63)); refine nx17_ (R_elder' (rU_ HO248.out) (R_base ho63) hb) (R_elder' (rU_ HO251.out) (R_base ho63) hb) (R_elder' (rU_ HO255.out) (R_base ho63) hb) (R_elder' (rU_ HO258.out) (R_base ho63) hb) (R_elder' (rU_ HO261.out) (R_base ho63) hb) (R_elder' (rU_ HO266.out) (R_base ho63) hb) (R_elder' (rU_ HO268.out) (R_base ho63) hb) (R_elder' (rU_ HO271.out) (R_base ho63) hb) (R_elder' (rU_ HO274.out) (R_base ho63) hb) (R_elder' (rU_ HO278.out) (R_base ho63) hb) (R_elder' (rU_ HO281.out) (R_base ho63) hb) (R_elder' (rU_ HO285.out) (R_base ho63) hb) (R_elder' (rU_ HO288.out) (R_base ho63) hb) (R_elder' (rU_ HO292.out) (R_base ho63) hb) (R_elder' (rU_ HO296.out) (R_base ho63) hb) (R_lower (R_new' (R_new' (R_new' (R_new' (R_new' (R_new' (R_new' (R_new' (R_new' (R_new' (R_new' (R_new' (R_new' (R_new' (R_new' ho63 (R_lt (rU_ HO248.out))) (R_lt (rU_ HO251.out))) (R_lt (rU_ HO255.out))) (R_lt (rU_ HO258.out))) (R_lt (rU_ HO261.out))) (R_lt (rU_ HO266.out))) (R_lt (rU_ HO268.out))) (R_lt (rU_ HO271.out))) (R_lt (rU_ HO274.out))) (R_lt (rU_ HO278.out))) (R_lt (rU_ HO281.out))) (R_lt (rU_ HO285.out))) (R_lt (rU_ HO288.out))) (R_lt (rU_ HO292.out))) (R_lt (rU_ HO296.out))) (below_size (bU_ HB.out))) (below_step (bU_ HB.out) hb) ?_; clear HO248 HO251 HO255 HO258 HO261 HO266 HO268 HO271 HO274 HO278 HO281 HO285 HO288 HO292 HO296 HB; intro HO248 HO251 HO255 HO258 HO261 HO266 HO268 HO271 HO274 HO278 HO281 HO285 HO288 HO292 HO296 HO300 HB; clear hb ho63; obtain ⟨Ao64, co64, eo64⟩ := R_slice HO285.out; subst eo64; obtain ⟨Ao65, co65, eo65⟩ := R_slice HO300.out; subst eo65) | (go_at_call 21; (with_reducible refine (attestorlaw03_same.calls k _ _ t282 _ _ y298 true _ ?side1 ?side2 ?side3 ?side4 A16.out).mono ?_); (case side1 => exact cU_ ((R_reads' HO285.out).2.2)); (case side2 => exact (R_reads' HO285.out).2.1); (case side3 => exact cU_ ((R_reads' HO300.out).2.2)); (case side4 => exact (R_reads' HO300.out).2.1); rintro e w' ⟨rfl, ⟨nd, rfl⟩⟩) | ((with_reducible refine gate_dst (N := 74) rfl ?_); (try (refine gate_guard (by rfl) ?_; dsimp only)); refine R_lit (Kd.int .u64) _ 32 ?hg (N := 74) ?hd (xs := ([3, 2] : List Int)) (inner := [.int .u64 3, .int .u64 2]) (ok := fun _ => True) (okp := fun _ => True) ?hr ?hp (fun _ hk => hk) trivial (Below.refl _ _) (Nat.le_refl _) (by simp) ?_; (case hd => rfl); (case hg => rfl); (case hr => first | (go_simp; done) | (go_simp; rfl)); (case hp => exact (Reps.one (show Kd.M (Kd.int .u64) _ _ _ 3 [.int .u64 3] from rfl) (Reps.one (show Kd.M (Kd.int .u64) _ _ _ 2 [.int .u64 2] from rfl) (Reps.none _ _)))); intro v303 w66 ho67 hb hg_ hnew_; clear hg_ hnew_; (first | rw [← Ny302.out] at ho67 | (simp only [Int.reduceToNat] at ho67; rw [← Ny302.out] at ho67)); refine nx18_ (R_elder' (rU_ HO248.out) (R_base ho67) hb) (R_elder' (rU_ HO251.out) (R_base ho67) hb) (R_elder' (rU_ HO255.out) (R_base ho67) hb) (R_elder' (rU_ HO258.out) (R_base ho67) hb) (R_elder' (rU_ HO261.out) (R_base ho67) hb) (R_elder' (rU_ HO266.out) (R_base ho67) hb) (R_elder' (rU_ HO268.out) (R_base ho67) hb) (R_elder' (rU_ HO271.out) (R_base ho67) hb) (R_elder' (rU_ HO274.out) (R_base ho67) hb) (R_elder' (rU_ HO278.out) (R_base ho67) hb) (R_elder' (rU_ HO281.out) (R_base ho67) hb) (R_elder' (rU_ HO285.out) (R_base ho67) hb) (R_elder' (rU_ HO288.out) (R_base ho67) hb) (R_elder' (rU_ HO292.out) (R_base ho67) hb) (R_elder' (rU_ HO296.out) (R_base ho67) hb) (R_elder' (rU_ HO300.out) (R_base ho67) hb) (R_lower (R_new' (R_new' (R_new' (R_new' (R_new' (R_new' (R_new' (R_new' (R_new' (R_new' (R_new' (R_new' (R_new' (R_new' (R_new' (R_new' ho67 (R_lt (rU_ HO248.out))) (R_lt (rU_ HO251.out))) (R_lt (rU_ HO255.out))) (R_lt (rU_ HO258.out))) (R_lt (rU_ HO261.out))) (R_lt (rU_ HO266.out))) (R_lt (rU_ HO268.out))) (R_lt (rU_ HO271.out))) (R_lt (rU_ HO274.out))) (R_lt (rU_ HO278.out))) (R_lt (rU_ HO281.out))) (R_lt (rU_ HO285.out))) (R_lt (rU_ HO288.out))) (R_lt (rU_ HO292.out))) (R_lt (rU_ HO296.out))) (R_lt (rU_ HO300.out))) (below_size (bU_ HB.out))) (below_step (bU_ HB.out) hb) ?_; clear HO248 HO251 HO255 HO258 HO261 HO266 HO268 HO271 HO274 HO278 HO281 HO285 HO288 HO292 HO296 HO300 HB; intro HO248 HO251 HO255 HO258 HO261 HO266 HO268 HO271 HO274 HO278 HO281 HO285 HO288 HO292 HO296 HO300 HO304 HB; clear hb ho67; obtain ⟨Ao68, co68, eo68⟩ := R_slice HO304.out; subst eo68) | (go_at_call 25; (with_reducible refine (poly_Eval.calls k 0 _ _ y302 5 t305 _ ?side1 ?side2 ?side3 A18.out).mono ?_); (case side1 => exact fU_ HG.out HB.out); (case side2 => exact cU_ ((R_reads' HO304.out).2.2)); (case side3 => exact (R_reads' HO304.out).2.1); rintro e w69 ⟨rfl, hb⟩; refine nx18_ (R_below (rU_ HO248.out) hb) (R_below (rU_ HO251.out) hb) (R_below (rU_ HO255.out) hb) (R_below (rU_ HO258.out) hb) (R_below (rU_ HO261.out) hb) (R_below (rU_ HO266.out) hb) (R_below (rU_ HO268.out) hb) (R_below (rU_ HO271.out) hb) (R_below (rU_ HO274.out) hb) (R_below (rU_ HO278.out) hb) (R_below (rU_ HO281.out) hb) (R_below (rU_ HO285.out) hb) (R_below (rU_ HO288.out) hb) (R_below (rU_ HO292.out) hb) (R_below (rU_ HO296.out) hb) (R_below (rU_ HO300.out) hb) (R_below (rU_ HO304.out) hb) (below_step (bU_ HB.out) hb) ?_; clear HO248 HO251 HO255 HO258 HO261 HO266 HO268 HO271 HO274 HO278 HO281 HO285 HO288 HO292 HO296 HO300 HO304 HB; intro HO248 HO251 HO255 HO258 HO261 HO266 HO268 HO271 HO274 HO278 HO281 HO285 HO288 HO292 HO296 HO300 HO304 HB; clear hb) | ((with_reducible refine gate_dst (N := 79) rfl ?_); (try (refine gate_guard (by rfl) ?_; dsimp only)); refine R_lit (Kd.int .u64) _ 32 ?hg (N := 79) ?hd (xs := ([1, 1, 1] : List Int)) (inner := [.int .u64 1, .int .u64 1, .int .u64 1]) (ok := fun _ => True) (okp := fun _ => True) ?hr ?hp (fun _ hk => hk) trivial (Below.refl _ _) (Nat.le_refl _) (by simp) ?_; (case hd => rfl); (case hg => rfl); (case hr => first | (go_simp; done) | (go_simp; rfl)); (case hp => exact (Reps.one (show Kd.M (Kd.int .u64) _ _ _ 1 [.int .u64 1] from rfl) (Reps.one (show Kd.M (Kd.int .u64) _ _ _ 1 [.int .u64 1] from rfl) (Reps.one (show Kd.M (Kd.int .u64) _ _ _ 1 [.int .u64 1] from rfl) (Reps.none _ _))))); intro v307 w70 ho71 hb hg_ hnew_; clear hg_ hnew_; (first | rw [← Ny306.out] at ho71 | (simp only [Int.reduceToNat] at ho71; rw [← Ny306.out] at ho71)); refine nx19_ (R_elder' (rU_ HO248.out) (R_base ho71) hb) (R_elder' (rU_ HO251.out) (R_base ho71) hb) (R_elder' (rU_ HO255.out) (R_base ho71) hb) (R_elder' (rU_ HO258.out) (R_base ho71) hb) (R_elder' (rU_ HO261.out) (R_base ho71) hb) (R_elder' (rU_ HO266.out) (R_base ho71) hb) (R_elder' (rU_ HO268.out) (R_base ho71) hb) (R_elder' (rU_ HO271.out) (R_base ho71) hb) (R_elder' (rU_ HO274.out) (R_base ho71) hb) (R_elder' (rU_ HO278.out) (R_base ho71) hb) (R_elder' (rU_ HO281.out) (R_base ho71) hb) (R_elder' (rU_ HO285.out) (R_base ho71) hb) (R_elder' (rU_ HO288.out) (R_base ho71) hb) (R_elder' (rU_ HO292.out) (R_base ho71) hb) (R_elder' (rU_ HO296.out) (R_base ho71) hb) (R_elder' (rU_ HO300.out) (R_base ho71) hb) (R_elder' (rU_ HO304.out) (R_base ho71) hb) (R_lower (R_new' (R_new' (R_new' (R_new' (R_new' (R_new' (R_new' (R_new' (R_new' (R_new' (R_new' (R_new' (R_new' (R_new' (R_new' (R_new' (R_new' ho71 (R_lt (rU_ HO248.out))) (R_lt (rU_ HO251.out))) (R_lt (rU_ HO255.out))) (R_lt (rU_ HO258.out))) (R_lt (rU_ HO261.out))) (R_lt (rU_ HO266.out))) (R_lt (rU_ HO268.out))) (R_lt (rU_ HO271.out))) (R_lt (rU_ HO274.out))) (R_lt (rU_ HO278.out))) (R_lt (rU_ HO281.out))) (R_lt (rU_ HO285.out))) (R_lt (rU_ HO288.out))) (R_lt (rU_ HO292.out))) (R_lt (rU_ HO296.out))) (R_lt (rU_ HO300.out))) (R_lt (rU_ HO304.out))) (below_size (bU_ HB.out))) (below_step (bU_ HB.out) hb) ?_; clear HO248 HO251 HO255 HO258 HO261 HO266 HO268 HO271 HO274 HO278 HO281 HO285 HO288 HO292 HO296 HO300 HO304 HB; intro HO248 HO251 HO255 HO258 HO261 HO266 HO268 HO271 HO274 HO278 HO281 HO285 HO288 HO292 HO296 HO300 HO304 HO308 HB; clear hb ho71; obtain ⟨Ao72, co72, eo72⟩ := R_slice HO308.out; subst eo72) | (go_at_call 35; (with_reducible refine (poly_Shift.calls k 0 _ _ y306 2 t309 _ ?side1 ?side2 ?side3 A20.out).mono ?_); (case side1 => exact fU_ HG.out HB.out); (case side2 => exact cU_ ((R_reads' HO308.out).2.2)); (case side3 => exact (R_reads' HO308.out).2.1); rintro e w73 ⟨v310, rfl, ho0, hb⟩; refine nx20_ (R_elder' (rU_ HO248.out) (R_base ho0) hb) (R_elder' (rU_ HO251.out) (R_base ho0) hb) (R_elder' (rU_ HO255.out) (R_base ho0) hb) (R_elder' (rU_ HO258.out) (R_base ho0) hb) (R_elder' (rU_ HO261.out) (R_base ho0) hb) (R_elder' (rU_ HO266.out) (R_base ho0) hb) (R_elder' (rU_ HO268.out) (R_base ho0) hb) (R_elder' (rU_ HO271.out) (R_base ho0) hb) (R_elder' (rU_ HO274.out) (R_base ho0) hb) (R_elder' (rU_ HO278.out) (R_base ho0) hb) (R_elder' (rU_ HO281.out) (R_base ho0) hb) (R_elder' (rU_ HO285.out) (R_base ho0) hb) (R_elder' (rU_ HO288.out) (R_base ho0) hb) (R_elder' (rU_ HO292.out) (R_base ho0) hb) (R_elder' (rU_ HO296.out) (R_base ho0) hb) (R_elder' (rU_ HO300.out) (R_base ho0) hb) (R_elder' (rU_ HO304.out) (R_base ho0) hb) (R_elder' (rU_ HO308.out) (R_base ho0) hb) (R_lower (R_new' (R_new' (R_new' (R_new' (R_new' (R_new' (R_new' (R_new' (R_new' (R_new' (R_new' (R_new' (R_new' (R_new' (R_new' (R_new' (R_new' (R_new' ho0 (R_lt (rU_ HO248.out))) (R_lt (rU_ HO251.out))) (R_lt (rU_ HO255.out))) (R_lt (rU_ HO258.out))) (R_lt (rU_ HO261.out))) (R_lt (rU_ HO266.out))) (R_lt (rU_ HO268.out))) (R_lt (rU_ HO271.out))) (R_lt (rU_ HO274.out))) (R_lt (rU_ HO278.out))) (R_lt (rU_ HO281.out))) (R_lt (rU_ HO285.out))) (R_lt (rU_ HO288.out))) (R_lt (rU_ HO292.out))) (R_lt (rU_ HO296.out))) (R_lt (rU_ HO300.out))) (R_lt (rU_ HO304.out))) (R_lt (rU_ HO308.out))) (below_size (bU_ HB.out))) (below_step (bU_ HB.out) hb) ?_; clear HO248 HO251 HO255 HO258 HO261 HO266 HO268 HO271 HO274 HO278 HO281 HO285 HO288 HO292 HO296 HO300 HO304 HO308 HB; intro HO248 HO251 HO255 HO258 HO261 HO266 HO268 HO271 HO274 HO278 HO281 HO285 HO288 HO292 HO296 HO300 HO304 HO308 HO311 HB; clear hb ho0) | ((with_reducible refine gate_dst (N := 81) rfl ?_); (try (refine gate_guard (by rfl) ?_; dsimp only)); refine R_lit (Kd.int .u64) _ 32 ?hg (N := 81) ?hd (xs := ([1, 2, 4] : List Int)) (inner := [.int .u64 1, .int .u64 2, .int .u64 4]) (ok := fun _ => True) (okp := fun _ => True) ?hr ?hp (fun _ hk => hk) trivial (Below.refl _ _) (Nat.le_refl _) (by simp) ?_; (case hd => rfl); (case hg => rfl); (case hr => first | (go_simp; done) | (go_simp; rfl)); (case hp => exact (Reps.one (show Kd.M (Kd.int .u64) _ _ _ 1 [.int .u64 1] from rfl) (Reps.one (show Kd.M (Kd.int .u64) _ _ _ 2 [.int .u64 2] from rfl) (Reps.one (show Kd.M (Kd.int .u64) _ _ _ 4 [.int .u64 4] from rfl) (Reps.none _ _))))); intro v313 w74 ho75 hb hg_ hnew_; clear hg_ hnew_; (first | rw [← Ny312.out] at ho75 | (simp only [Int.reduceToNat] at ho75; rw [← Ny312.out] at ho75)); refine nx21_ (R_elder' (rU_ HO248.out) (R_base ho75) hb) (R_elder' (rU_ HO251.out) (R_base ho75) hb) (R_elder' (rU_ HO255.out) (R_base ho75) hb) (R_elder' (rU_ HO258.out) (R_base ho75) hb) (R_elder' (rU_ HO261.out) (R_base ho75) hb) (R_elder' (rU_ HO266.out) (R_base ho75) hb) (R_elder' (rU_ HO268.out) (R_base ho75) hb) (R_elder' (rU_ HO271.out) (R_base ho75) hb) (R_elder' (rU_ HO274.out) (R_base ho75) hb) (R_elder' (rU_ HO278.out) (R_base ho75) hb) (R_elder' (rU_ HO281.out) (R_base ho75) hb) (R_elder' (rU_ HO285.out) (R_base ho75) hb) (R_elder' (rU_ HO288.out) (R_base ho75) hb) (R_elder' (rU_ HO292.out) (R_base ho75) hb) (R_elder' (rU_ HO296.out) (R_base ho75) hb) (R_elder' (rU_ HO300.out) (R_base ho75) hb) (R_elder' (rU_ HO304.out) (R_base ho75) hb) (R_elder' (rU_ HO308.out) (R_base ho75) hb) (R_elder' (rU_ HO311.out) (R_base ho75) hb) (R_lower (R_new' (R_new' (R_new' (R_new' (R_new' (R_new' (R_new' (R_new' (R_new' (R_new' (R_new' (R_new' (R_new' (R_new' (R_new' (R_new' (R_new' (R_new' (R_new' ho75 (R_lt (rU_ HO248.out))) (R_lt (rU_ HO251.out))) (R_lt (rU_ HO255.out))) (R_lt (rU_ HO258.out))) (R_lt (rU_ HO261.out))) (R_lt (rU_ HO266.out))) (R_lt (rU_ HO268.out))) (R_lt (rU_ HO271.out))) (R_lt (rU_ HO274.out))) (R_lt (rU_ HO278.out))) (R_lt (rU_ HO281.out))) (R_lt (rU_ HO285.out))) (R_lt (rU_ HO288.out))) (R_lt (rU_ HO292.out))) (R_lt (rU_ HO296.out))) (R_lt (rU_ HO300.out))) (R_lt (rU_ HO304.out))) (R_lt (rU_ HO308.out))) (R_lt (rU_ HO311.out))) (below_size (bU_ HB.out))) (below_step (bU_ HB.out) hb) ?_; clear HO248 HO251 HO255 HO258 HO261 HO266 HO268 HO271 HO274 HO278 HO281 HO285 HO288 HO292 HO296 HO300 HO304 HO308 HO311 HB; intro HO248 HO251 HO255 HO258 HO261 HO266 HO268 HO271 HO274 HO278 HO281 HO285 HO288 HO292 HO296 HO300 HO304 HO308 HO311 HO314 HB; clear hb ho75; obtain ⟨Ao76, co76, eo76⟩ := R_slice HO311.out; subst eo76; obtain ⟨Ao77, co77, eo77⟩ := R_slice HO314.out; subst eo77) | (go_at_call 21; (with_reducible refine (attestorlaw03_same.calls k _ _ t309 _ _ y312 true _ ?side1 ?side2 ?side3 ?side4 A21.out).mono ?_); (case side1 => exact cU_ ((R_reads' HO311.out).2.2)); (case side2 => exact (R_reads' HO311.out).2.1); (case side3 => exact cU_ ((R_reads' HO314.out).2.2)); (case side4 => exact (R_reads' HO314.out).2.1); rintro e w' ⟨rfl, ⟨nd, rfl⟩⟩) | ((with_reducible refine gate_dst (N := 85) rfl ?_); (try (refine gate_guard (by rfl) ?_; dsimp only)); refine R_lit (Kd.int .u64) _ 32 ?hg (N := 85) ?hd (xs := ([0, 0, 97] : List Int)) (inner := [.int .u64 0, .int .u64 0, .int .u64 97]) (ok := fun _ => True) (okp := fun _ => True) ?hr ?hp (fun _ hk => hk) trivial (Below.refl _ _) (Nat.le_refl _) (by simp) ?_; (case hd => rfl); (case hg => rfl); (case hr => first | (go_simp; done) | (go_simp; rfl)); (case hp => exact (Reps.one (show Kd.M (Kd.int .u64) _ _ _ 0 [.int .u64 0] from rfl) (Reps.one (show Kd.M (Kd.int .u64) _ _ _ 0 [.int .u64 0] from rfl) (Reps.one (show Kd.M (Kd.int .u64) _ _ _ 97 [.int .u64 97] from rfl) (Reps.none _ _))))); intro v317 w78 ho79 hb hg_ hnew_; clear hg_ hnew_; (first | rw [← Ny316.out] at ho79 | (simp only [Int.reduceToNat] at ho79; rw [← Ny316.out] at ho79)); refine nx22_ (R_elder' (rU_ HO248.out) (R_base ho79) hb) (R_elder' (rU_ HO251.out) (R_base ho79) hb) (R_elder' (rU_ HO255.out) (R_base ho79) hb) (R_elder' (rU_ HO258.out) (R_base ho79) hb) (R_elder' (rU_ HO261.out) (R_base ho79) hb) (R_elder' (rU_ HO266.out) (R_base ho79) hb) (R_elder' (rU_ HO268.out) (R_base ho79) hb) (R_elder' (rU_ HO271.out) (R_base ho79) hb) (R_elder' (rU_ HO274.out) (R_base ho79) hb) (R_elder' (rU_ HO278.out) (R_base ho79) hb) (R_elder' (rU_ HO281.out) (R_base ho79) hb) (R_elder' (rU_ HO285.out) (R_base ho79) hb) (R_elder' (rU_ HO288.out) (R_base ho79) hb) (R_elder' (rU_ HO292.out) (R_base ho79) hb) (R_elder' (rU_ HO296.out) (R_base ho79) hb) (R_elder' (rU_ HO300.out) (R_base ho79) hb) (R_elder' (rU_ HO304.out) (R_base ho79) hb) (R_elder' (rU_ HO308.out) (R_base ho79) hb) (R_elder' (rU_ HO311.out) (R_base ho79) hb) (R_elder' (rU_ HO314.out) (R_base ho79) hb) (R_lower (R_new' (R_new' (R_new' (R_new' (R_new' (R_new' (R_new' (R_new' (R_new' (R_new' (R_new' (R_new' (R_new' (R_new' (R_new' (R_new' (R_new' (R_new' (R_new' (R_new' ho79 (R_lt (rU_ HO248.out))) (R_lt (rU_ HO251.out))) (R_lt (rU_ HO255.out))) (R_lt (rU_ HO258.out))) (R_lt (rU_ HO261.out))) (R_lt (rU_ HO266.out))) (R_lt (rU_ HO268.out))) (R_lt (rU_ HO271.out))) (R_lt (rU_ HO274.out))) (R_lt (rU_ HO278.out))) (R_lt (rU_ HO281.out))) (R_lt (rU_ HO285.out))) (R_lt (rU_ HO288.out))) (R_lt (rU_ HO292.out))) (R_lt (rU_ HO296.out))) (R_lt (rU_ HO300.out))) (R_lt (rU_ HO304.out))) (R_lt (rU_ HO308.out))) (R_lt (rU_ HO311.out))) (R_lt (rU_ HO314.out))) (below_size (bU_ HB.out))) (below_step (bU_ HB.out) hb) ?_; clear HO248 HO251 HO255 HO258 HO261 HO266 HO268 HO271 HO274 HO278 HO281 HO285 HO288 HO292 HO296 HO300 HO304 HO308 HO311 HO314 HB; intro HO248 HO251 HO255 HO258 HO261 HO266 HO268 HO271 HO274 HO278 HO281 HO285 HO288 HO292 HO296 HO300 HO304 HO308 HO311 HO314 HO318 HB; clear hb ho79; obtain ⟨Ao80, co80, eo80⟩ := R_slice HO318.out; subst eo80) | (go_at_call 18; (with_reducible refine (poly_Degree.calls k 0 _ _ y316 t319 _ ?side1 ?side2 ?side3 A23.out).mono ?_); (case side1 => exact fU_ HG.out HB.out); (case side2 => exact cU_ ((R_reads' HO318.out).2.2)); (case side3 => exact (R_reads' HO318.out).2.1); rintro e w81 ⟨rfl, hb⟩; refine nx22_ (R_below (rU_ HO248.out) hb) (R_below (rU_ HO251.out) hb) (R_below (rU_ HO255.out) hb) (R_below (rU_ HO258.out) hb) (R_below (rU_ HO261.out) hb) (R_below (rU_ HO266.out) hb) (R_below (rU_ HO268.out) hb) (R_below (rU_ HO271.out) hb) (R_below (rU_ HO274.out) hb) (R_below (rU_ HO278.out) hb) (R_below (rU_ HO281.out) hb) (R_below (rU_ HO285.out) hb) (R_below (rU_ HO288.out) hb) (R_below (rU_ HO292.out) hb) (R_below (rU_ HO296.out) hb) (R_below (rU_ HO300.out) hb) (R_below (rU_ HO304.out) hb) (R_below (rU_ HO308.out) hb) (R_below (rU_ HO311.out) hb) (R_below (rU_ HO314.out) hb) (R_below (rU_ HO318.out) hb) (below_step (bU_ HB.out) hb) ?_; clear HO248 HO251 HO255 HO258 HO261 HO266 HO268 HO271 HO274 HO278 HO281 HO285 HO288 HO292 HO296 HO300 HO304 HO308 HO311 HO314 HO318 HB; intro HO248 HO251 HO255 HO258 HO261 HO266 HO268 HO271 HO274 HO278 HO281 HO285 HO288 HO292 HO296 HO300 HO304 HO308 HO311 HO314 HO318 HB; clear hb))
      go_ret
      exact ⟨eW_, bU_ HB.out⟩
     replace c22 := Bool.eq_false_iff.mpr c22
     subst c22
     rw [if_neg (show ¬ (false = true) by decide)] at H
     exact absurd H (by simp)
    replace c17 := Bool.eq_false_iff.mpr c17
    subst c17
    rw [if_neg (show ¬ (false = true) by decide)] at H
    exact absurd H (by simp)
   replace c14 := Bool.eq_false_iff.mpr c14
   subst c14
   rw [if_neg (show ¬ (false = true) by decide)] at H
   exact absurd H (by simp)
  replace c10 := Bool.eq_false_iff.mpr c10
  subst c10
  rw [if_neg (show ¬ (false = true) by decide)] at H
  exact absurd H (by simp)
 replace c7 := Bool.eq_false_iff.mpr c7
 subst c7
 rw [if_neg (show ¬ (false = true) by decide)] at H
 exact absurd H (by simp)

end Go.Proofs.YtmnahhacobfafaaDoor.Q

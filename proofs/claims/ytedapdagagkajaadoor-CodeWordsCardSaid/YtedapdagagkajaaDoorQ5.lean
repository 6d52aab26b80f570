import Derived.Test.YtedapdagagkajaaDoorQ0
import Derived.Test.YtedapdagagkajaaDoorQ2
import Derived.Test.YtedapdagagkajaaDoorQ3
namespace Go.Proofs.YtedapdagagkajaaDoor.Q
open Go.RowKit Go.Proofs.YtedapdagagkajaaDoorW.PrintWords Go.Proofs.YtedapdagagkajaaDoorW.PrintLast Go.Proofs.YtedapdagagkajaaDoorW.PrintMore
open Kd (R_below R_lower R_slice R_reads' C_below)
attribute [local go_sem] max2_int min2_int max_two min_two max_three min_three max_four min_four   -- for this text's walks alone
set_option linter.unusedVariables false
set_option linter.unusedSimpArgs false

def poly_Degree.l0 : Nat → Int → List Int → Int → Option (Int)
 | 0, _, _, _ => none
 | k + 1, x0, x1, x5 => if x5 > 0 then (if 0 ≤ (wrap64 (x5 - 1)) then (if (wrap64 (x5 - 1)) < (x1.length : Int) then ((field_Reduce.f x0 (rd x1 (wrap64 (x5 - 1)))).bind fun t353 => (if t353 = 0 then (poly_Degree.l0 k x0 x1 (wrap64 (x5 - 1))) else (some (wrap64 (x5 - 1))))) else (none)) else (none)) else (some (-1))
def poly_Degree.f (k : Nat) (a0 : Int) (l1 : List Int) : Option (Int) := poly_Degree.l0 k a0 l1 (l1.length : Int)
theorem poly_Degree.mono_l : ∀ k, (∀ y0 y1 y2, LeO (poly_Degree.l0 k y0 y1 y2) (poly_Degree.l0 (k + 1) y0 y1 y2))
 | 0 => fun _ _ _ r h => by simp [poly_Degree.l0] at h
 | k + 1 => by
  have ih0 := poly_Degree.mono_l k
  ·intro y0 y1 y2
   unfold poly_Degree.l0
   with_reducible repeat' first | apply ih0 | exact LeO.refl _ | exact LeO.none _ | refine LeO.ite ?_ ?_ | refine LeO.bind ?_ (fun _ => ?_)
theorem poly_Degree.mono : ∀ a0 a1 k, LeO (poly_Degree.f k a0 a1) (poly_Degree.f (k + 1) a0 a1) := by
 intro a0 a1 k
 have ih0 := poly_Degree.mono_l k
 unfold poly_Degree.f
 with_reducible repeat' first | apply ih0 | exact LeO.refl _ | exact LeO.none _ | refine LeO.ite ?_ ?_ | refine LeO.bind ?_ (fun _ => ?_)
set_option maxHeartbeats 8000000 in
set_option maxRecDepth 100000 in
theorem poly_Degree.calls (k : Nat) (a0 : Int) (A1 : Option Addr) (c1 : Nat) (l1 : List Int) (r : Int) (w : World) (hG : Fld w) (hr1 : Kd.C (Kd.int .u64) w A1 l1.length l1) (hc1 : l1.length ≤ c1) (h : poly_Degree.f k a0 l1 = some r) :
  Calls Tryd.prog 48 #[.int .i64 a0, .slice A1 l1.length c1] w fun e w' => e = .returned (.int .i64 r) ∧ Below w.heap.size w w' := by
 have HG := ak hG
 clear hG
 have HR1 := ak hr1
 have HC1 := ak hc1
 clear hr1 hc1
 have HB := ak (Below.refl w.heap.size w)
 have H : (poly_Degree.l0 k a0 l1 (l1.length : Int)) = some r := h
 clear h
 have H' := ak H
 clear H
 go_enter Tryd.func48, Tryd.ntmps48
 go_wp2
 go_loopg [5] k (fun kq v5 w' => ∃ (x5_1 : Int), v5 = .int .i64 x5_1 ∧ Aside0 (poly_Degree.l0 kq a0 l1 x5_1 = some r) ∧ Aside0 (kq ≤ k) ∧ Aside0 (Below w.heap.size w w'))
 case atStart => exact ⟨((l1.length : Int)), gb_, H', ⟨Nat.le_refl _⟩, ⟨bU_ HB.out⟩⟩
 case round =>
  clear H'
  (try clear c1); (try clear p2)
  obtain ⟨x5_1, rfl, HA, HK1, HB⟩ := hrel
  cases gk with
  | zero => exact absurd HA.out (by simp [poly_Degree.l0])
  | succ k1 =>
   have H := HA.out
   clear HA
   simp only [poly_Degree.l0] at H
   by_cases c3 : x5_1 > 0
   ·rw [if_pos c3] at H
    have c3b0 : decide (0 < x5_1) = true := decide_eq_true c3
    clear c3
    obtain ⟨ji4, hji4⟩ : ∃ j_ : Int, (wrap64 (x5_1 - 1)) = j_ := ⟨_, rfl⟩
    first | rw [hji4] at H | simp only [hji4] at H
    have hji4w : (IntKind.i64.wrap (x5_1 - 1)) = ji4 := (i64_w _).trans hji4
    obtain ⟨c5, H⟩ : (0 ≤ (ji4)) ∧ _ := it_ H
    have c5b0 := decide_eq_true c5
    clear c5
    obtain ⟨c6, H⟩ : ((ji4) < (l1.length : Int)) ∧ _ := it_ H
    have c6b0 := decide_eq_true c6
    clear c6
    revert H
    refine bd_ fun t353 A7 H => ?_
    by_cases c8 : t353 = 0
    ·rw [if_pos c8] at H
     have c8b0 := beq_iff_eq.mpr c8
     have c8b1 := bne_eq_false_iff_eq.mpr c8
     clear c8
     have H' := ak H
     clear H
     have p352 : 0 ≤ ((ji4) : Int) := od_
     have q352 : (ji4) < (l1.length : Int) := od_
     obtain ⟨ad352, e352, hx352_0⟩ := Kd.at_int HR1.out (ji4) p352 q352
     cases e352
     replace hx352_0 := (HB.out.cell (World.block_lt_of_cell? w _ hx352_0)).trans hx352_0
     replace p352 := eq_true p352
     replace q352 := eq_true q352
     go_wp2_with (first | ((with_reducible refine gate_callee (f := 65) rfl ?_); refine goesL_ (some 18) rfl rfl Tryd.func65 (by kernel_rfl) rfl #[.int .i64 a0, .int .u64 (rd l1 (ji4))] rfl (by (try simp only [List.map_toArray, List.map_cons, List.map_nil]); first | done | (simp only [hji4]; rfl) | rfl | (simp only [List.length_drop, List.length_take]; rfl)) ?_; (with_reducible refine (field_Reduce.calls a0 (rd l1 (ji4)) t353 _ ?side1 A7.out).mono ?_); (case side1 => exact fU_ HG.out HB.out); rintro e w9 ⟨rfl, hb⟩; refine ⟨_, rfl, ?_⟩; refine nx1_ (below_step (bU_ HB.out) hb) ?_; clear HB; intro HB; clear hb))
     go_roundg k1
     case measure => have := HK1.out; omega
     case rel => exact ⟨(ji4), (by first | rfl | (simp; done) | (simp only [← hji4] <;> (first | rfl | simp)) | (simp [*]; done)), H', ⟨by have := HK1.out; omega⟩, ⟨bU_ HB.out⟩⟩
    rw [if_neg c8] at H
    have c8b0 := beq_eq_false_iff_ne.mpr c8
    have c8b1 := bne_iff_ne.mpr c8
    obtain rfl := Option.some.inj H
    have p352 : 0 ≤ ((ji4) : Int) := od_
    have q352 : (ji4) < (l1.length : Int) := od_
    obtain ⟨ad352, e352, hx352_0⟩ := Kd.at_int HR1.out (ji4) p352 q352
    cases e352
    replace hx352_0 := (HB.out.cell (World.block_lt_of_cell? w _ hx352_0)).trans hx352_0
    replace p352 := eq_true p352
    replace q352 := eq_true q352
    go_wp2_with (first | ((with_reducible refine gate_callee (f := 65) rfl ?_); refine goesL_ (some 18) rfl rfl Tryd.func65 (by kernel_rfl) rfl #[.int .i64 a0, .int .u64 (rd l1 (ji4))] rfl (by (try simp only [List.map_toArray, List.map_cons, List.map_nil]); first | done | (simp only [hji4]; rfl) | rfl | (simp only [List.length_drop, List.length_take]; rfl)) ?_; (with_reducible refine (field_Reduce.calls a0 (rd l1 (ji4)) t353 _ ?side1 A7.out).mono ?_); (case side1 => exact fU_ HG.out HB.out); rintro e w10 ⟨rfl, hb⟩; refine ⟨_, rfl, ?_⟩; refine nx1_ (below_step (bU_ HB.out) hb) ?_; clear HB; intro HB; clear hb))
    go_ret
    exact ⟨by first | rfl | (simp [errW_none, errW_some] <;> rfl) | (simp only [← hji4]; first | rfl | (simp [errW_none, errW_some] <;> rfl)) | (simp [*, errW_none, errW_some] <;> rfl), bU_ HB.out⟩
   rw [if_neg c3] at H
   have c3b0 : decide (0 < x5_1) = false := decide_eq_false c3
   clear c3
   obtain rfl := Option.some.inj H
   go_wp2
   go_ret
   exact ⟨eW_, bU_ HB.out⟩

def code_IsWord.j0 : Nat → List Int → Int → Bool → Int → Int → Int → Option (Bool)
 | 0, _, _, _, _, _, _ => none
 | k + 1, x1, x2, x22, x355000, x355001, x355002 => if x22 = true then (some false) else ((transform_Coefficients.f k x355000 x355002 x1).bind fun bt356 => (if bt356.2 = 0 then ((poly_Degree.f k x355000 bt356.1).bind fun t360 => (some (decide (t360 < x2)))) else (some false)))
def code_IsWord.f (k : Nat) (a0_0 : Int) (a0_1 : Int) (a0_2 : Int) (l1 : List Int) (a2 : Int) : Option (Bool) := (code_isWord.f a0_0 a0_1 a0_2 l1).bind fun t355 => (if t355 = true then (if a2 < 0 then (code_IsWord.j0 k l1 a2 true a0_0 a0_1 a0_2) else (code_IsWord.j0 k l1 a2 (decide (a2 > (l1.length : Int))) a0_0 a0_1 a0_2)) else (code_IsWord.j0 k l1 a2 true a0_0 a0_1 a0_2))
theorem code_IsWord.mono_l : ∀ k, (∀ y0 y1 y2 y3 y4 y5, LeO (code_IsWord.j0 k y0 y1 y2 y3 y4 y5) (code_IsWord.j0 (k + 1) y0 y1 y2 y3 y4 y5))
 | 0 => fun _ _ _ _ _ _ r h => by simp [code_IsWord.j0] at h
 | k + 1 => by
  have ih0 := code_IsWord.mono_l k
  ·intro y0 y1 y2 y3 y4 y5
   unfold code_IsWord.j0
   with_reducible repeat' first | apply ih0 | apply poly_Degree.mono | apply transform_Coefficients.mono | exact LeO.refl _ | exact LeO.none _ | refine LeO.ite ?_ ?_ | refine LeO.bind ?_ (fun _ => ?_)
theorem code_IsWord.mono : ∀ a0 a1 a2 a3 a4 k, LeO (code_IsWord.f k a0 a1 a2 a3 a4) (code_IsWord.f (k + 1) a0 a1 a2 a3 a4) := by
 intro a0 a1 a2 a3 a4 k
 have ih0 := code_IsWord.mono_l k
 unfold code_IsWord.f
 with_reducible repeat' first | apply ih0 | apply poly_Degree.mono | apply transform_Coefficients.mono | exact LeO.refl _ | exact LeO.none _ | refine LeO.ite ?_ ?_ | refine LeO.bind ?_ (fun _ => ?_)
set_option maxHeartbeats 8000000 in
set_option maxRecDepth 100000 in
theorem code_IsWord.calls (k : Nat) (a0_0 : Int) (a0_1 : Int) (a0_2 : Int) (A1 : Option Addr) (c1 : Nat) (l1 : List Int) (a2 : Int) (r : Bool) (w : World) (hG : Fld w) (hr1 : Kd.C (Kd.int .u64) w A1 l1.length l1) (hc1 : l1.length ≤ c1) (h : code_IsWord.f k a0_0 a0_1 a0_2 l1 a2 = some r) :
  Calls Tryd.prog 31 #[.agg #[.int .i64 a0_0, .int .i64 a0_1, .int .u64 a0_2], .slice A1 l1.length c1, .int .i64 a2] w fun e w' => e = .returned (.bool r) ∧ Below w.heap.size w w' := by
 have hu24 := Tryd.underlying24
 have HG := ak hG
 clear hG
 have HR1 := ak hr1
 have HC1 := ak hc1
 clear hr1 hc1
 have HB := ak (Below.refl w.heap.size w)
 have H := h
 clear h
 unfold code_IsWord.f at H
 have HC4 := ak H
 clear H
 go_enter Tryd.func31, Tryd.ntmps31
 go_upto_region 1 with (first | ((with_reducible refine gate_dst (N := 3) rfl ?_); (try (refine gate_guard (by rfl) ?_; dsimp only)); refine bx_ 3 24 #[.int .i64 a0_0, .int .i64 a0_1, .int .u64 a0_2] ?_; intro gb354 hg w5 hbox hb; refine nx4_ (below_step (bU_ HB.out) hb) (hbox) ((hs_ hg (below_size (bU_ HB.out)))) ((hs_ hg (below_size (bU_ HB.out)))) ?_; clear HB; intro HB BK354 GW354 GE354; clear hb hbox hg))
 (try simp only [Act.put, s1_, s2_, s3_])
 go_cut [22] (fun v22 wc => ∃ (kq : Nat) (x22_3 : Bool), v22 = .bool x22_3 ∧ Aside0 (code_IsWord.j0 kq l1 a2 x22_3 a0_0 a0_1 a0_2 = some r) ∧ Aside0 (kq ≤ k) ∧ Aside0 (wc.heap[gb354]? = some (.cells #[.int .i64 a0_0, .int .i64 a0_1, .int .u64 a0_2] 24 (0, 0))) ∧ Aside0 (Below w.heap.size w wc))
 case first =>
  have H := HC4.out
  clear HC4
  revert H
  refine bd_ fun t355 A6 H => ?_
  by_cases c7 : t355 = true
  ·subst c7
   rw [if_pos rfl] at H
   by_cases c8 : a2 < 0
   ·rw [if_pos c8] at H
    have c8b0 := decide_eq_true c8
    clear c8
    (first | rw [c8b0] | (simp only [i64_w, i32_w]; rw [c8b0]) | rw [c8b1] | skip)
    have H' := ak H
    clear H
    have hcz9_0 := bc0_ BK354.out
    have hcz9_1 := bc1_ BK354.out
    have hcz9_2 := bc2_ BK354.out
    have hfz9_0 := blk_frozen BK354.out 0
    have hfz9_1 := blk_frozen BK354.out 1
    have hfz9_2 := blk_frozen BK354.out 2
    go_wp2_with (first | ((with_reducible refine gate_callee (f := 62) rfl ?_); refine gl_ (some 11) Tryd.func62 #[.agg #[.int .i64 a0_0, .int .i64 a0_1, .int .u64 a0_2], .slice A1 l1.length c1] ?_; (with_reducible refine (code_isWord.calls a0_0 a0_1 a0_2 _ _ l1 true _ ?side1 ?side2 ?side3 A6.out).mono ?_); (case side1 => repeat (first | with_reducible exact HG.out | with_reducible exact (Fld.below HG.out HB.out) | exact (Fld.below HG.out sU_) | (with_reducible refine Fld.alloc ?_ _) | (with_reducible refine Fld.drewN ?_ _) | (with_reducible refine Fld.drew ?_))); (case side2 => exact cU_ (C_below HR1.out HB.out)); (case side3 => exact HC1.out); rintro e w10 ⟨rfl, hb⟩; refine ⟨_, rfl, ?_⟩; refine nx2_ (blk_below (kU_ BK354.out) hb) (below_step sU_ hb) ?_; clear BK354 HB; intro BK354 HB; clear hb))
    go_meet
    case rel => exact ⟨_, (true), gb_, H', ⟨by first | omega | exact Nat.le_refl _⟩, ⟨by (with_reducible repeat (first | refine blk_drewN ?_ _ | refine blk_drew ?_ | refine blk_alloc ?_ _)); exact BK354.out⟩, ⟨sU_⟩⟩
   rw [if_neg c8] at H
   have c8b0 := decide_eq_false c8
   clear c8
   (first | rw [c8b0] | (simp only [i64_w, i32_w]; rw [c8b0]) | rw [c8b1] | skip)
   have H' := ak H
   clear H
   have hcz11_0 := bc0_ BK354.out
   have hcz11_1 := bc1_ BK354.out
   have hcz11_2 := bc2_ BK354.out
   have hfz11_0 := blk_frozen BK354.out 0
   have hfz11_1 := blk_frozen BK354.out 1
   have hfz11_2 := blk_frozen BK354.out 2
   go_wp2_with (first | ((with_reducible refine gate_callee (f := 62) rfl ?_); refine gl_ (some 11) Tryd.func62 #[.agg #[.int .i64 a0_0, .int .i64 a0_1, .int .u64 a0_2], .slice A1 l1.length c1] ?_; (with_reducible refine (code_isWord.calls a0_0 a0_1 a0_2 _ _ l1 true _ ?side1 ?side2 ?side3 A6.out).mono ?_); (case side1 => repeat (first | with_reducible exact HG.out | with_reducible exact (Fld.below HG.out HB.out) | exact (Fld.below HG.out sU_) | (with_reducible refine Fld.alloc ?_ _) | (with_reducible refine Fld.drewN ?_ _) | (with_reducible refine Fld.drew ?_))); (case side2 => exact cU_ (C_below HR1.out HB.out)); (case side3 => exact HC1.out); rintro e w12 ⟨rfl, hb⟩; refine ⟨_, rfl, ?_⟩; refine nx2_ (blk_below (kU_ BK354.out) hb) (below_step sU_ hb) ?_; clear BK354 HB; intro BK354 HB; clear hb))
   go_meet
   case rel => exact ⟨_, (decide (a2 > (l1.length : Int))), gb_, H', ⟨by first | omega | exact Nat.le_refl _⟩, ⟨by (with_reducible repeat (first | refine blk_drewN ?_ _ | refine blk_drew ?_ | refine blk_alloc ?_ _)); exact BK354.out⟩, ⟨sU_⟩⟩
  replace c7 := Bool.eq_false_iff.mpr c7
  subst c7
  rw [if_neg (show ¬ (false = true) by decide)] at H
  have H' := ak H
  clear H
  have hcz13_0 := bc0_ BK354.out
  have hcz13_1 := bc1_ BK354.out
  have hcz13_2 := bc2_ BK354.out
  have hfz13_0 := blk_frozen BK354.out 0
  have hfz13_1 := blk_frozen BK354.out 1
  have hfz13_2 := blk_frozen BK354.out 2
  go_wp2_with (first | ((with_reducible refine gate_callee (f := 62) rfl ?_); refine gl_ (some 11) Tryd.func62 #[.agg #[.int .i64 a0_0, .int .i64 a0_1, .int .u64 a0_2], .slice A1 l1.length c1] ?_; (with_reducible refine (code_isWord.calls a0_0 a0_1 a0_2 _ _ l1 false _ ?side1 ?side2 ?side3 A6.out).mono ?_); (case side1 => repeat (first | with_reducible exact HG.out | with_reducible exact (Fld.below HG.out HB.out) | exact (Fld.below HG.out sU_) | (with_reducible refine Fld.alloc ?_ _) | (with_reducible refine Fld.drewN ?_ _) | (with_reducible refine Fld.drew ?_))); (case side2 => exact cU_ (C_below HR1.out HB.out)); (case side3 => exact HC1.out); rintro e w14 ⟨rfl, hb⟩; refine ⟨_, rfl, ?_⟩; refine nx2_ (blk_below (kU_ BK354.out) hb) (below_step sU_ hb) ?_; clear BK354 HB; intro BK354 HB; clear hb))
  go_meet
  case rel => exact ⟨_, (true), gb_, H', ⟨by first | omega | exact Nat.le_refl _⟩, ⟨by (with_reducible repeat (first | refine blk_drewN ?_ _ | refine blk_drew ?_ | refine blk_alloc ?_ _)); exact BK354.out⟩, ⟨sU_⟩⟩
 case rest =>
  clear HC4
  (try clear c1); (try clear p2); (try clear c3); (try clear c6); (try clear c7); (try clear c8); (try clear c8b0); (try clear c8b1); (try clear hcz11_0); (try clear hcz11_1); (try clear hcz11_2); (try clear hcz13_0); (try clear hcz13_1); (try clear hcz13_2); (try clear hcz9_0); (try clear hcz9_1); (try clear hcz9_2); (try clear hfz11_0); (try clear hfz11_1); (try clear hfz11_2); (try clear hfz13_0); (try clear hfz13_1); (try clear hfz13_2); (try clear hfz9_0); (try clear hfz9_1); (try clear hfz9_2)
  obtain ⟨kq, x22_3, rfl, HA, HJ3, BK354, HB⟩ := hcut
  cases kq with
  | zero => exact absurd HA.out (by simp [code_IsWord.j0])
  | succ kj3 =>
   have H := HA.out
   clear HA
   simp only [code_IsWord.j0] at H
   by_cases c15 : x22_3 = true
   ·subst c15
    rw [if_pos rfl] at H
    obtain rfl := Option.some.inj H
    go_wp2
    go_ret
    exact ⟨eW_, sU_⟩
   replace c15 := Bool.eq_false_iff.mpr c15
   subst c15
   rw [if_neg (show ¬ (false = true) by decide)] at H
   revert H
   refine bd2_ fun t356 t357 A16 H => ?_
   try dsimp only at H
   by_cases c17 : t357 = 0
   ·rw [if_pos c17] at H
    have c17b0 := beq_iff_eq.mpr c17
    have c17b1 := bne_eq_false_iff_eq.mpr c17
    clear c17
    revert H
    refine bd_ fun t360 A18 H => ?_
    obtain rfl := Option.some.inj H
    have hcz19_0 := bc0_ BK354.out
    have hcz19_1 := bc1_ BK354.out
    have hcz19_2 := bc2_ BK354.out
    have hfz19_0 := blk_frozen BK354.out 0
    have hfz19_1 := blk_frozen BK354.out 1
    have hfz19_2 := blk_frozen BK354.out 2
    go_wp2_with (first | ((with_reducible refine gate_callee (f := 69) rfl ?_); refine gl_ (some 29) Tryd.func69 #[.int .i64 a0_0, .int .u64 a0_2, .slice A1 l1.length c1] ?_; (with_reducible refine (transform_Coefficients.calls kj3 a0_0 a0_2 _ _ l1 t356 t357 _ ?side1 ?side2 ?side3 A16.out).mono ?_); (case side1 => repeat (first | with_reducible exact HG.out | with_reducible exact (Fld.below HG.out HB.out) | exact (Fld.below HG.out sU_) | (with_reducible refine Fld.alloc ?_ _) | (with_reducible refine Fld.drewN ?_ _) | (with_reducible refine Fld.drew ?_))); (case side2 => exact cU_ (C_below HR1.out HB.out)); (case side3 => exact HC1.out); rintro e w20 ⟨v358, rfl, ho0, hb⟩; refine ⟨_, rfl, ?_⟩; refine nx3_ (R_lower ho0 (below_size sU_)) (blk_below (kU_ BK354.out) hb) (below_step sU_ hb) ?_; clear BK354 HB; intro HO359 BK354 HB; clear hb ho0; have hcz21_0 := bc0_ BK354.out; have hcz21_1 := bc1_ BK354.out; have hcz21_2 := bc2_ BK354.out; have hfz21_0 := blk_frozen BK354.out 0; have hfz21_1 := blk_frozen BK354.out 1; have hfz21_2 := blk_frozen BK354.out 2; obtain ⟨Ao22, co22, eo22⟩ := R_slice HO359.out; subst eo22) | (go_at_call 48; (with_reducible refine (poly_Degree.calls kj3 a0_0 _ _ t356 t360 _ ?side1 ?side2 ?side3 A18.out).mono ?_); (case side1 => repeat (first | with_reducible exact HG.out | with_reducible exact (Fld.below HG.out HB.out) | exact (Fld.below HG.out sU_) | (with_reducible refine Fld.alloc ?_ _) | (with_reducible refine Fld.drewN ?_ _) | (with_reducible refine Fld.drew ?_))); (case side2 => exact cU_ ((R_reads' HO359.out).2.2)); (case side3 => exact (R_reads' HO359.out).2.1); rintro e w23 ⟨rfl, hb⟩; refine nx3_ (R_below (rU_ HO359.out) hb) (blk_below (kU_ BK354.out) hb) (below_step sU_ hb) ?_; clear HO359 BK354 HB; intro HO359 BK354 HB; clear hb))
    go_ret
    exact ⟨eW_, sU_⟩
   rw [if_neg c17] at H
   have c17b0 := beq_eq_false_iff_ne.mpr c17
   have c17b1 := bne_iff_ne.mpr c17
   obtain rfl := Option.some.inj H
   have hcz24_0 := bc0_ BK354.out
   have hcz24_1 := bc1_ BK354.out
   have hcz24_2 := bc2_ BK354.out
   have hfz24_0 := blk_frozen BK354.out 0
   have hfz24_1 := blk_frozen BK354.out 1
   have hfz24_2 := blk_frozen BK354.out 2
   go_wp2_with (first | ((with_reducible refine gate_callee (f := 69) rfl ?_); refine gl_ (some 29) Tryd.func69 #[.int .i64 a0_0, .int .u64 a0_2, .slice A1 l1.length c1] ?_; (with_reducible refine (transform_Coefficients.calls kj3 a0_0 a0_2 _ _ l1 t356 t357 _ ?side1 ?side2 ?side3 A16.out).mono ?_); (case side1 => repeat (first | with_reducible exact HG.out | with_reducible exact (Fld.below HG.out HB.out) | exact (Fld.below HG.out sU_) | (with_reducible refine Fld.alloc ?_ _) | (with_reducible refine Fld.drewN ?_ _) | (with_reducible refine Fld.drew ?_))); (case side2 => exact cU_ (C_below HR1.out HB.out)); (case side3 => exact HC1.out); rintro e w25 ⟨v358, rfl, ho0, hb⟩; refine ⟨_, rfl, ?_⟩; refine nx3_ (R_lower ho0 (below_size sU_)) (blk_below (kU_ BK354.out) hb) (below_step sU_ hb) ?_; clear BK354 HB; intro HO359 BK354 HB; clear hb ho0))
   go_ret
   exact ⟨eW_, sU_⟩

mutual
def code_Differ.j0 : Nat → Int → List Int → List Int → Option (Int)
 | 0, _, _, _ => none
 | k + 1, x0, x1, x2 => code_Differ.l0 k x0 x2 (wrap64 ((x2.length : Int) - (x1.length : Int))) x1 (x1.length : Int) 0
def code_Differ.l0 : Nat → Int → List Int → Int → List Int → Int → Int → Option (Int)
 | 0, _, _, _, _, _, _ => none
 | k + 1, x0, x2, x7, x25, x26, x27 => if x27 < x26 then (if 0 ≤ x27 then (if x27 < (x25.length : Int) then (if x27 < (x2.length : Int) then ((field_Sub.f x0 (rd x25 x27) (rd x2 x27)).bind fun t330 => (if t330 = 0 then (code_Differ.l0 k x0 x2 x7 x25 x26 (wrap64 (x27 + 1))) else (code_Differ.l0 k x0 x2 (wrap64 (x7 + 1)) x25 x26 (wrap64 (x27 + 1))))) else (none)) else (none)) else (none)) else (some x7)
end
def code_Differ.f (k : Nat) (a0 : Int) (l1 : List Int) (l2 : List Int) : Option (Int) := (field_Valid.f a0).bind fun t327 => (if t327 = true then (if (l1.length : Int) > (l2.length : Int) then (code_Differ.j0 k a0 l2 l1) else (code_Differ.j0 k a0 l1 l2)) else (some 0))
theorem code_Differ.mono_l : ∀ k, (∀ y0 y1 y2, LeO (code_Differ.j0 k y0 y1 y2) (code_Differ.j0 (k + 1) y0 y1 y2)) ∧ (∀ y0 y1 y2 y3 y4 y5, LeO (code_Differ.l0 k y0 y1 y2 y3 y4 y5) (code_Differ.l0 (k + 1) y0 y1 y2 y3 y4 y5))
 | 0 => ⟨fun _ _ _ r h => by simp [code_Differ.j0] at h, fun _ _ _ _ _ _ r h => by simp [code_Differ.l0] at h⟩
 | k + 1 => by
  obtain ⟨ih0, ih1⟩ := code_Differ.mono_l k
  refine ⟨?_, ?_⟩
  ·intro y0 y1 y2
   unfold code_Differ.j0
   with_reducible repeat' first | apply ih0 | apply ih1 | exact LeO.refl _ | exact LeO.none _ | refine LeO.ite ?_ ?_ | refine LeO.bind ?_ (fun _ => ?_)
  intro y0 y1 y2 y3 y4 y5
  unfold code_Differ.l0
  with_reducible repeat' first | apply ih0 | apply ih1 | exact LeO.refl _ | exact LeO.none _ | refine LeO.ite ?_ ?_ | refine LeO.bind ?_ (fun _ => ?_)
theorem code_Differ.mono : ∀ a0 a1 a2 k, LeO (code_Differ.f k a0 a1 a2) (code_Differ.f (k + 1) a0 a1 a2) := by
 intro a0 a1 a2 k
 obtain ⟨ih0, ih1⟩ := code_Differ.mono_l k
 unfold code_Differ.f
 with_reducible repeat' first | apply ih0 | apply ih1 | exact LeO.refl _ | exact LeO.none _ | refine LeO.ite ?_ ?_ | refine LeO.bind ?_ (fun _ => ?_)
set_option maxHeartbeats 8000000 in
set_option maxRecDepth 100000 in
theorem code_Differ.calls (k : Nat) (a0 : Int) (A1 : Option Addr) (c1 : Nat) (l1 : List Int) (A2 : Option Addr) (c2 : Nat) (l2 : List Int) (r : Int) (w : World) (hG : Fld w) (hr1 : Kd.C (Kd.int .u64) w A1 l1.length l1) (hc1 : l1.length ≤ c1) (hr2 : Kd.C (Kd.int .u64) w A2 l2.length l2) (hc2 : l2.length ≤ c2) (h : code_Differ.f k a0 l1 l2 = some r) :
  Calls Tryd.prog 36 #[.int .i64 a0, .slice A1 l1.length c1, .slice A2 l2.length c2] w fun e w' => e = .returned (.int .i64 r) ∧ Below w.heap.size w w' := by
 have HG := ak hG
 clear hG
 have HR1 := ak hr1
 have HC1 := ak hc1
 clear hr1 hc1
 have HR2 := ak hr2
 have HC2 := ak hc2
 clear hr2 hc2
 have HB := ak (Below.refl w.heap.size w)
 have H := h
 clear h
 unfold code_Differ.f at H
 revert H
 refine bd_ fun t327 A4 H => ?_
 by_cases c5 : t327 = true
 ·subst c5
  rw [if_pos rfl] at H
  have HC6 := ak H
  clear H
  go_enter Tryd.func36, Tryd.ntmps36
  go_upto_if 17 with (first | ((with_reducible refine gate_callee (f := 49) rfl ?_); refine gl_ (some 11) Tryd.func49 #[.int .i64 a0] ?_; (with_reducible refine (field_Valid.calls a0 true _ A4.out).mono ?_); rintro e w' ⟨rfl, ⟨nd, rfl⟩⟩; refine ⟨_, rfl, ?_⟩))
  (try simp only [Act.put, s1_, s2_, s3_])
  go_cut [1, 2] (fun v1 v2 wc => ∃ (kq : Nat) (Ax : Option Addr) (cx : Nat) (lx : List Int) (Ay : Option Addr) (cy : Nat) (ly : List Int), v1 = .slice Ax lx.length cx ∧ v2 = .slice Ay ly.length cy ∧ Aside0 (Kd.C (Kd.int .u64) w Ax lx.length lx) ∧ Aside0 (Kd.C (Kd.int .u64) w Ay ly.length ly) ∧ Aside0 (code_Differ.j0 kq a0 lx ly = some r) ∧ Aside0 (kq ≤ k) ∧ Aside0 (Below w.heap.size w wc))
  case first =>
   have H := HC6.out
   clear HC6
   by_cases c7 : (l1.length : Int) > (l2.length : Int)
   ·rw [if_pos c7] at H
    have c7b0 : decide ((l2.length : Int) < (l1.length : Int)) = true := decide_eq_true c7
    have c7b1 : decide (l2.length < l1.length) = true := decide_eq_true (Int.ofNat_lt.mp c7)
    clear c7
    (first | rw [c7b0] | (simp only [i64_w, i32_w]; rw [c7b0]) | rw [c7b1] | skip)
    have H' := ak H
    clear H
    go_wp2
    go_meet
    case rel => exact ⟨_, A2, c2, l2, A1, c1, l1, rfl, rfl, HR2, HR1, H', ⟨by first | omega | exact Nat.le_refl _⟩, ⟨bU_ HB.out⟩⟩
   rw [if_neg c7] at H
   have c7b0 : decide ((l2.length : Int) < (l1.length : Int)) = false := decide_eq_false c7
   have c7b1 : decide (l2.length < l1.length) = false := decide_eq_false (fun h => c7 (Int.ofNat_lt.mpr h))
   clear c7
   (first | rw [c7b0] | (simp only [i64_w, i32_w]; rw [c7b0]) | rw [c7b1] | skip)
   have H' := ak H
   clear H
   go_wp2
   go_meet
   case rel => exact ⟨_, A1, c1, l1, A2, c2, l2, rfl, rfl, HR1, HR2, H', ⟨by first | omega | exact Nat.le_refl _⟩, ⟨bU_ HB.out⟩⟩
  case rest =>
   clear HC6
   (try clear c5b0); (try clear c5b1); (try clear p2); (try clear c3); (try clear c4); (try clear c5); (try clear c7); (try clear c7b0); (try clear c7b1)
   clear HR1 HR2 HC1 HC2
   obtain ⟨kq, Ax, cx, lx, Ay, cy, ly, rfl, rfl, HR1, HR2, HA, HJ5, HB⟩ := hcut
   cases kq with
   | zero => exact absurd HA.out (by simp [code_Differ.j0])
   | succ kj5 =>
    have H := HA.out
    clear HA
    simp only [code_Differ.j0] at H
    have H' := ak H
    clear H
    go_wp2
    go_loopg [7, 27] kj5 (fun kq v7 v27 w' => ∃ (x7_2 : Int) (x27_2 : Int), v7 = .int .i64 x7_2 ∧ v27 = .int .i64 x27_2 ∧ Aside0 (code_Differ.l0 kq a0 ly x7_2 lx (lx.length : Int) x27_2 = some r) ∧ Aside0 (kq ≤ kj5) ∧ Aside0 (Below w.heap.size w w'))
    case atStart => exact ⟨(wrap64 ((ly.length : Int) - (lx.length : Int))), (0), gb_, gb_, H', ⟨Nat.le_refl _⟩, ⟨bU_ HB.out⟩⟩
    case round =>
     clear H'
     (try clear c5b0); (try clear c5b1); (try clear p2); (try clear c3); (try clear c4); (try clear c5); (try clear p6); (try clear c7); (try clear c7b0); (try clear c7b1)
     obtain ⟨x7_2, x27_2, rfl, rfl, HA, HK2, HB⟩ := hrel
     cases gk with
     | zero => exact absurd HA.out (by simp [code_Differ.l0])
     | succ k2 =>
      have H := HA.out
      clear HA
      simp only [code_Differ.l0] at H
      by_cases c8 : x27_2 < (lx.length : Int)
      ·rw [if_pos c8] at H
       have c8b0 := decide_eq_true c8
       clear c8
       obtain ⟨c9, H⟩ : (0 ≤ x27_2) ∧ _ := it_ H
       have c9b0 := decide_eq_true c9
       clear c9
       obtain ⟨c10, H⟩ : (x27_2 < (lx.length : Int)) ∧ _ := it_ H
       have c10b0 := decide_eq_true c10
       clear c10
       obtain ⟨c11, H⟩ : (x27_2 < (ly.length : Int)) ∧ _ := it_ H
       have c11b0 := decide_eq_true c11
       clear c11
       revert H
       refine bd_ fun t330 A12 H => ?_
       by_cases c13 : t330 = 0
       ·rw [if_pos c13] at H
        have c13b0 := beq_iff_eq.mpr c13
        have c13b1 := bne_eq_false_iff_eq.mpr c13
        clear c13
        have H' := ak H
        clear H
        have p328 : 0 ≤ (x27_2 : Int) := od_
        have q328 : x27_2 < (lx.length : Int) := od_
        obtain ⟨ad328, e328, hx328_0⟩ := Kd.at_int HR1.out x27_2 p328 q328
        cases e328
        replace hx328_0 := (HB.out.cell (World.block_lt_of_cell? w _ hx328_0)).trans hx328_0
        replace p328 := eq_true p328
        replace q328 := eq_true q328
        have p329 : 0 ≤ (x27_2 : Int) := od_
        have q329 : x27_2 < (ly.length : Int) := od_
        obtain ⟨ad329, e329, hx329_0⟩ := Kd.at_int HR2.out x27_2 p329 q329
        cases e329
        replace hx329_0 := (HB.out.cell (World.block_lt_of_cell? w _ hx329_0)).trans hx329_0
        replace p329 := eq_true p329
        replace q329 := eq_true q329
        go_wp2_with (first | ((with_reducible refine gate_callee (f := 73) rfl ?_); refine gl_ (some 38) Tryd.func73 #[.int .i64 a0, .int .u64 (rd lx x27_2), .int .u64 (rd ly x27_2)] ?_; (with_reducible refine (field_Sub.calls a0 (rd lx x27_2) (rd ly x27_2) t330 _ ?side1 A12.out).mono ?_); (case side1 => exact fU_ HG.out HB.out); rintro e w14 ⟨rfl, hb⟩; refine ⟨_, rfl, ?_⟩; refine nx1_ (below_step (bU_ HB.out) hb) ?_; clear HB; intro HB; clear hb))
        go_roundg k2
        case measure => have := HJ5.out; have := HK2.out; omega
        case rel => exact ⟨(x7_2), (wrap64 (x27_2 + 1)), gb_, gb_, H', ⟨by have := HJ5.out; have := HK2.out; omega⟩, ⟨bU_ HB.out⟩⟩
       rw [if_neg c13] at H
       have c13b0 := beq_eq_false_iff_ne.mpr c13
       have c13b1 := bne_iff_ne.mpr c13
       have H' := ak H
       clear H
       have p328 : 0 ≤ (x27_2 : Int) := od_
       have q328 : x27_2 < (lx.length : Int) := od_
       obtain ⟨ad328, e328, hx328_0⟩ := Kd.at_int HR1.out x27_2 p328 q328
       cases e328
       replace hx328_0 := (HB.out.cell (World.block_lt_of_cell? w _ hx328_0)).trans hx328_0
       replace p328 := eq_true p328
       replace q328 := eq_true q328
       have p329 : 0 ≤ (x27_2 : Int) := od_
       have q329 : x27_2 < (ly.length : Int) := od_
       obtain ⟨ad329, e329, hx329_0⟩ := Kd.at_int HR2.out x27_2 p329 q329
       cases e329
       replace hx329_0 := (HB.out.cell (World.block_lt_of_cell? w _ hx329_0)).trans hx329_0
       replace p329 := eq_true p329
       replace q329 := eq_true q329
       go_wp2_with (first | ((with_reducible refine gate_callee (f := 73) rfl ?_); refine gl_ (some 38) Tryd.func73 #[.int .i64 a0, .int .u64 (rd lx x27_2), .int .u64 (rd ly x27_2)] ?_; (with_reducible refine (field_Sub.calls a0 (rd lx x27_2) (rd ly x27_2) t330 _ ?side1 A12.out).mono ?_); (case side1 => exact fU_ HG.out HB.out); rintro e w15 ⟨rfl, hb⟩; refine ⟨_, rfl, ?_⟩; refine nx1_ (below_step (bU_ HB.out) hb) ?_; clear HB; intro HB; clear hb))
       go_roundg k2
       case measure => have := HJ5.out; have := HK2.out; omega
       case rel => exact ⟨(wrap64 (x7_2 + 1)), (wrap64 (x27_2 + 1)), gb_, gb_, H', ⟨by have := HJ5.out; have := HK2.out; omega⟩, ⟨bU_ HB.out⟩⟩
      rw [if_neg c8] at H
      have c8b0 := decide_eq_false c8
      clear c8
      obtain rfl := Option.some.inj H
      go_wp2
      go_ret
      exact ⟨eW_, bU_ HB.out⟩
 replace c5 := Bool.eq_false_iff.mpr c5
 subst c5
 rw [if_neg (show ¬ (false = true) by decide)] at H
 obtain rfl := Option.some.inj H
 go_enter Tryd.func36, Tryd.ntmps36
 go_wp2_with (first | ((with_reducible refine gate_callee (f := 49) rfl ?_); refine gl_ (some 11) Tryd.func49 #[.int .i64 a0] ?_; (with_reducible refine (field_Valid.calls a0 false _ A4.out).mono ?_); rintro e w' ⟨rfl, ⟨nd, rfl⟩⟩; refine ⟨_, rfl, ?_⟩))
 go_ret
 exact ⟨eW_, bU_ HB.out⟩


def attestorlaw05_same.l0 : Nat → List Int → List Int → Int → Option (Bool)
 | 0, _, _, _ => none
 | k + 1, x0, x1, x5 => if x5 < (x0.length : Int) then (if 0 ≤ x5 then (if x5 < (x1.length : Int) then (if (rd x0 x5) = (rd x1 x5) then (attestorlaw05_same.l0 k x0 x1 (wrap64 (x5 + 1))) else (some false)) else (none)) else (none)) else (some true)
def attestorlaw05_same.f (k : Nat) (l0 : List Int) (l1 : List Int) : Option (Bool) := if (l0.length : Int) = (l1.length : Int) then (attestorlaw05_same.l0 k l0 l1 0) else (some false)
theorem attestorlaw05_same.mono_l : ∀ k, (∀ y0 y1 y2, LeO (attestorlaw05_same.l0 k y0 y1 y2) (attestorlaw05_same.l0 (k + 1) y0 y1 y2))
 | 0 => fun _ _ _ r h => by simp [attestorlaw05_same.l0] at h
 | k + 1 => by
  have ih0 := attestorlaw05_same.mono_l k
  ·intro y0 y1 y2
   unfold attestorlaw05_same.l0
   with_reducible repeat' first | apply ih0 | exact LeO.refl _ | exact LeO.none _ | refine LeO.ite ?_ ?_ | refine LeO.bind ?_ (fun _ => ?_)
theorem attestorlaw05_same.mono : ∀ a0 a1 k, LeO (attestorlaw05_same.f k a0 a1) (attestorlaw05_same.f (k + 1) a0 a1) := by
 intro a0 a1 k
 have ih0 := attestorlaw05_same.mono_l k
 unfold attestorlaw05_same.f
 with_reducible repeat' first | apply ih0 | exact LeO.refl _ | exact LeO.none _ | refine LeO.ite ?_ ?_ | refine LeO.bind ?_ (fun _ => ?_)
set_option maxHeartbeats 8000000 in
set_option maxRecDepth 100000 in
theorem attestorlaw05_same.calls (k : Nat) (A0 : Option Addr) (c0 : Nat) (l0 : List Int) (A1 : Option Addr) (c1 : Nat) (l1 : List Int) (r : Bool) (w : World) (hr0 : Kd.C (Kd.int .u64) w A0 l0.length l0) (hc0 : l0.length ≤ c0) (hr1 : Kd.C (Kd.int .u64) w A1 l1.length l1) (hc1 : l1.length ≤ c1) (h : attestorlaw05_same.f k l0 l1 = some r) :
  Calls Tryd.prog 37 #[.slice A0 l0.length c0, .slice A1 l1.length c1] w fun e w' => e = .returned (.bool r) ∧ Drawn0 w w' := by
 have HR0 := ak hr0
 have HC0 := ak hc0
 clear hr0 hc0
 have HR1 := ak hr1
 have HC1 := ak hc1
 clear hr1 hc1
 have H : (if (l0.length : Int) = (l1.length : Int) then (attestorlaw05_same.l0 k l0 l1 0) else (some false)) = some r := h
 clear h
 by_cases c3 : (l0.length : Int) = (l1.length : Int)
 ·rw [if_pos c3] at H
  have c3b0 := beq_iff_eq.mpr c3
  have c3b1 := bne_eq_false_iff_eq.mpr c3
  have c3b2 : (l0.length == l1.length) = true := by first | simpa using c3 | (simp at c3 ⊢; omega)
  clear c3
  have H' := ak H
  clear H
  go_enter Tryd.func37, Tryd.ntmps37
  go_wp2
  repeat (go_quiet (fail); try go_wp2)
  go_loopg [5] k (fun kq v5 w' => ∃ (x5_1 : Int), v5 = .int .i64 x5_1 ∧ Aside0 (attestorlaw05_same.l0 kq l0 l1 x5_1 = some r) ∧ Aside0 (kq ≤ k) ∧ Drawn0 w w')
  case atStart => exact ⟨(0), gb_, H', ⟨Nat.le_refl _⟩, by repeat (first | exact Drawn0.refl _ | apply Drawn0.step)⟩
  case round =>
   clear H'
   (try clear c1); (try clear p2); (try clear c3); (try clear c3b0); (try clear c3b1); (try clear c3b2)
   obtain ⟨x5_1, rfl, HA, HK1, ⟨m1, rfl⟩⟩ := hrel
   cases gk with
   | zero => exact absurd HA.out (by simp [attestorlaw05_same.l0])
   | succ k1 =>
    have H := HA.out
    clear HA
    simp only [attestorlaw05_same.l0] at H
    by_cases c4 : x5_1 < (l0.length : Int)
    ·rw [if_pos c4] at H
     have c4b0 := decide_eq_true c4
     clear c4
     obtain ⟨c5, H⟩ : (0 ≤ x5_1) ∧ _ := it_ H
     have c5b0 := decide_eq_true c5
     clear c5
     obtain ⟨c6, H⟩ : (x5_1 < (l1.length : Int)) ∧ _ := it_ H
     have c6b0 := decide_eq_true c6
     clear c6
     by_cases c7 : (rd l0 x5_1) = (rd l1 x5_1)
     ·rw [if_pos c7] at H
      have c7b0 := beq_iff_eq.mpr c7
      have c7b1 := bne_eq_false_iff_eq.mpr c7
      clear c7
      have H' := ak H
      clear H
      have p361 : 0 ≤ (x5_1 : Int) := od_
      have q361 : x5_1 < (l0.length : Int) := od_
      obtain ⟨ad361, e361, hx361_0⟩ := Kd.at_int HR0.out x5_1 p361 q361
      cases e361
      replace p361 := eq_true p361
      replace q361 := eq_true q361
      have p362 : 0 ≤ (x5_1 : Int) := od_
      have q362 : x5_1 < (l1.length : Int) := od_
      obtain ⟨ad362, e362, hx362_0⟩ := Kd.at_int HR1.out x5_1 p362 q362
      cases e362
      replace p362 := eq_true p362
      replace q362 := eq_true q362
      go_wp2
      repeat (go_quiet (fail); try go_wp2)
      go_roundg k1
      case measure => have := HK1.out; omega
      case rel => exact ⟨(wrap64 (x5_1 + 1)), gb_, H', ⟨by have := HK1.out; omega⟩, by repeat (first | exact Drawn0.refl _ | apply Drawn0.step)⟩
     rw [if_neg c7] at H
     have c7b0 := beq_eq_false_iff_ne.mpr c7
     have c7b1 := bne_iff_ne.mpr c7
     obtain rfl := Option.some.inj H
     have p361 : 0 ≤ (x5_1 : Int) := od_
     have q361 : x5_1 < (l0.length : Int) := od_
     obtain ⟨ad361, e361, hx361_0⟩ := Kd.at_int HR0.out x5_1 p361 q361
     cases e361
     replace p361 := eq_true p361
     replace q361 := eq_true q361
     have p362 : 0 ≤ (x5_1 : Int) := od_
     have q362 : x5_1 < (l1.length : Int) := od_
     obtain ⟨ad362, e362, hx362_0⟩ := Kd.at_int HR1.out x5_1 p362 q362
     cases e362
     replace p362 := eq_true p362
     replace q362 := eq_true q362
     go_wp2
     repeat (go_quiet (fail); try go_wp2)
     go_ret
     exact ⟨by first | rfl | (simp; done) | (simp [*]; done), by repeat (first | exact Drawn0.refl _ | apply Drawn0.step)⟩
    rw [if_neg c4] at H
    have c4b0 := decide_eq_false c4
    clear c4
    obtain rfl := Option.some.inj H
    go_wp2
    repeat (go_quiet (fail); try go_wp2)
    go_ret
    exact ⟨by first | rfl | (simp; done) | (simp [*]; done), by repeat (first | exact Drawn0.refl _ | apply Drawn0.step)⟩
 rw [if_neg c3] at H
 have c3b0 := beq_eq_false_iff_ne.mpr c3
 have c3b1 := bne_iff_ne.mpr c3
 have c3b2 : (l0.length == l1.length) = false := by first | simpa using c3 | (simp at c3 ⊢; omega)
 obtain rfl := Option.some.inj H
 go_enter Tryd.func37, Tryd.ntmps37
 go_wp2
 repeat (go_quiet (fail); try go_wp2)
 go_ret
 exact ⟨by first | rfl | (simp; done) | (simp [*]; done), by repeat (first | exact Drawn0.refl _ | apply Drawn0.step)⟩

def code_local.l0 : Nat → List Int → Int → List Int → Nat → Option (List Int)
 | 0, _, _, _, _ => none
 | k + 1, l, i, x, j => if j < 8 then if 0 ≤ wrap64 (i + wrap64 (Int.tdiv (wrap64 ((j : Int) * (l.length : Int))) 8)) ∧ wrap64 (i + wrap64 (Int.tdiv (wrap64 ((j : Int) * (l.length : Int))) 8)) < (l.length : Int) then code_local.l0 k l i (x.set j (rd l (wrap64 (i + wrap64 (Int.tdiv (wrap64 ((j : Int) * (l.length : Int))) 8))))) (j + 1) else none else some x
def code_local.f (k : Nat) (d0 d1 d2 : Int) (l : List Int) (i : Int) : Option (List Int) := (code_local.l0 k l i (List.replicate 8 0) 0).bind fun x => (code_Point.f k d0 d1 d2 i).bind fun pt => (transform_Coefficients.f k d0 pt x).bind fun bt => some (cpyAt (List.replicate 8 0) 0 bt.1)
theorem code_local.mono_l : ∀ k l i x j, LeO (code_local.l0 k l i x j) (code_local.l0 (k + 1) l i x j)
 | 0, _, _, _, _ => fun r h => by simp [code_local.l0] at h
 | k + 1, l, i, x, j => by
  rw [code_local.l0, code_local.l0]
  exact LeO.ite (LeO.ite (code_local.mono_l _ _ _ _ _) (LeO.refl _)) (LeO.refl _)
theorem code_local.mono : ∀ d0 d1 d2 l i k, LeO (code_local.f k d0 d1 d2 l i) (code_local.f (k + 1) d0 d1 d2 l i) := by
 intro d0 d1 d2 l i k
 unfold code_local.f
 exact LeO.bind (code_local.mono_l _ _ _ _ _) fun _ => LeO.bind (code_Point.mono _ _ _ _ _) fun _ => LeO.bind (transform_Coefficients.mono _ _ _ _) fun _ => LeO.refl _
set_option maxHeartbeats 8000000 in
set_option maxRecDepth 100000 in
theorem code_local.calls8 (k : Nat) (a0_0 a0_1 a0_2 : Int) (A1 : Option Addr) (c1 : Nat) (l1 : List Int) (a2 : Int) (r : List Int) (w : World) (hG : Fld w) (hr1 : Kd.C (Kd.int .u64) w A1 l1.length l1) (hc1 : l1.length ≤ c1) (h : code_local.f k a0_0 a0_1 a0_2 l1 a2 = some r) :
  Calls Tryd.prog 74 #[.agg #[.int .i64 a0_0, .int .i64 a0_1, .int .u64 a0_2], .slice A1 l1.length c1, .int .i64 a2] w fun e w' => e = .returned (arW .u64 r) ∧ r.length = 8 ∧ Below w.heap.size w w' := by
 have hu := Tryd.underlying24
 have HG := ak hG
 have HR1 := ak hr1
 have HC1 := ak hc1
 clear hG hr1 hc1
 have HB := ak (Below.refl w.heap.size w)
 unfold code_local.f at h
 obtain ⟨x, hx, h⟩ := Option.bind_eq_some_iff.mp h
 obtain ⟨pt, hp, h⟩ := Option.bind_eq_some_iff.mp h
 obtain ⟨⟨co, ce⟩, hco, h⟩ := Option.bind_eq_some_iff.mp h
 obtain rfl := Option.some.inj h
 have HX := ak hx
 have HP := ak hp
 have HC := ak hco
 clear hx hp hco h
 go_enter Tryd.func74, Tryd.ntmps74
 go_wp2_with (first | ((with_reducible refine gate_dst (N := 3) rfl ?_); (try (refine gate_guard (by rfl) ?_; dsimp only)); refine bx_ 3 24 #[.int .i64 a0_0, .int .i64 a0_1, .int .u64 a0_2] ?_; intro gb hg w1 hbox hb; refine nx3_ (below_step (bU_ HB.out) hb) hbox ((hs_ hg (below_size (bU_ HB.out)))) ?_; clear HB; intro HB BK GW; clear hb hbox hg) | ((with_reducible refine gate_dst (N := 6) rfl ?_); refine hold_ ?_))
 refine ⟨?_⟩
 refine ev_alloc_ (some 6) 58 8 rfl rfl rfl zA8.1 ?_
 intro B w2 hB hA hb
 have hne := ak (show gb ≠ B by have := bk_lt BK.out; omega)
 refine nx4_ (below_step HB.out hb) (bk_ BK.out hb) hA (Nat.le_trans (below_size HB.out) hB) ?_
 clear HB BK hb hA hB
 intro HB BK HA GB
 go_wp2_with (first | ((with_reducible refine gate_dst (N := 7) rfl ?_); refine hold_ ?_))
 refine ⟨?_⟩
 refine ev_alloc_ (some 7) 58 8 rfl rfl rfl zA8.1 ?_
 intro B1 w3 hB hA1 hb
 have hne1 := ak (show gb ≠ B1 ∧ B ≠ B1 by have := bk_lt BK.out; have := HA.out.lt; omega)
 refine nx5_ (below_step HB.out hb) (bk_ BK.out hb) (HA.out.below hb) hA1 (Nat.le_trans (below_size HB.out) hB) ?_
 clear HB BK HA hb hA1 hB
 intro HB BK HA HA1 GB1
 go_wp2_with (first | ((with_reducible refine gate_dst (N := 8) rfl ?_); refine hold_ ?_))
 refine ⟨?_⟩
 refine ev_alloc_ (some 8) 58 8 rfl rfl rfl zA8.1 ?_
 intro B2 w4 hB hA2 hb
 have hne2 := ak (show gb ≠ B2 ∧ B ≠ B2 ∧ B1 ≠ B2 by have := bk_lt BK.out; have := HA.out.lt; have := HA1.out.lt; omega)
 refine nx6_ (below_step HB.out hb) (bk_ BK.out hb) (HA.out.below hb) (HA1.out.below hb) hA2 (Nat.le_trans (below_size HB.out) hB) ?_
 clear HB BK HA HA1 hb hA2 hB
 intro HB BK HA HA1 HA2 GB2
 go_wp2
 go_loopg [12] k (fun kq v12 w' => ∃ (j : Nat) (xs : List Int), v12 = .int .i64 (j : Int) ∧ Aside0 (code_local.l0 kq l1 a2 xs j = some x) ∧ Aside0 (kq ≤ k) ∧ Aside0 (xs.length = 8) ∧ Aside0 (w'.heap[gb]? = some (.cells #[.int .i64 a0_0, .int .i64 a0_1, .int .u64 a0_2] 24 (0, 0))) ∧ Aside0 (Arr w' B 58 (List.replicate 8 0)) ∧ Aside0 (Arr w' B1 58 xs) ∧ Aside0 (Arr w' B2 58 (List.replicate 8 0)) ∧ Aside0 (Below w.heap.size w w'))
 case atStart => exact ⟨0, _, rfl, HX, ⟨Nat.le_refl _⟩, ⟨rfl⟩, BK, HA, HA1, HA2, HB⟩
 case round =>
  clear HX BK HA HA1 HA2 HB
  obtain ⟨j, xs, rfl, HX, HK, HLN, BK, HA, HA1, HA2, HB⟩ := hrel
  cases gk with
  | zero => exact absurd HX.out (by simp [code_local.l0])
  | succ k1 =>
   have H := HX.out
   clear HX
   rw [code_local.l0] at H
   by_cases c3 : j < 8
   ·rw [if_pos c3] at H
    have e1 : decide ((j : Int) < 8) = true := by simp; omega
    obtain ⟨⟨c4, c5⟩, H⟩ := it_ H
    have HX := ak H
    clear H
    obtain ⟨ad, ea, hx⟩ := Kd.at_int HR1.out _ c4 c5
    cases ea
    replace hx := (HB.out.cell (World.block_lt_of_cell? w _ hx)).trans hx
    have hu25 := uA8
    go_wp2_with ((with_reducible refine gate_store (t := 22) (p := 26) rfl ?_); refine hold_ ?_)
    refine ⟨?_⟩
    have hj8 : j < xs.length := by have := HLN.out; omega
    have hxB := HA1.out.part.cell hj8
    have hfB := HA1.out.part.frozen j
    rw [Nat.zero_add] at hxB
    refine store_event (t := 22) (p := 26) (v := ?vo) (w1 := (wr.setCell ⟨B1, j, none⟩ (.int .u64 (rd l1 (wrap64 (a2 + wrap64 ((wrap64 ((j : Int) * (l1.length : Int))).tdiv 8))))))) ?hg ?ho ?hn ?hr ?_
    case ho => rfl
    case hg => rfl
    case hn => rfl
    case hr => first | (go_simp; done) | (go_simp; rfl)
    intro w7 hw
    have hA1 := HA1.out.set j (rd l1 (wrap64 (a2 + wrap64 ((wrap64 ((j : Int) * (l1.length : Int))).tdiv 8))))
    rw [← hw] at hA1
    have hgr : wr.grownBy w7 (some B1) := by rw [hw]; exact setCell_grown _ _ _ _
    have hbl : Below w.heap.size w w7 := by rw [hw]; exact below_set HB.out GB1.out
    refine nx5_ (bk_grown BK.out hgr hne1.out.1) (HA.out.grown hgr (fun e => hne1.out.2 (Option.some.inj e))) hA1 (HA2.out.grown hgr (fun e => hne2.out.2.2 (Option.some.inj e).symm)) hbl ?_
    clear BK HA HA1 HA2 HB hx hxB hfB hA1 hgr hbl hw
    intro BK HA HA1 HA2 HB
    go_wp2
    go_roundg k1
    case measure => have := HK.out; omega
    case rel => exact ⟨j + 1, _, by first | rfl | (simp; done) | (simp [*]; done), HX, ⟨by have := HK.out; omega⟩, ⟨by rw [List.length_set]; exact HLN.out⟩, BK, HA, HA1, HA2, HB⟩
   rw [if_neg c3] at H
   obtain rfl := Option.some.inj H
   clear H
   have e1 : decide ((j : Int) < 8) = false := by simp; omega
   go_wp2
   refine start_ (n := 12) (S := fun w' => w'.heap[gb]? = some (.cells #[.int .i64 a0_0, .int .i64 a0_1, .int .u64 a0_2] 24 (0, 0)) ∧ Arr w' B1 58 xs) (ds := []) (bv 12 0) (by kernel_rfl) rfl rfl ⟨bk_ BK.out (below_drew1 (Below.refl _ _)), HA1.out.below (below_drew1 (Below.refl _ _))⟩ (fun hHeld => ?_)
   refine nx3_ (HA.out.below (below_drew1 (Below.refl _ _))) (HA2.out.below (below_drew1 (Below.refl _ _))) (below_drew1 HB.out) ?_
   clear BK HA HA1 HA2 HB
   intro HA HA2 HB
   generalize wr.drew = w5 at HA HA2 HB hHeld ⊢
   have HT_ : Aside0 (rtab .any (opsOf Tryd.f74 7) = rtab .any (opsOf Tryd.f74 7)) := ⟨rfl⟩
   refine pq_ 0 29 12 1 HT_.out ?_
   refine take_ (i := 1) (N := some 30) (v := ?_) (a' := ?_) (bv 12 3) rfl rfl (take_of HT_.out (by kernel_rfl)) (fun _ _ _ h => h) (Or.inl ⟨by rfl, ?_⟩) hHeld ?_ ?_
   rotate_left
   ·rintro w' ⟨s0, s1⟩
    have z0 : w'.cell? ⟨gb, 0, none⟩ = some (.int .i64 a0_0) := (blk_cell s0 0).trans rfl
    have z1 : w'.cell? ⟨gb, 1, none⟩ = some (.int .i64 a0_1) := (blk_cell s0 1).trans rfl
    have z2 : w'.cell? ⟨gb, 2, none⟩ = some (.int .u64 a0_2) := (blk_cell s0 2).trans rfl
    go_simp
    with_reducible rfl
   rotate_left
   ·simp only [Act.put, s1_, s2_, s3_, i64_w, i32_w]
    rfl
   refine take_ (i := 2) (N := some 31) (v := ?_) (a' := ?_) (bv 12 7) rfl rfl (take_of HT_.out (by kernel_rfl)) (fun _ _ _ h => h) (Or.inl ⟨by rfl, ?_⟩) hHeld ?_ ?_
   rotate_left
   ·rintro w' ⟨s0, s1⟩
    have z0 : w'.cell? ⟨gb, 0, none⟩ = some (.int .i64 a0_0) := (blk_cell s0 0).trans rfl
    have z1 : w'.cell? ⟨gb, 1, none⟩ = some (.int .i64 a0_1) := (blk_cell s0 1).trans rfl
    have z2 : w'.cell? ⟨gb, 2, none⟩ = some (.int .u64 a0_2) := (blk_cell s0 2).trans rfl
    go_simp
    with_reducible rfl
   rotate_left
   ·simp only [Act.put, s1_, s2_, s3_, i64_w, i32_w]
    rfl
   refine pq_ 3 32 12 15 HT_.out ?_
   refine pr_ (i := 5) (N := some 34) (v := .slice (some ⟨B1, 0, none⟩) 8 8) (a' := ?_) (bv 12 47) HT_.out ?_ ?_ ?_; rotate_left 1; (intro w'; exact exec_slice_ rfl rfl uA8 sU w'); (simp only [Act.put, s1_, s2_, s3_, i64_w, i32_w]; rfl)
   refine oq_ 4 33 12 63 HT_.out fun K hK => ?_
   refine gs_ Tryd.func15 #[.agg #[.int .i64 a0_0, .int .i64 a0_1, .int .u64 a0_2], .int .i64 a2] ?_
   refine (code_Point.calls k a0_0 a0_1 a0_2 a2 pt _ (fU_ HG.out HB.out) HP.out).mono ?_
   rintro e w6 ⟨rfl, hb⟩
   refine ⟨_, rfl, ?_⟩
   refine nx3_ (HA.out.below hb) (HA2.out.below hb) (below_step (bU_ HB.out) hb) ?_
   clear HA HA2 HB
   intro HA HA2 HB
   refine hK.out _ _ ⟨bk_ hHeld.1 hb, hHeld.2.below hb⟩ (fun hHeld => ?_)
   clear hK K hb
   refine norm_ (a' := ?_) ?_ ?_
   rotate_left
   ·show Act.put _ (some 33) _ = _
    simp only [Act.put, s1_, s2_, s3_, i64_w, i32_w]
    rfl
   refine oq_ 6 35 12 127 HT_.out fun K hK => ?_
   refine gs_ Tryd.func69 #[.int .i64 a0_0, .int .u64 pt, .slice (some ⟨B1, 0, none⟩) 8 8] ?_
   have hq := transform_Coefficients.calls k a0_0 pt (some ⟨B1, 0, none⟩) 8 xs co ce w6 (fU_ HG.out HB.out) (hHeld.2.C (by have := HLN.out; omega)) (by have := HLN.out; omega) HC.out
   rw [HLN.out] at hq
   refine hq.mono ?_
   clear hq
   rintro e w7 ⟨v0, rfl, ho, hb⟩
   refine ⟨_, rfl, ?_⟩
   refine nx4_ (HA.out.below hb) (HA2.out.below hb) (below_step (bU_ HB.out) hb) ho ?_
   clear HA HA2 HB ho
   intro HA HA2 HB HO
   obtain ⟨Ao, cc, eo⟩ := R_slice HO.out
   subst eo
   refine hK.out _ _ ⟨bk_ hHeld.1 hb, hHeld.2.below hb⟩ (fun hHeld => ?_)
   clear hK K hb
   refine norm_ (a' := ?_) ?_ ?_
   rotate_left
   ·show Act.put _ (some 35) _ = _
    simp only [Act.put, s1_, s2_, s3_, i64_w, i32_w]
    rfl
   refine pq_ 7 28 12 255 HT_.out ?_
   refine pq_ 8 36 12 511 HT_.out ?_
   refine pq_ 9 37 12 1023 HT_.out ?_
   refine pq_ 10 10 12 2047 HT_.out ?_
   refine pq_ 11 11 12 4095 HT_.out ?_
   refine done_ (done_of HT_.out (by kernel_rfl)) ?_
   clear hHeld
   go_wp2_with ((with_reducible refine gate_dst (N := 38) rfl ?_); refine hold_ ?_)
   refine ⟨?_⟩
   refine ev_slice_ (some 38) 58 (.tmp 8) B2 8 22 rfl rfl rfl rfl uA8 sU ?_
   go_wp2_with ((with_reducible refine gate_builtin (b := .copy) (xs := #[.tmp 38, .tmp 39]) rfl ?_); refine hold_ ?_)
   refine ⟨?_⟩
   refine ev_copy_ (some 40) rfl rfl (.tmp 38) (.tmp 39) 33 33 22 58 B2 (List.replicate 8 0) co Ao co.length cc rfl Tryd.underlying33 sU rfl rfl HA2.out (R_reads' HO.out).2.2 ?_
   intro w8 hA2 hgr hbl
   refine nx3_ (HA.out.grown hgr (fun e => hne2.out.2.1 (Option.some.inj e))) hA2 (hbl _ _ GB2.out HB.out) ?_
   clear HA HA2 HB HO hA2 hgr hbl
   intro HA HA2 HB
   go_wp2_with ((with_reducible refine gate_dst (N := 41) rfl ?_); refine hold_ ?_)
   refine ⟨?_⟩
   have l8 : (cpyAt (List.replicate 8 0) 0 co).length = 8 := by rw [length_cpyAt _ _ _ (by simp)]; rfl
   refine ev_load_ (some 41) 58 (.tmp 8) B2 8 22 _ rfl rfl rfl rfl HA2.out uA8 (by rw [l8]; exact zA8.2) ?_
   go_wp2_with ((with_reducible refine gate_store (t := 58) (p := 6) rfl ?_); refine hold_ ?_)
   refine ⟨?_⟩
   refine ev_store_ 58 (.tmp 6) (.tmp 41) B _ (cpyAt (List.replicate 8 0) 0 co) rfl rfl rfl rfl rfl HA.out (by rw [l8]; rfl) zA8.2 ?_
   intro w9 hA3 _ hs hw8
   have HB1 := hw8 _ _ GB.out HB.out
   go_wp2
   refine bodyPost_ret (results_arr rfl _ _ rfl hA3 uA8 (by rw [l8]; exact zA8.2)) rfl ?_
   exact ⟨rfl, l8, HB1⟩
def code_Local.f (k : Nat) (d0 d1 d2 : Int) (l : List Int) (i : Int) : Option (List Int) := (code_isWord.f d0 d1 d2 l).bind fun b => if b = true then if d1 < 3 then some (List.replicate 8 0) else if i < 0 then some (List.replicate 8 0) else if i ≥ (l.length : Int) / 8 then some (List.replicate 8 0) else code_local.f k d0 d1 d2 l i else some (List.replicate 8 0)
theorem code_Local.mono : ∀ d0 d1 d2 l i k, LeO (code_Local.f k d0 d1 d2 l i) (code_Local.f (k + 1) d0 d1 d2 l i) := by
 intro d0 d1 d2 l i k
 unfold code_Local.f
 exact LeO.bind (LeO.refl _) fun _ => LeO.ite (LeO.ite (LeO.refl _) (LeO.ite (LeO.refl _) (LeO.ite (LeO.refl _) (code_local.mono _ _ _ _ _ _)))) (LeO.refl _)
set_option maxHeartbeats 4000000 in
set_option maxRecDepth 100000 in
theorem code_Local.calls8 (k : Nat) (a0_0 a0_1 a0_2 : Int) (A1 : Option Addr) (c1 : Nat) (l1 : List Int) (a2 : Int) (r : List Int) (w : World) (hG : Fld w) (hr1 : Kd.C (Kd.int .u64) w A1 l1.length l1) (hc1 : l1.length ≤ c1) (h : code_Local.f k a0_0 a0_1 a0_2 l1 a2 = some r) :
  Calls Tryd.prog 41 #[.agg #[.int .i64 a0_0, .int .i64 a0_1, .int .u64 a0_2], .slice A1 l1.length c1, .int .i64 a2] w fun e w' => e = .returned (arW .u64 r) ∧ r.length = 8 ∧ Below w.heap.size w w' := by
 have hu := Tryd.underlying24
 have hbz : ∀ w : World, (Instr.build 58 #[]).run Tryd.prog w = .ok (arW .u64 (List.replicate 8 0)) w := fun _ => by rfl
 have hlen := hr1.2.1
 have HG := ak hG
 have HR1 := ak hr1
 have HC1 := ak hc1
 clear hG hr1 hc1
 have HB := ak (Below.refl w.heap.size w)
 unfold code_Local.f at h
 obtain ⟨b, hw, h⟩ := Option.bind_eq_some_iff.mp h
 have HW := ak hw
 clear hw
 by_cases c0 : b = true
 ·subst c0
  rw [if_pos rfl] at h
  by_cases q1 : a0_1 < 3
  ·rw [if_pos q1] at h
   obtain rfl := Option.some.inj h
   clear h
   have c1b : decide (a0_1 < 3) = true := decide_eq_true q1
   go_enter Tryd.func41, Tryd.ntmps41
   go_wp2_with (first | ((with_reducible refine gate_dst (N := 3) rfl ?_); (try (refine gate_guard (by rfl) ?_; dsimp only)); refine bx_ 3 24 #[.int .i64 a0_0, .int .i64 a0_1, .int .u64 a0_2] ?_; intro gb hg w1 hbox hb; refine nx3_ (below_step (bU_ HB.out) hb) hbox ((hs_ hg (below_size (bU_ HB.out)))) ?_; clear HB; intro HB BK GW; clear hb hbox hg; have hcz_0 := bc0_ BK.out; have hcz_1 := bc1_ BK.out; have hcz_2 := bc2_ BK.out; have hfz_0 := blk_frozen BK.out 0; have hfz_1 := blk_frozen BK.out 1; have hfz_2 := blk_frozen BK.out 2) | ((with_reducible refine gate_dst (N := 6) rfl ?_); refine hold_ ?_))
   refine ⟨?_⟩
   refine ev_alloc_ (some 6) 58 8 rfl rfl rfl zA8.1 ?_
   intro B w2 hB hA hb
   have hne : gb ≠ B := by have := bk_lt BK.out; omega
   clear hcz_0 hcz_1 hcz_2 hfz_0 hfz_1 hfz_2
   refine nx4_ (below_step HB.out hb) (bk_ BK.out hb) hA (Nat.le_trans (below_size HB.out) hB) ?_
   clear HB BK hb hA hB
   intro HB BK HA GB
   have hczw2_0 := bc0_ BK.out; have hczw2_1 := bc1_ BK.out; have hczw2_2 := bc2_ BK.out; have hfzw2_0 := blk_frozen BK.out 0; have hfzw2_1 := blk_frozen BK.out 1; have hfzw2_2 := blk_frozen BK.out 2
   go_wp2_with (first | ((with_reducible refine gate_callee (f := 62) rfl ?_); refine gl_ (some 9) Tryd.func62 #[.agg #[.int .i64 a0_0, .int .i64 a0_1, .int .u64 a0_2], .slice A1 l1.length c1] ?_; refine hold_ ?_))
   refine ⟨?_⟩
   refine (code_isWord.calls a0_0 a0_1 a0_2 A1 c1 l1 true _ (fU_ HG.out HB.out) (C_below HR1.out HB.out) HC1.out HW.out).mono ?_
   rintro e w3 ⟨rfl, hb⟩
   refine ⟨_, rfl, ?_⟩
   clear hczw2_0 hczw2_1 hczw2_2 hfzw2_0 hfzw2_1 hfzw2_2
   refine nx3_ (below_step (bU_ HB.out) hb) (bk_ BK.out hb) (HA.out.below hb) ?_
   clear HB BK HA hb
   intro HB BK HA
   have hczw3_0 := bc0_ BK.out; have hczw3_1 := bc1_ BK.out; have hczw3_2 := bc2_ BK.out; have hfzw3_0 := blk_frozen BK.out 0; have hfzw3_1 := blk_frozen BK.out 1; have hfzw3_2 := blk_frozen BK.out 2
   go_wp2_with ((with_reducible refine gate_store (t := 58) (p := 6) rfl ?_); refine hold_ ?_)
   refine ⟨?_⟩
   refine ev_store_ 58 (.tmp 6) (.tmp 27) B _ (List.replicate 8 0) rfl rfl rfl rfl rfl HA.out rfl zA8.2 ?_
   intro w4 hA3 _ hs hw8
   have HB1 := hw8 _ _ GB.out HB.out
   clear hczw3_0 hczw3_1 hczw3_2 hfzw3_0 hfzw3_1 hfzw3_2
   go_wp2
   refine bodyPost_ret (results_arr rfl _ _ rfl hA3 uA8 zA8.2) rfl ?_
   exact ⟨rfl, rfl, HB1⟩
  rw [if_neg q1] at h
  have c1b : decide (a0_1 < 3) = false := decide_eq_false q1
  by_cases q2 : a2 < 0
  ·rw [if_pos q2] at h
   obtain rfl := Option.some.inj h
   clear h
   have c2b : decide (a2 < 0) = true := decide_eq_true q2
   go_enter Tryd.func41, Tryd.ntmps41
   go_wp2_with (first | ((with_reducible refine gate_dst (N := 3) rfl ?_); (try (refine gate_guard (by rfl) ?_; dsimp only)); refine bx_ 3 24 #[.int .i64 a0_0, .int .i64 a0_1, .int .u64 a0_2] ?_; intro gb hg w1 hbox hb; refine nx3_ (below_step (bU_ HB.out) hb) hbox ((hs_ hg (below_size (bU_ HB.out)))) ?_; clear HB; intro HB BK GW; clear hb hbox hg; have hcz_0 := bc0_ BK.out; have hcz_1 := bc1_ BK.out; have hcz_2 := bc2_ BK.out; have hfz_0 := blk_frozen BK.out 0; have hfz_1 := blk_frozen BK.out 1; have hfz_2 := blk_frozen BK.out 2) | ((with_reducible refine gate_dst (N := 6) rfl ?_); refine hold_ ?_))
   refine ⟨?_⟩
   refine ev_alloc_ (some 6) 58 8 rfl rfl rfl zA8.1 ?_
   intro B w2 hB hA hb
   have hne : gb ≠ B := by have := bk_lt BK.out; omega
   clear hcz_0 hcz_1 hcz_2 hfz_0 hfz_1 hfz_2
   refine nx4_ (below_step HB.out hb) (bk_ BK.out hb) hA (Nat.le_trans (below_size HB.out) hB) ?_
   clear HB BK hb hA hB
   intro HB BK HA GB
   have hczw2_0 := bc0_ BK.out; have hczw2_1 := bc1_ BK.out; have hczw2_2 := bc2_ BK.out; have hfzw2_0 := blk_frozen BK.out 0; have hfzw2_1 := blk_frozen BK.out 1; have hfzw2_2 := blk_frozen BK.out 2
   go_wp2_with (first | ((with_reducible refine gate_callee (f := 62) rfl ?_); refine gl_ (some 9) Tryd.func62 #[.agg #[.int .i64 a0_0, .int .i64 a0_1, .int .u64 a0_2], .slice A1 l1.length c1] ?_; refine hold_ ?_))
   refine ⟨?_⟩
   refine (code_isWord.calls a0_0 a0_1 a0_2 A1 c1 l1 true _ (fU_ HG.out HB.out) (C_below HR1.out HB.out) HC1.out HW.out).mono ?_
   rintro e w3 ⟨rfl, hb⟩
   refine ⟨_, rfl, ?_⟩
   clear hczw2_0 hczw2_1 hczw2_2 hfzw2_0 hfzw2_1 hfzw2_2
   refine nx3_ (below_step (bU_ HB.out) hb) (bk_ BK.out hb) (HA.out.below hb) ?_
   clear HB BK HA hb
   intro HB BK HA
   have hczw3_0 := bc0_ BK.out; have hczw3_1 := bc1_ BK.out; have hczw3_2 := bc2_ BK.out; have hfzw3_0 := blk_frozen BK.out 0; have hfzw3_1 := blk_frozen BK.out 1; have hfzw3_2 := blk_frozen BK.out 2
   go_wp2_with ((with_reducible refine gate_store (t := 58) (p := 6) rfl ?_); refine hold_ ?_)
   refine ⟨?_⟩
   refine ev_store_ 58 (.tmp 6) (.tmp 27) B _ (List.replicate 8 0) rfl rfl rfl rfl rfl HA.out rfl zA8.2 ?_
   intro w4 hA3 _ hs hw8
   have HB1 := hw8 _ _ GB.out HB.out
   clear hczw3_0 hczw3_1 hczw3_2 hfzw3_0 hfzw3_1 hfzw3_2
   go_wp2
   refine bodyPost_ret (results_arr rfl _ _ rfl hA3 uA8 zA8.2) rfl ?_
   exact ⟨rfl, rfl, HB1⟩
  rw [if_neg q2] at h
  have c2b : decide (a2 < 0) = false := decide_eq_false q2
  by_cases q3 : a2 ≥ (l1.length : Int) / 8
  ·rw [if_pos q3] at h
   obtain rfl := Option.some.inj h
   clear h
   have c3b : decide ((l1.length : Int) / 8 ≤ a2) = true := decide_eq_true q3
   go_enter Tryd.func41, Tryd.ntmps41
   go_wp2_with (first | ((with_reducible refine gate_dst (N := 3) rfl ?_); (try (refine gate_guard (by rfl) ?_; dsimp only)); refine bx_ 3 24 #[.int .i64 a0_0, .int .i64 a0_1, .int .u64 a0_2] ?_; intro gb hg w1 hbox hb; refine nx3_ (below_step (bU_ HB.out) hb) hbox ((hs_ hg (below_size (bU_ HB.out)))) ?_; clear HB; intro HB BK GW; clear hb hbox hg; have hcz_0 := bc0_ BK.out; have hcz_1 := bc1_ BK.out; have hcz_2 := bc2_ BK.out; have hfz_0 := blk_frozen BK.out 0; have hfz_1 := blk_frozen BK.out 1; have hfz_2 := blk_frozen BK.out 2) | ((with_reducible refine gate_dst (N := 6) rfl ?_); refine hold_ ?_))
   refine ⟨?_⟩
   refine ev_alloc_ (some 6) 58 8 rfl rfl rfl zA8.1 ?_
   intro B w2 hB hA hb
   have hne : gb ≠ B := by have := bk_lt BK.out; omega
   clear hcz_0 hcz_1 hcz_2 hfz_0 hfz_1 hfz_2
   refine nx4_ (below_step HB.out hb) (bk_ BK.out hb) hA (Nat.le_trans (below_size HB.out) hB) ?_
   clear HB BK hb hA hB
   intro HB BK HA GB
   have hczw2_0 := bc0_ BK.out; have hczw2_1 := bc1_ BK.out; have hczw2_2 := bc2_ BK.out; have hfzw2_0 := blk_frozen BK.out 0; have hfzw2_1 := blk_frozen BK.out 1; have hfzw2_2 := blk_frozen BK.out 2
   go_wp2_with (first | ((with_reducible refine gate_callee (f := 62) rfl ?_); refine gl_ (some 9) Tryd.func62 #[.agg #[.int .i64 a0_0, .int .i64 a0_1, .int .u64 a0_2], .slice A1 l1.length c1] ?_; refine hold_ ?_))
   refine ⟨?_⟩
   refine (code_isWord.calls a0_0 a0_1 a0_2 A1 c1 l1 true _ (fU_ HG.out HB.out) (C_below HR1.out HB.out) HC1.out HW.out).mono ?_
   rintro e w3 ⟨rfl, hb⟩
   refine ⟨_, rfl, ?_⟩
   clear hczw2_0 hczw2_1 hczw2_2 hfzw2_0 hfzw2_1 hfzw2_2
   refine nx3_ (below_step (bU_ HB.out) hb) (bk_ BK.out hb) (HA.out.below hb) ?_
   clear HB BK HA hb
   intro HB BK HA
   have hczw3_0 := bc0_ BK.out; have hczw3_1 := bc1_ BK.out; have hczw3_2 := bc2_ BK.out; have hfzw3_0 := blk_frozen BK.out 0; have hfzw3_1 := blk_frozen BK.out 1; have hfzw3_2 := blk_frozen BK.out 2
   go_wp2_with ((with_reducible refine gate_store (t := 58) (p := 6) rfl ?_); refine hold_ ?_)
   refine ⟨?_⟩
   refine ev_store_ 58 (.tmp 6) (.tmp 27) B _ (List.replicate 8 0) rfl rfl rfl rfl rfl HA.out rfl zA8.2 ?_
   intro w4 hA3 _ hs hw8
   have HB1 := hw8 _ _ GB.out HB.out
   clear hczw3_0 hczw3_1 hczw3_2 hfzw3_0 hfzw3_1 hfzw3_2
   go_wp2
   refine bodyPost_ret (results_arr rfl _ _ rfl hA3 uA8 zA8.2) rfl ?_
   exact ⟨rfl, rfl, HB1⟩
  rw [if_neg q3] at h
  have HL := ak h
  clear h
  have c3b : decide ((l1.length : Int) / 8 ≤ a2) = false := decide_eq_false q3
  go_enter Tryd.func41, Tryd.ntmps41
  go_wp2_with (first | ((with_reducible refine gate_dst (N := 3) rfl ?_); (try (refine gate_guard (by rfl) ?_; dsimp only)); refine bx_ 3 24 #[.int .i64 a0_0, .int .i64 a0_1, .int .u64 a0_2] ?_; intro gb hg w1 hbox hb; refine nx3_ (below_step (bU_ HB.out) hb) hbox ((hs_ hg (below_size (bU_ HB.out)))) ?_; clear HB; intro HB BK GW; clear hb hbox hg; have hcz_0 := bc0_ BK.out; have hcz_1 := bc1_ BK.out; have hcz_2 := bc2_ BK.out; have hfz_0 := blk_frozen BK.out 0; have hfz_1 := blk_frozen BK.out 1; have hfz_2 := blk_frozen BK.out 2) | ((with_reducible refine gate_dst (N := 6) rfl ?_); refine hold_ ?_))
  refine ⟨?_⟩
  refine ev_alloc_ (some 6) 58 8 rfl rfl rfl zA8.1 ?_
  intro B w2 hB hA hb
  have hne : gb ≠ B := by have := bk_lt BK.out; omega
  clear hcz_0 hcz_1 hcz_2 hfz_0 hfz_1 hfz_2
  refine nx4_ (below_step HB.out hb) (bk_ BK.out hb) hA (Nat.le_trans (below_size HB.out) hB) ?_
  clear HB BK hb hA hB
  intro HB BK HA GB
  have hczw2_0 := bc0_ BK.out; have hczw2_1 := bc1_ BK.out; have hczw2_2 := bc2_ BK.out; have hfzw2_0 := blk_frozen BK.out 0; have hfzw2_1 := blk_frozen BK.out 1; have hfzw2_2 := blk_frozen BK.out 2
  go_wp2_with (first | ((with_reducible refine gate_callee (f := 62) rfl ?_); refine gl_ (some 9) Tryd.func62 #[.agg #[.int .i64 a0_0, .int .i64 a0_1, .int .u64 a0_2], .slice A1 l1.length c1] ?_; refine hold_ ?_))
  refine ⟨?_⟩
  refine (code_isWord.calls a0_0 a0_1 a0_2 A1 c1 l1 true _ (fU_ HG.out HB.out) (C_below HR1.out HB.out) HC1.out HW.out).mono ?_
  rintro e w3 ⟨rfl, hb⟩
  refine ⟨_, rfl, ?_⟩
  clear hczw2_0 hczw2_1 hczw2_2 hfzw2_0 hfzw2_1 hfzw2_2
  refine nx3_ (below_step (bU_ HB.out) hb) (bk_ BK.out hb) (HA.out.below hb) ?_
  clear HB BK HA hb
  intro HB BK HA
  have hczw3_0 := bc0_ BK.out; have hczw3_1 := bc1_ BK.out; have hczw3_2 := bc2_ BK.out; have hfzw3_0 := blk_frozen BK.out 0; have hfzw3_1 := blk_frozen BK.out 1; have hfzw3_2 := blk_frozen BK.out 2
  go_wp2_with (first | ((with_reducible refine gate_callee (f := 74) rfl ?_); refine gl_ (some 31) Tryd.func74 #[.agg #[.int .i64 a0_0, .int .i64 a0_1, .int .u64 a0_2], .slice A1 l1.length c1, .int .i64 a2] ?_; refine hold_ ?_))
  refine ⟨?_⟩
  refine (code_local.calls8 k a0_0 a0_1 a0_2 A1 c1 l1 a2 r _ (fU_ HG.out HB.out) (C_below HR1.out HB.out) HC1.out HL.out).mono ?_
  rintro e w4 ⟨rfl, hl8, hb⟩
  refine ⟨_, rfl, ?_⟩
  clear hczw3_0 hczw3_1 hczw3_2 hfzw3_0 hfzw3_1 hfzw3_2
  refine nx2_ (below_step (bU_ HB.out) hb) (HA.out.below hb) ?_
  clear HB BK HA hb
  intro HB HA
  go_wp2_with ((with_reducible refine gate_store (t := 58) (p := 6) rfl ?_); refine hold_ ?_)
  refine ⟨?_⟩
  refine ev_store_ 58 (.tmp 6) (.tmp 31) B _ r rfl rfl rfl rfl rfl HA.out (by simpa using hl8) zA8.2 ?_
  intro w5 hA3 _ hs hw8
  have HB1 := hw8 _ _ GB.out HB.out
  go_wp2
  refine bodyPost_ret (results_arr rfl _ _ rfl hA3 uA8 (by rw [hl8]; exact zA8.2)) rfl ?_
  exact ⟨rfl, hl8, HB1⟩
 rw [if_neg c0] at h
 obtain rfl := Option.some.inj h
 clear h
 obtain rfl : b = false := by simpa using c0
 go_enter Tryd.func41, Tryd.ntmps41
 go_wp2_with (first | ((with_reducible refine gate_dst (N := 3) rfl ?_); (try (refine gate_guard (by rfl) ?_; dsimp only)); refine bx_ 3 24 #[.int .i64 a0_0, .int .i64 a0_1, .int .u64 a0_2] ?_; intro gb hg w1 hbox hb; refine nx3_ (below_step (bU_ HB.out) hb) hbox ((hs_ hg (below_size (bU_ HB.out)))) ?_; clear HB; intro HB BK GW; clear hb hbox hg; have hcz_0 := bc0_ BK.out; have hcz_1 := bc1_ BK.out; have hcz_2 := bc2_ BK.out; have hfz_0 := blk_frozen BK.out 0; have hfz_1 := blk_frozen BK.out 1; have hfz_2 := blk_frozen BK.out 2) | ((with_reducible refine gate_dst (N := 6) rfl ?_); refine hold_ ?_))
 refine ⟨?_⟩
 refine ev_alloc_ (some 6) 58 8 rfl rfl rfl zA8.1 ?_
 intro B w2 hB hA hb
 have hne : gb ≠ B := by have := bk_lt BK.out; omega
 clear hcz_0 hcz_1 hcz_2 hfz_0 hfz_1 hfz_2
 refine nx4_ (below_step HB.out hb) (bk_ BK.out hb) hA (Nat.le_trans (below_size HB.out) hB) ?_
 clear HB BK hb hA hB
 intro HB BK HA GB
 have hczw2_0 := bc0_ BK.out; have hczw2_1 := bc1_ BK.out; have hczw2_2 := bc2_ BK.out; have hfzw2_0 := blk_frozen BK.out 0; have hfzw2_1 := blk_frozen BK.out 1; have hfzw2_2 := blk_frozen BK.out 2
 go_wp2_with (first | ((with_reducible refine gate_callee (f := 62) rfl ?_); refine gl_ (some 9) Tryd.func62 #[.agg #[.int .i64 a0_0, .int .i64 a0_1, .int .u64 a0_2], .slice A1 l1.length c1] ?_; refine hold_ ?_))
 refine ⟨?_⟩
 refine (code_isWord.calls a0_0 a0_1 a0_2 A1 c1 l1 false _ (fU_ HG.out HB.out) (C_below HR1.out HB.out) HC1.out HW.out).mono ?_
 rintro e w3 ⟨rfl, hb⟩
 refine ⟨_, rfl, ?_⟩
 clear hczw2_0 hczw2_1 hczw2_2 hfzw2_0 hfzw2_1 hfzw2_2
 refine nx3_ (below_step (bU_ HB.out) hb) (bk_ BK.out hb) (HA.out.below hb) ?_
 clear HB BK HA hb
 intro HB BK HA
 have hczw3_0 := bc0_ BK.out; have hczw3_1 := bc1_ BK.out; have hczw3_2 := bc2_ BK.out; have hfzw3_0 := blk_frozen BK.out 0; have hfzw3_1 := blk_frozen BK.out 1; have hfzw3_2 := blk_frozen BK.out 2
 go_wp2_with ((with_reducible refine gate_store (t := 58) (p := 6) rfl ?_); refine hold_ ?_)
 refine ⟨?_⟩
 refine ev_store_ 58 (.tmp 6) (.tmp 27) B _ (List.replicate 8 0) rfl rfl rfl rfl rfl HA.out rfl zA8.2 ?_
 intro w4 hA3 _ hs hw8
 have HB1 := hw8 _ _ GB.out HB.out
 clear hczw3_0 hczw3_1 hczw3_2 hfzw3_0 hfzw3_1 hfzw3_2
 go_wp2
 refine bodyPost_ret (results_arr rfl _ _ rfl hA3 uA8 zA8.2) rfl ?_
 exact ⟨rfl, rfl, HB1⟩
theorem code_Local.calls (k : Nat) (a0_0 a0_1 a0_2 : Int) (A1 : Option Addr) (c1 : Nat) (l1 : List Int) (a2 : Int) (r : List Int) (w : World) (hG : Fld w) (hr1 : Kd.C (Kd.int .u64) w A1 l1.length l1) (hc1 : l1.length ≤ c1) (h : code_Local.f k a0_0 a0_1 a0_2 l1 a2 = some r) :
  Calls Tryd.prog 41 #[.agg #[.int .i64 a0_0, .int .i64 a0_1, .int .u64 a0_2], .slice A1 l1.length c1, .int .i64 a2] w fun e w' => e = .returned (.agg #[.int .u64 (bco r 0), .int .u64 (bco r 1), .int .u64 (bco r 2), .int .u64 (bco r 3), .int .u64 (bco r 4), .int .u64 (bco r 5), .int .u64 (bco r 6), .int .u64 (bco r 7)]) ∧ Below w.heap.size w w' :=
 (code_Local.calls8 k a0_0 a0_1 a0_2 A1 c1 l1 a2 r w hG hr1 hc1 h).mono fun _ _ h => ⟨by rw [h.1, arX_ h.2.1], h.2.2⟩

def attestorlaw05_four.f  : Option (Int × Int × Int) := some (0, 2, 5)
set_option maxHeartbeats 8000000 in
set_option maxRecDepth 100000 in
theorem attestorlaw05_four.calls  (r1 : Int) (r2 : Int) (r3 : Int) (w : World) (h : attestorlaw05_four.f  = some (r1, r2, r3)) :
  Calls Tryd.prog 44 #[] w fun e w' => e = .returned (.agg #[.int .i64 r1, .int .i64 r2, .int .u64 r3]) ∧ Below w.heap.size w w' := by
 have hu24 := Tryd.underlying24
 have HB := ak (Below.refl w.heap.size w)
 have H : (some (0, 2, 5)) = some (r1, r2, r3) := h
 clear h
 simp only [Option.some.injEq, Prod.mk.injEq] at H
 obtain ⟨rfl, rfl, rfl⟩ := H
 go_enter Tryd.func44, Tryd.ntmps44
 go_wp2_with (first | ((with_reducible refine gate_dst (N := 0) rfl ?_); refine bx_ 0 24 #[.int .i64 0, .int .i64 0, .int .u64 0] ?_; intro gb363 hg w1 hbox hb; refine nx4_ (below_step (bU_ HB.out) hb) (hbox) ((hs_ hg (below_size (bU_ HB.out)))) ((hs_ hg (below_size (bU_ HB.out)))) ?_; clear HB; intro HB BK363 GW363 GE363; clear hb hbox hg; have hcz2_0 := bc0_ BK363.out; have hcz2_1 := bc1_ BK363.out; have hcz2_2 := bc2_ BK363.out; have hfz2_0 := blk_frozen BK363.out 0; have hfz2_1 := blk_frozen BK363.out 1; have hfz2_2 := blk_frozen BK363.out 2))
 refine bodyPost_ret (results_cell_row rfl _ _ gb363 24 #[.int .i64 0, .int .i64 2, .int .u64 5] (0, 0) _ rfl kp_ Tryd.underlying24 rfl (by kernel_rfl)) rfl ?_
 exact ⟨eW_, sU_⟩

end Go.Proofs.YtedapdagagkajaaDoor.Q

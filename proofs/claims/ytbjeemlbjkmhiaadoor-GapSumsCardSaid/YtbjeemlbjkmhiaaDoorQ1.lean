import Derived.Test.YtbjeemlbjkmhiaaDoorQ0
namespace Go.Proofs.YtbjeemlbjkmhiaaDoor.Q
open Go.RowKit Go.Proofs.YtbjeemlbjkmhiaaDoorW.PrintWords Go.Proofs.YtbjeemlbjkmhiaaDoorW.PrintLast Go.Proofs.YtbjeemlbjkmhiaaDoorW.PrintMore
open Kd (R_below R_mono R_far R_lower R_new' R_newM R_elder' R_base R_lt R_slice R_reads' R_V R_tight R_lit R_make V_below V_mono V_lower V_elder' V_slice V_reads' V_mk C_below F_below C_F fresh' R_drew V_drew V_at heap_int)
attribute [local go_sem] max2_int min2_int max_two min_two max_three min_three max_four min_four   -- for this text's walks alone
set_option linter.unusedVariables false
set_option linter.unusedSimpArgs false

def field_Valid.f (a0 : Int) : Option (Bool) := if a0 ≥ 0 then (some (decide (a0 < 4))) else (some false)
set_option maxHeartbeats 8000000 in
set_option maxRecDepth 100000 in
theorem field_Valid.calls (a0 : Int) (r : Bool) (w : World) (h : field_Valid.f a0 = some r) :
  Calls Tryd.prog 43 #[.int .i64 a0] w fun e w' => e = .returned (.bool r) ∧ Drawn0 w w' := by
 have H : (if a0 ≥ 0 then (some (decide (a0 < 4))) else (some false)) = some r := h
 clear h
 by_cases c2 : a0 ≥ 0
 ·rw [if_pos c2] at H
  have c2b0 : decide (0 ≤ a0) = true := decide_eq_true c2
  clear c2
  obtain rfl := Option.some.inj H
  go_enter Tryd.func43, Tryd.ntmps43
  go_wp2
  go_ret
  exact ⟨by first | rfl | (simp; done) | (simp [*]; done), by repeat (first | exact Drawn0.refl _ | apply Drawn0.step)⟩
 rw [if_neg c2] at H
 have c2b0 : decide (0 ≤ a0) = false := decide_eq_false c2
 clear c2
 obtain rfl := Option.some.inj H
 go_enter Tryd.func43, Tryd.ntmps43
 go_wp2
 go_ret
 exact ⟨by first | rfl | (simp; done) | (simp [*]; done), by repeat (first | exact Drawn0.refl _ | apply Drawn0.step)⟩

def gap_within.f (a0 : Int) (a1 : Int) (a2 : Int) : Option (Bool) := if a0 ≥ a1 then (some (decide (a0 ≤ a2))) else (some false)
set_option maxHeartbeats 8000000 in
set_option maxRecDepth 100000 in
theorem gap_within.calls (a0 : Int) (a1 : Int) (a2 : Int) (r : Bool) (w : World) (h : gap_within.f a0 a1 a2 = some r) :
  Calls Tryd.prog 44 #[.int .i64 a0, .int .i64 a1, .int .i64 a2] w fun e w' => e = .returned (.bool r) ∧ Drawn0 w w' := by
 have H : (if a0 ≥ a1 then (some (decide (a0 ≤ a2))) else (some false)) = some r := h
 clear h
 by_cases c4 : a0 ≥ a1
 ·rw [if_pos c4] at H
  have c4b0 : decide (a1 ≤ a0) = true := decide_eq_true c4
  clear c4
  obtain rfl := Option.some.inj H
  go_enter Tryd.func44, Tryd.ntmps44
  go_wp2
  go_ret
  exact ⟨by first | rfl | (simp; done) | (simp [*]; done), by repeat (first | exact Drawn0.refl _ | apply Drawn0.step)⟩
 rw [if_neg c4] at H
 have c4b0 : decide (a1 ≤ a0) = false := decide_eq_false c4
 clear c4
 obtain rfl := Option.some.inj H
 go_enter Tryd.func44, Tryd.ntmps44
 go_wp2
 go_ret
 exact ⟨by first | rfl | (simp; done) | (simp [*]; done), by repeat (first | exact Drawn0.refl _ | apply Drawn0.step)⟩

def ratio_trim.l0 : Nat → List Int → Int → Option (List Int)
 | 0, _, _ => none
 | k + 1, x0, x3 => if x3 > 0 then (if 0 ≤ (wrap64 (x3 - 1)) then (if (wrap64 (x3 - 1)) < (x0.length : Int) then (if (rd x0 (wrap64 (x3 - 1))) = 0 then (ratio_trim.l0 k x0 (wrap64 (x3 - 1))) else (if 0 ≤ x3 then (if x3 ≤ (x0.length : Int) then (some (x0.take (x3 : Int).toNat)) else (none)) else (none))) else (none)) else (none)) else (if 0 ≤ x3 then (if x3 ≤ (x0.length : Int) then (some (x0.take (x3 : Int).toNat)) else (none)) else (none))
def ratio_trim.f (k : Nat) (l0 : List Int) : Option (List Int) := ratio_trim.l0 k l0 (l0.length : Int)
theorem ratio_trim.mono_l : ∀ k, (∀ y0 y1, LeO (ratio_trim.l0 k y0 y1) (ratio_trim.l0 (k + 1) y0 y1))
 | 0 => fun _ _ r h => by simp [ratio_trim.l0] at h
 | k + 1 => by
  have ih0 := ratio_trim.mono_l k
  ·intro y0 y1
   unfold ratio_trim.l0
   with_reducible repeat' first | apply ih0 | exact LeO.refl _ | exact LeO.none _ | refine LeO.ite ?_ ?_ | refine LeO.bind ?_ (fun _ => ?_)
theorem ratio_trim.mono : ∀ a0 k, LeO (ratio_trim.f k a0) (ratio_trim.f (k + 1) a0) := by
 intro a0 k
 have ih0 := ratio_trim.mono_l k
 unfold ratio_trim.f
 with_reducible repeat' first | apply ih0 | exact LeO.refl _ | exact LeO.none _ | refine LeO.ite ?_ ?_ | refine LeO.bind ?_ (fun _ => ?_)
set_option maxHeartbeats 8000000 in
set_option maxRecDepth 100000 in
theorem ratio_trim.calls (k : Nat) (P0_ : Nat → Prop) (A0 : Option Addr) (c0 : Nat) (l0 : List Int) (r : List Int) (w : World) (hs0 : Kd.V (Kd.int .u32) 115 w w.heap.size (fun k_ => P0_ k_) (.slice A0 l0.length c0) l0) (h : ratio_trim.f k l0 = some r) :
  Calls Tryd.prog 121 #[.slice A0 l0.length c0] w fun e w' => ∃ v0_ : Value, e = .returned (v0_) ∧ Kd.V (Kd.int .u32) 115 w' w.heap.size (fun k_ => (P0_ k_ ∨ w.heap.size ≤ k_)) v0_ r ∧ Below w.heap.size w w' := by
 have HO0 := ak (show Kd.V (Kd.int .u32) 115 w w.heap.size (fun k_ => (P0_ k_ ∨ w.heap.size ≤ k_)) (.slice A0 l0.length c0) l0 from V_mono hs0 (fun k_ hk => .inl hk))
 have HB := ak (Below.refl w.heap.size w)
 have H : (ratio_trim.l0 k l0 (l0.length : Int)) = some r := h
 clear h
 have H' := ak H
 clear H
 go_enter Tryd.func121, Tryd.ntmps121
 go_wp2
 go_loopg [3] k (fun kq v3 w' => ∃ (x3_1 : Int), v3 = .int .i64 x3_1 ∧ Aside0 (ratio_trim.l0 kq l0 x3_1 = some r) ∧ Aside0 (kq ≤ k) ∧ Aside0 (Kd.V (Kd.int .u32) 115 w' w.heap.size (fun k_ => (P0_ k_ ∨ w.heap.size ≤ k_)) (.slice A0 l0.length c0) l0) ∧ Aside0 (Below w.heap.size w w'))
 case atStart => exact ⟨((l0.length : Int)), gb_, H', ⟨Nat.le_refl _⟩, ⟨vU_ HO0.out⟩, ⟨bU_ HB.out⟩⟩
 case round =>
  clear H'
  try clear c1
  obtain ⟨x3_1, rfl, HA, HK1, HO_0, HB⟩ := hrel
  cases gk with
  | zero => exact absurd HA.out (by simp [ratio_trim.l0])
  | succ k1 =>
   have H := HA.out
   clear HA
   simp only [ratio_trim.l0] at H
   by_cases c2 : x3_1 > 0
   ·rw [if_pos c2] at H
    have c2b0 : decide (0 < x3_1) = true := decide_eq_true c2
    clear c2
    obtain ⟨ji3, hji3⟩ : ∃ j_ : Int, (wrap64 (x3_1 - 1)) = j_ := ⟨_, rfl⟩
    first | rw [hji3] at H | simp only [hji3] at H
    have hji3w : (IntKind.i64.wrap (x3_1 - 1)) = ji3 := (i64_w _).trans hji3
    obtain ⟨c4, H⟩ : (0 ≤ (ji3)) ∧ _ := it_ H
    have c4b0 := decide_eq_true c4
    clear c4
    obtain ⟨c5, H⟩ : ((ji3) < (l0.length : Int)) ∧ _ := it_ H
    have c5b0 := decide_eq_true c5
    clear c5
    by_cases c6 : (rd l0 (ji3)) = 0
    ·rw [if_pos c6] at H
     have c6b0 := beq_iff_eq.mpr c6
     have c6b1 := bne_eq_false_iff_eq.mpr c6
     clear c6
     have H' := ak H
     clear H
     have p101 : 0 ≤ ((ji3) : Int) := od_
     have q101 : (ji3) < (l0.length : Int) := od_
     obtain ⟨ad101, e101, hx101_0⟩ := Kd.at_int (V_reads' HO_0.out).2.2 (ji3) p101 q101
     cases e101
     replace p101 := eq_true p101
     replace q101 := eq_true q101
     go_wp2
     go_roundg k1
     case measure => have := HK1.out; omega
     case rel => exact ⟨(ji3), (by first | rfl | (simp; done) | (simp only [← hji3] <;> (first | rfl | simp)) | (simp [*]; done)), H', ⟨by have := HK1.out; omega⟩, ⟨vU_ HO_0.out⟩, ⟨bU_ HB.out⟩⟩
    rw [if_neg c6] at H
    have c6b0 := beq_eq_false_iff_ne.mpr c6
    have c6b1 := bne_iff_ne.mpr c6
    obtain ⟨c7, H⟩ : (0 ≤ x3_1) ∧ _ := it_ H
    have c7b0 := eq_true c7
    have c7b1 := decide_eq_true c7
    clear c7
    obtain ⟨c8, H⟩ : (x3_1 ≤ (l0.length : Int)) ∧ _ := it_ H
    have c8b0 := eq_true c8
    have c8b1 := decide_eq_true c8
    clear c8
    obtain ⟨y102, hy102⟩ : ∃ y_ : List Int, y_ = (l0.take (x3_1 : Int).toNat) := ⟨_, rfl⟩
    first | rw [Option.bind_some, ← hy102] at H | rw [← hy102] at H
    have Ny102 := ak hy102
    clear hy102
    obtain rfl := Option.some.inj H
    have p101 : 0 ≤ ((ji3) : Int) := od_
    have q101 : (ji3) < (l0.length : Int) := od_
    obtain ⟨ad101, e101, hx101_0⟩ := Kd.at_int (V_reads' HO_0.out).2.2 (ji3) p101 q101
    cases e101
    replace p101 := eq_true p101
    replace q101 := eq_true q101
    have q9 : (x3_1 : Int) ≤ ((l0.length : Int) : Int) := od_
    obtain ⟨i09, hi09, _, hsz9, _⟩ := info_parts info115
    have hroom9 : l0.length ≤ c0 := (V_reads' HO_0.out).2.1
    have hC9 : Kd.F (Kd.int .u32) _ _ (some ad101) l0.length l0 := (V_at (base := w.heap.size) HO_0.out).2.2
    have hcut9 := cutc_to (P := Tryd.prog) 23 115 .i64 Tryd.underlying23 hi09 (some ad101) l0.length c0 x3_1 od_ q9 hroom9
    have hr9 := Kd.F_take (m := (x3_1 : Int).toNat) hC9 (by omega)
    have hy9 : y102.length = (x3_1 : Int).toNat := (by rw [Ny102.out, List.length_take]; omega)
    rw [← Ny102.out] at hr9
    rw [← hy9] at hcut9
    have HO106 := ak (show Kd.V (Kd.int .u32) 115 _ w.heap.size _ (.slice (some ad101) y102.length y102.length) y102 from V_mk (by omega) hr9)
    have HC106 := ak (show y102.length ≤ y102.length from by omega)
    clear hr9 hC9 hroom9 hi09 hsz9
    have KY9 := ak hy9
    clear hy9
    replace q9 := eq_true q9
    go_wp2
    go_ret
    exact ⟨_, by first | rfl | (simp [errW_none, errW_some] <;> rfl) | (simp only [← hji3]; first | rfl | (simp [errW_none, errW_some] <;> rfl)) | (simp [*, errW_none, errW_some] <;> rfl), vU_ HO106.out, bU_ HB.out⟩
   rw [if_neg c2] at H
   have c2b0 : decide (0 < x3_1) = false := decide_eq_false c2
   clear c2
   obtain ⟨c10, H⟩ : (0 ≤ x3_1) ∧ _ := it_ H
   have c10b0 := eq_true c10
   have c10b1 := decide_eq_true c10
   clear c10
   obtain ⟨c11, H⟩ : (x3_1 ≤ (l0.length : Int)) ∧ _ := it_ H
   have c11b0 := eq_true c11
   have c11b1 := decide_eq_true c11
   clear c11
   obtain ⟨y107, hy107⟩ : ∃ y_ : List Int, y_ = (l0.take (x3_1 : Int).toNat) := ⟨_, rfl⟩
   first | rw [Option.bind_some, ← hy107] at H | rw [← hy107] at H
   have Ny107 := ak hy107
   clear hy107
   obtain rfl := Option.some.inj H
   have q12 : (x3_1 : Int) ≤ ((l0.length : Int) : Int) := od_
   obtain ⟨i012, hi012, _, hsz12, _⟩ := info_parts info115
   have hroom12 : l0.length ≤ c0 := (V_reads' HO_0.out).2.1
   have hC12 : Kd.F (Kd.int .u32) _ _ A0 l0.length l0 := (V_at (base := w.heap.size) HO_0.out).2.2
   have hcut12 := cutc_to (P := Tryd.prog) 23 115 .i64 Tryd.underlying23 hi012 A0 l0.length c0 x3_1 od_ q12 hroom12
   have hr12 := Kd.F_take (m := (x3_1 : Int).toNat) hC12 (by omega)
   have hy12 : y107.length = (x3_1 : Int).toNat := (by rw [Ny107.out, List.length_take]; omega)
   rw [← Ny107.out] at hr12
   rw [← hy12] at hcut12
   have HO111 := ak (show Kd.V (Kd.int .u32) 115 _ w.heap.size _ (.slice A0 y107.length y107.length) y107 from V_mk (by omega) hr12)
   have HC111 := ak (show y107.length ≤ y107.length from by omega)
   clear hr12 hC12 hroom12 hi012 hsz12
   have KY12 := ak hy12
   clear hy12
   replace q12 := eq_true q12
   go_wp2
   go_ret
   exact ⟨_, eW_, vU_ HO111.out, bU_ HB.out⟩

def ratio_ValidNat.f (k : Nat) (l0 : List Int) : Option (Bool) := if (l0.length : Int) ≤ 64 then ((ratio_trim.f k l0).bind fun t112 => (some ((t112.length : Int) == (l0.length : Int)))) else (some false)
theorem ratio_ValidNat.mono : ∀ a0 k, LeO (ratio_ValidNat.f k a0) (ratio_ValidNat.f (k + 1) a0) := by
 intro a0 k
 unfold ratio_ValidNat.f
 with_reducible repeat' first | apply ratio_trim.mono | exact LeO.refl _ | exact LeO.none _ | refine LeO.ite ?_ ?_ | refine LeO.bind ?_ (fun _ => ?_)
set_option maxHeartbeats 8000000 in
set_option maxRecDepth 100000 in
theorem ratio_ValidNat.calls (k : Nat) (A0 : Option Addr) (c0 : Nat) (l0 : List Int) (r : Bool) (w : World) (hr0 : Kd.C (Kd.int .u32) w A0 l0.length l0) (hc0 : l0.length ≤ c0) (h : ratio_ValidNat.f k l0 = some r) :
  Calls Tryd.prog 90 #[.slice A0 l0.length c0] w fun e w' => e = .returned (.bool r) ∧ Below w.heap.size w w' := by
 have HR0 := ak hr0
 have HC0 := ak hc0
 clear hr0 hc0
 have HB := ak (Below.refl w.heap.size w)
 have H := h
 clear h
 unfold ratio_ValidNat.f at H
 by_cases c2 : (l0.length : Int) ≤ 64
 ·rw [if_pos c2] at H
  have c2b0 := decide_eq_true c2
  have c2b1 : decide (l0.length ≤ 64) = true := decide_eq_true (by omega)
  clear c2
  revert H
  refine bd_ fun t112 A3 H => ?_
  obtain rfl := Option.some.inj H
  go_enter Tryd.func90, Tryd.ntmps90
  go_wp2_with (first | (go_at_call 121; (with_reducible refine (ratio_trim.calls k (fun k_ => k_ < w.heap.size) _ _ l0 t112 _ ?side1 A3.out).mono ?_); (case side1 => exact V_mk HC0.out (F_below (C_F (heap_int .u32) HR0.out) (bU_ HB.out))); rintro e w4 ⟨v113, rfl, ho0, hb⟩; refine nx2_ (V_lower (V_mono (ok' := fun k_ => True) ho0 (fun k_ hk_ => trivial)) (below_size (bU_ HB.out))) (below_step (bU_ HB.out) hb) ?_; clear HB; intro HO114 HB; clear hb ho0; obtain ⟨Ao5, co5, eo5⟩ := V_slice HO114.out; subst eo5))
  go_ret
  exact ⟨eW_, bU_ HB.out⟩
 rw [if_neg c2] at H
 have c2b0 := decide_eq_false c2
 have c2b1 : decide (l0.length ≤ 64) = false := decide_eq_false (by omega)
 clear c2
 obtain rfl := Option.some.inj H
 go_enter Tryd.func90, Tryd.ntmps90
 go_wp2
 go_ret
 exact ⟨eW_, bU_ HB.out⟩

def ratio_compare.l0 : Nat → List Int → List Int → Int → Int → Option (Int)
 | 0, _, _, _, _ => none
 | k + 1, x0, x1, x20, x21 => if x21 < x20 then (if 0 ≤ (wrap64 ((wrap64 ((x0.length : Int) - 1)) - x21)) then (if (wrap64 ((wrap64 ((x0.length : Int) - 1)) - x21)) < (x0.length : Int) then (if (wrap64 ((wrap64 ((x0.length : Int) - 1)) - x21)) < (x1.length : Int) then (if (rd x0 (wrap64 ((wrap64 ((x0.length : Int) - 1)) - x21))) < (rd x1 (wrap64 ((wrap64 ((x0.length : Int) - 1)) - x21))) then (some (-1)) else (if (rd x0 (wrap64 ((wrap64 ((x0.length : Int) - 1)) - x21))) > (rd x1 (wrap64 ((wrap64 ((x0.length : Int) - 1)) - x21))) then (some 1) else (ratio_compare.l0 k x0 x1 x20 (wrap64 (x21 + 1))))) else (none)) else (none)) else (none)) else (some 0)
def ratio_compare.f (k : Nat) (l0 : List Int) (l1 : List Int) : Option (Int) := if (l0.length : Int) < (l1.length : Int) then (some (-1)) else (if (l0.length : Int) > (l1.length : Int) then (some 1) else (ratio_compare.l0 k l0 l1 (l0.length : Int) 0))
theorem ratio_compare.mono_l : ∀ k, (∀ y0 y1 y2 y3, LeO (ratio_compare.l0 k y0 y1 y2 y3) (ratio_compare.l0 (k + 1) y0 y1 y2 y3))
 | 0 => fun _ _ _ _ r h => by simp [ratio_compare.l0] at h
 | k + 1 => by
  have ih0 := ratio_compare.mono_l k
  ·intro y0 y1 y2 y3
   unfold ratio_compare.l0
   with_reducible repeat' first | apply ih0 | exact LeO.refl _ | exact LeO.none _ | refine LeO.ite ?_ ?_ | refine LeO.bind ?_ (fun _ => ?_)
theorem ratio_compare.mono : ∀ a0 a1 k, LeO (ratio_compare.f k a0 a1) (ratio_compare.f (k + 1) a0 a1) := by
 intro a0 a1 k
 have ih0 := ratio_compare.mono_l k
 unfold ratio_compare.f
 with_reducible repeat' first | apply ih0 | exact LeO.refl _ | exact LeO.none _ | refine LeO.ite ?_ ?_ | refine LeO.bind ?_ (fun _ => ?_)
set_option maxHeartbeats 8000000 in
set_option maxRecDepth 100000 in
theorem ratio_compare.calls (k : Nat) (A0 : Option Addr) (c0 : Nat) (l0 : List Int) (A1 : Option Addr) (c1 : Nat) (l1 : List Int) (r : Int) (w : World) (hr0 : Kd.C (Kd.int .u32) w A0 l0.length l0) (hc0 : l0.length ≤ c0) (hr1 : Kd.C (Kd.int .u32) w A1 l1.length l1) (hc1 : l1.length ≤ c1) (h : ratio_compare.f k l0 l1 = some r) :
  Calls Tryd.prog 93 #[.slice A0 l0.length c0, .slice A1 l1.length c1] w fun e w' => e = .returned (.int .i64 r) ∧ Drawn0 w w' := by
 have HR0 := ak hr0
 have HC0 := ak hc0
 clear hr0 hc0
 have HR1 := ak hr1
 have HC1 := ak hc1
 clear hr1 hc1
 have H := h
 clear h
 unfold ratio_compare.f at H
 by_cases c3 : (l0.length : Int) < (l1.length : Int)
 ·rw [if_pos c3] at H
  have c3b0 := decide_eq_true c3
  have c3b1 : decide (l0.length < l1.length) = true := decide_eq_true (Int.ofNat_lt.mp c3)
  clear c3
  obtain rfl := Option.some.inj H
  go_enter Tryd.func93, Tryd.ntmps93
  go_wp2
  repeat (go_quiet (fail); try go_wp2)
  go_ret
  exact ⟨by first | rfl | (simp; done) | (simp [*]; done), by repeat (first | exact Drawn0.refl _ | apply Drawn0.step)⟩
 rw [if_neg c3] at H
 have c3b0 := decide_eq_false c3
 have c3b1 : decide (l0.length < l1.length) = false := decide_eq_false (fun h => c3 (Int.ofNat_lt.mpr h))
 clear c3
 by_cases c4 : (l0.length : Int) > (l1.length : Int)
 ·rw [if_pos c4] at H
  have c4b0 : decide ((l1.length : Int) < (l0.length : Int)) = true := decide_eq_true c4
  have c4b1 : decide (l1.length < l0.length) = true := decide_eq_true (Int.ofNat_lt.mp c4)
  clear c4
  obtain rfl := Option.some.inj H
  go_enter Tryd.func93, Tryd.ntmps93
  go_wp2
  repeat (go_quiet (fail); try go_wp2)
  go_ret
  exact ⟨by first | rfl | (simp; done) | (simp [*]; done), by repeat (first | exact Drawn0.refl _ | apply Drawn0.step)⟩
 rw [if_neg c4] at H
 have c4b0 : decide ((l1.length : Int) < (l0.length : Int)) = false := decide_eq_false c4
 have c4b1 : decide (l1.length < l0.length) = false := decide_eq_false (fun h => c4 (Int.ofNat_lt.mpr h))
 clear c4
 have H' := ak H
 clear H
 go_enter Tryd.func93, Tryd.ntmps93
 go_wp2
 repeat (go_quiet (fail); try go_wp2)
 go_loopg [21] k (fun kq v21 w' => ∃ (x21_1 : Int), v21 = .int .i64 x21_1 ∧ Aside0 (ratio_compare.l0 kq l0 l1 (l0.length : Int) x21_1 = some r) ∧ Aside0 (kq ≤ k) ∧ Drawn0 w w')
 case atStart => exact ⟨(0), gb_, H', ⟨Nat.le_refl _⟩, by repeat (first | exact Drawn0.refl _ | apply Drawn0.step)⟩
 case round =>
  clear H'
  (try clear c1); (try clear p2); (try clear c3); (try clear c3b0); (try clear c3b1); (try clear c4); (try clear c4b0); (try clear c4b1)
  obtain ⟨x21_1, rfl, HA, HK1, ⟨m1, rfl⟩⟩ := hrel
  cases gk with
  | zero => exact absurd HA.out (by simp [ratio_compare.l0])
  | succ k1 =>
   have H := HA.out
   clear HA
   simp only [ratio_compare.l0] at H
   by_cases c5 : x21_1 < (l0.length : Int)
   ·rw [if_pos c5] at H
    have c5b0 := decide_eq_true c5
    clear c5
    obtain ⟨ji6, hji6⟩ : ∃ j_ : Int, (wrap64 ((wrap64 ((l0.length : Int) - 1)) - x21_1)) = j_ := ⟨_, rfl⟩
    first | rw [hji6] at H | simp only [hji6] at H
    have hji6w : (IntKind.i64.wrap ((wrap64 ((l0.length : Int) - 1)) - x21_1)) = ji6 := (i64_w _).trans hji6
    obtain ⟨c7, H⟩ : (0 ≤ (ji6)) ∧ _ := it_ H
    have c7b0 := decide_eq_true c7
    clear c7
    obtain ⟨c8, H⟩ : ((ji6) < (l0.length : Int)) ∧ _ := it_ H
    have c8b0 := decide_eq_true c8
    clear c8
    obtain ⟨c9, H⟩ : ((ji6) < (l1.length : Int)) ∧ _ := it_ H
    have c9b0 := decide_eq_true c9
    clear c9
    by_cases c10 : (rd l0 (ji6)) < (rd l1 (ji6))
    ·rw [if_pos c10] at H
     have c10b0 := decide_eq_true c10
     clear c10
     obtain rfl := Option.some.inj H
     have p115 : 0 ≤ ((ji6) : Int) := od_
     have q115 : (ji6) < (l0.length : Int) := od_
     obtain ⟨ad115, e115, hx115_0⟩ := Kd.at_int HR0.out (ji6) p115 q115
     cases e115
     replace p115 := eq_true p115
     replace q115 := eq_true q115
     have p116 : 0 ≤ ((ji6) : Int) := od_
     have q116 : (ji6) < (l1.length : Int) := od_
     obtain ⟨ad116, e116, hx116_0⟩ := Kd.at_int HR1.out (ji6) p116 q116
     cases e116
     replace p116 := eq_true p116
     replace q116 := eq_true q116
     go_wp2
     repeat (go_quiet (fail); try go_wp2)
     go_ret
     exact ⟨by first | rfl | (simp; done) | (simp only [← hji6] <;> (first | rfl | simp)) | (simp [*]; done), by repeat (first | exact Drawn0.refl _ | apply Drawn0.step)⟩
    rw [if_neg c10] at H
    have c10b0 := decide_eq_false c10
    clear c10
    by_cases c11 : (rd l0 (ji6)) > (rd l1 (ji6))
    ·rw [if_pos c11] at H
     have c11b0 : decide ((rd l1 (ji6)) < (rd l0 (ji6))) = true := decide_eq_true c11
     clear c11
     obtain rfl := Option.some.inj H
     have p115 : 0 ≤ ((ji6) : Int) := od_
     have q115 : (ji6) < (l0.length : Int) := od_
     obtain ⟨ad115, e115, hx115_0⟩ := Kd.at_int HR0.out (ji6) p115 q115
     cases e115
     replace p115 := eq_true p115
     replace q115 := eq_true q115
     have p116 : 0 ≤ ((ji6) : Int) := od_
     have q116 : (ji6) < (l1.length : Int) := od_
     obtain ⟨ad116, e116, hx116_0⟩ := Kd.at_int HR1.out (ji6) p116 q116
     cases e116
     replace p116 := eq_true p116
     replace q116 := eq_true q116
     have p117 : 0 ≤ ((ji6) : Int) := od_
     have q117 : (ji6) < (l0.length : Int) := od_
     obtain ⟨ad117, e117, hx117_0⟩ := Kd.at_int HR0.out (ji6) p117 q117
     obtain rfl : ad115 = ad117 := (by injection e117)
     replace p117 := eq_true p117
     replace q117 := eq_true q117
     have p118 : 0 ≤ ((ji6) : Int) := od_
     have q118 : (ji6) < (l1.length : Int) := od_
     obtain ⟨ad118, e118, hx118_0⟩ := Kd.at_int HR1.out (ji6) p118 q118
     obtain rfl : ad116 = ad118 := (by injection e118)
     replace p118 := eq_true p118
     replace q118 := eq_true q118
     go_wp2
     repeat (go_quiet (fail); try go_wp2)
     go_ret
     exact ⟨by first | rfl | (simp; done) | (simp only [← hji6] <;> (first | rfl | simp)) | (simp [*]; done), by repeat (first | exact Drawn0.refl _ | apply Drawn0.step)⟩
    rw [if_neg c11] at H
    have c11b0 : decide ((rd l1 (ji6)) < (rd l0 (ji6))) = false := decide_eq_false c11
    clear c11
    have H' := ak H
    clear H
    have p115 : 0 ≤ ((ji6) : Int) := od_
    have q115 : (ji6) < (l0.length : Int) := od_
    obtain ⟨ad115, e115, hx115_0⟩ := Kd.at_int HR0.out (ji6) p115 q115
    cases e115
    replace p115 := eq_true p115
    replace q115 := eq_true q115
    have p116 : 0 ≤ ((ji6) : Int) := od_
    have q116 : (ji6) < (l1.length : Int) := od_
    obtain ⟨ad116, e116, hx116_0⟩ := Kd.at_int HR1.out (ji6) p116 q116
    cases e116
    replace p116 := eq_true p116
    replace q116 := eq_true q116
    have p117 : 0 ≤ ((ji6) : Int) := od_
    have q117 : (ji6) < (l0.length : Int) := od_
    obtain ⟨ad117, e117, hx117_0⟩ := Kd.at_int HR0.out (ji6) p117 q117
    obtain rfl : ad115 = ad117 := (by injection e117)
    replace p117 := eq_true p117
    replace q117 := eq_true q117
    have p118 : 0 ≤ ((ji6) : Int) := od_
    have q118 : (ji6) < (l1.length : Int) := od_
    obtain ⟨ad118, e118, hx118_0⟩ := Kd.at_int HR1.out (ji6) p118 q118
    obtain rfl : ad116 = ad118 := (by injection e118)
    replace p118 := eq_true p118
    replace q118 := eq_true q118
    go_wp2
    repeat (go_quiet (fail); try go_wp2)
    go_roundg k1
    case measure => have := HK1.out; omega
    case rel => exact ⟨(wrap64 (x21_1 + 1)), gb_, H', ⟨by have := HK1.out; omega⟩, by repeat (first | exact Drawn0.refl _ | apply Drawn0.step)⟩
   rw [if_neg c5] at H
   have c5b0 := decide_eq_false c5
   clear c5
   obtain rfl := Option.some.inj H
   go_wp2
   repeat (go_quiet (fail); try go_wp2)
   go_ret
   exact ⟨by first | rfl | (simp; done) | (simp [*]; done), by repeat (first | exact Drawn0.refl _ | apply Drawn0.step)⟩

def ratio_Nat.f (k : Nat) (a0 : Int) : Option (List Int) := (ratio_trim.f k (([(a0) % 4294967296, (a0 / 4294967296) % 4294967296] : List Int))).bind fun t122 => (some t122)
theorem ratio_Nat.mono : ∀ a0 k, LeO (ratio_Nat.f k a0) (ratio_Nat.f (k + 1) a0) := by
 intro a0 k
 unfold ratio_Nat.f
 with_reducible repeat' first | apply ratio_trim.mono | exact LeO.refl _ | exact LeO.none _ | refine LeO.ite ?_ ?_ | refine LeO.bind ?_ (fun _ => ?_)
set_option maxHeartbeats 8000000 in
set_option maxRecDepth 100000 in
theorem ratio_Nat.calls (k : Nat) (a0 : Int) (r : List Int) (w : World) (h : ratio_Nat.f k a0 = some r) :
  Calls Tryd.prog 96 #[.int .u64 a0] w fun e w' => ∃ v0_ : Value, e = .returned (v0_) ∧ Kd.V (Kd.int .u32) 115 w' w.heap.size (fun k_ => (w.heap.size ≤ k_)) v0_ r ∧ Below w.heap.size w w' := by
 have HB := ak (Below.refl w.heap.size w)
 have H := h
 clear h
 unfold ratio_Nat.f at H
 obtain ⟨y119, hy119⟩ : ∃ y_ : List Int, y_ = (([(a0) % 4294967296, (a0 / 4294967296) % 4294967296] : List Int)) := ⟨_, rfl⟩
 replace H : ((ratio_trim.f k y119).bind fun t122 => (some t122)) = some r := by first | (rw [hy119]; with_reducible exact H) | (have H2_ := (Option.bind_some _ _).symm.trans H; rw [hy119]; with_reducible exact H2_) | (have H2_ := (Option.bind_some _ _).symm.trans H; with_reducible exact H2_) | with_reducible exact H | (rw [hy119]; exact H) | exact H
 have Ny119 := ak hy119
 clear hy119
 revert H
 refine bd_ fun t122 A2 H => ?_
 obtain rfl := Option.some.inj H
 go_enter Tryd.func96, Tryd.ntmps96
 go_wp2_with (first | ((with_reducible refine gate_dst (N := 8) rfl ?_); refine R_lit (Kd.int .u32) _ 115 ?hg (N := 8) ?hd (xs := ([(a0) % 4294967296, (a0 / 4294967296) % 4294967296] : List Int)) (inner := [.int .u32 ((a0) % 4294967296), .int .u32 ((a0 / 4294967296) % 4294967296)]) (ok := fun _ => True) (okp := fun _ => True) ?hr ?hp (fun _ hk => hk) trivial (Below.refl _ _) (Nat.le_refl _) (by simp) ?_; (case hd => rfl); (case hg => rfl); (case hr => first | (go_simp; done) | (go_simp; rfl)); (case hp => exact (Reps.one (show Kd.M (Kd.int .u32) _ _ _ ((a0) % 4294967296) [.int .u32 ((a0) % 4294967296)] from rfl) (Reps.one (show Kd.M (Kd.int .u32) _ _ _ ((a0 / 4294967296) % 4294967296) [.int .u32 ((a0 / 4294967296) % 4294967296)] from rfl) (Reps.none _ _)))); intro v120 w3 ho4 hb hg_ hnew_; clear hg_ hnew_; (first | rw [← Ny119.out] at ho4 | (simp only [Int.reduceToNat] at ho4; rw [← Ny119.out] at ho4)); refine nx2_ (R_lower (R_newM (M := fun k_ => (w.heap.size ≤ k_)) ho4 (below_size (bU_ HB.out)) (fun k_ h_ => h_)) (below_size (bU_ HB.out))) (below_step (bU_ HB.out) hb) ?_; clear HB; intro HO121 HB; clear hb ho4; obtain ⟨Ao5, co5, eo5⟩ := R_slice HO121.out; subst eo5) | ((with_reducible refine gate_callee (f := 121) rfl ?_); refine gl_ (some 9) Tryd.func121 #[.slice Ao5 y119.length co5] ?_; (with_reducible refine (ratio_trim.calls k (fun k_ => some k_ = (.slice Ao5 y119.length co5 : Value).ownBlock) _ _ y119 t122 _ ?side1 A2.out).mono ?_); (case side1 => exact R_V (R_tight rfl (HO121.out))); rintro e w6 ⟨v123, rfl, ho0, hb⟩; refine ⟨_, rfl, ?_⟩; refine nx3_ (R_below (rU_ HO121.out) hb) (V_lower (V_mono (ok' := fun k_ => (w.heap.size ≤ k_)) ho0 (fun k_ hk_ => Or.elim hk_ (fun hs_ => ((HO121.out).1 k_ hs_.symm).1) (fun hn_ => (Nat.le_trans (below_size (bU_ HB.out)) hn_)))) (below_size (bU_ HB.out))) (below_step (bU_ HB.out) hb) ?_; clear HO121 HB; intro HO121 HO124 HB; clear hb ho0))
 go_ret
 exact ⟨_, eW_, vU_ HO124.out, bU_ HB.out⟩

def api_Nat_uint32.f (l0 : List Int) : Option (List Int) := (some (([] : List Int) : List Int)).bind fun y177 => (if y177.length + l0.length < 35184372088832 then (some (y177 ++ l0)) else (none))
set_option maxHeartbeats 8000000 in
set_option maxRecDepth 100000 in
theorem api_Nat_uint32.calls (A0 : Option Addr) (c0 : Nat) (l0 : List Int) (r : List Int) (w : World) (hr0 : Kd.C (Kd.int .u32) w A0 l0.length l0) (hc0 : l0.length ≤ c0) (h : api_Nat_uint32.f l0 = some r) :
  Calls Tryd.prog 123 #[.slice A0 l0.length c0] w fun e w' => ∃ v0_ : Value, e = .returned (v0_) ∧ Kd.R (Kd.int .u32) 115 w' w.heap.size (fun _ => True) v0_ r ∧ Below w.heap.size w w' := by
  cases A0 with
  | none =>
    have hn : l0 = [] := by
      cases l0 with
      | nil => rfl
      | cons x l => obtain ⟨ad, e, _⟩ := hr0.2.2 (by simp); cases e
    subst hn
    simp [api_Nat_uint32.f] at h
    subst h
    have hq := eql_nil_ (P := Tryd.prog) 24 115 Tryd.underlying24 none 0 c0
    go_enter Tryd.func123, Tryd.ntmps123
    go_wp2
    go_ret
    exact ⟨_, rfl, Kd.R_nil _ _ _ _ _, Below.refl _ _⟩
  | some a0 =>
   have hq := eql_nil_ (P := Tryd.prog) 24 115 Tryd.underlying24 (some a0) l0.length c0
   have HR0 := ak hr0
   have HC0 := ak hc0
   clear hr0 hc0
   have HB := ak (Below.refl w.heap.size w)
   have H := h
   clear h
   unfold api_Nat_uint32.f at H
   obtain ⟨y177, hy177⟩ : ∃ y_ : List Int, y_ = (([] : List Int)) := ⟨_, rfl⟩
   replace H : (if y177.length + l0.length < 35184372088832 then (some (y177 ++ l0)) else (none)) = some r := by first | (rw [hy177]; with_reducible exact H) | (have H2_ := (Option.bind_some _ _).symm.trans H; rw [hy177]; with_reducible exact H2_) | (have H2_ := (Option.bind_some _ _).symm.trans H; with_reducible exact H2_) | with_reducible exact H | (rw [hy177]; exact H) | exact H
   have Ny177 := ak hy177
   clear hy177
   obtain ⟨c2, H⟩ : (y177.length + l0.length < 35184372088832) ∧ _ := it_ H
   have LMc2 := ak c2
   clear c2
   obtain ⟨y180, hy180⟩ : ∃ y_ : List Int, y_ = (y177 ++ l0) := ⟨_, rfl⟩
   first | rw [Option.bind_some, ← hy180] at H | rw [← hy180] at H
   have Ny180 := ak hy180
   clear hy180
   obtain rfl := Option.some.inj H
   go_enter Tryd.func123, Tryd.ntmps123
   go_wp2_with (first | ((with_reducible refine gate_dst (N := 5) rfl ?_); refine R_lit (Kd.int .u32) _ 115 ?hg (N := 5) ?hd (xs := ([] : List Int)) (inner := []) (ok := fun _ => True) (okp := fun _ => True) ?hr ?hp (fun _ hk => hk) trivial (Below.refl _ _) (Nat.le_refl _) (by simp) ?_; (case hd => rfl); (case hg => rfl); (case hr => first | (go_simp; done) | (go_simp; rfl)); (case hp => exact (Reps.none _ _)); intro v178 w3 ho4 hb hg_ hnew_; clear hg_ hnew_; (first | rw [← Ny177.out] at ho4 | (simp only [Int.reduceToNat] at ho4; rw [← Ny177.out] at ho4)); refine nx2_ (R_lower ho4 (below_size (bU_ HB.out))) (below_step (bU_ HB.out) hb) ?_; clear HB; intro HO179 HB; clear hb ho4) | ((with_reducible refine gate_builtin (b := .append) (xs := #[.tmp 5, .tmp 6]) rfl ?_); at_builtin; refine Kd.R_append_rows (Kd.int .u32) (w0 := w) w.heap.size rfl (.tmp 5) (.tmp 6) 24 115 (.int .u32 0) 4 rfl Tryd.underlying24 info115 rfl (by decide) (by omega) v178 y177 l0 _ _ _ (fun _ => True) (fun _ => False) rfl rfl ?aO ?aR (fun _ _ h => h) (fun _ h => h.elim) ?aF ?aB ?aS ?aL ?_; (case aR => exact cU_ (C_below HR0.out HB.out)); (case aB => exact (bU_ HB.out)); (case aF => exact (fun _ _ => trivial)); (case aO => exact (rU_ HO179.out)); (case aS => exact (below_size (bU_ HB.out))); (case aL => have := LMc2.out; omega); intro v181 w5 ho hb hg hat; rw [← Ny180.out] at ho; refine nx2_ (hb) (ho) ?_; clear HB HO179; intro HB HO182; clear ho hb hg hat))
   go_ret
   exact ⟨_, eW_, rU_ HO182.out, bU_ HB.out⟩

def ratio_small.l0 : Nat → List Int → Int → List Int → Int → Int → Int → Option (List Int × Int)
 | 0, _, _, _, _, _, _ => none
 | k + 1, x0, x1, x6, x7, x15, x16 => if x16 < x15 then (if 0 ≤ (wrap64 ((wrap64 ((x0.length : Int) - 1)) - x16)) then (if (wrap64 ((wrap64 ((x0.length : Int) - 1)) - x16)) < (x0.length : Int) then (if (IntKind.u64.wrap (x1)) = 0 then (none) else (if (wrap64 ((wrap64 ((x0.length : Int) - 1)) - x16)) < (x6.length : Int) then (ratio_small.l0 k x0 x1 (x6.set ((wrap64 ((wrap64 ((x0.length : Int) - 1)) - x16)) : Int).toNat ((IntKind.u64.wrap (Int.tdiv (Go.bits .or .u64 (IntKind.u64.wrap (x7 * 4294967296)) (IntKind.u64.wrap (rd x0 (wrap64 ((wrap64 ((x0.length : Int) - 1)) - x16))))) (IntKind.u64.wrap (x1)))) % 4294967296)) (Int.tmod (Go.bits .or .u64 (IntKind.u64.wrap (x7 * 4294967296)) (IntKind.u64.wrap (rd x0 (wrap64 ((wrap64 ((x0.length : Int) - 1)) - x16))))) (IntKind.u64.wrap (x1))) x15 (wrap64 (x16 + 1))) else (none))) else (none)) else (none)) else ((ratio_trim.f k x6).bind fun t130 => (some (t130, (x7) % 4294967296)))
def ratio_small.f (k : Nat) (l0 : List Int) (a1 : Int) : Option (List Int × Int) := if 0 ≤ (l0.length : Int) then (if ((l0.length : Int) : Int).toNat ≤ 70368744177664 then (ratio_small.l0 k l0 a1 (List.replicate ((l0.length : Int) : Int).toNat 0) 0 (l0.length : Int) 0) else (none)) else (none)
theorem ratio_small.mono_l : ∀ k, (∀ y0 y1 y2 y3 y4 y5, LeO (ratio_small.l0 k y0 y1 y2 y3 y4 y5) (ratio_small.l0 (k + 1) y0 y1 y2 y3 y4 y5))
 | 0 => fun _ _ _ _ _ _ r h => by simp [ratio_small.l0] at h
 | k + 1 => by
  have ih0 := ratio_small.mono_l k
  ·intro y0 y1 y2 y3 y4 y5
   unfold ratio_small.l0
   with_reducible repeat' first | apply ih0 | apply ratio_trim.mono | exact LeO.refl _ | exact LeO.none _ | refine LeO.ite ?_ ?_ | refine LeO.bind ?_ (fun _ => ?_)
theorem ratio_small.mono : ∀ a0 a1 k, LeO (ratio_small.f k a0 a1) (ratio_small.f (k + 1) a0 a1) := by
 intro a0 a1 k
 have ih0 := ratio_small.mono_l k
 unfold ratio_small.f
 with_reducible repeat' first | apply ih0 | apply ratio_trim.mono | exact LeO.refl _ | exact LeO.none _ | refine LeO.ite ?_ ?_ | refine LeO.bind ?_ (fun _ => ?_)
def ratio_small.T8 : Bool × List (List Nat × List Nat) := (true, [([], []), ([], []), ([], []), ([], []), ([3], [3]), ([2, 4], [2, 4]), ([5], [5]), ([], []), ([], []), ([8], [8]), ([7, 9], [7, 9]), ([0, 1, 0, 1, 2, 3, 4, 5, 6], [0, 1]), ([11, 6, 0, 1, 2, 3, 4, 5, 6], [6, 11]), ([10, 12, 0, 1, 2, 3, 4, 5, 6, 7, 8, 9, 10, 11, 12], [10])])
def ratio_small.B8 : List Nat := [0, 0, 0, 0, 8, 28, 60, 0, 0, 256, 896, 127, 2175, 8191]
theorem ratio_small.tab8 : rtab .any (opsOf Tryd.f141 8) = ratio_small.T8 := by kernel_rfl
theorem ratio_small.bits8 : waitsOk ratio_small.T8.2 ratio_small.B8 = true := by kernel_rfl
set_option maxHeartbeats 8000000 in
set_option maxRecDepth 100000 in
theorem ratio_small.calls (k : Nat) (A0 : Option Addr) (c0 : Nat) (l0 : List Int) (a1 : Int) (r1 : List Int) (r2 : Int) (w : World) (hr0 : Kd.C (Kd.int .u32) w A0 l0.length l0) (hc0 : l0.length ≤ c0) (h : ratio_small.f k l0 a1 = some (r1, r2)) :
  Calls Tryd.prog 141 #[.slice A0 l0.length c0, .int .u32 a1] w fun e w' => ∃ v0_ : Value, e = .returned (.tuple #[v0_, .int .u32 r2]) ∧ Kd.V (Kd.int .u32) 115 w' w.heap.size (fun k_ => (w.heap.size ≤ k_)) v0_ r1 ∧ Below w.heap.size w w' := by
 have HR0 := ak hr0
 have HC0 := ak hc0
 clear hr0 hc0
 have HB := ak (Below.refl w.heap.size w)
 have H := h
 clear h
 unfold ratio_small.f at H
 obtain ⟨c3, H⟩ : (0 ≤ (l0.length : Int)) ∧ _ := it_ H
 have c3b0 := eq_true c3
 have c3b1 := decide_eq_true c3
 clear c3
 obtain ⟨c4, H⟩ : (((l0.length : Int) : Int).toNat ≤ 70368744177664) ∧ _ := it_ H
 have c4b0 := eq_true c4
 have c4b1 := decide_eq_true c4
 clear c4
 obtain ⟨y125, hy125⟩ : ∃ y_ : List Int, y_ = (List.replicate ((l0.length : Int) : Int).toNat 0) := ⟨_, rfl⟩
 first | rw [Option.bind_some, ← hy125] at H | rw [← hy125] at H
 have Ny125 := ak hy125
 clear hy125
 have H' := ak H
 clear H
 go_enter Tryd.func141, Tryd.ntmps141
 go_wp2_with (first | ((with_reducible refine gate_dst (N := 13) rfl ?_); refine R_make (Kd.int .u32) _ 115 rfl (N := 13) rfl 23 _ _ rfl (l0.length : Int) ?hx ?hy Tryd.underlying23 (.int .u32 0) 4 info115 rfl (by decide) (by omega) 0 (ok := fun _ => True) (okp := fun _ => True) rfl (fun _ hk => hk) trivial od_ (Nat.le_trans (Nat.mul_le_mul_right _ (od_ : (l0.length : Int).toNat ≤ 70368744177664)) (by omega)) (Below.refl _ _) (Nat.le_refl _) ?_; (case hx => first | rfl); (case hy => first | rfl); intro v126 w5 ho6 hb hg_ hnew_; clear hg_ hnew_; (first | rw [← Ny125.out] at ho6 | (simp only [Int.reduceToNat] at ho6; rw [← Ny125.out] at ho6)); refine nx2_ (R_lower (R_newM (M := fun k_ => (w.heap.size ≤ k_)) ho6 (below_size (bU_ HB.out)) (fun k_ h_ => h_)) (below_size (bU_ HB.out))) (below_step (bU_ HB.out) hb) ?_; clear HB; intro HO127 HB; clear hb ho6))
 go_loopg [7, 16] k (fun kq v7 v16 w' => ∃ (x6_1 : List Int) (x7_1 : Int) (x16_1 : Int), v7 = .int .u64 x7_1 ∧ v16 = .int .i64 x16_1 ∧ Aside0 (ratio_small.l0 kq l0 a1 x6_1 x7_1 (l0.length : Int) x16_1 = some (r1, r2)) ∧ Aside0 (kq ≤ k) ∧ Aside0 (Kd.R (Kd.int .u32) 115 w' w.heap.size (fun k_ => (w.heap.size ≤ k_)) v126 x6_1) ∧ Aside0 (Below w.heap.size w w'))
 case atStart => exact ⟨(y125), (0), (0), gb_, gb_, H', ⟨Nat.le_refl _⟩, ⟨R_mono (rU_ HO127.out) (fun _ hk => hk.1)⟩, ⟨bU_ HB.out⟩⟩
 case round =>
  clear H'
  (try clear c1); (try clear p2); (try clear c3); (try clear c3b0); (try clear c3b1); (try clear c4); (try clear c4b0); (try clear c4b1)
  obtain ⟨x6_1, x7_1, x16_1, rfl, rfl, HA, HK1, HO_6, HB⟩ := hrel
  cases gk with
  | zero => exact absurd HA.out (by simp [ratio_small.l0])
  | succ k1 =>
   have H := HA.out
   clear HA
   simp only [ratio_small.l0] at H
   by_cases c7 : x16_1 < (l0.length : Int)
   ·rw [if_pos c7] at H
    have c7b0 := decide_eq_true c7
    clear c7
    obtain ⟨ji8, hji8⟩ : ∃ j_ : Int, (wrap64 ((wrap64 ((l0.length : Int) - 1)) - x16_1)) = j_ := ⟨_, rfl⟩
    first | rw [hji8] at H | simp only [hji8] at H
    have hji8w : (IntKind.i64.wrap ((wrap64 ((l0.length : Int) - 1)) - x16_1)) = ji8 := (i64_w _).trans hji8
    obtain ⟨c9, H⟩ : (0 ≤ (ji8)) ∧ _ := it_ H
    have c9b0 := decide_eq_true c9
    clear c9
    obtain ⟨c10, H⟩ : ((ji8) < (l0.length : Int)) ∧ _ := it_ H
    have c10b0 := decide_eq_true c10
    clear c10
    by_cases c11 : (IntKind.u64.wrap (a1)) = 0
    ·rw [if_pos c11] at H
     exact absurd H (by simp)
    rw [if_neg c11] at H
    have c11b0 := beq_eq_false_iff_ne.mpr c11
    have c11b1 := bne_iff_ne.mpr c11
    obtain ⟨c12, H⟩ : ((ji8) < (x6_1.length : Int)) ∧ _ := it_ H
    have c12b0 := decide_eq_true c12
    clear c12
    obtain ⟨y129, hy129⟩ : ∃ y_ : List Int, y_ = (x6_1.set ((ji8) : Int).toNat ((IntKind.u64.wrap (Int.tdiv (Go.bits .or .u64 (IntKind.u64.wrap (x7_1 * 4294967296)) (IntKind.u64.wrap (rd l0 (ji8)))) (IntKind.u64.wrap (a1)))) % 4294967296)) := ⟨_, rfl⟩
    first | rw [Option.bind_some, ← hy129] at H | rw [← hy129] at H
    have Ny129 := ak hy129
    clear hy129
    have H' := ak H
    clear H
    have p128 : 0 ≤ ((ji8) : Int) := od_
    have q128 : (ji8) < (l0.length : Int) := od_
    obtain ⟨ad128, e128, hx128_0⟩ := Kd.at_int HR0.out (ji8) p128 q128
    cases e128
    replace hx128_0 := (HB.out.cell (World.block_lt_of_cell? w _ hx128_0)).trans hx128_0
    replace p128 := eq_true p128
    replace q128 := eq_true q128
    try go_wp2
    refine nx2_ (R_drew HO_6.out) (below_drew1 HB.out) ?_
    clear HO_6 HB
    intro HO_6 HB
    have p13 : 0 ≤ ((ji8) : Int) := od_
    have q13 : ((ji8) : Int) < ((x6_1.length : Int) : Int) := od_
    obtain ⟨go13, co13, eo13, gb13, gl13, cl13, HG13⟩ := Kd.R_form HO_6.out (by omega)
    (first | cases eo13 | (injection eo13 with ea_ en_ ec_; (first | subst ea_ | (injection ea_ with ea_; subst ea_)); subst ec_; clear en_))
    have GB13 := ak gb13
    have GG13 := ak HG13
    clear gb13 gl13 HG13
    obtain ⟨hx13_0, hf13_0⟩ := Kd.R_celln 0 HO_6.out ((ji8) : Int) p13 q13
    replace p13 := eq_true p13
    replace q13 := eq_true q13
    have HP15 := Kd.R_putn HO_6.out ((ji8) : Int) ((IntKind.u64.wrap (Int.tdiv (Go.bits .or .u64 (IntKind.u64.wrap (x7_1 * 4294967296)) (IntKind.u64.wrap (rd l0 (ji8)))) (IntKind.u64.wrap (a1)))) % 4294967296)
    rw [← Ny129.out] at HP15
    have HQ15 := ak HP15
    clear HP15
    refine start_ (n := 14) (S := fun w' => True) (ds := [12]) (bv 14 0) (by kernel_rfl) rfl rfl trivial (fun hHeld => ?_); refine with_tabW ratio_small.tab8 ratio_small.bits8 (fun HT_ HW_ => ?_)
    generalize wr.drew = w14 at HO_6 HB GG13 HQ15 hf13_0 hx13_0 hHeld ⊢
    refine pq_ 0 32 14 1 HT_.out ?_
    refine pq_ 1 33 14 3 HT_.out ?_
    refine pq_ 2 34 14 7 HT_.out ?_
    refine pq_ 3 35 14 15 HT_.out ?_
    refine pq_ 4 36 14 31 HT_.out ?_
    refine pq_ 5 37 14 63 HT_.out ?_
    refine pq_ 6 38 14 127 HT_.out ?_
    refine pq_ 7 39 14 255 HT_.out ?_
    refine pq_ 8 40 14 511 HT_.out ?_
    refine pq_ 9 41 14 1023 HT_.out ?_
    refine pq_ 10 42 14 2047 HT_.out ?_
    refine pq_ 11 43 14 4095 HT_.out ?_
    refine last_ (i := 12) (N := none) #[true, true, true, true, true, true, true, true, true, true, true, true, true, false] rfl rfl (one_of HT_.out (by kernel_rfl)) (by decide) (fun K hK => ?_)
    refine skip_ (w1 := ?_) (by rfl) rfl ?_ ?_
    rotate_left
    ·go_simp
     rfl
    refine hK.out _ _ ?_
    clear hK K
    refine pq_ 13 7 14 16383 HT_.out ?_
    refine done_ (done_of HT_.out (by kernel_rfl)) ?_
    try go_wp2
    go_roundg k1
    case measure => have := HK1.out; omega
    case rel => exact ⟨(y129), (Int.tmod (Go.bits .or .u64 (IntKind.u64.wrap (x7_1 * 4294967296)) (IntKind.u64.wrap (rd l0 (ji8)))) (IntKind.u64.wrap (a1))), (wrap64 (x16_1 + 1)), (by first | rfl | (simp; done) | (simp only [← hji8] <;> (first | rfl | simp)) | (simp [*]; done)), gb_, H', ⟨by have := HK1.out; omega⟩, ⟨rU_ HQ15.out⟩, ⟨sU_⟩⟩
   rw [if_neg c7] at H
   have c7b0 := decide_eq_false c7
   clear c7
   revert H
   refine bd_ fun t130 A16 H => ?_
   simp only [Option.some.injEq, Prod.mk.injEq] at H
   obtain ⟨rfl, rfl⟩ := H
   obtain ⟨Ao17, co17, eo17⟩ := R_slice HO_6.out
   subst eo17
   go_wp2_with (first | ((with_reducible refine gate_callee (f := 121) rfl ?_); refine gl_ (some 46) Tryd.func121 #[.slice Ao17 x6_1.length co17] ?_; (with_reducible refine (ratio_trim.calls k1 (fun k_ => some k_ = (.slice Ao17 x6_1.length co17 : Value).ownBlock) _ _ x6_1 t130 _ ?side1 A16.out).mono ?_); (case side1 => exact R_V (R_tight rfl (HO_6.out))); rintro e w18 ⟨v131, rfl, ho0, hb⟩; refine ⟨_, rfl, ?_⟩; refine nx3_ (R_below (rU_ HO_6.out) hb) (V_lower (V_mono (ok' := fun k_ => (w.heap.size ≤ k_)) ho0 (fun k_ hk_ => Or.elim hk_ (fun hs_ => ((HO_6.out).1 k_ hs_.symm)) (fun hn_ => (Nat.le_trans (below_size (bU_ HB.out)) hn_)))) (below_size (bU_ HB.out))) (below_step (bU_ HB.out) hb) ?_; clear HO_6 HB; intro HO_6 HO132 HB; clear hb ho0))
   go_ret2
   exact ⟨_, eW_, vU_ HO132.out, bU_ HB.out⟩

def bits_Len32.f (a0 : Int) : Option (Int) := if a0 ≥ 65536 then (if (a0 / 65536) ≥ 256 then (if 0 ≤ (((a0 / 65536) / 256) % 256) then (if (((a0 / 65536) / 256) % 256) < 256 then (some (wrap64 ((16 + 8) + (wrap64 (bt (⟨#[0, 1, 2, 2, 3, 3, 3, 3, 4, 4, 4, 4, 4, 4, 4, 4, 5, 5, 5, 5, 5, 5, 5, 5, 5, 5, 5, 5, 5, 5, 5, 5, 6, 6, 6, 6, 6, 6, 6, 6, 6, 6, 6, 6, 6, 6, 6, 6, 6, 6, 6, 6, 6, 6, 6, 6, 6, 6, 6, 6, 6, 6, 6, 6, 7, 7, 7, 7, 7, 7, 7, 7, 7, 7, 7, 7, 7, 7, 7, 7, 7, 7, 7, 7, 7, 7, 7, 7, 7, 7, 7, 7, 7, 7, 7, 7, 7, 7, 7, 7, 7, 7, 7, 7, 7, 7, 7, 7, 7, 7, 7, 7, 7, 7, 7, 7, 7, 7, 7, 7, 7, 7, 7, 7, 7, 7, 7, 7, 8, 8, 8, 8, 8, 8, 8, 8, 8, 8, 8, 8, 8, 8, 8, 8, 8, 8, 8, 8, 8, 8, 8, 8, 8, 8, 8, 8, 8, 8, 8, 8, 8, 8, 8, 8, 8, 8, 8, 8, 8, 8, 8, 8, 8, 8, 8, 8, 8, 8, 8, 8, 8, 8, 8, 8, 8, 8, 8, 8, 8, 8, 8, 8, 8, 8, 8, 8, 8, 8, 8, 8, 8, 8, 8, 8, 8, 8, 8, 8, 8, 8, 8, 8, 8, 8, 8, 8, 8, 8, 8, 8, 8, 8, 8, 8, 8, 8, 8, 8, 8, 8, 8, 8, 8, 8, 8, 8, 8, 8, 8, 8, 8, 8, 8, 8, 8, 8, 8, 8, 8, 8, 8, 8, 8, 8, 8, 8]⟩ : ByteArray) (((a0 / 65536) / 256) % 256)))))) else (none)) else (none)) else (if 0 ≤ ((a0 / 65536) % 256) then (if ((a0 / 65536) % 256) < 256 then (some (wrap64 (16 + (wrap64 (bt (⟨#[0, 1, 2, 2, 3, 3, 3, 3, 4, 4, 4, 4, 4, 4, 4, 4, 5, 5, 5, 5, 5, 5, 5, 5, 5, 5, 5, 5, 5, 5, 5, 5, 6, 6, 6, 6, 6, 6, 6, 6, 6, 6, 6, 6, 6, 6, 6, 6, 6, 6, 6, 6, 6, 6, 6, 6, 6, 6, 6, 6, 6, 6, 6, 6, 7, 7, 7, 7, 7, 7, 7, 7, 7, 7, 7, 7, 7, 7, 7, 7, 7, 7, 7, 7, 7, 7, 7, 7, 7, 7, 7, 7, 7, 7, 7, 7, 7, 7, 7, 7, 7, 7, 7, 7, 7, 7, 7, 7, 7, 7, 7, 7, 7, 7, 7, 7, 7, 7, 7, 7, 7, 7, 7, 7, 7, 7, 7, 7, 8, 8, 8, 8, 8, 8, 8, 8, 8, 8, 8, 8, 8, 8, 8, 8, 8, 8, 8, 8, 8, 8, 8, 8, 8, 8, 8, 8, 8, 8, 8, 8, 8, 8, 8, 8, 8, 8, 8, 8, 8, 8, 8, 8, 8, 8, 8, 8, 8, 8, 8, 8, 8, 8, 8, 8, 8, 8, 8, 8, 8, 8, 8, 8, 8, 8, 8, 8, 8, 8, 8, 8, 8, 8, 8, 8, 8, 8, 8, 8, 8, 8, 8, 8, 8, 8, 8, 8, 8, 8, 8, 8, 8, 8, 8, 8, 8, 8, 8, 8, 8, 8, 8, 8, 8, 8, 8, 8, 8, 8, 8, 8, 8, 8, 8, 8, 8, 8, 8, 8, 8, 8, 8, 8, 8, 8, 8, 8]⟩ : ByteArray) ((a0 / 65536) % 256)))))) else (none)) else (none))) else (if a0 ≥ 256 then (if 0 ≤ ((a0 / 256) % 256) then (if ((a0 / 256) % 256) < 256 then (some (wrap64 ((0 + 8) + (wrap64 (bt (⟨#[0, 1, 2, 2, 3, 3, 3, 3, 4, 4, 4, 4, 4, 4, 4, 4, 5, 5, 5, 5, 5, 5, 5, 5, 5, 5, 5, 5, 5, 5, 5, 5, 6, 6, 6, 6, 6, 6, 6, 6, 6, 6, 6, 6, 6, 6, 6, 6, 6, 6, 6, 6, 6, 6, 6, 6, 6, 6, 6, 6, 6, 6, 6, 6, 7, 7, 7, 7, 7, 7, 7, 7, 7, 7, 7, 7, 7, 7, 7, 7, 7, 7, 7, 7, 7, 7, 7, 7, 7, 7, 7, 7, 7, 7, 7, 7, 7, 7, 7, 7, 7, 7, 7, 7, 7, 7, 7, 7, 7, 7, 7, 7, 7, 7, 7, 7, 7, 7, 7, 7, 7, 7, 7, 7, 7, 7, 7, 7, 8, 8, 8, 8, 8, 8, 8, 8, 8, 8, 8, 8, 8, 8, 8, 8, 8, 8, 8, 8, 8, 8, 8, 8, 8, 8, 8, 8, 8, 8, 8, 8, 8, 8, 8, 8, 8, 8, 8, 8, 8, 8, 8, 8, 8, 8, 8, 8, 8, 8, 8, 8, 8, 8, 8, 8, 8, 8, 8, 8, 8, 8, 8, 8, 8, 8, 8, 8, 8, 8, 8, 8, 8, 8, 8, 8, 8, 8, 8, 8, 8, 8, 8, 8, 8, 8, 8, 8, 8, 8, 8, 8, 8, 8, 8, 8, 8, 8, 8, 8, 8, 8, 8, 8, 8, 8, 8, 8, 8, 8, 8, 8, 8, 8, 8, 8, 8, 8, 8, 8, 8, 8, 8, 8, 8, 8, 8, 8]⟩ : ByteArray) ((a0 / 256) % 256)))))) else (none)) else (none)) else (if 0 ≤ ((a0) % 256) then (if ((a0) % 256) < 256 then (some (wrap64 (0 + (wrap64 (bt (⟨#[0, 1, 2, 2, 3, 3, 3, 3, 4, 4, 4, 4, 4, 4, 4, 4, 5, 5, 5, 5, 5, 5, 5, 5, 5, 5, 5, 5, 5, 5, 5, 5, 6, 6, 6, 6, 6, 6, 6, 6, 6, 6, 6, 6, 6, 6, 6, 6, 6, 6, 6, 6, 6, 6, 6, 6, 6, 6, 6, 6, 6, 6, 6, 6, 7, 7, 7, 7, 7, 7, 7, 7, 7, 7, 7, 7, 7, 7, 7, 7, 7, 7, 7, 7, 7, 7, 7, 7, 7, 7, 7, 7, 7, 7, 7, 7, 7, 7, 7, 7, 7, 7, 7, 7, 7, 7, 7, 7, 7, 7, 7, 7, 7, 7, 7, 7, 7, 7, 7, 7, 7, 7, 7, 7, 7, 7, 7, 7, 8, 8, 8, 8, 8, 8, 8, 8, 8, 8, 8, 8, 8, 8, 8, 8, 8, 8, 8, 8, 8, 8, 8, 8, 8, 8, 8, 8, 8, 8, 8, 8, 8, 8, 8, 8, 8, 8, 8, 8, 8, 8, 8, 8, 8, 8, 8, 8, 8, 8, 8, 8, 8, 8, 8, 8, 8, 8, 8, 8, 8, 8, 8, 8, 8, 8, 8, 8, 8, 8, 8, 8, 8, 8, 8, 8, 8, 8, 8, 8, 8, 8, 8, 8, 8, 8, 8, 8, 8, 8, 8, 8, 8, 8, 8, 8, 8, 8, 8, 8, 8, 8, 8, 8, 8, 8, 8, 8, 8, 8, 8, 8, 8, 8, 8, 8, 8, 8, 8, 8, 8, 8, 8, 8, 8, 8, 8, 8]⟩ : ByteArray) ((a0) % 256)))))) else (none)) else (none)))
set_option maxHeartbeats 8000000 in
set_option maxRecDepth 100000 in
theorem bits_Len32.calls (a0 : Int) (r : Int) (w : World) (h : bits_Len32.f a0 = some r) :
  Calls Tryd.prog 160 #[.int .u32 a0] w fun e w' => e = .returned (.int .i64 r) ∧ Drawn0 w w' := by
 have H := h
 clear h
 unfold bits_Len32.f at H
 by_cases c2 : a0 ≥ 65536
 ·rw [if_pos c2] at H
  have c2b0 : decide (65536 ≤ a0) = true := decide_eq_true c2
  clear c2
  by_cases c3 : (a0 / 65536) ≥ 256
  ·rw [if_pos c3] at H
   have c3b0 : decide (256 ≤ (a0 / 65536)) = true := decide_eq_true c3
   clear c3
   obtain ⟨ji4, hji4⟩ : ∃ j_ : Int, (((a0 / 65536) / 256) % 256) = j_ := ⟨_, rfl⟩
   first | rw [hji4] at H | simp only [hji4] at H
   obtain ⟨c5, H⟩ : (0 ≤ (ji4)) ∧ _ := it_ H
   have c5b0 := decide_eq_true c5
   clear c5
   obtain ⟨c6, H⟩ : ((ji4) < 256) ∧ _ := it_ H
   have c6b0 := decide_eq_true c6
   clear c6
   obtain rfl := Option.some.inj H
   have p7 : 0 ≤ ((ji4) : Int) := od_
   have q7 : (ji4) < (256 : Int) := od_
   have hx7 := bt_at (⟨#[0, 1, 2, 2, 3, 3, 3, 3, 4, 4, 4, 4, 4, 4, 4, 4, 5, 5, 5, 5, 5, 5, 5, 5, 5, 5, 5, 5, 5, 5, 5, 5, 6, 6, 6, 6, 6, 6, 6, 6, 6, 6, 6, 6, 6, 6, 6, 6, 6, 6, 6, 6, 6, 6, 6, 6, 6, 6, 6, 6, 6, 6, 6, 6, 7, 7, 7, 7, 7, 7, 7, 7, 7, 7, 7, 7, 7, 7, 7, 7, 7, 7, 7, 7, 7, 7, 7, 7, 7, 7, 7, 7, 7, 7, 7, 7, 7, 7, 7, 7, 7, 7, 7, 7, 7, 7, 7, 7, 7, 7, 7, 7, 7, 7, 7, 7, 7, 7, 7, 7, 7, 7, 7, 7, 7, 7, 7, 7, 8, 8, 8, 8, 8, 8, 8, 8, 8, 8, 8, 8, 8, 8, 8, 8, 8, 8, 8, 8, 8, 8, 8, 8, 8, 8, 8, 8, 8, 8, 8, 8, 8, 8, 8, 8, 8, 8, 8, 8, 8, 8, 8, 8, 8, 8, 8, 8, 8, 8, 8, 8, 8, 8, 8, 8, 8, 8, 8, 8, 8, 8, 8, 8, 8, 8, 8, 8, 8, 8, 8, 8, 8, 8, 8, 8, 8, 8, 8, 8, 8, 8, 8, 8, 8, 8, 8, 8, 8, 8, 8, 8, 8, 8, 8, 8, 8, 8, 8, 8, 8, 8, 8, 8, 8, 8, 8, 8, 8, 8, 8, 8, 8, 8, 8, 8, 8, 8, 8, 8, 8, 8, 8, 8, 8, 8, 8, 8]⟩ : ByteArray) (ji4)
   replace p7 := eq_true p7
   replace q7 := eq_true q7
   go_enter Tryd.func160, Tryd.ntmps160
   go_wp2
   go_ret
   exact ⟨by first | rfl | (simp; done) | (simp only [← hji4] <;> (first | rfl | simp)) | (simp [*]; done), by repeat (first | exact Drawn0.refl _ | apply Drawn0.step)⟩
  rw [if_neg c3] at H
  have c3b0 : decide (256 ≤ (a0 / 65536)) = false := decide_eq_false c3
  clear c3
  obtain ⟨ji8, hji8⟩ : ∃ j_ : Int, ((a0 / 65536) % 256) = j_ := ⟨_, rfl⟩
  first | rw [hji8] at H | simp only [hji8] at H
  obtain ⟨c9, H⟩ : (0 ≤ (ji8)) ∧ _ := it_ H
  have c9b0 := decide_eq_true c9
  clear c9
  obtain ⟨c10, H⟩ : ((ji8) < 256) ∧ _ := it_ H
  have c10b0 := decide_eq_true c10
  clear c10
  obtain rfl := Option.some.inj H
  have p11 : 0 ≤ ((ji8) : Int) := od_
  have q11 : (ji8) < (256 : Int) := od_
  have hx11 := bt_at (⟨#[0, 1, 2, 2, 3, 3, 3, 3, 4, 4, 4, 4, 4, 4, 4, 4, 5, 5, 5, 5, 5, 5, 5, 5, 5, 5, 5, 5, 5, 5, 5, 5, 6, 6, 6, 6, 6, 6, 6, 6, 6, 6, 6, 6, 6, 6, 6, 6, 6, 6, 6, 6, 6, 6, 6, 6, 6, 6, 6, 6, 6, 6, 6, 6, 7, 7, 7, 7, 7, 7, 7, 7, 7, 7, 7, 7, 7, 7, 7, 7, 7, 7, 7, 7, 7, 7, 7, 7, 7, 7, 7, 7, 7, 7, 7, 7, 7, 7, 7, 7, 7, 7, 7, 7, 7, 7, 7, 7, 7, 7, 7, 7, 7, 7, 7, 7, 7, 7, 7, 7, 7, 7, 7, 7, 7, 7, 7, 7, 8, 8, 8, 8, 8, 8, 8, 8, 8, 8, 8, 8, 8, 8, 8, 8, 8, 8, 8, 8, 8, 8, 8, 8, 8, 8, 8, 8, 8, 8, 8, 8, 8, 8, 8, 8, 8, 8, 8, 8, 8, 8, 8, 8, 8, 8, 8, 8, 8, 8, 8, 8, 8, 8, 8, 8, 8, 8, 8, 8, 8, 8, 8, 8, 8, 8, 8, 8, 8, 8, 8, 8, 8, 8, 8, 8, 8, 8, 8, 8, 8, 8, 8, 8, 8, 8, 8, 8, 8, 8, 8, 8, 8, 8, 8, 8, 8, 8, 8, 8, 8, 8, 8, 8, 8, 8, 8, 8, 8, 8, 8, 8, 8, 8, 8, 8, 8, 8, 8, 8, 8, 8, 8, 8, 8, 8, 8, 8]⟩ : ByteArray) (ji8)
  replace p11 := eq_true p11
  replace q11 := eq_true q11
  go_enter Tryd.func160, Tryd.ntmps160
  go_wp2
  go_ret
  exact ⟨by first | rfl | (simp; done) | (simp only [← hji8] <;> (first | rfl | simp)) | (simp [*]; done), by repeat (first | exact Drawn0.refl _ | apply Drawn0.step)⟩
 rw [if_neg c2] at H
 have c2b0 : decide (65536 ≤ a0) = false := decide_eq_false c2
 clear c2
 by_cases c12 : a0 ≥ 256
 ·rw [if_pos c12] at H
  have c12b0 : decide (256 ≤ a0) = true := decide_eq_true c12
  clear c12
  obtain ⟨ji13, hji13⟩ : ∃ j_ : Int, ((a0 / 256) % 256) = j_ := ⟨_, rfl⟩
  first | rw [hji13] at H | simp only [hji13] at H
  obtain ⟨c14, H⟩ : (0 ≤ (ji13)) ∧ _ := it_ H
  have c14b0 := decide_eq_true c14
  clear c14
  obtain ⟨c15, H⟩ : ((ji13) < 256) ∧ _ := it_ H
  have c15b0 := decide_eq_true c15
  clear c15
  obtain rfl := Option.some.inj H
  have p16 : 0 ≤ ((ji13) : Int) := od_
  have q16 : (ji13) < (256 : Int) := od_
  have hx16 := bt_at (⟨#[0, 1, 2, 2, 3, 3, 3, 3, 4, 4, 4, 4, 4, 4, 4, 4, 5, 5, 5, 5, 5, 5, 5, 5, 5, 5, 5, 5, 5, 5, 5, 5, 6, 6, 6, 6, 6, 6, 6, 6, 6, 6, 6, 6, 6, 6, 6, 6, 6, 6, 6, 6, 6, 6, 6, 6, 6, 6, 6, 6, 6, 6, 6, 6, 7, 7, 7, 7, 7, 7, 7, 7, 7, 7, 7, 7, 7, 7, 7, 7, 7, 7, 7, 7, 7, 7, 7, 7, 7, 7, 7, 7, 7, 7, 7, 7, 7, 7, 7, 7, 7, 7, 7, 7, 7, 7, 7, 7, 7, 7, 7, 7, 7, 7, 7, 7, 7, 7, 7, 7, 7, 7, 7, 7, 7, 7, 7, 7, 8, 8, 8, 8, 8, 8, 8, 8, 8, 8, 8, 8, 8, 8, 8, 8, 8, 8, 8, 8, 8, 8, 8, 8, 8, 8, 8, 8, 8, 8, 8, 8, 8, 8, 8, 8, 8, 8, 8, 8, 8, 8, 8, 8, 8, 8, 8, 8, 8, 8, 8, 8, 8, 8, 8, 8, 8, 8, 8, 8, 8, 8, 8, 8, 8, 8, 8, 8, 8, 8, 8, 8, 8, 8, 8, 8, 8, 8, 8, 8, 8, 8, 8, 8, 8, 8, 8, 8, 8, 8, 8, 8, 8, 8, 8, 8, 8, 8, 8, 8, 8, 8, 8, 8, 8, 8, 8, 8, 8, 8, 8, 8, 8, 8, 8, 8, 8, 8, 8, 8, 8, 8, 8, 8, 8, 8, 8, 8]⟩ : ByteArray) (ji13)
  replace p16 := eq_true p16
  replace q16 := eq_true q16
  go_enter Tryd.func160, Tryd.ntmps160
  go_wp2
  go_ret
  exact ⟨by first | rfl | (simp; done) | (simp only [← hji13] <;> (first | rfl | simp)) | (simp [*]; done), by repeat (first | exact Drawn0.refl _ | apply Drawn0.step)⟩
 rw [if_neg c12] at H
 have c12b0 : decide (256 ≤ a0) = false := decide_eq_false c12
 clear c12
 obtain ⟨ji17, hji17⟩ : ∃ j_ : Int, ((a0) % 256) = j_ := ⟨_, rfl⟩
 first | rw [hji17] at H | simp only [hji17] at H
 obtain ⟨c18, H⟩ : (0 ≤ (ji17)) ∧ _ := it_ H
 have c18b0 := decide_eq_true c18
 clear c18
 obtain ⟨c19, H⟩ : ((ji17) < 256) ∧ _ := it_ H
 have c19b0 := decide_eq_true c19
 clear c19
 obtain rfl := Option.some.inj H
 have p20 : 0 ≤ ((ji17) : Int) := od_
 have q20 : (ji17) < (256 : Int) := od_
 have hx20 := bt_at (⟨#[0, 1, 2, 2, 3, 3, 3, 3, 4, 4, 4, 4, 4, 4, 4, 4, 5, 5, 5, 5, 5, 5, 5, 5, 5, 5, 5, 5, 5, 5, 5, 5, 6, 6, 6, 6, 6, 6, 6, 6, 6, 6, 6, 6, 6, 6, 6, 6, 6, 6, 6, 6, 6, 6, 6, 6, 6, 6, 6, 6, 6, 6, 6, 6, 7, 7, 7, 7, 7, 7, 7, 7, 7, 7, 7, 7, 7, 7, 7, 7, 7, 7, 7, 7, 7, 7, 7, 7, 7, 7, 7, 7, 7, 7, 7, 7, 7, 7, 7, 7, 7, 7, 7, 7, 7, 7, 7, 7, 7, 7, 7, 7, 7, 7, 7, 7, 7, 7, 7, 7, 7, 7, 7, 7, 7, 7, 7, 7, 8, 8, 8, 8, 8, 8, 8, 8, 8, 8, 8, 8, 8, 8, 8, 8, 8, 8, 8, 8, 8, 8, 8, 8, 8, 8, 8, 8, 8, 8, 8, 8, 8, 8, 8, 8, 8, 8, 8, 8, 8, 8, 8, 8, 8, 8, 8, 8, 8, 8, 8, 8, 8, 8, 8, 8, 8, 8, 8, 8, 8, 8, 8, 8, 8, 8, 8, 8, 8, 8, 8, 8, 8, 8, 8, 8, 8, 8, 8, 8, 8, 8, 8, 8, 8, 8, 8, 8, 8, 8, 8, 8, 8, 8, 8, 8, 8, 8, 8, 8, 8, 8, 8, 8, 8, 8, 8, 8, 8, 8, 8, 8, 8, 8, 8, 8, 8, 8, 8, 8, 8, 8, 8, 8, 8, 8, 8, 8]⟩ : ByteArray) (ji17)
 replace p20 := eq_true p20
 replace q20 := eq_true q20
 go_enter Tryd.func160, Tryd.ntmps160
 go_wp2
 go_ret
 exact ⟨by first | rfl | (simp; done) | (simp only [← hji17] <;> (first | rfl | simp)) | (simp [*]; done), by repeat (first | exact Drawn0.refl _ | apply Drawn0.step)⟩

def bits_LeadingZeros32.f (a0 : Int) : Option (Int) := (bits_Len32.f a0).bind fun t133 => (some (wrap64 (32 - t133)))
set_option maxHeartbeats 8000000 in
set_option maxRecDepth 100000 in
theorem bits_LeadingZeros32.calls (a0 : Int) (r : Int) (w : World) (h : bits_LeadingZeros32.f a0 = some r) :
  Calls Tryd.prog 142 #[.int .u32 a0] w fun e w' => e = .returned (.int .i64 r) ∧ Drawn0 w w' := by
 have H : ((bits_Len32.f a0).bind fun t133 => (some (wrap64 (32 - t133)))) = some r := h
 clear h
 revert H
 refine bd_ fun t133 A2 H => ?_
 obtain rfl := Option.some.inj H
 go_enter Tryd.func142, Tryd.ntmps142
 go_wp2_with (first | ((with_reducible refine gate_callee (f := 160) rfl ?_); refine gl_ (some 4) Tryd.func160 #[.int .u32 a0] ?_; (with_reducible refine (bits_Len32.calls a0 t133 _ A2.out).mono ?_); rintro e w' ⟨rfl, ⟨nd, rfl⟩⟩; refine ⟨_, rfl, ?_⟩))
 go_ret
 exact ⟨by first | rfl | (simp; done) | (simp [*]; done), by repeat (first | exact Drawn0.refl _ | apply Drawn0.step)⟩

def ratio_shifted.l0 : Nat → Int → List Int → List Int → Int → Int → Option (List Int)
 | 0, _, _, _, _, _ => none
 | k + 1, x1, x5, x13, x14, x15 => if x15 < x14 then (if 0 ≤ x15 then (if x15 < (x13.length : Int) then (if 0 ≤ x1 then (if x15 < (x5.length : Int) then (if 0 ≤ (wrap64 (x15 + 1)) then (if (wrap64 (x15 + 1)) < (x5.length : Int) then (ratio_shifted.l0 k x1 ((x5.set (x15 : Int).toNat (Go.bits .or .u32 (rd x5 x15) ((shl .u64 (IntKind.u64.wrap (rd x13 x15)) x1) % 4294967296))).set ((wrap64 (x15 + 1)) : Int).toNat (((shl .u64 (IntKind.u64.wrap (rd x13 x15)) x1) / 4294967296) % 4294967296)) x13 x14 (wrap64 (x15 + 1))) else (none)) else (none)) else (none)) else (none)) else (none)) else (none)) else (some x5)
def ratio_shifted.f (k : Nat) (l0 : List Int) (a1 : Int) : Option (List Int) := if 0 ≤ (wrap64 ((l0.length : Int) + 1)) then (if (wrap64 ((l0.length : Int) + 1) : Int).toNat ≤ 70368744177664 then (ratio_shifted.l0 k a1 (List.replicate (wrap64 ((l0.length : Int) + 1) : Int).toNat 0) l0 (l0.length : Int) 0) else (none)) else (none)
theorem ratio_shifted.mono_l : ∀ k, (∀ y0 y1 y2 y3 y4, LeO (ratio_shifted.l0 k y0 y1 y2 y3 y4) (ratio_shifted.l0 (k + 1) y0 y1 y2 y3 y4))
 | 0 => fun _ _ _ _ _ r h => by simp [ratio_shifted.l0] at h
 | k + 1 => by
  have ih0 := ratio_shifted.mono_l k
  ·intro y0 y1 y2 y3 y4
   unfold ratio_shifted.l0
   with_reducible repeat' first | apply ih0 | exact LeO.refl _ | exact LeO.none _ | refine LeO.ite ?_ ?_ | refine LeO.bind ?_ (fun _ => ?_)
theorem ratio_shifted.mono : ∀ a0 a1 k, LeO (ratio_shifted.f k a0 a1) (ratio_shifted.f (k + 1) a0 a1) := by
 intro a0 a1 k
 have ih0 := ratio_shifted.mono_l k
 unfold ratio_shifted.f
 with_reducible repeat' first | apply ih0 | exact LeO.refl _ | exact LeO.none _ | refine LeO.ite ?_ ?_ | refine LeO.bind ?_ (fun _ => ?_)
set_option maxHeartbeats 8000000 in
set_option maxRecDepth 100000 in
theorem ratio_shifted.calls (k : Nat) (A0 : Option Addr) (c0 : Nat) (l0 : List Int) (a1 : Int) (r : List Int) (w : World) (hr0 : Kd.C (Kd.int .u32) w A0 l0.length l0) (hc0 : l0.length ≤ c0) (h : ratio_shifted.f k l0 a1 = some r) :
  Calls Tryd.prog 143 #[.slice A0 l0.length c0, .int .i64 a1] w fun e w' => ∃ v0_ : Value, e = .returned (v0_) ∧ Kd.R (Kd.int .u32) 115 w' w.heap.size (fun _ => True) v0_ r ∧ Below w.heap.size w w' := by
 have HR0 := ak hr0
 have HC0 := ak hc0
 clear hr0 hc0
 have HB := ak (Below.refl w.heap.size w)
 have H := h
 clear h
 unfold ratio_shifted.f at H
 obtain ⟨ji3, hji3⟩ : ∃ j_ : Int, (wrap64 ((l0.length : Int) + 1)) = j_ := ⟨_, rfl⟩
 first | rw [hji3] at H | simp only [hji3] at H
 have hji3w : (IntKind.i64.wrap ((l0.length : Int) + 1)) = ji3 := (i64_w _).trans hji3
 obtain ⟨c4, H⟩ : (0 ≤ (ji3)) ∧ _ := it_ H
 have c4b0 := eq_true c4
 have c4b1 := decide_eq_true c4
 clear c4
 obtain ⟨c5, H⟩ : ((ji3 : Int).toNat ≤ 70368744177664) ∧ _ := it_ H
 have c5b0 := eq_true c5
 have c5b1 := decide_eq_true c5
 clear c5
 obtain ⟨y134, hy134⟩ : ∃ y_ : List Int, y_ = (List.replicate (ji3 : Int).toNat 0) := ⟨_, rfl⟩
 first | rw [Option.bind_some, ← hy134] at H | rw [← hy134] at H
 have Ny134 := ak hy134
 clear hy134
 have H' := ak H
 clear H
 go_enter Tryd.func143, Tryd.ntmps143
 go_wp2_with (first | ((with_reducible refine gate_dst (N := 12) rfl ?_); refine R_make (Kd.int .u32) _ 115 rfl (N := 12) rfl 23 _ _ rfl ji3 ?hx ?hy Tryd.underlying23 (.int .u32 0) 4 info115 rfl (by decide) (by omega) 0 (ok := fun _ => True) (okp := fun _ => True) rfl (fun _ hk => hk) trivial od_ (Nat.le_trans (Nat.mul_le_mul_right _ (od_ : ji3.toNat ≤ 70368744177664)) (by omega)) (Below.refl _ _) (Nat.le_refl _) ?_; (case hx => first | rfl | (simp only [hji3]; rfl)); (case hy => first | rfl | (simp only [hji3]; rfl)); intro v135 w6 ho7 hb hg_ hnew_; clear hg_ hnew_; (first | rw [← Ny134.out] at ho7 | (simp only [Int.reduceToNat] at ho7; rw [← Ny134.out] at ho7)); refine nx2_ (R_lower ho7 (below_size (bU_ HB.out))) (below_step (bU_ HB.out) hb) ?_; clear HB; intro HO136 HB; clear hb ho7))
 go_loopg [15] k (fun kq v15 w' => ∃ (x5_1 : List Int) (x15_1 : Int), v15 = .int .i64 x15_1 ∧ Aside0 (ratio_shifted.l0 kq a1 x5_1 l0 (l0.length : Int) x15_1 = some r) ∧ Aside0 (kq ≤ k) ∧ Aside0 (Kd.R (Kd.int .u32) 115 w' w.heap.size (fun _ => True) v135 x5_1) ∧ Aside0 (Below w.heap.size w w'))
 case atStart => exact ⟨(y134), (0), gb_, H', ⟨Nat.le_refl _⟩, ⟨rU_ HO136.out⟩, ⟨bU_ HB.out⟩⟩
 case round =>
  clear H'
  (try clear c1); (try clear p2); (try clear c4); (try clear c4b0); (try clear c4b1); (try clear c5); (try clear c5b0); (try clear c5b1); (try clear p6)
  obtain ⟨x5_1, x15_1, rfl, HA, HK1, HO_5, HB⟩ := hrel
  cases gk with
  | zero => exact absurd HA.out (by simp [ratio_shifted.l0])
  | succ k1 =>
   have H := HA.out
   clear HA
   simp only [ratio_shifted.l0] at H
   by_cases c8 : x15_1 < (l0.length : Int)
   ·rw [if_pos c8] at H
    have c8b0 := decide_eq_true c8
    clear c8
    obtain ⟨c9, H⟩ : (0 ≤ x15_1) ∧ _ := it_ H
    have c9b0 := decide_eq_true c9
    clear c9
    obtain ⟨c10, H⟩ : (x15_1 < (l0.length : Int)) ∧ _ := it_ H
    have c10b0 := decide_eq_true c10
    clear c10
    obtain ⟨c11, H⟩ : (0 ≤ a1) ∧ _ := it_ H
    have c11b0 := eq_true c11
    have c11b1 := decide_eq_true c11
    clear c11
    obtain ⟨ji12, hji12⟩ : ∃ j_ : Int, (shl .u64 (IntKind.u64.wrap (rd l0 x15_1)) a1) = j_ := ⟨_, rfl⟩
    first | rw [hji12] at H | simp only [hji12] at H
    have hji12_ : (IntKind.u64.wrap ((IntKind.u64.wrap (rd l0 x15_1)) * 2 ^ min a1.toNat 64)) = ji12 := hji12
    have hji12z : a1 ≤ 64 → (IntKind.u64.wrap ((IntKind.u64.wrap (rd l0 x15_1)) * 2 ^ a1.toNat)) = ji12 := shl_small hji12
    obtain ⟨c13, H⟩ : (x15_1 < (x5_1.length : Int)) ∧ _ := it_ H
    have c13b0 := decide_eq_true c13
    clear c13
    obtain ⟨y139, hy139⟩ : ∃ y_ : List Int, y_ = (x5_1.set (x15_1 : Int).toNat (Go.bits .or .u32 (rd x5_1 x15_1) ((ji12) % 4294967296))) := ⟨_, rfl⟩
    first | rw [Option.bind_some, ← hy139] at H | rw [← hy139] at H
    have Ny139 := ak hy139
    clear hy139
    obtain ⟨ji15, hji15⟩ : ∃ j_ : Int, (wrap64 (x15_1 + 1)) = j_ := ⟨_, rfl⟩
    first | rw [hji15] at H | simp only [hji15] at H
    have hji15w : (IntKind.i64.wrap (x15_1 + 1)) = ji15 := (i64_w _).trans hji15
    obtain ⟨c16, H⟩ : (0 ≤ (ji15)) ∧ _ := it_ H
    have c16b0 := decide_eq_true c16
    clear c16
    obtain ⟨c17, H⟩ : ((ji15) < (x5_1.length : Int)) ∧ _ := it_ H
    have c17b0 := decide_eq_true c17
    clear c17
    obtain ⟨y140, hy140⟩ : ∃ y_ : List Int, y_ = (y139.set ((ji15) : Int).toNat (((ji12) / 4294967296) % 4294967296)) := ⟨_, rfl⟩
    first | rw [Option.bind_some, ← hy140] at H | rw [← hy140] at H
    have Ny140 := ak hy140
    clear hy140
    have H' := ak H
    clear H
    have p137 : 0 ≤ (x15_1 : Int) := od_
    have q137 : x15_1 < (l0.length : Int) := od_
    obtain ⟨ad137, e137, hx137_0⟩ := Kd.at_int HR0.out x15_1 p137 q137
    cases e137
    replace hx137_0 := (HB.out.cell (World.block_lt_of_cell? w _ hx137_0)).trans hx137_0
    replace p137 := eq_true p137
    replace q137 := eq_true q137
    obtain ⟨Ao20, co20, eo20⟩ := R_slice HO_5.out
    subst eo20
    have pfr19 : 0 ≤ (x15_1 : Int) := od_
    have qfr19 : (x15_1 : Int) < ((x5_1.length : Int) : Int) := od_
    obtain ⟨gofr19, cofr19, eofr19, gbfr19, glfr19, clfr19, HGfr19⟩ := Kd.R_form HO_5.out (by omega)
    (first | cases eofr19 | (injection eofr19 with ea_ en_ ec_; (first | subst ea_ | (injection ea_ with ea_; subst ea_)); subst ec_; clear en_))
    have GBfr19 := ak gbfr19
    have GGfr19 := ak HGfr19
    clear gbfr19 glfr19 HGfr19
    clear pfr19 qfr19
    have p138 : 0 ≤ (x15_1 : Int) := od_
    have q138 : x15_1 < (x5_1.length : Int) := od_
    obtain ⟨ad138, e138, hx138_0⟩ := Kd.at_int (R_reads' HO_5.out).2.2 x15_1 p138 q138
    obtain rfl : (⟨gofr19, 0, none⟩ : Addr) = ad138 := (by injection e138)
    (first | simp only [add_plain] at hx138_0 | simp only [add_at] at hx138_0 | simp only [Addr.add, Nat.zero_add] at hx138_0 | skip)
    replace p138 := eq_true p138
    replace q138 := eq_true q138
    have p14 : 0 ≤ (x15_1 : Int) := od_
    have q14 : (x15_1 : Int) < ((x5_1.length : Int) : Int) := od_
    obtain ⟨hx14_0, hf14_0⟩ := Kd.R_celln 0 HO_5.out (x15_1 : Int) p14 q14
    replace p14 := eq_true p14
    replace q14 := eq_true q14
    have HP21 := Kd.R_putg HO_5.out (x15_1 : Int) (Go.bits .or .u32 (rd x5_1 x15_1) ((ji12) % 4294967296))
    go_wp2_with (first | ((with_reducible refine gate_store (t := 115) (p := 31) rfl ?_); refine store_event (t := 115) (p := 31) (v := ?vo_w22) (w1 := (wr.setCell ⟨gofr19, (x15_1 : Int).toNat, none⟩ (.int .u32 (Go.bits .or .u32 (rd x5_1 x15_1) ((ji12) % 4294967296))))) ?hg ?ho ?hn ?hr ?_; (case ho => rfl); (case hg => rfl); (case hn => rfl); (case hr => first | (go_simp; done) | (go_simp; rfl)); intro w22 hw; have hg : wr.grownBy w22 (some gofr19) := (by rw [hw]; exact HP21.2); have hp_ : Kd.R (Kd.int .u32) 115 w22 w.heap.size (fun _ => True) (.slice (some ⟨gofr19, 0, none⟩) x5_1.length co20) y139 := (by rw [hw, Ny139.out]; exact HP21.1); clear HP21; refine nx2_ (hp_) ((by rw [hw]; exact below_set (HB.out) GBfr19.out : Below w.heap.size w w22)) ?_; clear HO_5 HB; intro HO_5 HB; clear hg hw hp_; have p18 : 0 ≤ ((ji15) : Int) := od_; have q18 : ((ji15) : Int) < ((x5_1.length : Int) : Int) := od_; obtain ⟨hx18_0, hf18_0⟩ := Kd.R_celln 0 HO_5.out ((ji15) : Int) p18 q18; replace p18 := eq_true p18; replace q18 := eq_true q18; obtain ⟨hy23_, hz23_⟩ := Kd.R_celln 0 HO_5.out ((ji15) : Int) od_ od_; have HP23 := Kd.R_putg HO_5.out ((ji15) : Int) (((ji12) / 4294967296) % 4294967296)) | ((with_reducible refine gate_store (t := 115) (p := 38) rfl ?_); refine store_event (t := 115) (p := 38) (v := ?vo_w24) (w1 := (w22.setCell ⟨gofr19, ((ji15) : Int).toNat, none⟩ (.int .u32 (((ji12) / 4294967296) % 4294967296)))) ?hg ?ho ?hn ?hr ?_; (case ho => rfl); (case hg => rfl); (case hn => rfl); (case hr => first | (go_simp; done) | (go_simp; rfl)); intro w24 hw; have hg : w22.grownBy w24 (some gofr19) := (by rw [hw]; exact HP23.2); have hp_ : Kd.R (Kd.int .u32) 115 w24 w.heap.size (fun _ => True) (.slice (some ⟨gofr19, 0, none⟩) x5_1.length co20) y140 := (by rw [hw, Ny140.out]; exact HP23.1); clear HP23; refine nx2_ (hp_) ((by rw [hw]; exact below_set (HB.out) GBfr19.out : Below w.heap.size w w24)) ?_; clear HO_5 HB; intro HO_5 HB; clear hg hw hp_))
    go_roundg k1
    case measure => have := HK1.out; omega
    case rel => exact ⟨(y140), (ji15), (by first | rfl | (simp; done) | (simp only [← hji15] <;> (first | rfl | simp)) | (simp [*]; done)), H', ⟨by have := HK1.out; omega⟩, ⟨rU_ HO_5.out⟩, ⟨bU_ HB.out⟩⟩
   rw [if_neg c8] at H
   have c8b0 := decide_eq_false c8
   clear c8
   obtain rfl := Option.some.inj H
   go_wp2
   go_ret
   exact ⟨_, by first | rfl | (simp [errW_none, errW_some] <;> rfl) | (simp only [← hji3]; first | rfl | (simp [errW_none, errW_some] <;> rfl)) | (simp [*, errW_none, errW_some] <;> rfl), rU_ HO_5.out, bU_ HB.out⟩

def bits_Add32.f (a0 : Int) (a1 : Int) (a2 : Int) : Option (Int × Int) := some ((IntKind.u64.wrap ((IntKind.u64.wrap ((IntKind.u64.wrap (a0)) + (IntKind.u64.wrap (a1)))) + (IntKind.u64.wrap (a2)))) % 4294967296, ((IntKind.u64.wrap ((IntKind.u64.wrap ((IntKind.u64.wrap (a0)) + (IntKind.u64.wrap (a1)))) + (IntKind.u64.wrap (a2)))) / 4294967296) % 4294967296)
set_option maxHeartbeats 8000000 in
set_option maxRecDepth 100000 in
theorem bits_Add32.calls (a0 : Int) (a1 : Int) (a2 : Int) (r1 : Int) (r2 : Int) (w : World) (h : bits_Add32.f a0 a1 a2 = some (r1, r2)) :
  Calls Tryd.prog 124 #[.int .u32 a0, .int .u32 a1, .int .u32 a2] w fun e w' => e = .returned (.tuple #[.int .u32 r1, .int .u32 r2]) ∧ Drawn0 w w' := by
 have H := h
 clear h
 unfold bits_Add32.f at H
 simp only [Option.some.injEq, Prod.mk.injEq] at H
 obtain ⟨rfl, rfl⟩ := H
 go_enter Tryd.func124, Tryd.ntmps124
 go_wp2
 go_ret2
 exact ⟨by first | rfl | (simp; done) | (simp [*]; done), by repeat (first | exact Drawn0.refl _ | apply Drawn0.step)⟩

def bits_Sub32.f (a0 : Int) (a1 : Int) (a2 : Int) : Option (Int × Int) := some ((((a0 - a1) % 4294967296) - a2) % 4294967296, (Go.bits .or .u32 (Go.bits .and .u32 (Go.bits .xor .u32 (IntKind.u32.max) a0) a1) (Go.bits .and .u32 (Go.bits .xor .u32 (IntKind.u32.max) (Go.bits .xor .u32 a0 a1)) ((((a0 - a1) % 4294967296) - a2) % 4294967296))) / 2147483648)
set_option maxHeartbeats 8000000 in
set_option maxRecDepth 100000 in
theorem bits_Sub32.calls (a0 : Int) (a1 : Int) (a2 : Int) (r1 : Int) (r2 : Int) (w : World) (h : bits_Sub32.f a0 a1 a2 = some (r1, r2)) :
  Calls Tryd.prog 161 #[.int .u32 a0, .int .u32 a1, .int .u32 a2] w fun e w' => e = .returned (.tuple #[.int .u32 r1, .int .u32 r2]) ∧ Drawn0 w w' := by
 have H := h
 clear h
 unfold bits_Sub32.f at H
 simp only [Option.some.injEq, Prod.mk.injEq] at H
 obtain ⟨rfl, rfl⟩ := H
 go_enter Tryd.func161, Tryd.ntmps161
 go_wp2
 go_ret2
 exact ⟨by first | rfl | (simp; done) | (simp [*]; done), by repeat (first | exact Drawn0.refl _ | apply Drawn0.step)⟩

mutual
def ratio_digit.j2 : Nat → List Int → List Int → Int → Int → Option (Int × List Int)
 | 0, _, _, _, _ => none
 | k + 1, x0, x1, x5, x7 => ratio_digit.l1 k x0 x1 x5 x7 0 0 x1 (x1.length : Int) 0
def ratio_digit.l1 : Nat → List Int → List Int → Int → Int → Int → Int → List Int → Int → Int → Option (Int × List Int)
 | 0, _, _, _, _, _, _, _, _, _ => none
 | k + 1, x0, x1, x5, x7, x9, x10, x84, x85, x86 => if x86 < x85 then (if 0 ≤ x86 then (if x86 < (x84.length : Int) then (if x86 < (x0.length : Int) then ((bits_Sub32.f (rd x0 x86) ((IntKind.u64.wrap ((IntKind.u64.wrap (x7 * (IntKind.u64.wrap (rd x84 x86)))) + x9)) % 4294967296) x10).bind fun bt150 => (ratio_digit.l1 k (x0.set (x86 : Int).toNat bt150.1) x1 x5 x7 ((IntKind.u64.wrap ((IntKind.u64.wrap (x7 * (IntKind.u64.wrap (rd x84 x86)))) + x9)) / 4294967296) bt150.2 x84 x85 (wrap64 (x86 + 1)))) else (none)) else (none)) else (none)) else (if 0 ≤ x5 then (if x5 < (x0.length : Int) then ((bits_Sub32.f (rd x0 x5) ((x9) % 4294967296) x10).bind fun bt154 => ((some (x0.set (x5 : Int).toNat bt154.1 : List Int)).bind fun y156 => (if bt154.2 = 0 then (some ((x7) % 4294967296, y156)) else (ratio_digit.l2 k y156 x5 x7 0 x1 (x1.length : Int) 0)))) else (none)) else (none))
def ratio_digit.l2 : Nat → List Int → Int → Int → Int → List Int → Int → Int → Option (Int × List Int)
 | 0, _, _, _, _, _, _, _ => none
 | k + 1, x0, x5, x7, x14, x132, x133, x134 => if x134 < x133 then (if 0 ≤ x134 then (if x134 < (x132.length : Int) then (if x134 < (x0.length : Int) then ((bits_Add32.f (rd x0 x134) (rd x132 x134) x14).bind fun bt159 => (ratio_digit.l2 k (x0.set (x134 : Int).toNat bt159.1) x5 x7 bt159.2 x132 x133 (wrap64 (x134 + 1)))) else (none)) else (none)) else (none)) else (if 0 ≤ x5 then (if x5 < (x0.length : Int) then (some ((IntKind.u64.wrap (x7 - 1)) % 4294967296, (x0.set (x5 : Int).toNat (((rd x0 x5) + x14) % 4294967296)))) else (none)) else (none))
def ratio_digit.l0 : Nat → List Int → List Int → Int → Int → Int → Option (Int × List Int)
 | 0, _, _, _, _, _ => none
 | k + 1, x0, x1, x5, x7, x8 => if (x7 / 4294967296) = 0 then (if 0 ≤ (wrap64 (x5 - 2)) then (if (wrap64 (x5 - 2)) < (x1.length : Int) then (if (wrap64 (x5 - 2)) < (x0.length : Int) then (ratio_digit.j1 k x0 x1 x5 x7 x8 (decide ((IntKind.u64.wrap (x7 * (IntKind.u64.wrap (rd x1 (wrap64 (x5 - 2)))))) > (Go.bits .or .u64 (IntKind.u64.wrap (x8 * 4294967296)) (IntKind.u64.wrap (rd x0 (wrap64 (x5 - 2)))))))) else (none)) else (none)) else (none)) else (ratio_digit.j1 k x0 x1 x5 x7 x8 true)
def ratio_digit.j1 : Nat → List Int → List Int → Int → Int → Int → Bool → Option (Int × List Int)
 | 0, _, _, _, _, _, _ => none
 | k + 1, x0, x1, x5, x7, x8, x70 => if x70 = true then (if 0 ≤ (wrap64 (x5 - 1)) then (if (wrap64 (x5 - 1)) < (x1.length : Int) then (if ((IntKind.u64.wrap (x8 + (IntKind.u64.wrap (rd x1 (wrap64 (x5 - 1)))))) / 4294967296) = 0 then (ratio_digit.l0 k x0 x1 x5 (IntKind.u64.wrap (x7 - 1)) (IntKind.u64.wrap (x8 + (IntKind.u64.wrap (rd x1 (wrap64 (x5 - 1))))))) else (ratio_digit.j2 k x0 x1 x5 (IntKind.u64.wrap (x7 - 1)))) else (none)) else (none)) else (ratio_digit.j2 k x0 x1 x5 x7)
end
def ratio_digit.f (k : Nat) (l0 : List Int) (l1 : List Int) : Option (Int × List Int) := if 0 ≤ (l1.length : Int) then (if (l1.length : Int) < (l0.length : Int) then (if 0 ≤ (wrap64 ((l1.length : Int) - 1)) then (if (wrap64 ((l1.length : Int) - 1)) < (l0.length : Int) then (if (wrap64 ((l1.length : Int) - 1)) < (l1.length : Int) then (if (IntKind.u64.wrap (rd l1 (wrap64 ((l1.length : Int) - 1)))) = 0 then (none) else (ratio_digit.l0 k l0 l1 (l1.length : Int) (IntKind.u64.wrap (Int.tdiv (Go.bits .or .u64 (IntKind.u64.wrap ((IntKind.u64.wrap (rd l0 (l1.length : Int))) * 4294967296)) (IntKind.u64.wrap (rd l0 (wrap64 ((l1.length : Int) - 1))))) (IntKind.u64.wrap (rd l1 (wrap64 ((l1.length : Int) - 1)))))) (Int.tmod (Go.bits .or .u64 (IntKind.u64.wrap ((IntKind.u64.wrap (rd l0 (l1.length : Int))) * 4294967296)) (IntKind.u64.wrap (rd l0 (wrap64 ((l1.length : Int) - 1))))) (IntKind.u64.wrap (rd l1 (wrap64 ((l1.length : Int) - 1))))))) else (none)) else (none)) else (none)) else (none)) else (none)
theorem ratio_digit.mono_l : ∀ k, (∀ y0 y1 y2 y3, LeO (ratio_digit.j2 k y0 y1 y2 y3) (ratio_digit.j2 (k + 1) y0 y1 y2 y3)) ∧ (∀ y0 y1 y2 y3 y4 y5 y6 y7 y8, LeO (ratio_digit.l1 k y0 y1 y2 y3 y4 y5 y6 y7 y8) (ratio_digit.l1 (k + 1) y0 y1 y2 y3 y4 y5 y6 y7 y8)) ∧ (∀ y0 y1 y2 y3 y4 y5 y6, LeO (ratio_digit.l2 k y0 y1 y2 y3 y4 y5 y6) (ratio_digit.l2 (k + 1) y0 y1 y2 y3 y4 y5 y6)) ∧ (∀ y0 y1 y2 y3 y4, LeO (ratio_digit.l0 k y0 y1 y2 y3 y4) (ratio_digit.l0 (k + 1) y0 y1 y2 y3 y4)) ∧ (∀ y0 y1 y2 y3 y4 y5, LeO (ratio_digit.j1 k y0 y1 y2 y3 y4 y5) (ratio_digit.j1 (k + 1) y0 y1 y2 y3 y4 y5))
 | 0 => ⟨fun _ _ _ _ r h => by simp [ratio_digit.j2] at h, fun _ _ _ _ _ _ _ _ _ r h => by simp [ratio_digit.l1] at h, fun _ _ _ _ _ _ _ r h => by simp [ratio_digit.l2] at h, fun _ _ _ _ _ r h => by simp [ratio_digit.l0] at h, fun _ _ _ _ _ _ r h => by simp [ratio_digit.j1] at h⟩
 | k + 1 => by
  obtain ⟨ih0, ih1, ih2, ih3, ih4⟩ := ratio_digit.mono_l k
  refine ⟨?_, ?_, ?_, ?_, ?_⟩
  ·intro y0 y1 y2 y3
   unfold ratio_digit.j2
   with_reducible repeat' first | apply ih0 | apply ih1 | apply ih2 | apply ih3 | apply ih4 | exact LeO.refl _ | exact LeO.none _ | refine LeO.ite ?_ ?_ | refine LeO.bind ?_ (fun _ => ?_)
  ·intro y0 y1 y2 y3 y4 y5 y6 y7 y8
   unfold ratio_digit.l1
   with_reducible repeat' first | apply ih0 | apply ih1 | apply ih2 | apply ih3 | apply ih4 | exact LeO.refl _ | exact LeO.none _ | refine LeO.ite ?_ ?_ | refine LeO.bind ?_ (fun _ => ?_)
  ·intro y0 y1 y2 y3 y4 y5 y6
   unfold ratio_digit.l2
   with_reducible repeat' first | apply ih0 | apply ih1 | apply ih2 | apply ih3 | apply ih4 | exact LeO.refl _ | exact LeO.none _ | refine LeO.ite ?_ ?_ | refine LeO.bind ?_ (fun _ => ?_)
  ·intro y0 y1 y2 y3 y4
   unfold ratio_digit.l0
   with_reducible repeat' first | apply ih0 | apply ih1 | apply ih2 | apply ih3 | apply ih4 | exact LeO.refl _ | exact LeO.none _ | refine LeO.ite ?_ ?_ | refine LeO.bind ?_ (fun _ => ?_)
  intro y0 y1 y2 y3 y4 y5
  unfold ratio_digit.j1
  with_reducible repeat' first | apply ih0 | apply ih1 | apply ih2 | apply ih3 | apply ih4 | exact LeO.refl _ | exact LeO.none _ | refine LeO.ite ?_ ?_ | refine LeO.bind ?_ (fun _ => ?_)
theorem ratio_digit.mono : ∀ a0 a1 k, LeO (ratio_digit.f k a0 a1) (ratio_digit.f (k + 1) a0 a1) := by
 intro a0 a1 k
 obtain ⟨ih0, ih1, ih2, ih3, ih4⟩ := ratio_digit.mono_l k
 unfold ratio_digit.f
 with_reducible repeat' first | apply ih0 | apply ih1 | apply ih2 | apply ih3 | apply ih4 | exact LeO.refl _ | exact LeO.none _ | refine LeO.ite ?_ ?_ | refine LeO.bind ?_ (fun _ => ?_)
set_option maxHeartbeats 8000000 in
set_option maxRecDepth 100000 in
theorem ratio_digit.calls (k off cf : Nat) (pre post : List Int) (P0_ : Nat → Prop) (u9000_ : Value) (l0 : List Int) (A1 : Option Addr) (c1 : Nat) (l1 : List Int) (r1 : Int) (r2 : List Int) (w0 w : World) (hB : Below w0.heap.size w0 w) (ho0 : Pd.R off cf pre post 115 w w0.heap.size P0_ u9000_ l0) (hr1 : ∀ W_, Kept w W_ (fun k_ => P0_ k_) → Kd.C (Kd.int .u32) W_ A1 l1.length l1) (hc1 : l1.length ≤ c1) (h : ratio_digit.f k l0 l1 = some (r1, r2)) :
  Calls Tryd.prog 144 #[u9000_, .slice A1 l1.length c1] w fun e w' => e = .returned (.int .u32 r1) ∧ Pd.R off cf pre post 115 w' w0.heap.size (fun k_ => (P0_ k_ ∨ w.heap.size ≤ k_)) u9000_ r2 ∧ Below w0.heap.size w0 w' ∧ Kept w w' (fun k_ => P0_ k_) := by
 have HO0 := ak (show Pd.R off cf pre post 115 w w0.heap.size (fun k_ => (P0_ k_ ∨ w.heap.size ≤ k_)) u9000_ l0 from Pd.R_mono ho0 (fun k_ hk => (.inl hk)))
 have HR1 := ak hr1
 have HC1 := ak hc1
 clear hr1 hc1
 have HK := ak (Kept.refl w (fun k_ => P0_ k_))
 have HW0 := ak hB.size
 have HB := ak hB
 clear hB
 have H := h
 clear h
 unfold ratio_digit.f at H
 obtain ⟨c3, H⟩ : (0 ≤ (l1.length : Int)) ∧ _ := it_ H
 have c3b0 := decide_eq_true c3
 have c3b1 : decide (0 ≤ l1.length) = true := decide_eq_true (by omega)
 clear c3
 obtain ⟨c4, H⟩ : ((l1.length : Int) < (l0.length : Int)) ∧ _ := it_ H
 have c4b0 := decide_eq_true c4
 have c4b1 : decide (l1.length < l0.length) = true := decide_eq_true (Int.ofNat_lt.mp c4)
 clear c4
 obtain ⟨ji5, hji5⟩ : ∃ j_ : Int, (wrap64 ((l1.length : Int) - 1)) = j_ := ⟨_, rfl⟩
 first | rw [hji5] at H | simp only [hji5] at H
 have hji5w : (IntKind.i64.wrap ((l1.length : Int) - 1)) = ji5 := (i64_w _).trans hji5
 obtain ⟨c6, H⟩ : (0 ≤ (ji5)) ∧ _ := it_ H
 have c6b0 := decide_eq_true c6
 clear c6
 obtain ⟨c7, H⟩ : ((ji5) < (l0.length : Int)) ∧ _ := it_ H
 have c7b0 := decide_eq_true c7
 clear c7
 obtain ⟨c8, H⟩ : ((ji5) < (l1.length : Int)) ∧ _ := it_ H
 have c8b0 := decide_eq_true c8
 clear c8
 by_cases c9 : (IntKind.u64.wrap (rd l1 (ji5))) = 0
 ·rw [if_pos c9] at H
  exact absurd H (by simp)
 rw [if_neg c9] at H
 have c9b0 := beq_eq_false_iff_ne.mpr c9
 have c9b1 := bne_iff_ne.mpr c9
 have HC10 := ak H
 clear H
 obtain ⟨Ao12, co12, eo12⟩ := Pd.R_slice HO0.out
 subst eo12
 have pfr11 : 0 ≤ ((l1.length : Int) : Int) := od_
 have qfr11 : ((l1.length : Int) : Int) < ((l0.length : Int) : Int) := od_
 obtain ⟨gofr11, cofr11, eofr11, gbfr11, glfr11, clfr11, HGfr11⟩ := Pd.R_form HO0.out (by omega)
 (first | cases eofr11 | (injection eofr11 with ea_ en_ ec_; (first | subst ea_ | (injection ea_ with ea_; subst ea_)); subst ec_; clear en_))
 have GBfr11 := ak gbfr11
 have GGfr11 := ak HGfr11
 clear gbfr11 glfr11 HGfr11
 have HMgofr11 := ak (show (P0_ gofr11 ∨ w.heap.size ≤ gofr11) from (HO0.out.1 _ rfl))
 clear pfr11 qfr11
 have p141 : 0 ≤ ((l1.length : Int) : Int) := od_
 have q141 : (l1.length : Int) < (l0.length : Int) := od_
 obtain ⟨ad141, e141, hx141_0⟩ := Kd.at_int (Pd.R_reads' HO0.out).2.2 (l1.length : Int) p141 q141
 obtain rfl : (⟨gofr11, off, none⟩ : Addr) = ad141 := (by injection e141)
 (first | simp only [add_plain] at hx141_0 | simp only [add_at] at hx141_0 | simp only [Addr.add, Nat.zero_add] at hx141_0 | skip)
 (try simp only [Go.IntWalk.toNatUp] at hx141_0)
 replace p141 := eq_true p141
 replace q141 := eq_true q141
 have p142 : 0 ≤ ((ji5) : Int) := od_
 have q142 : (ji5) < (l0.length : Int) := od_
 obtain ⟨ad142, e142, hx142_0⟩ := Kd.at_int (Pd.R_reads' HO0.out).2.2 (ji5) p142 q142
 obtain rfl : (⟨gofr11, off, none⟩ : Addr) = ad142 := (by injection e142)
 (first | simp only [add_plain] at hx142_0 | simp only [add_at] at hx142_0 | simp only [Addr.add, Nat.zero_add] at hx142_0 | skip)
 replace p142 := eq_true p142
 replace q142 := eq_true q142
 have p143 : 0 ≤ ((ji5) : Int) := od_
 have q143 : (ji5) < (l1.length : Int) := od_
 obtain ⟨ad143, e143, hx143_0⟩ := Kd.at_int (Kd.C_kept_now HR1.out HK.out) (ji5) p143 q143
 cases e143
 replace p143 := eq_true p143
 replace q143 := eq_true q143
 have p144 : 0 ≤ ((ji5) : Int) := od_
 have q144 : (ji5) < (l1.length : Int) := od_
 obtain ⟨ad144, e144, hx144_0⟩ := Kd.at_int (Kd.C_kept_now HR1.out HK.out) (ji5) p144 q144
 obtain rfl : ad143 = ad144 := (by injection e144)
 replace p144 := eq_true p144
 replace q144 := eq_true q144
 go_enter Tryd.func144, Tryd.ntmps144
 go_upto_block 0 with (fail)
 repeat (go_quiet (fail); go_upto_block 0 with (fail))
 go_cut [7] (fun v7 wc => ∃ (kq : Nat) (x7_9 : Int), v7 = .int .u64 x7_9 ∧ Aside0 (ratio_digit.j2 kq l0 l1 (l1.length : Int) x7_9 = some (r1, r2)) ∧ Aside0 (kq ≤ k) ∧ Aside0 (Pd.R off cf pre post 115 wc w0.heap.size (fun k_ => (P0_ k_ ∨ w.heap.size ≤ k_)) (.slice (some ⟨gofr11, off, none⟩) l0.length co12) l0) ∧ Aside0 (Kept w wc (fun k_ => P0_ k_)) ∧ Aside0 (Below w0.heap.size w0 wc))
 case first =>
  have H := HC10.out
  clear HC10
  have H' := ak H
  clear H
  go_wp2
  repeat (go_quiet (fail); try go_wp2)
  go_loopg [7, 8] k (fun kq v7 v8 w' => ∃ (x7_1 : Int) (x8_1 : Int), v7 = .int .u64 x7_1 ∧ v8 = .int .u64 x8_1 ∧ Aside0 (ratio_digit.l0 kq l0 l1 (l1.length : Int) x7_1 x8_1 = some (r1, r2)) ∧ Aside0 (kq ≤ k) ∧ Aside0 (Pd.R off cf pre post 115 w' w0.heap.size (fun k_ => (P0_ k_ ∨ w.heap.size ≤ k_)) (.slice (some ⟨gofr11, off, none⟩) l0.length co12) l0) ∧ Aside0 (Kept w w' (fun k_ => P0_ k_)) ∧ Aside0 (Below w0.heap.size w0 w'))
  case atStart => exact ⟨(IntKind.u64.wrap (Int.tdiv (Go.bits .or .u64 (IntKind.u64.wrap ((IntKind.u64.wrap (rd l0 (l1.length : Int))) * 4294967296)) (IntKind.u64.wrap (rd l0 (ji5)))) (IntKind.u64.wrap (rd l1 (ji5))))), (Int.tmod (Go.bits .or .u64 (IntKind.u64.wrap ((IntKind.u64.wrap (rd l0 (l1.length : Int))) * 4294967296)) (IntKind.u64.wrap (rd l0 (ji5)))) (IntKind.u64.wrap (rd l1 (ji5)))), (by first | rfl | (simp; done) | (simp only [← hji5] <;> (first | rfl | simp)) | (simp [*]; done)), (by first | rfl | (simp; done) | (simp only [← hji5] <;> (first | rfl | simp)) | (simp [*]; done)), H', ⟨Nat.le_refl _⟩, ⟨by (with_reducible repeat (first | apply Pd.R_alloc | apply Pd.R_drewN | apply Pd.R_drew)); exact HO0.out⟩, ⟨kK_⟩, ⟨bU_ HB.out⟩⟩
  case round =>
   clear H'
   (try clear c1); (try clear p1); (try clear q1); (try clear hx1); (try clear p2); (try clear c3); (try clear c3b0); (try clear c3b1); (try clear c4); (try clear c4b0); (try clear c4b1); (try clear c6); (try clear c6b0); (try clear p6); (try clear c7); (try clear c7b0); (try clear c8); (try clear c8b0); (try clear c9); (try clear c9b0); (try clear c9b1); (try clear hx141_0); (try clear hx142_0); (try clear hx143_0); (try clear hx144_0); (try clear p141); (try clear p142); (try clear p143); (try clear p144); (try clear q141); (try clear q142); (try clear q143); (try clear q144)
   obtain ⟨x7_1, x8_1, rfl, rfl, HA, HK1, HO_0, HK, HB⟩ := hrel
   cases gk with
   | zero => exact absurd HA.out (by simp [ratio_digit.l0])
   | succ k1 =>
    have H := HA.out
    clear HA
    simp only [ratio_digit.l0] at H
    have HC13 := ak H
    clear H
    go_upto_region 4 with (fail)
    repeat (go_quiet (fail); go_upto_region 4 with (fail))
    go_cut [70] (fun v70 wc => ∃ (kq : Nat) (x70_12 : Bool), v70 = .bool x70_12 ∧ Aside0 (ratio_digit.j1 kq l0 l1 (l1.length : Int) x7_1 x8_1 x70_12 = some (r1, r2)) ∧ Aside0 (kq ≤ k1) ∧ Aside0 (Pd.R off cf pre post 115 wc w0.heap.size (fun k_ => (P0_ k_ ∨ w.heap.size ≤ k_)) (.slice (some ⟨gofr11, off, none⟩) l0.length co12) l0) ∧ Aside0 (Kept w wc (fun k_ => P0_ k_)) ∧ Aside0 (Below w0.heap.size w0 wc))
    case first =>
     have H := HC13.out
     clear HC13
     by_cases c14 : (x7_1 / 4294967296) = 0
     ·rw [if_pos c14] at H
      have c14b0 := beq_iff_eq.mpr c14
      have c14b1 := bne_eq_false_iff_eq.mpr c14
      clear c14
      (first | rw [c14b0] | (simp only [i64_w, i32_w]; rw [c14b0]) | rw [c14b1] | skip)
      obtain ⟨ji15, hji15⟩ : ∃ j_ : Int, (wrap64 ((l1.length : Int) - 2)) = j_ := ⟨_, rfl⟩
      first | rw [hji15] at H | simp only [hji15] at H
      have hji15w : (IntKind.i64.wrap ((l1.length : Int) - 2)) = ji15 := (i64_w _).trans hji15
      obtain ⟨c16, H⟩ : (0 ≤ (ji15)) ∧ _ := it_ H
      have c16b0 := decide_eq_true c16
      clear c16
      obtain ⟨c17, H⟩ : ((ji15) < (l1.length : Int)) ∧ _ := it_ H
      have c17b0 := decide_eq_true c17
      clear c17
      obtain ⟨c18, H⟩ : ((ji15) < (l0.length : Int)) ∧ _ := it_ H
      have c18b0 := decide_eq_true c18
      clear c18
      have H' := ak H
      clear H
      have p145 : 0 ≤ ((ji15) : Int) := od_
      have q145 : (ji15) < (l1.length : Int) := od_
      obtain ⟨ad145, e145, hx145_0⟩ := Kd.at_int (Kd.C_kept_now HR1.out HK.out) (ji15) p145 q145
      obtain rfl : ad143 = ad145 := (by injection e145)
      replace p145 := eq_true p145
      replace q145 := eq_true q145
      have p146 : 0 ≤ ((ji15) : Int) := od_
      have q146 : (ji15) < (l0.length : Int) := od_
      obtain ⟨ad146, e146, hx146_0⟩ := Kd.at_int (Pd.R_reads' HO_0.out).2.2 (ji15) p146 q146
      obtain rfl : (⟨gofr11, off, none⟩ : Addr) = ad146 := (by injection e146)
      (first | simp only [add_plain] at hx146_0 | simp only [add_at] at hx146_0 | simp only [Addr.add, Nat.zero_add] at hx146_0 | skip)
      replace p146 := eq_true p146
      replace q146 := eq_true q146
      go_wp2
      repeat (go_quiet (fail); try go_wp2)
      go_meet
      case rel => exact ⟨_, (decide ((IntKind.u64.wrap (x7_1 * (IntKind.u64.wrap (rd l1 (ji15))))) > (Go.bits .or .u64 (IntKind.u64.wrap (x8_1 * 4294967296)) (IntKind.u64.wrap (rd l0 (ji15)))))), (by first | rfl | (simp; done) | (simp only [← hji15] <;> (first | rfl | simp)) | (simp [*]; done)), H', ⟨by have := HK1.out; first | omega | exact Nat.le_refl _⟩, ⟨by (with_reducible repeat (first | apply Pd.R_alloc | apply Pd.R_drewN | apply Pd.R_drew)); exact HO_0.out⟩, ⟨kK_⟩, ⟨bU_ HB.out⟩⟩
     rw [if_neg c14] at H
     have c14b0 := beq_eq_false_iff_ne.mpr c14
     have c14b1 := bne_iff_ne.mpr c14
     (first | rw [c14b0] | (simp only [i64_w, i32_w]; rw [c14b0]) | rw [c14b1] | skip)
     have H' := ak H
     clear H
     go_wp2
     repeat (go_quiet (fail); try go_wp2)
     go_meet
     case rel => exact ⟨_, (true), gb_, H', ⟨by have := HK1.out; first | omega | exact Nat.le_refl _⟩, ⟨by (with_reducible repeat (first | apply Pd.R_alloc | apply Pd.R_drewN | apply Pd.R_drew)); exact HO_0.out⟩, ⟨kK_⟩, ⟨bU_ HB.out⟩⟩
    case rest =>
     clear HC13
     (try clear c1); (try clear p1); (try clear q1); (try clear hx1); (try clear p2); (try clear c3); (try clear c3b0); (try clear c3b1); (try clear c4); (try clear c4b0); (try clear c4b1); (try clear c6); (try clear c6b0); (try clear p6); (try clear c7); (try clear c7b0); (try clear c8); (try clear c8b0); (try clear c9); (try clear c9b0); (try clear c9b1); (try clear c14); (try clear c14b0); (try clear c14b1); (try clear p14); (try clear q14); (try clear hx14); (try clear c16); (try clear c16b0); (try clear c17); (try clear c17b0); (try clear c18); (try clear c18b0); (try clear hx141_0); (try clear hx142_0); (try clear hx143_0); (try clear hx144_0); (try clear hx145_0); (try clear hx146_0); (try clear p141); (try clear p142); (try clear p143); (try clear p144); (try clear p145); (try clear p146); (try clear q141); (try clear q142); (try clear q143); (try clear q144); (try clear q145); (try clear q146)
     obtain ⟨kq, x70_12, rfl, HA, HJ12, HO_0, HK, HB⟩ := hcut
     cases kq with
     | zero => exact absurd HA.out (by simp [ratio_digit.j1])
     | succ kj12 =>
      have H := HA.out
      clear HA
      simp only [ratio_digit.j1] at H
      by_cases c19 : x70_12 = true
      ·subst c19
       rw [if_pos rfl] at H
       obtain ⟨ji20, hji20⟩ : ∃ j_ : Int, (wrap64 ((l1.length : Int) - 1)) = j_ := ⟨_, rfl⟩
       first | rw [hji20] at H | simp only [hji20] at H
       have hji20w : (IntKind.i64.wrap ((l1.length : Int) - 1)) = ji20 := (i64_w _).trans hji20
       (try (have hji5_ji20 := hji5; rw [hji20] at hji5_ji20))
       (try (have hji5_ji20w := hji5w; rw [hji20] at hji5_ji20w))
       (try clear hji5_ji20); (try clear hji5_ji20w); (try clear hji5w); (try clear hji5)
       obtain ⟨c21, H⟩ : (0 ≤ (ji20)) ∧ _ := it_ H
       have c21b0 := decide_eq_true c21
       clear c21
       obtain ⟨c22, H⟩ : ((ji20) < (l1.length : Int)) ∧ _ := it_ H
       have c22b0 := decide_eq_true c22
       clear c22
       by_cases c23 : ((IntKind.u64.wrap (x8_1 + (IntKind.u64.wrap (rd l1 (ji20))))) / 4294967296) = 0
       ·rw [if_pos c23] at H
        have c23b0 := beq_iff_eq.mpr c23
        have c23b1 := bne_eq_false_iff_eq.mpr c23
        clear c23
        have H' := ak H
        clear H
        have p147 : 0 ≤ ((ji20) : Int) := od_
        have q147 : (ji20) < (l1.length : Int) := od_
        obtain ⟨ad147, e147, hx147_0⟩ := Kd.at_int (Kd.C_kept_now HR1.out HK.out) (ji20) p147 q147
        obtain rfl : ad143 = ad147 := (by injection e147)
        replace p147 := eq_true p147
        replace q147 := eq_true q147
        go_wp2
        repeat (go_quiet (fail); try go_wp2)
        go_roundg kj12
        case measure => have := HK1.out; have := HJ12.out; omega
        case rel => exact ⟨(IntKind.u64.wrap (x7_1 - 1)), (IntKind.u64.wrap (x8_1 + (IntKind.u64.wrap (rd l1 (ji20))))), gb_, (by first | rfl | (simp; done) | (simp only [← hji20] <;> (first | rfl | simp)) | (simp [*]; done)), H', ⟨by have := HK1.out; have := HJ12.out; omega⟩, ⟨by (with_reducible repeat (first | apply Pd.R_alloc | apply Pd.R_drewN | apply Pd.R_drew)); exact HO_0.out⟩, ⟨kK_⟩, ⟨bU_ HB.out⟩⟩
       rw [if_neg c23] at H
       have c23b0 := beq_eq_false_iff_ne.mpr c23
       have c23b1 := bne_iff_ne.mpr c23
       have H' := ak H
       clear H
       have p147 : 0 ≤ ((ji20) : Int) := od_
       have q147 : (ji20) < (l1.length : Int) := od_
       obtain ⟨ad147, e147, hx147_0⟩ := Kd.at_int (Kd.C_kept_now HR1.out HK.out) (ji20) p147 q147
       obtain rfl : ad143 = ad147 := (by injection e147)
       replace p147 := eq_true p147
       replace q147 := eq_true q147
       go_wp2
       repeat (go_quiet (fail); try go_wp2)
       go_meet
       case rel => exact ⟨_, (IntKind.u64.wrap (x7_1 - 1)), gb_, H', ⟨by have := HK1.out; have := HJ12.out; first | omega | exact Nat.le_refl _⟩, ⟨by (with_reducible repeat (first | apply Pd.R_alloc | apply Pd.R_drewN | apply Pd.R_drew)); exact HO_0.out⟩, ⟨kK_⟩, ⟨bU_ HB.out⟩⟩
      replace c19 := Bool.eq_false_iff.mpr c19
      subst c19
      rw [if_neg (show ¬ (false = true) by decide)] at H
      have H' := ak H
      clear H
      go_wp2
      repeat (go_quiet (fail); try go_wp2)
      go_meet
      case rel => exact ⟨_, (x7_1), gb_, H', ⟨by have := HK1.out; have := HJ12.out; first | omega | exact Nat.le_refl _⟩, ⟨by (with_reducible repeat (first | apply Pd.R_alloc | apply Pd.R_drewN | apply Pd.R_drew)); exact HO_0.out⟩, ⟨kK_⟩, ⟨bU_ HB.out⟩⟩
 case rest =>
  clear HC10
  (try clear c1); (try clear p1); (try clear q1); (try clear hx1); (try clear c2); (try clear p2); (try clear c3); (try clear c3b0); (try clear c3b1); (try clear c4); (try clear c4b0); (try clear c4b1); (try clear c6); (try clear c6b0); (try clear p6); (try clear c7); (try clear c7b0); (try clear c8); (try clear c8b0); (try clear c9); (try clear c9b0); (try clear c9b1); (try clear c14); (try clear c14b0); (try clear c14b1); (try clear p14); (try clear q14); (try clear hx14); (try clear c16); (try clear c16b0); (try clear c17); (try clear c17b0); (try clear c18); (try clear c18b0); (try clear c19); (try clear c21); (try clear c21b0); (try clear c22); (try clear c22b0); (try clear c23); (try clear c23b0); (try clear c23b1); (try clear hx141_0); (try clear hx142_0); (try clear hx143_0); (try clear hx144_0); (try clear hx145_0); (try clear hx146_0); (try clear hx147_0); (try clear p141); (try clear p142); (try clear p143); (try clear p144); (try clear p145); (try clear p146); (try clear p147); (try clear q141); (try clear q142); (try clear q143); (try clear q144); (try clear q145); (try clear q146); (try clear q147)
  obtain ⟨kq, x7_9, rfl, HA, HJ9, HO_0, HK, HB⟩ := hcut
  cases kq with
  | zero => exact absurd HA.out (by simp [ratio_digit.j2])
  | succ kj9 =>
   have H := HA.out
   clear HA
   simp only [ratio_digit.j2] at H
   have H' := ak H
   clear H
   go_wp2
   repeat (go_quiet (fail); try go_wp2)
   go_loopg [9, 10, 86] kj9 (fun kq v9 v10 v86 w' => ∃ (x0_2 : List Int) (x9_2 : Int) (x10_2 : Int) (x86_2 : Int), v9 = .int .u64 x9_2 ∧ v10 = .int .u32 x10_2 ∧ v86 = .int .i64 x86_2 ∧ Aside0 (ratio_digit.l1 kq x0_2 l1 (l1.length : Int) x7_9 x9_2 x10_2 l1 (l1.length : Int) x86_2 = some (r1, r2)) ∧ Aside0 (kq ≤ kj9) ∧ Aside0 (Pd.R off cf pre post 115 w' w0.heap.size (fun k_ => (P0_ k_ ∨ w.heap.size ≤ k_)) (.slice (some ⟨gofr11, off, none⟩) l0.length co12) x0_2) ∧ Aside0 (Kept w w' (fun k_ => P0_ k_)) ∧ Aside0 (Below w0.heap.size w0 w'))
   case atStart => exact ⟨(l0), (0), (0), (0), gb_, gb_, gb_, H', ⟨Nat.le_refl _⟩, ⟨by (with_reducible repeat (first | apply Pd.R_alloc | apply Pd.R_drewN | apply Pd.R_drew)); exact HO_0.out⟩, ⟨kK_⟩, ⟨bU_ HB.out⟩⟩
   case round =>
    clear H'
    (try clear c1); (try clear p1); (try clear q1); (try clear hx1); (try clear c2); (try clear p2); (try clear c3); (try clear c3b0); (try clear c3b1); (try clear c4); (try clear c4b0); (try clear c4b1); (try clear c6); (try clear c6b0); (try clear p6); (try clear c7); (try clear c7b0); (try clear c8); (try clear c8b0); (try clear c9); (try clear c9b0); (try clear c9b1); (try clear c14); (try clear c14b0); (try clear c14b1); (try clear p14); (try clear q14); (try clear hx14); (try clear c16); (try clear c16b0); (try clear c17); (try clear c17b0); (try clear c18); (try clear c18b0); (try clear c19); (try clear c21); (try clear c21b0); (try clear c22); (try clear c22b0); (try clear c23); (try clear c23b0); (try clear c23b1); (try clear hx141_0); (try clear hx142_0); (try clear hx143_0); (try clear hx144_0); (try clear hx145_0); (try clear hx146_0); (try clear hx147_0); (try clear p141); (try clear p142); (try clear p143); (try clear p144); (try clear p145); (try clear p146); (try clear p147); (try clear q141); (try clear q142); (try clear q143); (try clear q144); (try clear q145); (try clear q146); (try clear q147)
    obtain ⟨x0_2, x9_2, x10_2, x86_2, rfl, rfl, rfl, HA, HK2, HO_0, HK, HB⟩ := hrel
    have hl0_2 := (Pd.R_reads' HO_0.out).1
    rw [hl0_2] at HO_0
    (try simp only [hl0_2])
    cases gk with
    | zero => exact absurd HA.out (by simp [ratio_digit.l1])
    | succ k2 =>
     have H := HA.out
     clear HA
     simp only [ratio_digit.l1] at H
     by_cases c24 : x86_2 < (l1.length : Int)
     ·rw [if_pos c24] at H
      have c24b0 := decide_eq_true c24
      clear c24
      obtain ⟨c25, H⟩ : (0 ≤ x86_2) ∧ _ := it_ H
      have c25b0 := decide_eq_true c25
      clear c25
      obtain ⟨c26, H⟩ : (x86_2 < (l1.length : Int)) ∧ _ := it_ H
      have c26b0 := decide_eq_true c26
      clear c26
      obtain ⟨c27, H⟩ : (x86_2 < (x0_2.length : Int)) ∧ _ := it_ H
      have c27b0 := decide_eq_true c27
      clear c27
      revert H
      refine bd2_ fun t150 t151 A28 H => ?_
      try dsimp only at H
      obtain ⟨y152, hy152⟩ : ∃ y_ : List Int, y_ = (x0_2.set (x86_2 : Int).toNat t150) := ⟨_, rfl⟩
      first | rw [Option.bind_some, ← hy152] at H | rw [← hy152] at H
      have Ny152 := ak hy152
      clear hy152
      have H' := ak H
      clear H
      have p148 : 0 ≤ (x86_2 : Int) := od_
      have q148 : x86_2 < (l1.length : Int) := od_
      obtain ⟨ad148, e148, hx148_0⟩ := Kd.at_int (Kd.C_kept_now HR1.out HK.out) x86_2 p148 q148
      obtain rfl : ad143 = ad148 := (by injection e148)
      replace p148 := eq_true p148
      replace q148 := eq_true q148
      have p149 : 0 ≤ (x86_2 : Int) := od_
      have q149 : x86_2 < (x0_2.length : Int) := od_
      obtain ⟨ad149, e149, hx149_0⟩ := Kd.at_int (Pd.R_reads' HO_0.out).2.2 x86_2 p149 q149
      obtain rfl : (⟨gofr11, off, none⟩ : Addr) = ad149 := (by injection e149)
      (first | simp only [add_plain] at hx149_0 | simp only [add_at] at hx149_0 | simp only [Addr.add, Nat.zero_add] at hx149_0 | skip)
      replace p149 := eq_true p149
      replace q149 := eq_true q149
      go_wp2_with (first | (go_at_call 161; (with_reducible refine (bits_Sub32.calls (rd x0_2 x86_2) ((IntKind.u64.wrap ((IntKind.u64.wrap (x7_9 * (IntKind.u64.wrap (rd l1 x86_2)))) + x9_2)) % 4294967296) x10_2 t150 t151 _ A28.out).mono ?_); rintro e w' ⟨rfl, ⟨nd, rfl⟩⟩; (try first | exact ⟨rfl, _, World.drewN_drewN _ _ _⟩ | exact ⟨rfl, _, dd_⟩); have p29 : 0 ≤ (x86_2 : Int) := od_; have q29 : (x86_2 : Int) < ((x0_2.length : Int) : Int) := od_; obtain ⟨hx29_0, hf29_0⟩ := Pd.R_celln 0 HO_0.out (x86_2 : Int) p29 q29; replace p29 := eq_true p29; replace q29 := eq_true q29; obtain ⟨hy30_, hz30_⟩ := Pd.R_celln 0 HO_0.out (x86_2 : Int) od_ od_; have HP30 := Pd.R_putg HO_0.out (x86_2 : Int) (Pd.ix_ (by first | exact od_ | omega) (by first | exact od_ | omega)) t150) | ((with_reducible refine gate_store (t := 115) (p := 112) rfl ?_); (try (rw [drewN_self wr]; generalize hq_ : World.drewN wr _ = wr; have n0_ := ak (Pd.R_at hq_ HO_0.out); have n1_ := ak (kept_at hq_ HK.out); have n2_ := ak (below_at hq_ HB.out); clear hq_ HO_0 HK HB; have HO_0 := n0_; have HK := n1_; have HB := n2_; clear n0_ n1_ n2_; (try (obtain ⟨hy30_, hz30_⟩ := Pd.R_celln 0 HO_0.out (x86_2 : Int) od_ od_)); (try (have HP30 := Pd.R_putg HO_0.out (x86_2 : Int) (Pd.ix_ (by first | exact od_ | omega) (by first | exact od_ | omega)) t150)))); refine store_event (t := 115) (p := 112) (v := ?vo_w31) (w1 := (wr.setCell ⟨gofr11, off + (x86_2 : Int).toNat, none⟩ (.int .u32 t150))) ?hg ?ho ?hn ?hr ?_; (case ho => rfl); (case hg => rfl); (case hn => rfl); (case hr => first | (go_simp; done) | (go_simp; rfl)); intro w31 hw; have hg : wr.grownBy w31 (some gofr11) := (by rw [hw]; exact HP30.2); have hp_ : Pd.R off cf pre post 115 w31 w0.heap.size (fun k_ => (P0_ k_ ∨ w.heap.size ≤ k_)) (.slice (some ⟨gofr11, off, none⟩) x0_2.length co12) y152 := (by rw [hw, Ny152.out]; exact HP30.1); clear HP30; refine nx3_ (hp_) ((by rw [hw]; exact below_set (HB.out) GBfr11.out : Below w0.heap.size w0 w31)) (Kept.of_grown (S := (fun k_ => P0_ k_)) hg kK_ (fun k_ e_ => (HO_0.out.1 k_ e_))) ?_; clear HO_0 HB HK; intro HO_0 HB HK; clear hg hw hp_))
      repeat (go_quiet (first | (go_at_call 161; (with_reducible refine (bits_Sub32.calls (rd x0_2 x86_2) ((IntKind.u64.wrap ((IntKind.u64.wrap (x7_9 * (IntKind.u64.wrap (rd l1 x86_2)))) + x9_2)) % 4294967296) x10_2 t150 t151 _ A28.out).mono ?_); rintro e w' ⟨rfl, ⟨nd, rfl⟩⟩; (try first | exact ⟨rfl, _, World.drewN_drewN _ _ _⟩ | exact ⟨rfl, _, dd_⟩); have p29 : 0 ≤ (x86_2 : Int) := od_; have q29 : (x86_2 : Int) < ((x0_2.length : Int) : Int) := od_; obtain ⟨hx29_0, hf29_0⟩ := Pd.R_celln 0 HO_0.out (x86_2 : Int) p29 q29; replace p29 := eq_true p29; replace q29 := eq_true q29; obtain ⟨hy30_, hz30_⟩ := Pd.R_celln 0 HO_0.out (x86_2 : Int) od_ od_; have HP30 := Pd.R_putg HO_0.out (x86_2 : Int) (Pd.ix_ (by first | exact od_ | omega) (by first | exact od_ | omega)) t150) | ((with_reducible refine gate_store (t := 115) (p := 112) rfl ?_); (try (rw [drewN_self wr]; generalize hq_ : World.drewN wr _ = wr; have n0_ := ak (Pd.R_at hq_ HO_0.out); have n1_ := ak (kept_at hq_ HK.out); have n2_ := ak (below_at hq_ HB.out); clear hq_ HO_0 HK HB; have HO_0 := n0_; have HK := n1_; have HB := n2_; clear n0_ n1_ n2_; (try (obtain ⟨hy30_, hz30_⟩ := Pd.R_celln 0 HO_0.out (x86_2 : Int) od_ od_)); (try (have HP30 := Pd.R_putg HO_0.out (x86_2 : Int) (Pd.ix_ (by first | exact od_ | omega) (by first | exact od_ | omega)) t150)))); refine store_event (t := 115) (p := 112) (v := ?vo_w31) (w1 := (wr.setCell ⟨gofr11, off + (x86_2 : Int).toNat, none⟩ (.int .u32 t150))) ?hg ?ho ?hn ?hr ?_; (case ho => rfl); (case hg => rfl); (case hn => rfl); (case hr => first | (go_simp; done) | (go_simp; rfl)); intro w31 hw; have hg : wr.grownBy w31 (some gofr11) := (by rw [hw]; exact HP30.2); have hp_ : Pd.R off cf pre post 115 w31 w0.heap.size (fun k_ => (P0_ k_ ∨ w.heap.size ≤ k_)) (.slice (some ⟨gofr11, off, none⟩) x0_2.length co12) y152 := (by rw [hw, Ny152.out]; exact HP30.1); clear HP30; refine nx3_ (hp_) ((by rw [hw]; exact below_set (HB.out) GBfr11.out : Below w0.heap.size w0 w31)) (Kept.of_grown (S := (fun k_ => P0_ k_)) hg kK_ (fun k_ e_ => (HO_0.out.1 k_ e_))) ?_; clear HO_0 HB HK; intro HO_0 HB HK; clear hg hw hp_)); try go_wp2_with (first | (go_at_call 161; (with_reducible refine (bits_Sub32.calls (rd x0_2 x86_2) ((IntKind.u64.wrap ((IntKind.u64.wrap (x7_9 * (IntKind.u64.wrap (rd l1 x86_2)))) + x9_2)) % 4294967296) x10_2 t150 t151 _ A28.out).mono ?_); rintro e w' ⟨rfl, ⟨nd, rfl⟩⟩; (try first | exact ⟨rfl, _, World.drewN_drewN _ _ _⟩ | exact ⟨rfl, _, dd_⟩); have p29 : 0 ≤ (x86_2 : Int) := od_; have q29 : (x86_2 : Int) < ((x0_2.length : Int) : Int) := od_; obtain ⟨hx29_0, hf29_0⟩ := Pd.R_celln 0 HO_0.out (x86_2 : Int) p29 q29; replace p29 := eq_true p29; replace q29 := eq_true q29; obtain ⟨hy30_, hz30_⟩ := Pd.R_celln 0 HO_0.out (x86_2 : Int) od_ od_; have HP30 := Pd.R_putg HO_0.out (x86_2 : Int) (Pd.ix_ (by first | exact od_ | omega) (by first | exact od_ | omega)) t150) | ((with_reducible refine gate_store (t := 115) (p := 112) rfl ?_); (try (rw [drewN_self wr]; generalize hq_ : World.drewN wr _ = wr; have n0_ := ak (Pd.R_at hq_ HO_0.out); have n1_ := ak (kept_at hq_ HK.out); have n2_ := ak (below_at hq_ HB.out); clear hq_ HO_0 HK HB; have HO_0 := n0_; have HK := n1_; have HB := n2_; clear n0_ n1_ n2_; (try (obtain ⟨hy30_, hz30_⟩ := Pd.R_celln 0 HO_0.out (x86_2 : Int) od_ od_)); (try (have HP30 := Pd.R_putg HO_0.out (x86_2 : Int) (Pd.ix_ (by first | exact od_ | omega) (by first | exact od_ | omega)) t150)))); refine store_event (t := 115) (p := 112) (v := ?vo_w31) (w1 := (wr.setCell ⟨gofr11, off + (x86_2 : Int).toNat, none⟩ (.int .u32 t150))) ?hg ?ho ?hn ?hr ?_; (case ho => rfl); (case hg => rfl); (case hn => rfl); (case hr => first | (go_simp; done) | (go_simp; rfl)); intro w31 hw; have hg : wr.grownBy w31 (some gofr11) := (by rw [hw]; exact HP30.2); have hp_ : Pd.R off cf pre post 115 w31 w0.heap.size (fun k_ => (P0_ k_ ∨ w.heap.size ≤ k_)) (.slice (some ⟨gofr11, off, none⟩) x0_2.length co12) y152 := (by rw [hw, Ny152.out]; exact HP30.1); clear HP30; refine nx3_ (hp_) ((by rw [hw]; exact below_set (HB.out) GBfr11.out : Below w0.heap.size w0 w31)) (Kept.of_grown (S := (fun k_ => P0_ k_)) hg kK_ (fun k_ e_ => (HO_0.out.1 k_ e_))) ?_; clear HO_0 HB HK; intro HO_0 HB HK; clear hg hw hp_)))
      (try simp only [← hl0_2])
      go_roundg k2
      case measure => have := HJ9.out; have := HK2.out; omega
      case rel => exact ⟨(y152), ((IntKind.u64.wrap ((IntKind.u64.wrap (x7_9 * (IntKind.u64.wrap (rd l1 x86_2)))) + x9_2)) / 4294967296), (t151), (wrap64 (x86_2 + 1)), gb_, gb_, gb_, H', ⟨by have := HJ9.out; have := HK2.out; omega⟩, ⟨by (try simp only [hl0_2]); (with_reducible repeat (first | apply Pd.R_alloc | apply Pd.R_drewN | apply Pd.R_drew)); exact HO_0.out⟩, ⟨kK_⟩, ⟨bU_ HB.out⟩⟩
     rw [if_neg c24] at H
     have c24b0 := decide_eq_false c24
     clear c24
     obtain ⟨c32, H⟩ : (0 ≤ (l1.length : Int)) ∧ _ := it_ H
     have c32b0 := decide_eq_true c32
     have c32b1 : decide (0 ≤ l1.length) = true := decide_eq_true (by omega)
     clear c32
     obtain ⟨c33, H⟩ : ((l1.length : Int) < (x0_2.length : Int)) ∧ _ := it_ H
     have c33b0 := decide_eq_true c33
     have c33b1 : decide (l1.length < x0_2.length) = true := decide_eq_true (Int.ofNat_lt.mp c33)
     clear c33
     revert H
     refine bd2_ fun t154 t155 A34 H => ?_
     try dsimp only at H
     obtain ⟨y156, hy156⟩ : ∃ y_ : List Int, y_ = (x0_2.set ((l1.length : Int) : Int).toNat t154) := ⟨_, rfl⟩
     first | rw [Option.bind_some, ← hy156] at H | rw [← hy156] at H
     have Ny156 := ak hy156
     clear hy156
     by_cases c36 : t155 = 0
     ·rw [if_pos c36] at H
      have c36b0 := beq_iff_eq.mpr c36
      have c36b1 := bne_eq_false_iff_eq.mpr c36
      clear c36
      simp only [Option.some.injEq, Prod.mk.injEq] at H
      obtain ⟨rfl, rfl⟩ := H
      have p153 : 0 ≤ ((l1.length : Int) : Int) := od_
      have q153 : (l1.length : Int) < (x0_2.length : Int) := od_
      obtain ⟨ad153, e153, hx153_0⟩ := Kd.at_int (Pd.R_reads' HO_0.out).2.2 (l1.length : Int) p153 q153
      obtain rfl : (⟨gofr11, off, none⟩ : Addr) = ad153 := (by injection e153)
      (first | simp only [add_plain] at hx153_0 | simp only [add_at] at hx153_0 | simp only [Addr.add, Nat.zero_add] at hx153_0 | skip)
      (try simp only [Go.IntWalk.toNatUp] at hx153_0)
      (try simp only [hl0_2] at p153)
      (try simp only [hl0_2] at q153)
      (try simp only [hl0_2] at hx153_0)
      replace p153 := eq_true p153
      replace q153 := eq_true q153
      go_wp2_with (first | (go_at_call 161; (with_reducible refine (bits_Sub32.calls (rd x0_2 (l1.length : Int)) ((x9_2) % 4294967296) x10_2 t154 t155 _ A34.out).mono ?_); rintro e w' ⟨rfl, ⟨nd, rfl⟩⟩; (try first | exact ⟨rfl, _, World.drewN_drewN _ _ _⟩ | exact ⟨rfl, _, dd_⟩); have p35 : 0 ≤ ((l1.length : Int) : Int) := od_; have q35 : ((l1.length : Int) : Int) < ((x0_2.length : Int) : Int) := od_; obtain ⟨hx35_0, hf35_0⟩ := Pd.R_celln 0 HO_0.out ((l1.length : Int) : Int) p35 q35; replace p35 := eq_true p35; replace q35 := eq_true q35; obtain ⟨hy37_, hz37_⟩ := Pd.R_celln 0 HO_0.out ((l1.length : Int) : Int) od_ od_; (try simp only [Go.IntWalk.toNatUp] at hy37_ hz37_); have HP37 := Pd.R_putg HO_0.out ((l1.length : Int) : Int) (Pd.ix_ (by first | exact od_ | omega) (by first | exact od_ | omega)) t154) | ((with_reducible refine gate_store (t := 115) (p := 127) rfl ?_); (try (rw [drewN_self wr]; generalize hq_ : World.drewN wr _ = wr; have n0_ := ak (Pd.R_at hq_ HO_0.out); have n1_ := ak (kept_at hq_ HK.out); have n2_ := ak (below_at hq_ HB.out); clear hq_ HO_0 HK HB; have HO_0 := n0_; have HK := n1_; have HB := n2_; clear n0_ n1_ n2_; (try (obtain ⟨hy37_, hz37_⟩ := Pd.R_celln 0 HO_0.out ((l1.length : Int) : Int) od_ od_)); (try (try simp only [Go.IntWalk.toNatUp] at hy37_ hz37_)); (try (have HP37 := Pd.R_putg HO_0.out ((l1.length : Int) : Int) (Pd.ix_ (by first | exact od_ | omega) (by first | exact od_ | omega)) t154)))); refine store_event (t := 115) (p := 127) (v := ?vo_w38) (w1 := (wr.setCell ⟨gofr11, off + ((l1.length : Int) : Int).toNat, none⟩ (.int .u32 t154))) ?hg ?ho ?hn ?hr ?_; (case ho => rfl); (case hg => rfl); (case hn => rfl); (case hr => first | (go_simp; done) | (go_simp; rfl)); intro w38 hw; have hg : wr.grownBy w38 (some gofr11) := (by rw [hw]; exact HP37.2); have hp_ : Pd.R off cf pre post 115 w38 w0.heap.size (fun k_ => (P0_ k_ ∨ w.heap.size ≤ k_)) (.slice (some ⟨gofr11, off, none⟩) x0_2.length co12) y156 := (by rw [hw, Ny156.out]; exact HP37.1); clear HP37; refine nx3_ (hp_) ((by rw [hw]; exact below_set (HB.out) GBfr11.out : Below w0.heap.size w0 w38)) (Kept.of_grown (S := (fun k_ => P0_ k_)) hg kK_ (fun k_ e_ => (HO_0.out.1 k_ e_))) ?_; clear HO_0 HB HK; intro HO_0 HB HK; clear hg hw hp_))
      repeat (go_quiet (first | (go_at_call 161; (with_reducible refine (bits_Sub32.calls (rd x0_2 (l1.length : Int)) ((x9_2) % 4294967296) x10_2 t154 t155 _ A34.out).mono ?_); rintro e w' ⟨rfl, ⟨nd, rfl⟩⟩; (try first | exact ⟨rfl, _, World.drewN_drewN _ _ _⟩ | exact ⟨rfl, _, dd_⟩); have p35 : 0 ≤ ((l1.length : Int) : Int) := od_; have q35 : ((l1.length : Int) : Int) < ((x0_2.length : Int) : Int) := od_; obtain ⟨hx35_0, hf35_0⟩ := Pd.R_celln 0 HO_0.out ((l1.length : Int) : Int) p35 q35; replace p35 := eq_true p35; replace q35 := eq_true q35; obtain ⟨hy37_, hz37_⟩ := Pd.R_celln 0 HO_0.out ((l1.length : Int) : Int) od_ od_; (try simp only [Go.IntWalk.toNatUp] at hy37_ hz37_); have HP37 := Pd.R_putg HO_0.out ((l1.length : Int) : Int) (Pd.ix_ (by first | exact od_ | omega) (by first | exact od_ | omega)) t154) | ((with_reducible refine gate_store (t := 115) (p := 127) rfl ?_); (try (rw [drewN_self wr]; generalize hq_ : World.drewN wr _ = wr; have n0_ := ak (Pd.R_at hq_ HO_0.out); have n1_ := ak (kept_at hq_ HK.out); have n2_ := ak (below_at hq_ HB.out); clear hq_ HO_0 HK HB; have HO_0 := n0_; have HK := n1_; have HB := n2_; clear n0_ n1_ n2_; (try (obtain ⟨hy37_, hz37_⟩ := Pd.R_celln 0 HO_0.out ((l1.length : Int) : Int) od_ od_)); (try (try simp only [Go.IntWalk.toNatUp] at hy37_ hz37_)); (try (have HP37 := Pd.R_putg HO_0.out ((l1.length : Int) : Int) (Pd.ix_ (by first | exact od_ | omega) (by first | exact od_ | omega)) t154)))); refine store_event (t := 115) (p := 127) (v := ?vo_w38) (w1 := (wr.setCell ⟨gofr11, off + ((l1.length : Int) : Int).toNat, none⟩ (.int .u32 t154))) ?hg ?ho ?hn ?hr ?_; (case ho => rfl); (case hg => rfl); (case hn => rfl); (case hr => first | (go_simp; done) | (go_simp; rfl)); intro w38 hw; have hg : wr.grownBy w38 (some gofr11) := (by rw [hw]; exact HP37.2); have hp_ : Pd.R off cf pre post 115 w38 w0.heap.size (fun k_ => (P0_ k_ ∨ w.heap.size ≤ k_)) (.slice (some ⟨gofr11, off, none⟩) x0_2.length co12) y156 := (by rw [hw, Ny156.out]; exact HP37.1); clear HP37; refine nx3_ (hp_) ((by rw [hw]; exact below_set (HB.out) GBfr11.out : Below w0.heap.size w0 w38)) (Kept.of_grown (S := (fun k_ => P0_ k_)) hg kK_ (fun k_ e_ => (HO_0.out.1 k_ e_))) ?_; clear HO_0 HB HK; intro HO_0 HB HK; clear hg hw hp_)); try go_wp2_with (first | (go_at_call 161; (with_reducible refine (bits_Sub32.calls (rd x0_2 (l1.length : Int)) ((x9_2) % 4294967296) x10_2 t154 t155 _ A34.out).mono ?_); rintro e w' ⟨rfl, ⟨nd, rfl⟩⟩; (try first | exact ⟨rfl, _, World.drewN_drewN _ _ _⟩ | exact ⟨rfl, _, dd_⟩); have p35 : 0 ≤ ((l1.length : Int) : Int) := od_; have q35 : ((l1.length : Int) : Int) < ((x0_2.length : Int) : Int) := od_; obtain ⟨hx35_0, hf35_0⟩ := Pd.R_celln 0 HO_0.out ((l1.length : Int) : Int) p35 q35; replace p35 := eq_true p35; replace q35 := eq_true q35; obtain ⟨hy37_, hz37_⟩ := Pd.R_celln 0 HO_0.out ((l1.length : Int) : Int) od_ od_; (try simp only [Go.IntWalk.toNatUp] at hy37_ hz37_); have HP37 := Pd.R_putg HO_0.out ((l1.length : Int) : Int) (Pd.ix_ (by first | exact od_ | omega) (by first | exact od_ | omega)) t154) | ((with_reducible refine gate_store (t := 115) (p := 127) rfl ?_); (try (rw [drewN_self wr]; generalize hq_ : World.drewN wr _ = wr; have n0_ := ak (Pd.R_at hq_ HO_0.out); have n1_ := ak (kept_at hq_ HK.out); have n2_ := ak (below_at hq_ HB.out); clear hq_ HO_0 HK HB; have HO_0 := n0_; have HK := n1_; have HB := n2_; clear n0_ n1_ n2_; (try (obtain ⟨hy37_, hz37_⟩ := Pd.R_celln 0 HO_0.out ((l1.length : Int) : Int) od_ od_)); (try (try simp only [Go.IntWalk.toNatUp] at hy37_ hz37_)); (try (have HP37 := Pd.R_putg HO_0.out ((l1.length : Int) : Int) (Pd.ix_ (by first | exact od_ | omega) (by first | exact od_ | omega)) t154)))); refine store_event (t := 115) (p := 127) (v := ?vo_w38) (w1 := (wr.setCell ⟨gofr11, off + ((l1.length : Int) : Int).toNat, none⟩ (.int .u32 t154))) ?hg ?ho ?hn ?hr ?_; (case ho => rfl); (case hg => rfl); (case hn => rfl); (case hr => first | (go_simp; done) | (go_simp; rfl)); intro w38 hw; have hg : wr.grownBy w38 (some gofr11) := (by rw [hw]; exact HP37.2); have hp_ : Pd.R off cf pre post 115 w38 w0.heap.size (fun k_ => (P0_ k_ ∨ w.heap.size ≤ k_)) (.slice (some ⟨gofr11, off, none⟩) x0_2.length co12) y156 := (by rw [hw, Ny156.out]; exact HP37.1); clear HP37; refine nx3_ (hp_) ((by rw [hw]; exact below_set (HB.out) GBfr11.out : Below w0.heap.size w0 w38)) (Kept.of_grown (S := (fun k_ => P0_ k_)) hg kK_ (fun k_ e_ => (HO_0.out.1 k_ e_))) ?_; clear HO_0 HB HK; intro HO_0 HB HK; clear hg hw hp_)))
      go_ret
      exact ⟨by first | rfl | (simp [errW_none, errW_some] <;> rfl) | (simp only [← hji5]; first | rfl | (simp [errW_none, errW_some] <;> rfl)) | (simp [*, errW_none, errW_some] <;> rfl), (by first | exact (by (with_reducible repeat (first | apply Pd.R_alloc | apply Pd.R_drewN | apply Pd.R_drew)); exact HO_0.out) | (simp only [hl0_2]; exact (by (with_reducible repeat (first | apply Pd.R_alloc | apply Pd.R_drewN | apply Pd.R_drew)); exact HO_0.out))), bU_ HB.out, kK_⟩
     rw [if_neg c36] at H
     have c36b0 := beq_eq_false_iff_ne.mpr c36
     have c36b1 := bne_iff_ne.mpr c36
     have H' := ak H
     clear H
     have p153 : 0 ≤ ((l1.length : Int) : Int) := od_
     have q153 : (l1.length : Int) < (x0_2.length : Int) := od_
     obtain ⟨ad153, e153, hx153_0⟩ := Kd.at_int (Pd.R_reads' HO_0.out).2.2 (l1.length : Int) p153 q153
     obtain rfl : (⟨gofr11, off, none⟩ : Addr) = ad153 := (by injection e153)
     (first | simp only [add_plain] at hx153_0 | simp only [add_at] at hx153_0 | simp only [Addr.add, Nat.zero_add] at hx153_0 | skip)
     (try simp only [Go.IntWalk.toNatUp] at hx153_0)
     (try simp only [hl0_2] at p153)
     (try simp only [hl0_2] at q153)
     (try simp only [hl0_2] at hx153_0)
     replace p153 := eq_true p153
     replace q153 := eq_true q153
     go_wp2_with (first | (go_at_call 161; (with_reducible refine (bits_Sub32.calls (rd x0_2 (l1.length : Int)) ((x9_2) % 4294967296) x10_2 t154 t155 _ A34.out).mono ?_); rintro e w' ⟨rfl, ⟨nd, rfl⟩⟩; (try first | exact ⟨rfl, _, World.drewN_drewN _ _ _⟩ | exact ⟨rfl, _, dd_⟩); have p35 : 0 ≤ ((l1.length : Int) : Int) := od_; have q35 : ((l1.length : Int) : Int) < ((x0_2.length : Int) : Int) := od_; obtain ⟨hx35_0, hf35_0⟩ := Pd.R_celln 0 HO_0.out ((l1.length : Int) : Int) p35 q35; replace p35 := eq_true p35; replace q35 := eq_true q35; obtain ⟨hy39_, hz39_⟩ := Pd.R_celln 0 HO_0.out ((l1.length : Int) : Int) od_ od_; (try simp only [Go.IntWalk.toNatUp] at hy39_ hz39_); have HP39 := Pd.R_putg HO_0.out ((l1.length : Int) : Int) (Pd.ix_ (by first | exact od_ | omega) (by first | exact od_ | omega)) t154) | ((with_reducible refine gate_store (t := 115) (p := 127) rfl ?_); (try (rw [drewN_self wr]; generalize hq_ : World.drewN wr _ = wr; have n0_ := ak (Pd.R_at hq_ HO_0.out); have n1_ := ak (kept_at hq_ HK.out); have n2_ := ak (below_at hq_ HB.out); clear hq_ HO_0 HK HB; have HO_0 := n0_; have HK := n1_; have HB := n2_; clear n0_ n1_ n2_; (try (obtain ⟨hy39_, hz39_⟩ := Pd.R_celln 0 HO_0.out ((l1.length : Int) : Int) od_ od_)); (try (try simp only [Go.IntWalk.toNatUp] at hy39_ hz39_)); (try (have HP39 := Pd.R_putg HO_0.out ((l1.length : Int) : Int) (Pd.ix_ (by first | exact od_ | omega) (by first | exact od_ | omega)) t154)))); refine store_event (t := 115) (p := 127) (v := ?vo_w40) (w1 := (wr.setCell ⟨gofr11, off + ((l1.length : Int) : Int).toNat, none⟩ (.int .u32 t154))) ?hg ?ho ?hn ?hr ?_; (case ho => rfl); (case hg => rfl); (case hn => rfl); (case hr => first | (go_simp; done) | (go_simp; rfl)); intro w40 hw; have hg : wr.grownBy w40 (some gofr11) := (by rw [hw]; exact HP39.2); have hp_ : Pd.R off cf pre post 115 w40 w0.heap.size (fun k_ => (P0_ k_ ∨ w.heap.size ≤ k_)) (.slice (some ⟨gofr11, off, none⟩) x0_2.length co12) y156 := (by rw [hw, Ny156.out]; exact HP39.1); clear HP39; refine nx3_ (hp_) ((by rw [hw]; exact below_set (HB.out) GBfr11.out : Below w0.heap.size w0 w40)) (Kept.of_grown (S := (fun k_ => P0_ k_)) hg kK_ (fun k_ e_ => (HO_0.out.1 k_ e_))) ?_; clear HO_0 HB HK; intro HO_0 HB HK; clear hg hw hp_))
     repeat (go_quiet (first | (go_at_call 161; (with_reducible refine (bits_Sub32.calls (rd x0_2 (l1.length : Int)) ((x9_2) % 4294967296) x10_2 t154 t155 _ A34.out).mono ?_); rintro e w' ⟨rfl, ⟨nd, rfl⟩⟩; (try first | exact ⟨rfl, _, World.drewN_drewN _ _ _⟩ | exact ⟨rfl, _, dd_⟩); have p35 : 0 ≤ ((l1.length : Int) : Int) := od_; have q35 : ((l1.length : Int) : Int) < ((x0_2.length : Int) : Int) := od_; obtain ⟨hx35_0, hf35_0⟩ := Pd.R_celln 0 HO_0.out ((l1.length : Int) : Int) p35 q35; replace p35 := eq_true p35; replace q35 := eq_true q35; obtain ⟨hy39_, hz39_⟩ := Pd.R_celln 0 HO_0.out ((l1.length : Int) : Int) od_ od_; (try simp only [Go.IntWalk.toNatUp] at hy39_ hz39_); have HP39 := Pd.R_putg HO_0.out ((l1.length : Int) : Int) (Pd.ix_ (by first | exact od_ | omega) (by first | exact od_ | omega)) t154) | ((with_reducible refine gate_store (t := 115) (p := 127) rfl ?_); (try (rw [drewN_self wr]; generalize hq_ : World.drewN wr _ = wr; have n0_ := ak (Pd.R_at hq_ HO_0.out); have n1_ := ak (kept_at hq_ HK.out); have n2_ := ak (below_at hq_ HB.out); clear hq_ HO_0 HK HB; have HO_0 := n0_; have HK := n1_; have HB := n2_; clear n0_ n1_ n2_; (try (obtain ⟨hy39_, hz39_⟩ := Pd.R_celln 0 HO_0.out ((l1.length : Int) : Int) od_ od_)); (try (try simp only [Go.IntWalk.toNatUp] at hy39_ hz39_)); (try (have HP39 := Pd.R_putg HO_0.out ((l1.length : Int) : Int) (Pd.ix_ (by first | exact od_ | omega) (by first | exact od_ | omega)) t154)))); refine store_event (t := 115) (p := 127) (v := ?vo_w40) (w1 := (wr.setCell ⟨gofr11, off + ((l1.length : Int) : Int).toNat, none⟩ (.int .u32 t154))) ?hg ?ho ?hn ?hr ?_; (case ho => rfl); (case hg => rfl); (case hn => rfl); (case hr => first | (go_simp; done) | (go_simp; rfl)); intro w40 hw; have hg : wr.grownBy w40 (some gofr11) := (by rw [hw]; exact HP39.2); have hp_ : Pd.R off cf pre post 115 w40 w0.heap.size (fun k_ => (P0_ k_ ∨ w.heap.size ≤ k_)) (.slice (some ⟨gofr11, off, none⟩) x0_2.length co12) y156 := (by rw [hw, Ny156.out]; exact HP39.1); clear HP39; refine nx3_ (hp_) ((by rw [hw]; exact below_set (HB.out) GBfr11.out : Below w0.heap.size w0 w40)) (Kept.of_grown (S := (fun k_ => P0_ k_)) hg kK_ (fun k_ e_ => (HO_0.out.1 k_ e_))) ?_; clear HO_0 HB HK; intro HO_0 HB HK; clear hg hw hp_)); try go_wp2_with (first | (go_at_call 161; (with_reducible refine (bits_Sub32.calls (rd x0_2 (l1.length : Int)) ((x9_2) % 4294967296) x10_2 t154 t155 _ A34.out).mono ?_); rintro e w' ⟨rfl, ⟨nd, rfl⟩⟩; (try first | exact ⟨rfl, _, World.drewN_drewN _ _ _⟩ | exact ⟨rfl, _, dd_⟩); have p35 : 0 ≤ ((l1.length : Int) : Int) := od_; have q35 : ((l1.length : Int) : Int) < ((x0_2.length : Int) : Int) := od_; obtain ⟨hx35_0, hf35_0⟩ := Pd.R_celln 0 HO_0.out ((l1.length : Int) : Int) p35 q35; replace p35 := eq_true p35; replace q35 := eq_true q35; obtain ⟨hy39_, hz39_⟩ := Pd.R_celln 0 HO_0.out ((l1.length : Int) : Int) od_ od_; (try simp only [Go.IntWalk.toNatUp] at hy39_ hz39_); have HP39 := Pd.R_putg HO_0.out ((l1.length : Int) : Int) (Pd.ix_ (by first | exact od_ | omega) (by first | exact od_ | omega)) t154) | ((with_reducible refine gate_store (t := 115) (p := 127) rfl ?_); (try (rw [drewN_self wr]; generalize hq_ : World.drewN wr _ = wr; have n0_ := ak (Pd.R_at hq_ HO_0.out); have n1_ := ak (kept_at hq_ HK.out); have n2_ := ak (below_at hq_ HB.out); clear hq_ HO_0 HK HB; have HO_0 := n0_; have HK := n1_; have HB := n2_; clear n0_ n1_ n2_; (try (obtain ⟨hy39_, hz39_⟩ := Pd.R_celln 0 HO_0.out ((l1.length : Int) : Int) od_ od_)); (try (try simp only [Go.IntWalk.toNatUp] at hy39_ hz39_)); (try (have HP39 := Pd.R_putg HO_0.out ((l1.length : Int) : Int) (Pd.ix_ (by first | exact od_ | omega) (by first | exact od_ | omega)) t154)))); refine store_event (t := 115) (p := 127) (v := ?vo_w40) (w1 := (wr.setCell ⟨gofr11, off + ((l1.length : Int) : Int).toNat, none⟩ (.int .u32 t154))) ?hg ?ho ?hn ?hr ?_; (case ho => rfl); (case hg => rfl); (case hn => rfl); (case hr => first | (go_simp; done) | (go_simp; rfl)); intro w40 hw; have hg : wr.grownBy w40 (some gofr11) := (by rw [hw]; exact HP39.2); have hp_ : Pd.R off cf pre post 115 w40 w0.heap.size (fun k_ => (P0_ k_ ∨ w.heap.size ≤ k_)) (.slice (some ⟨gofr11, off, none⟩) x0_2.length co12) y156 := (by rw [hw, Ny156.out]; exact HP39.1); clear HP39; refine nx3_ (hp_) ((by rw [hw]; exact below_set (HB.out) GBfr11.out : Below w0.heap.size w0 w40)) (Kept.of_grown (S := (fun k_ => P0_ k_)) hg kK_ (fun k_ e_ => (HO_0.out.1 k_ e_))) ?_; clear HO_0 HB HK; intro HO_0 HB HK; clear hg hw hp_)))
     go_loopg [14, 134] k2 (fun kq v14 v134 w' => ∃ (x0_3 : List Int) (x14_3 : Int) (x134_3 : Int), v14 = .int .u32 x14_3 ∧ v134 = .int .i64 x134_3 ∧ Aside0 (ratio_digit.l2 kq x0_3 (l1.length : Int) x7_9 x14_3 l1 (l1.length : Int) x134_3 = some (r1, r2)) ∧ Aside0 (kq ≤ k2) ∧ Aside0 (Pd.R off cf pre post 115 w' w0.heap.size (fun k_ => (P0_ k_ ∨ w.heap.size ≤ k_)) (.slice (some ⟨gofr11, off, none⟩) x0_2.length co12) x0_3) ∧ Aside0 (Kept w w' (fun k_ => P0_ k_)) ∧ Aside0 (Below w0.heap.size w0 w'))
     case atStart => exact ⟨(y156), (0), (0), gb_, gb_, H', ⟨Nat.le_refl _⟩, ⟨by (try simp only [hl0_2]); (with_reducible repeat (first | apply Pd.R_alloc | apply Pd.R_drewN | apply Pd.R_drew)); exact HO_0.out⟩, ⟨kK_⟩, ⟨bU_ HB.out⟩⟩
     case round =>
      clear H'
      (try clear c1); (try clear p1); (try clear q1); (try clear hx1); (try clear c2); (try clear p2); (try clear q2); (try clear hx2); (try clear hf2); (try clear c3); (try clear c3b0); (try clear c3b1); (try clear p3); (try clear q3); (try clear hx3); (try clear hf3); (try clear c4); (try clear c4b0); (try clear c4b1); (try clear c6); (try clear c6b0); (try clear p6); (try clear c7); (try clear c7b0); (try clear c8); (try clear c8b0); (try clear c9); (try clear c9b0); (try clear c9b1); (try clear c14); (try clear c14b0); (try clear c14b1); (try clear p14); (try clear q14); (try clear hx14); (try clear p15); (try clear q15); (try clear hx15); (try clear c16); (try clear c16b0); (try clear c17); (try clear c17b0); (try clear c18); (try clear c18b0); (try clear c19); (try clear c21); (try clear c21b0); (try clear c22); (try clear c22b0); (try clear c23); (try clear c23b0); (try clear c23b1); (try clear c24); (try clear c24b0); (try clear c25); (try clear c25b0); (try clear c26); (try clear c26b0); (try clear c27); (try clear c27b0); (try clear p29); (try clear q29); (try clear hx29); (try clear hf29); (try clear c32); (try clear c32b0); (try clear c32b1); (try clear c33); (try clear c33b0); (try clear c33b1); (try clear p35); (try clear q35); (try clear hx35); (try clear hf35); (try clear c36); (try clear c36b0); (try clear c36b1); (try clear hx141_0); (try clear hx142_0); (try clear hx143_0); (try clear hx144_0); (try clear hx145_0); (try clear hx146_0); (try clear hx147_0); (try clear hx148_0); (try clear hx149_0); (try clear hx153_0); (try clear hx29_0); (try clear hx35_0); (try clear p141); (try clear p142); (try clear p143); (try clear p144); (try clear p145); (try clear p146); (try clear p147); (try clear p148); (try clear p149); (try clear p153); (try clear q141); (try clear q142); (try clear q143); (try clear q144); (try clear q145); (try clear q146); (try clear q147); (try clear q148); (try clear q149); (try clear q153)
      obtain ⟨x0_3, x14_3, x134_3, rfl, rfl, HA, HK3, HO_0, HK, HB⟩ := hrel
      have hl0_3 := (Pd.R_reads' HO_0.out).1
      rw [hl0_3] at HO_0
      (try simp only [hl0_3])
      cases gk with
      | zero => exact absurd HA.out (by simp [ratio_digit.l2])
      | succ k3 =>
       have H := HA.out
       clear HA
       simp only [ratio_digit.l2] at H
       by_cases c41 : x134_3 < (l1.length : Int)
       ·rw [if_pos c41] at H
        have c41b0 := decide_eq_true c41
        clear c41
        obtain ⟨c42, H⟩ : (0 ≤ x134_3) ∧ _ := it_ H
        have c42b0 := decide_eq_true c42
        clear c42
        obtain ⟨c43, H⟩ : (x134_3 < (l1.length : Int)) ∧ _ := it_ H
        have c43b0 := decide_eq_true c43
        clear c43
        obtain ⟨c44, H⟩ : (x134_3 < (x0_3.length : Int)) ∧ _ := it_ H
        have c44b0 := decide_eq_true c44
        clear c44
        revert H
        refine bd2_ fun t159 t160 A45 H => ?_
        try dsimp only at H
        obtain ⟨y161, hy161⟩ : ∃ y_ : List Int, y_ = (x0_3.set (x134_3 : Int).toNat t159) := ⟨_, rfl⟩
        first | rw [Option.bind_some, ← hy161] at H | rw [← hy161] at H
        have Ny161 := ak hy161
        clear hy161
        have H' := ak H
        clear H
        have p157 : 0 ≤ (x134_3 : Int) := od_
        have q157 : x134_3 < (l1.length : Int) := od_
        obtain ⟨ad157, e157, hx157_0⟩ := Kd.at_int (Kd.C_kept_now HR1.out HK.out) x134_3 p157 q157
        obtain rfl : ad143 = ad157 := (by injection e157)
        replace p157 := eq_true p157
        replace q157 := eq_true q157
        have p158 : 0 ≤ (x134_3 : Int) := od_
        have q158 : x134_3 < (x0_3.length : Int) := od_
        obtain ⟨ad158, e158, hx158_0⟩ := Kd.at_int (Pd.R_reads' HO_0.out).2.2 x134_3 p158 q158
        obtain rfl : (⟨gofr11, off, none⟩ : Addr) = ad158 := (by injection e158)
        (first | simp only [add_plain] at hx158_0 | simp only [add_at] at hx158_0 | simp only [Addr.add, Nat.zero_add] at hx158_0 | skip)
        replace p158 := eq_true p158
        replace q158 := eq_true q158
        go_wp2_with (first | (go_at_call 124; (with_reducible refine (bits_Add32.calls (rd x0_3 x134_3) (rd l1 x134_3) x14_3 t159 t160 _ A45.out).mono ?_); rintro e w' ⟨rfl, ⟨nd, rfl⟩⟩; (try first | exact ⟨rfl, _, World.drewN_drewN _ _ _⟩ | exact ⟨rfl, _, dd_⟩); have p46 : 0 ≤ (x134_3 : Int) := od_; have q46 : (x134_3 : Int) < ((x0_3.length : Int) : Int) := od_; obtain ⟨hx46_0, hf46_0⟩ := Pd.R_celln 0 HO_0.out (x134_3 : Int) p46 q46; replace p46 := eq_true p46; replace q46 := eq_true q46; obtain ⟨hy47_, hz47_⟩ := Pd.R_celln 0 HO_0.out (x134_3 : Int) od_ od_; have HP47 := Pd.R_putg HO_0.out (x134_3 : Int) (Pd.ix_ (by first | exact od_ | omega) (by first | exact od_ | omega)) t159) | ((with_reducible refine gate_store (t := 115) (p := 151) rfl ?_); (try (rw [drewN_self wr]; generalize hq_ : World.drewN wr _ = wr; have n0_ := ak (Pd.R_at hq_ HO_0.out); have n1_ := ak (kept_at hq_ HK.out); have n2_ := ak (below_at hq_ HB.out); clear hq_ HO_0 HK HB; have HO_0 := n0_; have HK := n1_; have HB := n2_; clear n0_ n1_ n2_; (try (obtain ⟨hy47_, hz47_⟩ := Pd.R_celln 0 HO_0.out (x134_3 : Int) od_ od_)); (try (have HP47 := Pd.R_putg HO_0.out (x134_3 : Int) (Pd.ix_ (by first | exact od_ | omega) (by first | exact od_ | omega)) t159)))); refine store_event (t := 115) (p := 151) (v := ?vo_w48) (w1 := (wr.setCell ⟨gofr11, off + (x134_3 : Int).toNat, none⟩ (.int .u32 t159))) ?hg ?ho ?hn ?hr ?_; (case ho => rfl); (case hg => rfl); (case hn => rfl); (case hr => first | (go_simp; done) | (go_simp; rfl)); intro w48 hw; have hg : wr.grownBy w48 (some gofr11) := (by rw [hw]; exact HP47.2); have hp_ : Pd.R off cf pre post 115 w48 w0.heap.size (fun k_ => (P0_ k_ ∨ w.heap.size ≤ k_)) (.slice (some ⟨gofr11, off, none⟩) x0_3.length co12) y161 := (by rw [hw, Ny161.out]; exact HP47.1); clear HP47; refine nx3_ (hp_) ((by rw [hw]; exact below_set (HB.out) GBfr11.out : Below w0.heap.size w0 w48)) (Kept.of_grown (S := (fun k_ => P0_ k_)) hg kK_ (fun k_ e_ => (HO_0.out.1 k_ e_))) ?_; clear HO_0 HB HK; intro HO_0 HB HK; clear hg hw hp_))
        repeat (go_quiet (first | (go_at_call 124; (with_reducible refine (bits_Add32.calls (rd x0_3 x134_3) (rd l1 x134_3) x14_3 t159 t160 _ A45.out).mono ?_); rintro e w' ⟨rfl, ⟨nd, rfl⟩⟩; (try first | exact ⟨rfl, _, World.drewN_drewN _ _ _⟩ | exact ⟨rfl, _, dd_⟩); have p46 : 0 ≤ (x134_3 : Int) := od_; have q46 : (x134_3 : Int) < ((x0_3.length : Int) : Int) := od_; obtain ⟨hx46_0, hf46_0⟩ := Pd.R_celln 0 HO_0.out (x134_3 : Int) p46 q46; replace p46 := eq_true p46; replace q46 := eq_true q46; obtain ⟨hy47_, hz47_⟩ := Pd.R_celln 0 HO_0.out (x134_3 : Int) od_ od_; have HP47 := Pd.R_putg HO_0.out (x134_3 : Int) (Pd.ix_ (by first | exact od_ | omega) (by first | exact od_ | omega)) t159) | ((with_reducible refine gate_store (t := 115) (p := 151) rfl ?_); (try (rw [drewN_self wr]; generalize hq_ : World.drewN wr _ = wr; have n0_ := ak (Pd.R_at hq_ HO_0.out); have n1_ := ak (kept_at hq_ HK.out); have n2_ := ak (below_at hq_ HB.out); clear hq_ HO_0 HK HB; have HO_0 := n0_; have HK := n1_; have HB := n2_; clear n0_ n1_ n2_; (try (obtain ⟨hy47_, hz47_⟩ := Pd.R_celln 0 HO_0.out (x134_3 : Int) od_ od_)); (try (have HP47 := Pd.R_putg HO_0.out (x134_3 : Int) (Pd.ix_ (by first | exact od_ | omega) (by first | exact od_ | omega)) t159)))); refine store_event (t := 115) (p := 151) (v := ?vo_w48) (w1 := (wr.setCell ⟨gofr11, off + (x134_3 : Int).toNat, none⟩ (.int .u32 t159))) ?hg ?ho ?hn ?hr ?_; (case ho => rfl); (case hg => rfl); (case hn => rfl); (case hr => first | (go_simp; done) | (go_simp; rfl)); intro w48 hw; have hg : wr.grownBy w48 (some gofr11) := (by rw [hw]; exact HP47.2); have hp_ : Pd.R off cf pre post 115 w48 w0.heap.size (fun k_ => (P0_ k_ ∨ w.heap.size ≤ k_)) (.slice (some ⟨gofr11, off, none⟩) x0_3.length co12) y161 := (by rw [hw, Ny161.out]; exact HP47.1); clear HP47; refine nx3_ (hp_) ((by rw [hw]; exact below_set (HB.out) GBfr11.out : Below w0.heap.size w0 w48)) (Kept.of_grown (S := (fun k_ => P0_ k_)) hg kK_ (fun k_ e_ => (HO_0.out.1 k_ e_))) ?_; clear HO_0 HB HK; intro HO_0 HB HK; clear hg hw hp_)); try go_wp2_with (first | (go_at_call 124; (with_reducible refine (bits_Add32.calls (rd x0_3 x134_3) (rd l1 x134_3) x14_3 t159 t160 _ A45.out).mono ?_); rintro e w' ⟨rfl, ⟨nd, rfl⟩⟩; (try first | exact ⟨rfl, _, World.drewN_drewN _ _ _⟩ | exact ⟨rfl, _, dd_⟩); have p46 : 0 ≤ (x134_3 : Int) := od_; have q46 : (x134_3 : Int) < ((x0_3.length : Int) : Int) := od_; obtain ⟨hx46_0, hf46_0⟩ := Pd.R_celln 0 HO_0.out (x134_3 : Int) p46 q46; replace p46 := eq_true p46; replace q46 := eq_true q46; obtain ⟨hy47_, hz47_⟩ := Pd.R_celln 0 HO_0.out (x134_3 : Int) od_ od_; have HP47 := Pd.R_putg HO_0.out (x134_3 : Int) (Pd.ix_ (by first | exact od_ | omega) (by first | exact od_ | omega)) t159) | ((with_reducible refine gate_store (t := 115) (p := 151) rfl ?_); (try (rw [drewN_self wr]; generalize hq_ : World.drewN wr _ = wr; have n0_ := ak (Pd.R_at hq_ HO_0.out); have n1_ := ak (kept_at hq_ HK.out); have n2_ := ak (below_at hq_ HB.out); clear hq_ HO_0 HK HB; have HO_0 := n0_; have HK := n1_; have HB := n2_; clear n0_ n1_ n2_; (try (obtain ⟨hy47_, hz47_⟩ := Pd.R_celln 0 HO_0.out (x134_3 : Int) od_ od_)); (try (have HP47 := Pd.R_putg HO_0.out (x134_3 : Int) (Pd.ix_ (by first | exact od_ | omega) (by first | exact od_ | omega)) t159)))); refine store_event (t := 115) (p := 151) (v := ?vo_w48) (w1 := (wr.setCell ⟨gofr11, off + (x134_3 : Int).toNat, none⟩ (.int .u32 t159))) ?hg ?ho ?hn ?hr ?_; (case ho => rfl); (case hg => rfl); (case hn => rfl); (case hr => first | (go_simp; done) | (go_simp; rfl)); intro w48 hw; have hg : wr.grownBy w48 (some gofr11) := (by rw [hw]; exact HP47.2); have hp_ : Pd.R off cf pre post 115 w48 w0.heap.size (fun k_ => (P0_ k_ ∨ w.heap.size ≤ k_)) (.slice (some ⟨gofr11, off, none⟩) x0_3.length co12) y161 := (by rw [hw, Ny161.out]; exact HP47.1); clear HP47; refine nx3_ (hp_) ((by rw [hw]; exact below_set (HB.out) GBfr11.out : Below w0.heap.size w0 w48)) (Kept.of_grown (S := (fun k_ => P0_ k_)) hg kK_ (fun k_ e_ => (HO_0.out.1 k_ e_))) ?_; clear HO_0 HB HK; intro HO_0 HB HK; clear hg hw hp_)))
        (try simp only [← hl0_3])
        go_roundg k3
        case measure => have := HJ9.out; have := HK2.out; have := HK3.out; omega
        case rel => exact ⟨(y161), (t160), (wrap64 (x134_3 + 1)), gb_, gb_, H', ⟨by have := HJ9.out; have := HK2.out; have := HK3.out; omega⟩, ⟨by (try simp only [hl0_2]); (try simp only [hl0_3]); (with_reducible repeat (first | apply Pd.R_alloc | apply Pd.R_drewN | apply Pd.R_drew)); exact HO_0.out⟩, ⟨kK_⟩, ⟨bU_ HB.out⟩⟩
       rw [if_neg c41] at H
       have c41b0 := decide_eq_false c41
       clear c41
       obtain ⟨c49, H⟩ : (0 ≤ (l1.length : Int)) ∧ _ := it_ H
       have c49b0 := decide_eq_true c49
       have c49b1 : decide (0 ≤ l1.length) = true := decide_eq_true (by omega)
       clear c49
       obtain ⟨c50, H⟩ : ((l1.length : Int) < (x0_3.length : Int)) ∧ _ := it_ H
       have c50b0 := decide_eq_true c50
       have c50b1 : decide (l1.length < x0_3.length) = true := decide_eq_true (Int.ofNat_lt.mp c50)
       clear c50
       obtain ⟨y163, hy163⟩ : ∃ y_ : List Int, y_ = (x0_3.set ((l1.length : Int) : Int).toNat (((rd x0_3 (l1.length : Int)) + x14_3) % 4294967296)) := ⟨_, rfl⟩
       first | rw [Option.bind_some, ← hy163] at H | rw [← hy163] at H
       have Ny163 := ak hy163
       clear hy163
       simp only [Option.some.injEq, Prod.mk.injEq] at H
       obtain ⟨rfl, rfl⟩ := H
       have p162 : 0 ≤ ((l1.length : Int) : Int) := od_
       have q162 : (l1.length : Int) < (x0_3.length : Int) := od_
       obtain ⟨ad162, e162, hx162_0⟩ := Kd.at_int (Pd.R_reads' HO_0.out).2.2 (l1.length : Int) p162 q162
       obtain rfl : (⟨gofr11, off, none⟩ : Addr) = ad162 := (by injection e162)
       (first | simp only [add_plain] at hx162_0 | simp only [add_at] at hx162_0 | simp only [Addr.add, Nat.zero_add] at hx162_0 | skip)
       (try simp only [Go.IntWalk.toNatUp] at hx162_0)
       (try simp only [hl0_2, hl0_3] at p162)
       (try simp only [hl0_2, hl0_3] at q162)
       (try simp only [hl0_2, hl0_3] at hx162_0)
       replace p162 := eq_true p162
       replace q162 := eq_true q162
       have p51 : 0 ≤ ((l1.length : Int) : Int) := od_
       have q51 : ((l1.length : Int) : Int) < ((x0_3.length : Int) : Int) := od_
       obtain ⟨hx51_0, hf51_0⟩ := Pd.R_celln 0 HO_0.out ((l1.length : Int) : Int) p51 q51
       (try simp only [Int.toNat_natCast] at hx51_0 hf51_0)
       replace p51 := eq_true p51
       replace q51 := eq_true q51
       have HP52 := Pd.R_putg HO_0.out ((l1.length : Int) : Int) (Pd.ix_ (by first | exact od_ | omega) (by first | exact od_ | omega)) (((rd x0_3 (l1.length : Int)) + x14_3) % 4294967296)
       go_wp2_with (first | ((with_reducible refine gate_store (t := 115) (p := 159) rfl ?_); (try (rw [drewN_self wr]; generalize hq_ : World.drewN wr _ = wr; have n0_ := ak (Pd.R_at hq_ HO_0.out); have n1_ := ak (kept_at hq_ HK.out); have n2_ := ak (below_at hq_ HB.out); clear hq_ HO_0 HK HB; have HO_0 := n0_; have HK := n1_; have HB := n2_; clear n0_ n1_ n2_; (try (have HP52 := Pd.R_putg HO_0.out ((l1.length : Int) : Int) (Pd.ix_ (by first | exact od_ | omega) (by first | exact od_ | omega)) (((rd x0_3 (l1.length : Int)) + x14_3) % 4294967296))))); refine store_event (t := 115) (p := 159) (v := ?vo_w53) (w1 := (wr.setCell ⟨gofr11, off + ((l1.length : Int) : Int).toNat, none⟩ (.int .u32 (((rd x0_3 (l1.length : Int)) + x14_3) % 4294967296)))) ?hg ?ho ?hn ?hr ?_; (case ho => rfl); (case hg => rfl); (case hn => rfl); (case hr => first | (go_simp; done) | (go_simp; rfl)); intro w53 hw; have hg : wr.grownBy w53 (some gofr11) := (by rw [hw]; exact HP52.2); have hp_ : Pd.R off cf pre post 115 w53 w0.heap.size (fun k_ => (P0_ k_ ∨ w.heap.size ≤ k_)) (.slice (some ⟨gofr11, off, none⟩) x0_3.length co12) y163 := (by rw [hw, Ny163.out]; exact HP52.1); clear HP52; refine nx3_ (hp_) ((by rw [hw]; exact below_set (HB.out) GBfr11.out : Below w0.heap.size w0 w53)) (Kept.of_grown (S := (fun k_ => P0_ k_)) hg kK_ (fun k_ e_ => (HO_0.out.1 k_ e_))) ?_; clear HO_0 HB HK; intro HO_0 HB HK; clear hg hw hp_))
       repeat (go_quiet (first | ((with_reducible refine gate_store (t := 115) (p := 159) rfl ?_); (try (rw [drewN_self wr]; generalize hq_ : World.drewN wr _ = wr; have n0_ := ak (Pd.R_at hq_ HO_0.out); have n1_ := ak (kept_at hq_ HK.out); have n2_ := ak (below_at hq_ HB.out); clear hq_ HO_0 HK HB; have HO_0 := n0_; have HK := n1_; have HB := n2_; clear n0_ n1_ n2_; (try (have HP52 := Pd.R_putg HO_0.out ((l1.length : Int) : Int) (Pd.ix_ (by first | exact od_ | omega) (by first | exact od_ | omega)) (((rd x0_3 (l1.length : Int)) + x14_3) % 4294967296))))); refine store_event (t := 115) (p := 159) (v := ?vo_w53) (w1 := (wr.setCell ⟨gofr11, off + ((l1.length : Int) : Int).toNat, none⟩ (.int .u32 (((rd x0_3 (l1.length : Int)) + x14_3) % 4294967296)))) ?hg ?ho ?hn ?hr ?_; (case ho => rfl); (case hg => rfl); (case hn => rfl); (case hr => first | (go_simp; done) | (go_simp; rfl)); intro w53 hw; have hg : wr.grownBy w53 (some gofr11) := (by rw [hw]; exact HP52.2); have hp_ : Pd.R off cf pre post 115 w53 w0.heap.size (fun k_ => (P0_ k_ ∨ w.heap.size ≤ k_)) (.slice (some ⟨gofr11, off, none⟩) x0_3.length co12) y163 := (by rw [hw, Ny163.out]; exact HP52.1); clear HP52; refine nx3_ (hp_) ((by rw [hw]; exact below_set (HB.out) GBfr11.out : Below w0.heap.size w0 w53)) (Kept.of_grown (S := (fun k_ => P0_ k_)) hg kK_ (fun k_ e_ => (HO_0.out.1 k_ e_))) ?_; clear HO_0 HB HK; intro HO_0 HB HK; clear hg hw hp_)); try go_wp2_with (first | ((with_reducible refine gate_store (t := 115) (p := 159) rfl ?_); (try (rw [drewN_self wr]; generalize hq_ : World.drewN wr _ = wr; have n0_ := ak (Pd.R_at hq_ HO_0.out); have n1_ := ak (kept_at hq_ HK.out); have n2_ := ak (below_at hq_ HB.out); clear hq_ HO_0 HK HB; have HO_0 := n0_; have HK := n1_; have HB := n2_; clear n0_ n1_ n2_; (try (have HP52 := Pd.R_putg HO_0.out ((l1.length : Int) : Int) (Pd.ix_ (by first | exact od_ | omega) (by first | exact od_ | omega)) (((rd x0_3 (l1.length : Int)) + x14_3) % 4294967296))))); refine store_event (t := 115) (p := 159) (v := ?vo_w53) (w1 := (wr.setCell ⟨gofr11, off + ((l1.length : Int) : Int).toNat, none⟩ (.int .u32 (((rd x0_3 (l1.length : Int)) + x14_3) % 4294967296)))) ?hg ?ho ?hn ?hr ?_; (case ho => rfl); (case hg => rfl); (case hn => rfl); (case hr => first | (go_simp; done) | (go_simp; rfl)); intro w53 hw; have hg : wr.grownBy w53 (some gofr11) := (by rw [hw]; exact HP52.2); have hp_ : Pd.R off cf pre post 115 w53 w0.heap.size (fun k_ => (P0_ k_ ∨ w.heap.size ≤ k_)) (.slice (some ⟨gofr11, off, none⟩) x0_3.length co12) y163 := (by rw [hw, Ny163.out]; exact HP52.1); clear HP52; refine nx3_ (hp_) ((by rw [hw]; exact below_set (HB.out) GBfr11.out : Below w0.heap.size w0 w53)) (Kept.of_grown (S := (fun k_ => P0_ k_)) hg kK_ (fun k_ e_ => (HO_0.out.1 k_ e_))) ?_; clear HO_0 HB HK; intro HO_0 HB HK; clear hg hw hp_)))
       go_ret
       exact ⟨by first | rfl | (simp [errW_none, errW_some] <;> rfl) | (simp only [← hji5]; first | rfl | (simp [errW_none, errW_some] <;> rfl)) | (simp [*, errW_none, errW_some] <;> rfl), (by first | exact (by (with_reducible repeat (first | apply Pd.R_alloc | apply Pd.R_drewN | apply Pd.R_drew)); exact HO_0.out) | (simp only [hl0_2, hl0_3]; exact (by (with_reducible repeat (first | apply Pd.R_alloc | apply Pd.R_drewN | apply Pd.R_drew)); exact HO_0.out))), bU_ HB.out, kK_⟩

def ratio_digw.f (k : Nat) (l0 l1 : List Int) (j n : Int) : Option (Int × List Int) := if 0 ≤ j ∧ 0 ≤ n ∧ j + n + 1 ≤ (l0.length : Int) then (ratio_digit.f k ((l0.drop j.toNat).take (n.toNat + 1)) l1).bind fun t => some (t.1, l0.take j.toNat ++ (t.2 ++ l0.drop (j.toNat + (n.toNat + 1)))) else none
theorem ratio_digw.mono : ∀ a0 a1 j n k, LeO (ratio_digw.f k a0 a1 j n) (ratio_digw.f (k + 1) a0 a1 j n) := by
 intro a0 a1 j n k
 unfold ratio_digw.f
 exact LeO.ite (LeO.bind (ratio_digit.mono _ _ _) fun _ => LeO.refl _) (LeO.refl _)
theorem ratio_digw.dom {k : Nat} {l0 l1 : List Int} {j n : Int} {r : Int × List Int} (h : ratio_digw.f k l0 l1 j n = some r) : 0 ≤ j ∧ 0 ≤ n ∧ j + n + 1 ≤ (l0.length : Int) := by
 unfold ratio_digw.f at h
 exact (it_ h).1
theorem ratio_digw.calls (k : Nat) (P0_ : Nat → Prop) (g cu : Nat) (l0 : List Int) (A1 : Option Addr) (c1 : Nat) (l1 : List Int) (j n : Int) (N : Nat) (hN : N = n.toNat + 1) (r1 : Int) (r2 : List Int) (w0 w : World) (hB : Below w0.heap.size w0 w) (ho0 : Kd.R (Kd.int .u32) 115 w w0.heap.size P0_ (.slice (some ⟨g, 0, none⟩) l0.length cu) l0) (hr1 : ∀ W_, Kept w W_ (fun k_ => P0_ k_) → Kd.C (Kd.int .u32) W_ A1 l1.length l1) (hc1 : l1.length ≤ c1) (h : ratio_digw.f k l0 l1 j n = some (r1, r2)) :
  Calls Tryd.prog 144 #[.slice (some ⟨g, j.toNat, none⟩) N N, .slice A1 l1.length c1] w fun e w' => e = .returned (.int .u32 r1) ∧ Kd.R (Kd.int .u32) 115 w' w0.heap.size (fun k_ => (P0_ k_ ∨ w.heap.size ≤ k_)) (.slice (some ⟨g, 0, none⟩) l0.length cu) r2 ∧ Below w0.heap.size w0 w' ∧ Kept w w' (fun k_ => P0_ k_) := by
 subst hN
 unfold ratio_digw.f at h
 obtain ⟨⟨hj, hn, hd⟩, h⟩ := it_ h
 obtain ⟨⟨t1, t2⟩, ht, h⟩ := Option.bind_eq_some_iff.mp h
 simp only [Option.some.injEq, Prod.mk.injEq] at h
 obtain ⟨rfl, rfl⟩ := h
 have hx : ((l0.drop j.toNat).take (n.toNat + 1)).length = n.toNat + 1 := by rw [List.length_take, List.length_drop]; omega
 have hp : j.toNat = (l0.take j.toNat).length := by rw [List.length_take]; omega
 have he : l0.take j.toNat ++ ((l0.drop j.toNat).take (n.toNat + 1) ++ l0.drop (j.toNat + (n.toNat + 1))) = l0 := by
  rw [← List.drop_drop, List.take_append_drop, List.take_append_drop]
 have hP : Pd.R j.toNat cu (l0.take j.toNat) (l0.drop (j.toNat + (n.toNat + 1))) 115 w w0.heap.size P0_ (.slice (some ⟨g, j.toNat, none⟩) (n.toNat + 1) (n.toNat + 1)) ((l0.drop j.toNat).take (n.toNat + 1)) :=
  ⟨fun q hq => ho0.1 q hq, hp, g, n.toNat + 1, by rw [hx], by rw [hx]; exact Nat.le_refl _, by rw [he]; exact ho0⟩
 refine (ratio_digit.calls k j.toNat cu _ _ P0_ _ _ A1 c1 l1 t1 t2 w0 w hB hP hr1 hc1 ht).mono ?_
 rintro e w' ⟨rfl, hR, hb, hk⟩
 refine ⟨rfl, ?_, hb, hk⟩
 obtain ⟨_, _, g', c', hv, _, hr⟩ := hR
 injection hv with ha hl _
 injection ha with ha
 injection ha with ha
 subst ha
 have hlen : (l0.take j.toNat ++ (t2 ++ l0.drop (j.toNat + (n.toNat + 1)))).length = l0.length := by
  rw [List.length_append, List.length_append, List.length_take, List.length_drop, ← hl]; omega
 rw [hlen] at hr
 exact hr

mutual
def ratio_div.l0 : Nat → Int → Int → List Int → List Int → List Int → Int → Int → Option (List Int × List Int)
 | 0, _, _, _, _, _, _, _ => none
 | k + 1, x8, x9, x10, x11, x12, x62, x63 => if x63 < x62 then ((ratio_digw.f k x10 x11 (wrap64 ((wrap64 ((x12.length : Int) - 1)) - x63)) x8).bind fun bt241 => (if 0 ≤ (wrap64 ((wrap64 ((x12.length : Int) - 1)) - x63)) then (if (wrap64 ((wrap64 ((x12.length : Int) - 1)) - x63)) < (x12.length : Int) then (ratio_div.l0 k x8 x9 bt241.2 x11 (x12.set ((wrap64 ((wrap64 ((x12.length : Int) - 1)) - x63)) : Int).toNat bt241.1) x62 (wrap64 (x63 + 1))) else (none)) else (none))) else (if 0 ≤ x8 then (if (x8 : Int).toNat ≤ 70368744177664 then (ratio_div.l1 k x9 x10 x12 (List.replicate (x8 : Int).toNat 0) x8 0) else (none)) else (none))
def ratio_div.l1 : Nat → Int → List Int → List Int → List Int → Int → Int → Option (List Int × List Int)
 | 0, _, _, _, _, _, _ => none
 | k + 1, x9, x10, x12, x15, x90, x91 => if x91 < x90 then (if 0 ≤ (wrap64 (x91 + 1)) then (if (wrap64 (x91 + 1)) < (x10.length : Int) then (if 0 ≤ x91 then (if x91 < (x10.length : Int) then (if 0 ≤ x9 then (if x91 < (x15.length : Int) then (ratio_div.l1 k x9 x10 x12 (x15.set (x91 : Int).toNat ((shr .u64 (Go.bits .or .u64 (IntKind.u64.wrap ((IntKind.u64.wrap (rd x10 (wrap64 (x91 + 1)))) * 4294967296)) (IntKind.u64.wrap (rd x10 x91))) x9) % 4294967296)) x90 (wrap64 (x91 + 1))) else (none)) else (none)) else (none)) else (none)) else (none)) else (none)) else ((ratio_trim.f k x12).bind fun t250 => ((ratio_trim.f k x15).bind fun t253 => (some (t250, t253))))
end
def ratio_div.f (k : Nat) (l0 : List Int) (l1 : List Int) : Option (List Int × List Int) := if (l1.length : Int) = 1 then (if 0 < (l1.length : Int) then ((ratio_small.f k l0 (rd l1 0)).bind fun bt215 => ((ratio_Nat.f k (IntKind.u64.wrap (bt215.2))).bind fun t219 => (some (bt215.1, t219)))) else (none)) else ((ratio_compare.f k l0 l1).bind fun t222 => (if t222 < 0 then ((api_Nat_uint32.f l0).bind fun t223 => (some (([] : List Int), t223))) else (if 0 ≤ (wrap64 ((l1.length : Int) - 1)) then (if (wrap64 ((l1.length : Int) - 1)) < (l1.length : Int) then ((bits_LeadingZeros32.f (rd l1 (wrap64 ((l1.length : Int) - 1)))).bind fun t227 => ((ratio_shifted.f k l0 t227).bind fun t228 => ((ratio_shifted.f k l1 t227).bind fun t231 => (if 0 ≤ (l1.length : Int) then (if (l1.length : Int) ≤ (t231.length : Int) then (if 0 ≤ (wrap64 ((wrap64 ((l0.length : Int) - (l1.length : Int))) + 1)) then (if (wrap64 ((wrap64 ((l0.length : Int) - (l1.length : Int))) + 1) : Int).toNat ≤ 70368744177664 then ((some (List.replicate (wrap64 ((wrap64 ((l0.length : Int) - (l1.length : Int))) + 1) : Int).toNat 0 : List Int)).bind fun y238 => (ratio_div.l0 k (l1.length : Int) t227 t228 (t231.take ((l1.length : Int) : Int).toNat) y238 (y238.length : Int) 0)) else (none)) else (none)) else (none)) else (none))))) else (none)) else (none))))
theorem ratio_div.mono_l : ∀ k, (∀ y0 y1 y2 y3 y4 y5 y6, LeO (ratio_div.l0 k y0 y1 y2 y3 y4 y5 y6) (ratio_div.l0 (k + 1) y0 y1 y2 y3 y4 y5 y6)) ∧ (∀ y0 y1 y2 y3 y4 y5, LeO (ratio_div.l1 k y0 y1 y2 y3 y4 y5) (ratio_div.l1 (k + 1) y0 y1 y2 y3 y4 y5))
 | 0 => ⟨fun _ _ _ _ _ _ _ r h => by simp [ratio_div.l0] at h, fun _ _ _ _ _ _ r h => by simp [ratio_div.l1] at h⟩
 | k + 1 => by
  obtain ⟨ih0, ih1⟩ := ratio_div.mono_l k
  refine ⟨?_, ?_⟩
  ·intro y0 y1 y2 y3 y4 y5 y6
   unfold ratio_div.l0
   with_reducible repeat' first | apply ih0 | apply ih1 | apply ratio_Nat.mono | apply ratio_compare.mono | apply ratio_digw.mono | apply ratio_shifted.mono | apply ratio_small.mono | apply ratio_trim.mono | exact LeO.refl _ | exact LeO.none _ | refine LeO.ite ?_ ?_ | refine LeO.bind ?_ (fun _ => ?_)
  intro y0 y1 y2 y3 y4 y5
  unfold ratio_div.l1
  with_reducible repeat' first | apply ih0 | apply ih1 | apply ratio_Nat.mono | apply ratio_compare.mono | apply ratio_digw.mono | apply ratio_shifted.mono | apply ratio_small.mono | apply ratio_trim.mono | exact LeO.refl _ | exact LeO.none _ | refine LeO.ite ?_ ?_ | refine LeO.bind ?_ (fun _ => ?_)
theorem ratio_div.mono : ∀ a0 a1 k, LeO (ratio_div.f k a0 a1) (ratio_div.f (k + 1) a0 a1) := by
 intro a0 a1 k
 obtain ⟨ih0, ih1⟩ := ratio_div.mono_l k
 unfold ratio_div.f
 with_reducible repeat' first | apply ih0 | apply ih1 | apply ratio_Nat.mono | apply ratio_compare.mono | apply ratio_digw.mono | apply ratio_shifted.mono | apply ratio_small.mono | apply ratio_trim.mono | exact LeO.refl _ | exact LeO.none _ | refine LeO.ite ?_ ?_ | refine LeO.bind ?_ (fun _ => ?_)
def ratio_div.T8 : Bool × List (List Nat × List Nat) := (true, [([], []), ([], []), ([0, 1], [0, 1]), ([], []), ([], []), ([3, 4, 2], [3, 4]), ([], []), ([], []), ([5, 6, 7], [5, 6, 7]), ([2, 5, 0, 1, 2], [2]), ([8, 9, 0, 1, 2, 3, 4, 5, 6, 7, 8, 9], [8])])
def ratio_div.B8 : List Nat := [0, 0, 3, 0, 0, 31, 0, 0, 255, 63, 1023]
theorem ratio_div.tab8 : rtab .any (opsOf Tryd.f122 8) = ratio_div.T8 := by kernel_rfl
theorem ratio_div.bits8 : waitsOk ratio_div.T8.2 ratio_div.B8 = true := by kernel_rfl
def ratio_div.T20 : Bool × List (List Nat × List Nat) := (true, [([], []), ([], []), ([], []), ([], []), ([3], [3]), ([2, 4], [2, 4]), ([5], [5]), ([6], [6]), ([7], [7]), ([], []), ([], []), ([9, 10], [9, 10]), ([11], [11]), ([12], [12]), ([8, 13], [8, 13]), ([], []), ([14, 15], [14, 15]), ([16], [16]), ([0, 1, 0, 1, 2, 3, 4, 5, 6, 7, 8, 9, 10, 11, 12, 13, 14, 15, 16, 17], [0, 1]), ([18, 17, 0, 1, 2, 3, 4, 5, 6, 7, 8, 9, 10, 11, 12, 13, 14, 15, 16, 17], [17, 18])])
def ratio_div.B20 : List Nat := [0, 0, 0, 0, 8, 28, 60, 124, 252, 0, 0, 1536, 3584, 7680, 16380, 0, 65532, 131068, 262143, 524287]
theorem ratio_div.tab20 : rtab .any (opsOf Tryd.f122 20) = ratio_div.T20 := by kernel_rfl
theorem ratio_div.bits20 : waitsOk ratio_div.T20.2 ratio_div.B20 = true := by kernel_rfl
set_option maxHeartbeats 8000000 in
set_option maxRecDepth 100000 in
theorem ratio_div.calls (k : Nat) (A0 : Option Addr) (c0 : Nat) (l0 : List Int) (A1 : Option Addr) (c1 : Nat) (l1 : List Int) (r1 : List Int) (r2 : List Int) (w : World) (hr0 : Kd.C (Kd.int .u32) w A0 l0.length l0) (hc0 : l0.length ≤ c0) (hr1 : Kd.C (Kd.int .u32) w A1 l1.length l1) (hc1 : l1.length ≤ c1) (h : ratio_div.f k l0 l1 = some (r1, r2)) :
  Calls Tryd.prog 122 #[.slice A0 l0.length c0, .slice A1 l1.length c1] w fun e w' => ∃ v0_ v1_ : Value, e = .returned (.tuple #[v0_, v1_]) ∧ Kd.V (Kd.int .u32) 115 w' w.heap.size (fun k_ => (w.heap.size ≤ k_)) v0_ r1 ∧ Kd.V (Kd.int .u32) 115 w' w.heap.size (fun k_ => (w.heap.size ≤ k_)) v1_ r2 ∧ Below w.heap.size w w' := by
 have HR0 := ak hr0
 have HC0 := ak hc0
 clear hr0 hc0
 have HR1 := ak hr1
 have HC1 := ak hc1
 clear hr1 hc1
 have HB := ak (Below.refl w.heap.size w)
 have H := h
 clear h
 unfold ratio_div.f at H
 by_cases c3 : (l1.length : Int) = 1
 ·rw [if_pos c3] at H
  have c3b0 := beq_iff_eq.mpr c3
  have c3b1 := bne_eq_false_iff_eq.mpr c3
  clear c3
  obtain ⟨c4, H⟩ : (0 < (l1.length : Int)) ∧ _ := it_ H
  have c4b0 := decide_eq_true c4
  have c4b1 : decide (0 < l1.length) = true := decide_eq_true (by omega)
  clear c4
  revert H
  refine bd2_ fun t215 t218 A5 H => ?_
  try dsimp only at H
  revert H
  refine bd_ fun t219 A6 H => ?_
  simp only [Option.some.injEq, Prod.mk.injEq] at H
  obtain ⟨rfl, rfl⟩ := H
  have p214 : 0 ≤ (0 : Int) := (by omega)
  have q214 : 0 < (l1.length : Int) := od_
  obtain ⟨ad214, e214, hx214_0⟩ := Kd.at_int HR1.out 0 p214 q214
  cases e214
  have qi214 : (0 < l1.length) = True := eq_true (by omega)
  (try rw [show ((0 : Int)).toNat = 0 from rfl] at hx214_0)
  (try rw [Addr.add_zero'] at hx214_0)
  replace p214 := eq_true p214
  replace q214 := eq_true q214
  go_enter Tryd.func122, Tryd.ntmps122
  go_wp2_with (first | ((with_reducible refine gate_callee (f := 141) rfl ?_); refine gl_ (some 25) Tryd.func141 #[.slice A0 l0.length c0, .int .u32 (rd l1 0)] ?_; (with_reducible refine (ratio_small.calls k _ _ l0 (rd l1 0) t215 t218 _ ?side1 ?side2 A5.out).mono ?_); (case side1 => exact cU_ HR0.out); (case side2 => exact HC0.out); rintro e w7 ⟨v216, rfl, ho0, hb⟩; refine ⟨_, rfl, ?_⟩; refine nx2_ (V_lower (V_mono (ok' := fun k_ => (w.heap.size ≤ k_)) ho0 (fun k_ hk_ => (Nat.le_trans (below_size (bU_ HB.out)) hk_))) (below_size (bU_ HB.out))) (below_step (bU_ HB.out) hb) ?_; clear HB; intro HO217 HB; clear hb ho0) | ((with_reducible refine gate_callee (f := 96) rfl ?_); refine gl_ (some 31) Tryd.func96 #[.int .u64 (IntKind.u64.wrap (t218))] ?_; (with_reducible refine (ratio_Nat.calls k (IntKind.u64.wrap (t218)) t219 _ A6.out).mono ?_); rintro e w8 ⟨v220, rfl, ho0, hb⟩; refine ⟨_, rfl, ?_⟩; refine nx3_ (V_below (vU_ HO217.out) hb) (V_lower (V_mono (ok' := fun k_ => (w.heap.size ≤ k_)) ho0 (fun k_ hk_ => (Nat.le_trans (below_size (bU_ HB.out)) hk_))) (below_size (bU_ HB.out))) (below_step (bU_ HB.out) hb) ?_; clear HO217 HB; intro HO217 HO221 HB; clear hb ho0))
  go_ret2
  exact ⟨_, _, eW_, vU_ HO217.out, vU_ HO221.out, bU_ HB.out⟩
 rw [if_neg c3] at H
 have c3b0 := beq_eq_false_iff_ne.mpr c3
 have c3b1 := bne_iff_ne.mpr c3
 revert H
 refine bd_ fun t222 A9 H => ?_
 by_cases c10 : t222 < 0
 ·rw [if_pos c10] at H
  have c10b0 := decide_eq_true c10
  clear c10
  revert H
  refine bd_ fun t223 A11 H => ?_
  simp only [Option.some.injEq, Prod.mk.injEq] at H
  obtain ⟨rfl, rfl⟩ := H
  go_enter Tryd.func122, Tryd.ntmps122
  go_wp2_with (first | ((with_reducible refine gate_callee (f := 93) rfl ?_); refine gl_ (some 34) Tryd.func93 #[.slice A0 l0.length c0, .slice A1 l1.length c1] ?_; (with_reducible refine (ratio_compare.calls k _ _ l0 _ _ l1 t222 _ ?side1 ?side2 ?side3 ?side4 A9.out).mono ?_); (case side1 => exact cU_ HR0.out); (case side2 => exact HC0.out); (case side3 => exact cU_ HR1.out); (case side4 => exact HC1.out); rintro e w' ⟨rfl, ⟨nd, rfl⟩⟩; refine ⟨_, rfl, ?_⟩) | ((with_reducible refine gate_callee (f := 123) rfl ?_); refine gl_ (some 37) Tryd.func123 #[.slice A0 l0.length c0] ?_; (with_reducible refine (api_Nat_uint32.calls _ _ l0 t223 _ ?side1 ?side2 A11.out).mono ?_); (case side1 => exact cU_ HR0.out); (case side2 => exact HC0.out); rintro e w12 ⟨v224, rfl, ho0, hb⟩; refine ⟨_, rfl, ?_⟩; refine nx2_ (R_lower (R_newM (M := fun k_ => (w.heap.size ≤ k_)) ho0 (below_size (bU_ HB.out)) (fun k_ h_ => h_)) (below_size (bU_ HB.out))) (below_step (bU_ HB.out) hb) ?_; clear HB; intro HO225 HB; clear hb ho0))
  go_ret2
  exact ⟨_, _, eW_, Kd.V_nil _ _ _ _ _, R_V (R_mono (rU_ HO225.out) (fun _ hk => hk.1)), bU_ HB.out⟩
 rw [if_neg c10] at H
 have c10b0 := decide_eq_false c10
 clear c10
 obtain ⟨ji13, hji13⟩ : ∃ j_ : Int, (wrap64 ((l1.length : Int) - 1)) = j_ := ⟨_, rfl⟩
 first | rw [hji13] at H | simp only [hji13] at H
 (try rw [hji13] at A9)
 have hji13w : (IntKind.i64.wrap ((l1.length : Int) - 1)) = ji13 := (i64_w _).trans hji13
 obtain ⟨c14, H⟩ : (0 ≤ (ji13)) ∧ _ := it_ H
 have c14b0 := decide_eq_true c14
 clear c14
 obtain ⟨c15, H⟩ : ((ji13) < (l1.length : Int)) ∧ _ := it_ H
 have c15b0 := decide_eq_true c15
 clear c15
 revert H
 refine bd_ fun t227 A16 H => ?_
 revert H
 refine bd_ fun t228 A17 H => ?_
 revert H
 refine bd_ fun t231 A18 H => ?_
 obtain ⟨c19, H⟩ : (0 ≤ (l1.length : Int)) ∧ _ := it_ H
 have c19b0 := eq_true c19
 have c19b1 := decide_eq_true c19
 clear c19
 obtain ⟨c20, H⟩ : ((l1.length : Int) ≤ (t231.length : Int)) ∧ _ := it_ H
 have c20b0 := eq_true c20
 have c20b1 := decide_eq_true c20
 clear c20
 obtain ⟨y234, hy234⟩ : ∃ y_ : List Int, y_ = (t231.take ((l1.length : Int) : Int).toNat) := ⟨_, rfl⟩
 first | rw [Option.bind_some, ← hy234] at H | rw [← hy234] at H
 have Ny234 := ak hy234
 clear hy234
 obtain ⟨ji21, hji21⟩ : ∃ j_ : Int, (wrap64 ((wrap64 ((l0.length : Int) - (l1.length : Int))) + 1)) = j_ := ⟨_, rfl⟩
 first | rw [hji21] at H | simp only [hji21] at H
 (try rw [hji21] at A9)
 (try rw [hji21] at A16)
 (try rw [hji21] at A17)
 (try rw [hji21] at A18)
 have hji21w : (IntKind.i64.wrap ((wrap64 ((l0.length : Int) - (l1.length : Int))) + 1)) = ji21 := (i64_w _).trans hji21
 obtain ⟨c22, H⟩ : (0 ≤ (ji21)) ∧ _ := it_ H
 have c22b0 := eq_true c22
 have c22b1 := decide_eq_true c22
 clear c22
 obtain ⟨c23, H⟩ : ((ji21 : Int).toNat ≤ 70368744177664) ∧ _ := it_ H
 have c23b0 := eq_true c23
 have c23b1 := decide_eq_true c23
 clear c23
 obtain ⟨y238, hy238⟩ : ∃ y_ : List Int, y_ = (List.replicate (ji21 : Int).toNat 0) := ⟨_, rfl⟩
 first | rw [Option.bind_some, ← hy238] at H | rw [← hy238] at H
 have Ny238 := ak hy238
 clear hy238
 have H' := ak H
 clear H
 go_enter Tryd.func122, Tryd.ntmps122
 try go_wp2_with (first | ((with_reducible refine gate_callee (f := 93) rfl ?_); refine gl_ (some 34) Tryd.func93 #[.slice A0 l0.length c0, .slice A1 l1.length c1] ?_; (with_reducible refine (ratio_compare.calls k _ _ l0 _ _ l1 t222 _ ?side1 ?side2 ?side3 ?side4 A9.out).mono ?_); (case side1 => exact cU_ HR0.out); (case side2 => exact HC0.out); (case side3 => exact cU_ HR1.out); (case side4 => exact HC1.out); rintro e w' ⟨rfl, ⟨nd, rfl⟩⟩; refine ⟨_, rfl, ?_⟩; have p226 : 0 ≤ ((ji13) : Int) := od_; have q226 : (ji13) < (l1.length : Int) := od_; obtain ⟨ad226, e226, hx226_0⟩ := Kd.at_int HR1.out (ji13) p226 q226; cases e226; replace p226 := eq_true p226; replace q226 := eq_true q226) | ((with_reducible refine gate_callee (f := 142) rfl ?_); refine goesL_ (some 45) rfl rfl Tryd.func142 (by kernel_rfl) rfl #[.int .u32 (rd l1 (ji13))] rfl (by (try simp only [List.map_toArray, List.map_cons, List.map_nil]); first | done | (simp only [hji13]; rfl) | rfl | (simp only [List.length_drop, List.length_take]; rfl)) ?_; (with_reducible refine (bits_LeadingZeros32.calls (rd l1 (ji13)) t227 _ A16.out).mono ?_); rintro e w' ⟨rfl, ⟨nd, rfl⟩⟩; refine ⟨_, rfl, ?_⟩))
 generalize hq_ : World.drewN w _ = wq_
 have HBq_ := ak (below_at hq_ HB.out)
 clear hq_ HB
 have HB := HBq_
 clear HBq_
 refine nx1_ (below_drew1 HB.out) ?_
 clear HB
 intro HB
 refine start_ (n := 11) (S := fun w' => True) (ds := []) (bv 11 0) (by kernel_rfl) rfl rfl trivial (fun hHeld => ?_); refine with_tabW ratio_div.tab8 ratio_div.bits8 (fun HT_ HW_ => ?_)
 generalize wq_.drew = w24 at HB hHeld ⊢
 refine pq_ 0 46 11 1 HT_.out ?_
 refine pq_ 1 47 11 3 HT_.out ?_
 refine pq_ 3 49 11 11 HT_.out ?_
 refine pq_ 4 50 11 27 HT_.out ?_
 refine pq_ 6 52 11 91 HT_.out ?_
 refine pq_ 7 53 11 219 HT_.out ?_
 refine oq_ 2 48 11 223 HT_.out fun K hK => ?_
 refine gs_ Tryd.func143 #[.slice A0 l0.length c0, .int .i64 t227] ?_
 with_reducible refine (ratio_shifted.calls k _ _ l0 t227 t228 _ ?side1 ?side2 A17.out).mono ?_
 (case side1 => exact cU_ (C_below HR0.out HB.out))
 (case side2 => exact HC0.out)
 rintro e w25 ⟨v229, rfl, ho0, hb⟩
 refine ⟨_, rfl, ?_⟩
 refine nx2_ (R_lower (R_newM (M := fun k_ => (w.heap.size ≤ k_)) ho0 (below_size (bU_ HB.out)) (fun k_ h_ => h_)) (below_size (bU_ HB.out))) (below_step (bU_ HB.out) hb) ?_
 clear HB
 intro HO230 HB
 (try clear hb)
 (try clear hb2)
 (try clear hk)
 (try clear hi)
 (try clear ho0)
 refine hK.out _ _ trivial (fun hHeld => ?_)
 clear hK K
 refine norm_ (a' := ?_) ?_ ?_
 rotate_left
 ·show Act.put _ (some 48) _ = _
  simp only [Act.put, s1_, s2_, s3_, i64_w, i32_w]
  rfl
 refine oq_ 5 51 11 255 HT_.out fun K hK => ?_
 refine gs_ Tryd.func143 #[.slice (some ad226) l1.length c1, .int .i64 t227] ?_
 with_reducible refine (ratio_shifted.calls k _ _ l1 t227 t231 _ ?side1 ?side2 A18.out).mono ?_
 (case side1 => exact cU_ (C_below HR1.out HB.out))
 (case side2 => exact HC1.out)
 rintro e w26 ⟨v232, rfl, ho0, hb⟩
 refine ⟨_, rfl, ?_⟩
 refine nx3_ (R_elder' (rU_ HO230.out) (R_base ho0) hb) (R_lower (R_new' (R_newM (M := fun k_ => (w.heap.size ≤ k_)) ho0 (below_size (bU_ HB.out)) (fun k_ h_ => h_)) (R_lt (rU_ HO230.out))) (below_size (bU_ HB.out))) (below_step (bU_ HB.out) hb) ?_
 clear HO230 HB
 intro HO230 HO233 HB
 (try clear hb)
 (try clear hb2)
 (try clear hk)
 (try clear hi)
 (try clear ho0)
 obtain ⟨Ao28, co28, eo28⟩ := R_slice HO233.out
 (first | subst eo28 | (injection eo28 with f1_ f2_ f3_; have f4_ := f1_.symm; have f5_ := f3_.symm; clear f1_ f2_ f3_; subst f4_; subst f5_))
 have q27 : ((l1.length : Int) : Int) ≤ ((t231.length : Int) : Int) := od_
 obtain ⟨i027, hi027, _, hsz27, _⟩ := info_parts info115
 have hroom27 : t231.length ≤ co28 := (R_reads' HO233.out).2.1
 have hC27 : Kd.C (Kd.int .u32) _ Ao28 t231.length t231 := (R_reads' HO233.out).2.2
 have hcut27 := cutc_to (P := Tryd.prog) 23 115 .i64 Tryd.underlying23 hi027 Ao28 t231.length co28 (l1.length : Int) od_ q27 hroom27
 have hr27 := Kd.C_take (m := ((l1.length : Int) : Int).toNat) hC27 (by omega)
 have hy27 : y234.length = ((l1.length : Int) : Int).toNat := (by rw [Ny234.out, List.length_take]; omega)
 rw [← Ny234.out] at hr27
 rw [← hy27] at hcut27
 have HR237 := ak hr27
 have HC237 := ak (Nat.le_refl y234.length)
 clear hr27 hC27 hroom27 hi027 hsz27
 have KY27 := ak hy27
 clear hy27
 have KL27 := ak (show ((l1.length : Int) : Int).toNat ≤ t231.length from by omega)
 replace q27 := eq_true q27
 refine hK.out _ _ trivial (fun hHeld => ?_)
 clear hK K
 refine norm_ (a' := ?_) ?_ ?_
 rotate_left
 ·show Act.put _ (some 51) _ = _
  simp only [Act.put, s1_, s2_, s3_, i64_w, i32_w]
  rfl
 refine pq_ 8 54 11 511 HT_.out ?_
 refine pq_ 9 10 11 1023 HT_.out ?_
 refine pq_ 10 11 11 2047 HT_.out ?_
 refine done_ (done_of HT_.out (by kernel_rfl)) ?_
 try go_wp2_with (first | ((with_reducible refine gate_dst (N := 60) rfl ?_); refine R_make (Kd.int .u32) _ 115 rfl (N := 60) rfl 23 _ _ rfl ji21 ?hx ?hy Tryd.underlying23 (.int .u32 0) 4 info115 rfl (by decide) (by omega) 0 (ok := fun _ => True) (okp := fun _ => True) rfl (fun _ hk => hk) trivial od_ (Nat.le_trans (Nat.mul_le_mul_right _ (od_ : ji21.toNat ≤ 70368744177664)) (by omega)) (Below.refl _ _) (Nat.le_refl _) ?_; (case hx => first | rfl | (simp only [hji13, hji21]; rfl)); (case hy => first | rfl | (simp only [hji13, hji21]; rfl)); intro v239 w29 ho30 hb hg_ hnew_; clear hg_ hnew_; (first | rw [← Ny238.out] at ho30 | (simp only [Int.reduceToNat] at ho30; rw [← Ny238.out] at ho30)); refine nx5_ (R_elder' (rU_ HO230.out) (R_base ho30) hb) (R_elder' (rU_ HO233.out) (R_base ho30) hb) (R_lower (R_new' (R_new' (R_newM (M := fun k_ => (w.heap.size ≤ k_)) ho30 (below_size (bU_ HB.out)) (fun k_ h_ => h_)) (R_lt (rU_ HO230.out))) (R_lt (rU_ HO233.out))) (below_size (bU_ HB.out))) (C_below (by repeat (first | (with_reducible exact HR237.out) | (with_reducible refine Kd.C_alloc ?_ _) | (with_reducible refine Kd.C_drewN ?_ _) | (with_reducible refine Kd.C_drew ?_) | exact HR237.out)) hb) (below_step (bU_ HB.out) hb) ?_; clear HO230 HO233 HR237 HB; intro HO230 HO233 HO240 HR237 HB; clear hb ho30; obtain ⟨Ao31, co31, eo31⟩ := R_slice HO240.out; subst eo31))
 go_loopg [63] k (fun kq v63 w' => ∃ (x10_1 : List Int) (x12_1 : List Int) (x63_1 : Int), v63 = .int .i64 x63_1 ∧ Aside0 (ratio_div.l0 kq (l1.length : Int) t227 x10_1 y234 x12_1 (y238.length : Int) x63_1 = some (r1, r2)) ∧ Aside0 (kq ≤ k) ∧ Aside0 (Kd.R (Kd.int .u32) 115 w' w.heap.size (fun k_ => (w.heap.size ≤ k_) ∧ some k_ ≠ ((.slice Ao31 y238.length co31) : Value).ownBlock) v229 x10_1) ∧ Aside0 (Kd.R (Kd.int .u32) 115 w' w.heap.size (fun k_ => (w.heap.size ≤ k_) ∧ some k_ ≠ (v229 : Value).ownBlock) (.slice Ao31 y238.length co31) x12_1) ∧ Aside0 (Kd.R (Kd.int .u32) 115 w' w.heap.size (fun k_ => ((w.heap.size ≤ k_) ∧ some k_ ≠ (v229 : Value).ownBlock) ∧ some k_ ≠ (.slice Ao31 y238.length co31 : Value).ownBlock) (.slice Ao28 t231.length co28) t231) ∧ Aside0 (Below w.heap.size w w'))
 case atStart => exact ⟨(t228), (y238), (0), gb_, H', ⟨Nat.le_refl _⟩, ⟨R_mono (rU_ HO230.out) (fun _ hk => ⟨hk.1.1.1, hk.2⟩)⟩, ⟨R_mono (rU_ HO240.out) (fun _ hk => ⟨hk.1.1.1, hk.1.2⟩)⟩, ⟨R_mono (rU_ HO233.out) (fun _ hk => ⟨⟨hk.1.1.1, hk.1.2⟩, hk.2⟩)⟩, ⟨bU_ HB.out⟩⟩
 case round =>
  clear H'
  (try clear c1); (try clear c2); (try clear p2); (try clear q2); (try clear hx2); (try clear qi2); (try clear c3); (try clear c3b0); (try clear c3b1); (try clear c4); (try clear c4b0); (try clear c4b1); (try clear p6); (try clear c7); (try clear c8); (try clear c9); (try clear c10); (try clear c10b0); (try clear c14); (try clear c14b0); (try clear c15); (try clear c15b0); (try clear c16); (try clear c19); (try clear c19b0); (try clear c19b1); (try clear c20); (try clear c20b0); (try clear c20b1); (try clear p21); (try clear q21); (try clear hx21); (try clear qi21); (try clear c22); (try clear c22b0); (try clear c22b1); (try clear p22); (try clear q22); (try clear hx22); (try clear c23); (try clear c23b0); (try clear c23b1); (try clear q27); (try clear hx214_0); (try clear hx226_0); (try clear p214); (try clear p226); (try clear q214); (try clear q226)
  obtain ⟨x10_1, x12_1, x63_1, rfl, HA, HK1, HO_10, HO_12, HV, HB⟩ := hrel
  have hl12_1 := (R_reads' HO_12.out).1
  rw [hl12_1] at HO_12
  (try simp only [hl12_1])
  (try simp only [hl12_1] at HO_10)
  (try simp only [hl12_1] at HV)
  cases gk with
  | zero => exact absurd HA.out (by simp [ratio_div.l0])
  | succ k1 =>
   have H := HA.out
   clear HA
   simp only [ratio_div.l0] at H
   by_cases c32 : x63_1 < (y238.length : Int)
   ·rw [if_pos c32] at H
    have c32b0 := decide_eq_true c32
    (try (have c32b0r0 := c32b0; simp only [hl12_1] at c32b0r0))
    clear c32
    revert H
    refine bd2_ fun t241 t242 A33 H => ?_
    try dsimp only at H
    obtain ⟨ji34, hji34⟩ : ∃ j_ : Int, (wrap64 ((wrap64 ((x12_1.length : Int) - 1)) - x63_1)) = j_ := ⟨_, rfl⟩
    first | rw [hji34] at H | simp only [hji34] at H
    (try rw [hji34] at A33)
    have hji34w : (IntKind.i64.wrap ((wrap64 ((x12_1.length : Int) - 1)) - x63_1)) = ji34 := (i64_w _).trans hji34
    obtain ⟨c35, H⟩ : (0 ≤ (ji34)) ∧ _ := it_ H
    have c35b0 := decide_eq_true c35
    clear c35
    obtain ⟨c36, H⟩ : ((ji34) < (x12_1.length : Int)) ∧ _ := it_ H
    have c36b0 := decide_eq_true c36
    clear c36
    obtain ⟨y243, hy243⟩ : ∃ y_ : List Int, y_ = (x12_1.set ((ji34) : Int).toNat t241) := ⟨_, rfl⟩
    first | rw [Option.bind_some, ← hy243] at H | rw [← hy243] at H
    have Ny243 := ak hy243
    clear hy243
    have H' := ak H
    clear H
    obtain ⟨Ao38, co38, eo38⟩ := R_slice HO_10.out
    subst eo38
    have HD := ratio_digw.dom A33.out
    obtain ⟨gu, cu, eu, _, _, _⟩ := Kd.R_form HO_10.out (by omega)
    injection eu with eu1_ _ eu2_
    subst eu1_
    subst eu2_
    have hmx := Kd.C_max (R_reads' HO_10.out).2.2
    obtain ⟨jn, hjn⟩ : ∃ jn : Int, jn = ji34 + (l1.length : Int) := ⟨_, rfl⟩
    obtain ⟨jm, hjm⟩ : ∃ jm : Int, jm = jn + 1 := ⟨_, rfl⟩
    have hjnw : IntKind.i64.wrap (ji34 + (l1.length : Int)) = jn := by rw [i64_w, hjn]; unfold wrap64; omega
    have hjmw : IntKind.i64.wrap (jn + 1) = jm := by rw [i64_w, hjm]; unfold wrap64; omega
    obtain ⟨i038, hi038, _, hsz38, _⟩ := info_parts info115
    have hcutw := cutw_to (P := Tryd.prog) 23 115 Tryd.underlying23 hi038 hsz38 gu x10_1.length co38 ji34 jm (l1.length + 1) HD.1 (by omega) (by omega) (by omega) (R_reads' HO_10.out).2.1
    clear hjn hjm hmx HD hi038 hsz38
    go_wp2_with (first | (go_at_call 144; (with_reducible refine (ratio_digw.calls k1 (fun k_ => some k_ = (.slice (some ⟨gu, 0, none⟩) x10_1.length co38 : Value).ownBlock) gu co38 x10_1 _ _ y234 ji34 (l1.length : Int) (l1.length + 1) (by rw [Int.toNat_natCast]) t241 t242 w _ ?side1 ?side2 ?side3 ?side4 A33.out).mono ?_); (case side1 => repeat (first | (with_reducible first | exact HB.out | apply below_alloc | apply pw_below_drewN | apply below_drew1) | exact HB.out)); (case side2 => exact R_tight rfl HO_10.out); (case side3 => exact fun W_ hkW_ => by rw [Ny234.out]; exact Kd.C_take (R_reads' (Kd.R_kept HV.out hkW_ (fun k_ hk_ e_ => hk_.1.2 e_))).2.2 KL27.out); (case side4 => exact HC237.out); rintro e w39 ⟨rfl, hy0, hb, hkp⟩; refine nx4_ (Kd.R_reok rfl hy0 (fun k_ e_ => HO_10.out.1 k_ e_)) (R_mono (ok' := fun k_ => (w.heap.size ≤ k_) ∧ some k_ ≠ (.slice (some ⟨gu, 0, none⟩) x10_1.length co38 : Value).ownBlock) (Kd.R_keptB (HO_12.out) hkp (fun k_ hk_ hs_ => (hk_.2) hs_)) (fun k_ hk_ => ⟨hk_.1.1, hk_.1.2⟩)) (R_mono (ok' := fun k_ => ((w.heap.size ≤ k_) ∧ some k_ ≠ (.slice (some ⟨gu, 0, none⟩) x10_1.length co38 : Value).ownBlock) ∧ some k_ ≠ (.slice Ao31 x12_1.length co31 : Value).ownBlock) (Kd.R_keptB HV.out hkp (fun k_ hk_ hs_ => hk_.1.2 hs_)) (fun k_ hk_ => hk_.1)) (hb) ?_; clear HO_10 HO_12 HV HB; intro HO_10 HO_12 HV HB; clear hb hkp hy0; have p37 : 0 ≤ ((ji34) : Int) := od_; have q37 : ((ji34) : Int) < ((x12_1.length : Int) : Int) := od_; obtain ⟨go37, co37, eo37, gb37, gl37, cl37, HG37⟩ := Kd.R_form HO_12.out (by omega); (first | cases eo37 | (injection eo37 with ea_ en_ ec_; (first | subst ea_ | (injection ea_ with ea_; subst ea_)); subst ec_; clear en_)); have GB37 := ak gb37; have GG37 := ak HG37; clear gb37 gl37 HG37; obtain ⟨hx37_0, hf37_0⟩ := Kd.R_celln 0 HO_12.out ((ji34) : Int) p37 q37; replace p37 := eq_true p37; replace q37 := eq_true q37; obtain ⟨hy40_, hz40_⟩ := Kd.R_celln 0 HO_12.out ((ji34) : Int) od_ od_; have HP40 := Kd.R_putg HO_12.out ((ji34) : Int) t241) | ((with_reducible refine gate_store (t := 115) (p := 86) rfl ?_); refine store_event (t := 115) (p := 86) (v := ?vo_w41) (w1 := (w39.setCell ⟨go37, ((ji34) : Int).toNat, none⟩ (.int .u32 t241))) ?hg ?ho ?hn ?hr ?_; (case ho => rfl); (case hg => rfl); (case hn => rfl); (case hr => first | (go_simp; done) | (go_simp; rfl)); intro w41 hw; have hg : w39.grownBy w41 (some go37) := (by rw [hw]; exact HP40.2); have hp_ : Kd.R (Kd.int .u32) 115 w41 w.heap.size (fun k_ => (w.heap.size ≤ k_) ∧ some k_ ≠ (.slice (some ⟨gu, 0, none⟩) x10_1.length co38 : Value).ownBlock) (.slice (some ⟨go37, 0, none⟩) x12_1.length co31) y243 := (by rw [hw, Ny243.out]; exact HP40.1); clear HP40; refine nx4_ (Kd.R_after (v := (.slice (some ⟨go37, 0, none⟩) x12_1.length co31)) (v1 := (.slice (some ⟨go37, 0, none⟩) x12_1.length co31)) (ok := (fun k_ => (w.heap.size ≤ k_))) (rU_ HO_10.out) hg (.inl rfl)) (hp_) (Kd.R_after (v := (.slice (some ⟨go37, 0, none⟩) x12_1.length co31)) (v1 := (.slice (some ⟨go37, 0, none⟩) x12_1.length co31)) (ok := (fun k_ => (w.heap.size ≤ k_) ∧ some k_ ≠ (.slice (some ⟨gu, 0, none⟩) x10_1.length co38 : Value).ownBlock)) (rU_ HV.out) hg (.inl rfl)) ((by rw [hw]; exact below_set (HB.out) GB37.out : Below w.heap.size w w41)) ?_; clear HO_10 HO_12 HV HB; intro HO_10 HO_12 HV HB; clear hg hw hp_))
    (try simp only [← hl12_1])
    go_roundg k1
    case measure => have := HK1.out; omega
    case rel => exact ⟨(t242), (y243), (wrap64 (x63_1 + 1)), gb_, H', ⟨by have := HK1.out; omega⟩, ⟨by (try simp only [hl12_1]); (with_reducible repeat (first | apply Kd.R_alloc | apply Kd.R_drewN | apply R_drew)); exact HO_10.out⟩, ⟨by (try simp only [hl12_1]); (with_reducible repeat (first | apply Kd.R_alloc | apply Kd.R_drewN | apply R_drew)); exact HO_12.out⟩, ⟨by (try simp only [hl12_1]); (with_reducible repeat (first | apply Kd.R_alloc | apply Kd.R_drewN | apply R_drew)); exact HV.out⟩, ⟨bU_ HB.out⟩⟩
   rw [if_neg c32] at H
   have c32b0 := decide_eq_false c32
   (try (have c32b0r0 := c32b0; simp only [hl12_1] at c32b0r0))
   clear c32
   obtain ⟨c42, H⟩ : (0 ≤ (l1.length : Int)) ∧ _ := it_ H
   have c42b0 := eq_true c42
   have c42b1 := decide_eq_true c42
   clear c42
   obtain ⟨c43, H⟩ : (((l1.length : Int) : Int).toNat ≤ 70368744177664) ∧ _ := it_ H
   have c43b0 := eq_true c43
   have c43b1 := decide_eq_true c43
   clear c43
   obtain ⟨y244, hy244⟩ : ∃ y_ : List Int, y_ = (List.replicate ((l1.length : Int) : Int).toNat 0) := ⟨_, rfl⟩
   first | rw [Option.bind_some, ← hy244] at H | rw [← hy244] at H
   have Ny244 := ak hy244
   clear hy244
   have H' := ak H
   clear H
   go_wp2_with (first | ((with_reducible refine gate_dst (N := 89) rfl ?_); refine R_make (Kd.int .u32) _ 115 rfl (N := 89) rfl 23 _ _ rfl (l1.length : Int) ?hx ?hy Tryd.underlying23 (.int .u32 0) 4 info115 rfl (by decide) (by omega) 0 (ok := fun _ => True) (okp := fun _ => True) rfl (fun _ hk => hk) trivial od_ (Nat.le_trans (Nat.mul_le_mul_right _ (od_ : (l1.length : Int).toNat ≤ 70368744177664)) (by omega)) (Below.refl _ _) (Nat.le_refl _) ?_; (case hx => first | rfl | (simp only [hji13, hji21]; rfl)); (case hy => first | rfl | (simp only [hji13, hji21]; rfl)); intro v245 w44 ho45 hb hg_ hnew_; clear hg_ hnew_; (first | rw [← Ny244.out] at ho45 | (simp only [Int.reduceToNat] at ho45; rw [← Ny244.out] at ho45)); refine nx4_ (R_elder' (rU_ HO_10.out) (R_base ho45) hb) (R_elder' (rU_ HO_12.out) (R_base ho45) hb) (R_lower (R_new' (R_new' (R_newM (M := fun k_ => (w.heap.size ≤ k_)) ho45 (below_size (bU_ HB.out)) (fun k_ h_ => h_)) (R_lt (rU_ HO_10.out))) (R_lt (rU_ HO_12.out))) (below_size (bU_ HB.out))) (below_step (bU_ HB.out) hb) ?_; clear HO_10 HO_12 HB; intro HO_10 HO_12 HO246 HB; clear hb ho45))
   go_loopg [91] k1 (fun kq v91 w' => ∃ (x15_2 : List Int) (x91_2 : Int), v91 = .int .i64 x91_2 ∧ Aside0 (ratio_div.l1 kq t227 x10_1 x12_1 x15_2 (l1.length : Int) x91_2 = some (r1, r2)) ∧ Aside0 (kq ≤ k1) ∧ Aside0 (Kd.R (Kd.int .u32) 115 w' w.heap.size (fun k_ => (w.heap.size ≤ k_) ∧ some k_ ≠ ((.slice Ao31 x12_1.length co31) : Value).ownBlock ∧ some k_ ≠ (v245 : Value).ownBlock) v229 x10_1) ∧ Aside0 (Kd.R (Kd.int .u32) 115 w' w.heap.size (fun k_ => (w.heap.size ≤ k_) ∧ some k_ ≠ (v229 : Value).ownBlock ∧ some k_ ≠ (v245 : Value).ownBlock) (.slice Ao31 x12_1.length co31) x12_1) ∧ Aside0 (Kd.R (Kd.int .u32) 115 w' w.heap.size (fun k_ => (w.heap.size ≤ k_) ∧ some k_ ≠ (v229 : Value).ownBlock ∧ some k_ ≠ ((.slice Ao31 x12_1.length co31) : Value).ownBlock) v245 x15_2) ∧ Aside0 (Below w.heap.size w w'))
   case atStart => exact ⟨(y244), (0), gb_, H', ⟨Nat.le_refl _⟩, ⟨by (try simp only [hl12_1]); (with_reducible repeat (first | apply Kd.R_alloc | apply Kd.R_drewN | apply R_drew)); exact R_mono HO_10.out (fun _ hk => ⟨hk.1.1, ⟨hk.1.2, hk.2⟩⟩)⟩, ⟨by (try simp only [hl12_1]); (with_reducible repeat (first | apply Kd.R_alloc | apply Kd.R_drewN | apply R_drew)); exact R_mono HO_12.out (fun _ hk => ⟨hk.1.1, ⟨hk.1.2, hk.2⟩⟩)⟩, ⟨by (try simp only [hl12_1]); (with_reducible repeat (first | apply Kd.R_alloc | apply Kd.R_drewN | apply R_drew)); exact R_mono HO246.out (fun _ hk => ⟨hk.1.1.1, ⟨hk.1.2, hk.2⟩⟩)⟩, ⟨bU_ HB.out⟩⟩
   case round =>
    clear H'
    (try clear c1); (try clear c2); (try clear p2); (try clear q2); (try clear hx2); (try clear qi2); (try clear c3); (try clear c3b0); (try clear c3b1); (try clear p3); (try clear q3); (try clear hx3); (try clear hf3); (try clear c4); (try clear c4b0); (try clear c4b1); (try clear p6); (try clear c7); (try clear c8); (try clear c9); (try clear c10); (try clear c10b0); (try clear c14); (try clear c14b0); (try clear c15); (try clear c15b0); (try clear c16); (try clear c19); (try clear c19b0); (try clear c19b1); (try clear c20); (try clear c20b0); (try clear c20b1); (try clear p21); (try clear q21); (try clear hx21); (try clear qi21); (try clear c22); (try clear c22b0); (try clear c22b1); (try clear p22); (try clear q22); (try clear hx22); (try clear c23); (try clear c23b0); (try clear c23b1); (try clear q27); (try clear c32); (try clear c32b0); (try clear c35); (try clear c35b0); (try clear c36); (try clear c36b0); (try clear p37); (try clear q37); (try clear hx37); (try clear hf37); (try clear c42); (try clear c42b0); (try clear c42b1); (try clear c43); (try clear c43b0); (try clear c43b1); (try clear hx214_0); (try clear hx226_0); (try clear hx37_0); (try clear p214); (try clear p226); (try clear q214); (try clear q226)
    obtain ⟨x15_2, x91_2, rfl, HA, HK2, HO_10, HO_12, HO_15, HB⟩ := hrel
    cases gk with
    | zero => exact absurd HA.out (by simp [ratio_div.l1])
    | succ k2 =>
     have H := HA.out
     clear HA
     simp only [ratio_div.l1] at H
     by_cases c46 : x91_2 < (l1.length : Int)
     ·rw [if_pos c46] at H
      have c46b0 := decide_eq_true c46
      clear c46
      obtain ⟨ji47, hji47⟩ : ∃ j_ : Int, (wrap64 (x91_2 + 1)) = j_ := ⟨_, rfl⟩
      first | rw [hji47] at H | simp only [hji47] at H
      have hji47w : (IntKind.i64.wrap (x91_2 + 1)) = ji47 := (i64_w _).trans hji47
      obtain ⟨c48, H⟩ : (0 ≤ (ji47)) ∧ _ := it_ H
      have c48b0 := decide_eq_true c48
      clear c48
      obtain ⟨c49, H⟩ : ((ji47) < (x10_1.length : Int)) ∧ _ := it_ H
      have c49b0 := decide_eq_true c49
      clear c49
      obtain ⟨c50, H⟩ : (0 ≤ x91_2) ∧ _ := it_ H
      have c50b0 := decide_eq_true c50
      clear c50
      obtain ⟨c51, H⟩ : (x91_2 < (x10_1.length : Int)) ∧ _ := it_ H
      have c51b0 := decide_eq_true c51
      clear c51
      obtain ⟨c52, H⟩ : (0 ≤ t227) ∧ _ := it_ H
      have c52b0 := eq_true c52
      have c52b1 := decide_eq_true c52
      clear c52
      obtain ⟨ji53, hji53⟩ : ∃ j_ : Int, (shr .u64 (Go.bits .or .u64 (IntKind.u64.wrap ((IntKind.u64.wrap (rd x10_1 (ji47))) * 4294967296)) (IntKind.u64.wrap (rd x10_1 x91_2))) t227) = j_ := ⟨_, rfl⟩
      first | rw [hji53] at H | simp only [hji53] at H
      have hji53_ : ((Go.bits .or .u64 (IntKind.u64.wrap ((IntKind.u64.wrap (rd x10_1 (ji47))) * 4294967296)) (IntKind.u64.wrap (rd x10_1 x91_2))) / 2 ^ min t227.toNat 64) = ji53 := hji53
      have hji53z : t227 ≤ 64 → ((Go.bits .or .u64 (IntKind.u64.wrap ((IntKind.u64.wrap (rd x10_1 (ji47))) * 4294967296)) (IntKind.u64.wrap (rd x10_1 x91_2))) / 2 ^ t227.toNat) = ji53 := shr_small hji53
      obtain ⟨c54, H⟩ : (x91_2 < (x15_2.length : Int)) ∧ _ := it_ H
      have c54b0 := decide_eq_true c54
      clear c54
      obtain ⟨y249, hy249⟩ : ∃ y_ : List Int, y_ = (x15_2.set (x91_2 : Int).toNat ((ji53) % 4294967296)) := ⟨_, rfl⟩
      first | rw [Option.bind_some, ← hy249] at H | rw [← hy249] at H
      have Ny249 := ak hy249
      clear hy249
      have H' := ak H
      clear H
      try go_wp2
      refine nx4_ (R_drew HO_10.out) (R_drew HO_12.out) (R_drew HO_15.out) (below_drew1 HB.out) ?_
      clear HO_10 HO_12 HO_15 HB
      intro HO_10 HO_12 HO_15 HB
      obtain ⟨Ao58, co58, eo58⟩ := R_slice HO_10.out
      (first | subst eo58 | (injection eo58 with f1_ f2_ f3_; have f4_ := f1_.symm; have f5_ := f3_.symm; clear f1_ f2_ f3_; subst f4_; subst f5_))
      have pfr57 : 0 ≤ ((ji47) : Int) := od_
      have qfr57 : ((ji47) : Int) < ((x10_1.length : Int) : Int) := od_
      obtain ⟨gofr57, cofr57, eofr57, gbfr57, glfr57, clfr57, HGfr57⟩ := Kd.R_form HO_10.out (by omega)
      (first | cases eofr57 | (injection eofr57 with ea_ en_ ec_; (first | subst ea_ | (injection ea_ with ea_; subst ea_)); subst ec_; clear en_))
      have GBfr57 := ak gbfr57
      have GGfr57 := ak HGfr57
      clear gbfr57 glfr57 HGfr57
      clear pfr57 qfr57
      have p247 : 0 ≤ ((ji47) : Int) := od_
      have q247 : (ji47) < (x10_1.length : Int) := od_
      obtain ⟨ad247, e247, hx247_0⟩ := Kd.at_int (R_reads' HO_10.out).2.2 (ji47) p247 q247
      obtain rfl : (⟨gofr57, 0, none⟩ : Addr) = ad247 := (by injection e247)
      (first | simp only [add_plain] at hx247_0 | simp only [add_at] at hx247_0 | simp only [Addr.add, Nat.zero_add] at hx247_0 | skip)
      replace p247 := eq_true p247
      replace q247 := eq_true q247
      have p248 : 0 ≤ (x91_2 : Int) := od_
      have q248 : x91_2 < (x10_1.length : Int) := od_
      obtain ⟨ad248, e248, hx248_0⟩ := Kd.at_int (R_reads' HO_10.out).2.2 x91_2 p248 q248
      obtain rfl : (⟨gofr57, 0, none⟩ : Addr) = ad248 := (by injection e248)
      (first | simp only [add_plain] at hx248_0 | simp only [add_at] at hx248_0 | simp only [Addr.add, Nat.zero_add] at hx248_0 | skip)
      replace p248 := eq_true p248
      replace q248 := eq_true q248
      have p55 : 0 ≤ (x91_2 : Int) := od_
      have q55 : (x91_2 : Int) < ((x15_2.length : Int) : Int) := od_
      obtain ⟨go55, co55, eo55, gb55, gl55, cl55, HG55⟩ := Kd.R_form HO_15.out (by omega)
      (first | cases eo55 | (injection eo55 with ea_ en_ ec_; (first | subst ea_ | (injection ea_ with ea_; subst ea_)); subst ec_; clear en_))
      have GB55 := ak gb55
      have GG55 := ak HG55
      clear gb55 gl55 HG55
      obtain ⟨hx55_0, hf55_0⟩ := Kd.R_celln 0 HO_15.out (x91_2 : Int) p55 q55
      replace p55 := eq_true p55
      replace q55 := eq_true q55
      have HP59 := Kd.R_putn HO_15.out (x91_2 : Int) ((ji53) % 4294967296)
      rw [← Ny249.out] at HP59
      have HQ59 := ak HP59
      clear HP59
      refine start_ (n := 20) (S := fun w' => w'.cell? ⟨gofr57, ((ji47)).toNat, none⟩ = some (.int .u32 (rd x10_1 (ji47))) ∧ w'.cell? ⟨gofr57, (x91_2).toNat, none⟩ = some (.int .u32 (rd x10_1 x91_2))) (ds := [19]) (bv 20 0) (by kernel_rfl) rfl rfl ⟨hx247_0, hx248_0⟩ (fun hHeld => ?_); refine with_tabW ratio_div.tab20 ratio_div.bits20 (fun HT_ HW_ => ?_)
      generalize wr.drew = w56 at HO_10 HO_12 HO_15 HB GG55 HQ59 hf55_0 hx247_0 hx248_0 hx55_0 hHeld ⊢
      refine pq_ 0 94 20 1 HT_.out ?_
      refine pq_ 1 95 20 3 HT_.out ?_
      refine pq_ 2 96 20 7 HT_.out ?_
      refine pq_ 3 97 20 15 HT_.out ?_
      refine pq_ 4 98 20 31 HT_.out ?_
      refine pq_ 5 99 20 63 HT_.out ?_
      refine pq_ 9 103 20 575 HT_.out ?_
      refine pq_ 10 104 20 1599 HT_.out ?_
      refine pq_ 11 105 20 3647 HT_.out ?_
      refine pq_ 15 109 20 36415 HT_.out ?_
      refine tq_ 6 100 20 36479 HT_.out HW_.out hHeld ?_
      refine pq_ 7 101 20 36607 HT_.out ?_
      refine pq_ 8 102 20 36863 HT_.out ?_
      refine tq_ 12 106 20 40959 HT_.out HW_.out hHeld ?_
      refine pq_ 13 107 20 49151 HT_.out ?_
      refine pq_ 14 108 20 65535 HT_.out ?_
      refine pq_ 16 110 20 131071 HT_.out ?_
      refine pq_ 17 111 20 262143 HT_.out ?_
      refine pq_ 18 112 20 524287 HT_.out ?_
      refine last_ (i := 19) (N := none) #[true, true, true, true, true, true, true, true, true, true, true, true, true, true, true, true, true, true, true, true] rfl rfl (one_of HT_.out (by kernel_rfl)) (by decide) (fun K hK => ?_)
      refine skip_ (w1 := ?_) (by rfl) rfl ?_ ?_
      rotate_left
      ·go_simp
       rfl
      refine hK.out _ _ ?_
      clear hK K
      refine done_ (done_of HT_.out (by kernel_rfl)) ?_
      try go_wp2
      go_roundg k2
      case measure => have := HK1.out; have := HK2.out; omega
      case rel => exact ⟨(y249), (ji47), (by first | rfl | (simp; done) | (simp only [← hji47] <;> (first | rfl | simp)) | (simp [*]; done)), H', ⟨by have := HK1.out; have := HK2.out; omega⟩, ⟨by (try simp only [hl12_1]); (with_reducible repeat (first | apply Kd.R_alloc | apply Kd.R_drewN | apply R_drew)); exact R_mono (R_far (p := ⟨go55, (x91_2 : Int).toNat, none⟩) (R_mono HO_10.out (fun k_ hk => (⟨hk, fun e_ => hk.2.2 (by rw [e_]; rfl)⟩ : _ ∧ k_ ≠ go55))) (fun _ hk => hk.2) (.int .u32 ((ji53) % 4294967296))) (fun _ hk => ⟨hk.1.1, ⟨hk.1.2.1, hk.1.2.2⟩⟩)⟩, ⟨by (try simp only [hl12_1]); (with_reducible repeat (first | apply Kd.R_alloc | apply Kd.R_drewN | apply R_drew)); exact R_mono (R_far (p := ⟨go55, (x91_2 : Int).toNat, none⟩) (R_mono HO_12.out (fun k_ hk => (⟨hk, fun e_ => hk.2.2 (by rw [e_]; rfl)⟩ : _ ∧ k_ ≠ go55))) (fun _ hk => hk.2) (.int .u32 ((ji53) % 4294967296))) (fun _ hk => ⟨hk.1.1, ⟨hk.1.2.1, hk.1.2.2⟩⟩)⟩, ⟨by (try simp only [hl12_1]); (with_reducible repeat (first | apply Kd.R_alloc | apply Kd.R_drewN | apply R_drew)); exact HQ59.out⟩, ⟨sU_⟩⟩
     rw [if_neg c46] at H
     have c46b0 := decide_eq_false c46
     clear c46
     revert H
     refine bd_ fun t250 A60 H => ?_
     revert H
     refine bd_ fun t253 A61 H => ?_
     simp only [Option.some.injEq, Prod.mk.injEq] at H
     obtain ⟨rfl, rfl⟩ := H
     go_wp2_with (first | ((with_reducible refine gate_callee (f := 121) rfl ?_); refine gl_ (some 115) Tryd.func121 #[.slice Ao31 x12_1.length co31] ?_; (with_reducible refine (ratio_trim.calls k2 (fun k_ => some k_ = (.slice Ao31 x12_1.length co31 : Value).ownBlock) _ _ x12_1 t250 _ ?side1 A60.out).mono ?_); (case side1 => exact R_V (R_tight rfl (HO_12.out))); rintro e w62 ⟨v251, rfl, ho0, hb⟩; refine ⟨_, rfl, ?_⟩; refine nx5_ (R_below (rU_ HO_10.out) hb) (R_below (rU_ HO_12.out) hb) (R_below (rU_ HO_15.out) hb) (V_lower (V_mono (ok' := fun k_ => (w.heap.size ≤ k_) ∧ some k_ ≠ (v229 : Value).ownBlock ∧ some k_ ≠ (v245 : Value).ownBlock) ho0 (fun k_ hk_ => ⟨Or.elim hk_ (fun hs_ => ((HO_12.out).1 k_ hs_.symm).1) (fun hn_ => (Nat.le_trans (below_size (bU_ HB.out)) hn_)), Or.elim hk_ (fun hs_ => ((HO_12.out).1 k_ hs_.symm).2.1) (fun hn_ => (fresh' (R_lt (rU_ HO_10.out)) k_ hn_)), Or.elim hk_ (fun hs_ => ((HO_12.out).1 k_ hs_.symm).2.2) (fun hn_ => (fresh' (R_lt (rU_ HO_15.out)) k_ hn_))⟩)) (below_size (bU_ HB.out))) (below_step (bU_ HB.out) hb) ?_; clear HO_10 HO_12 HO_15 HB; intro HO_10 HO_12 HO_15 HO252 HB; clear hb ho0; obtain ⟨Ao63, co63, eo63⟩ := R_slice HO_15.out; subst eo63) | ((with_reducible refine gate_callee (f := 121) rfl ?_); refine gl_ (some 117) Tryd.func121 #[.slice Ao63 x15_2.length co63] ?_; (with_reducible refine (ratio_trim.calls k2 (fun k_ => some k_ = (.slice Ao63 x15_2.length co63 : Value).ownBlock) _ _ x15_2 t253 _ ?side1 A61.out).mono ?_); (case side1 => exact R_V (R_tight rfl (HO_15.out))); rintro e w64 ⟨v254, rfl, ho0, hb⟩; refine ⟨_, rfl, ?_⟩; refine nx6_ (R_below (rU_ HO_10.out) hb) (R_below (rU_ HO_12.out) hb) (R_below (rU_ HO_15.out) hb) (V_below (vU_ HO252.out) hb) (V_lower (V_mono (ok' := fun k_ => (w.heap.size ≤ k_) ∧ some k_ ≠ (v229 : Value).ownBlock ∧ some k_ ≠ (.slice Ao31 x12_1.length co31 : Value).ownBlock) ho0 (fun k_ hk_ => ⟨Or.elim hk_ (fun hs_ => ((HO_15.out).1 k_ hs_.symm).1) (fun hn_ => (Nat.le_trans (below_size (bU_ HB.out)) hn_)), Or.elim hk_ (fun hs_ => ((HO_15.out).1 k_ hs_.symm).2.1) (fun hn_ => (fresh' (R_lt (rU_ HO_10.out)) k_ hn_)), Or.elim hk_ (fun hs_ => ((HO_15.out).1 k_ hs_.symm).2.2) (fun hn_ => (fresh' (R_lt (rU_ HO_12.out)) k_ hn_))⟩)) (below_size (bU_ HB.out))) (below_step (bU_ HB.out) hb) ?_; clear HO_10 HO_12 HO_15 HO252 HB; intro HO_10 HO_12 HO_15 HO252 HO255 HB; clear hb ho0))
     go_ret2
     exact ⟨_, _, by first | rfl | (simp [errW_none, errW_some] <;> rfl) | (simp only [← hji13, ← hji21]; first | rfl | (simp [errW_none, errW_some] <;> rfl)) | (simp [*, errW_none, errW_some] <;> rfl), by (with_reducible repeat (first | apply Kd.V_alloc | apply Kd.V_drewN | apply V_drew)); exact V_mono HO252.out (fun _ hk => hk.1), by (with_reducible repeat (first | apply Kd.V_alloc | apply Kd.V_drewN | apply V_drew)); exact V_mono HO255.out (fun _ hk => hk.1), bU_ HB.out⟩

def ratio_gcd.l0 : Nat → List Int → List Int → Option (List Int)
 | 0, _, _ => none
 | k + 1, x0, x1 => if (x1.length : Int) > 0 then ((ratio_div.f k x0 x1).bind fun bt164 => (ratio_gcd.l0 k x1 bt164.2)) else ((api_Nat_uint32.f x0).bind fun t170 => (some t170))
def ratio_gcd.f (k : Nat) (l0 : List Int) (l1 : List Int) : Option (List Int) := ratio_gcd.l0 k l0 l1
theorem ratio_gcd.mono_l : ∀ k, (∀ y0 y1, LeO (ratio_gcd.l0 k y0 y1) (ratio_gcd.l0 (k + 1) y0 y1))
 | 0 => fun _ _ r h => by simp [ratio_gcd.l0] at h
 | k + 1 => by
  have ih0 := ratio_gcd.mono_l k
  ·intro y0 y1
   unfold ratio_gcd.l0
   with_reducible repeat' first | apply ih0 | apply ratio_div.mono | exact LeO.refl _ | exact LeO.none _ | refine LeO.ite ?_ ?_ | refine LeO.bind ?_ (fun _ => ?_)
theorem ratio_gcd.mono : ∀ a0 a1 k, LeO (ratio_gcd.f k a0 a1) (ratio_gcd.f (k + 1) a0 a1) := by
 intro a0 a1 k
 have ih0 := ratio_gcd.mono_l k
 unfold ratio_gcd.f
 with_reducible repeat' first | apply ih0 | apply ratio_div.mono | exact LeO.refl _ | exact LeO.none _ | refine LeO.ite ?_ ?_ | refine LeO.bind ?_ (fun _ => ?_)
set_option maxHeartbeats 8000000 in
set_option maxRecDepth 100000 in
theorem ratio_gcd.calls (k : Nat) (P0_ : Nat → Prop) (A0 : Option Addr) (c0 : Nat) (l0 : List Int) (P1_ : Nat → Prop) (A1 : Option Addr) (c1 : Nat) (l1 : List Int) (r : List Int) (w : World) (hs0 : Kd.V (Kd.int .u32) 115 w w.heap.size (fun k_ => P0_ k_) (.slice A0 l0.length c0) l0) (hs1 : Kd.V (Kd.int .u32) 115 w w.heap.size (fun k_ => P1_ k_) (.slice A1 l1.length c1) l1) (h : ratio_gcd.f k l0 l1 = some r) :
  Calls Tryd.prog 92 #[.slice A0 l0.length c0, .slice A1 l1.length c1] w fun e w' => ∃ v0_ : Value, e = .returned (v0_) ∧ Kd.R (Kd.int .u32) 115 w' w.heap.size (fun k_ => (w.heap.size ≤ k_)) v0_ r ∧ Below w.heap.size w w' := by
 have HO0 := ak (show Kd.V (Kd.int .u32) 115 w w.heap.size (fun k_ => ((P0_ k_ ∨ P1_ k_) ∨ w.heap.size ≤ k_)) (.slice A0 l0.length c0) l0 from V_mono hs0 (fun k_ hk => .inl (.inl hk)))
 have HO1 := ak (show Kd.V (Kd.int .u32) 115 w w.heap.size (fun k_ => ((P0_ k_ ∨ P1_ k_) ∨ w.heap.size ≤ k_)) (.slice A1 l1.length c1) l1 from V_mono hs1 (fun k_ hk => .inl (.inr hk)))
 have HB := ak (Below.refl w.heap.size w)
 have H : (ratio_gcd.l0 k l0 l1) = some r := h
 clear h
 have H' := ak H
 clear H
 go_enter Tryd.func92, Tryd.ntmps92
 go_wp2
 go_loopg [0, 1] k (fun kq v0 v1 w' => ∃ (x0_1 : List Int) (x1_1 : List Int), Aside0 (ratio_gcd.l0 kq x0_1 x1_1 = some r) ∧ Aside0 (kq ≤ k) ∧ Aside0 (Kd.V (Kd.int .u32) 115 w' w.heap.size (fun k_ => ((P0_ k_ ∨ P1_ k_) ∨ w.heap.size ≤ k_)) v0 x0_1) ∧ Aside0 (Kd.V (Kd.int .u32) 115 w' w.heap.size (fun k_ => ((P0_ k_ ∨ P1_ k_) ∨ w.heap.size ≤ k_)) v1 x1_1) ∧ Aside0 (Below w.heap.size w w'))
 case atStart => exact ⟨(l0), (l1), H', ⟨Nat.le_refl _⟩, ⟨vU_ HO0.out⟩, ⟨vU_ HO1.out⟩, ⟨bU_ HB.out⟩⟩
 case round =>
  clear H'
  (try clear c1); (try clear p2)
  obtain ⟨x0_1, x1_1, HA, HK1, HO_0, HO_1, HB⟩ := hrel
  cases gk with
  | zero => exact absurd HA.out (by simp [ratio_gcd.l0])
  | succ k1 =>
   have H := HA.out
   clear HA
   simp only [ratio_gcd.l0] at H
   by_cases c3 : (x1_1.length : Int) > 0
   ·rw [if_pos c3] at H
    have c3b0 : decide (0 < (x1_1.length : Int)) = true := decide_eq_true c3
    have c3b1 : decide (0 < x1_1.length) = true := decide_eq_true (by omega)
    clear c3
    revert H
    refine bd2_ fun t164 t167 A4 H => ?_
    try dsimp only at H
    have H' := ak H
    clear H
    obtain ⟨Ao5, co5, eo5⟩ := V_slice HO_1.out
    subst eo5
    obtain ⟨Ao6, co6, eo6⟩ := V_slice HO_0.out
    subst eo6
    go_wp2_with (first | ((with_reducible refine gate_callee (f := 122) rfl ?_); refine gl_ (some 13) Tryd.func122 #[.slice Ao6 x0_1.length co6, .slice Ao5 x1_1.length co5] ?_; (with_reducible refine (ratio_div.calls k1 _ _ x0_1 _ _ x1_1 t164 t167 _ ?side1 ?side2 ?side3 ?side4 A4.out).mono ?_); (case side1 => exact cU_ ((V_reads' HO_0.out).2.2)); (case side2 => exact (V_reads' HO_0.out).2.1); (case side3 => exact cU_ ((V_reads' HO_1.out).2.2)); (case side4 => exact (V_reads' HO_1.out).2.1); rintro e w7 ⟨v165, v168, rfl, ho0, ho1, hb⟩; refine ⟨_, rfl, ?_⟩; refine nx5_ (V_below (vU_ HO_0.out) hb) (V_below (vU_ HO_1.out) hb) (V_lower (V_mono (ok' := fun k_ => ((P0_ k_ ∨ P1_ k_) ∨ w.heap.size ≤ k_)) ho0 (fun k_ hk_ => (.inr (Nat.le_trans (below_size (bU_ HB.out)) hk_)))) (below_size (bU_ HB.out))) (V_lower (V_mono (ok' := fun k_ => ((P0_ k_ ∨ P1_ k_) ∨ w.heap.size ≤ k_)) ho1 (fun k_ hk_ => (.inr (Nat.le_trans (below_size (bU_ HB.out)) hk_)))) (below_size (bU_ HB.out))) (below_step (bU_ HB.out) hb) ?_; clear HO_0 HO_1 HB; intro HO_0 HO_1 HO166 HO169 HB; clear hb ho0 ho1))
    go_roundg k1
    case measure => have := HK1.out; omega
    case rel => exact ⟨(x1_1), (t167), H', ⟨by have := HK1.out; omega⟩, ⟨vU_ HO_1.out⟩, ⟨vU_ HO169.out⟩, ⟨bU_ HB.out⟩⟩
   rw [if_neg c3] at H
   have c3b0 : decide (0 < (x1_1.length : Int)) = false := decide_eq_false c3
   have c3b1 : decide (0 < x1_1.length) = false := decide_eq_false (by omega)
   clear c3
   revert H
   refine bd_ fun t170 A8 H => ?_
   obtain rfl := Option.some.inj H
   obtain ⟨Ao9, co9, eo9⟩ := V_slice HO_1.out
   subst eo9
   obtain ⟨Ao10, co10, eo10⟩ := V_slice HO_0.out
   subst eo10
   go_wp2_with (first | ((with_reducible refine gate_callee (f := 123) rfl ?_); refine gl_ (some 19) Tryd.func123 #[.slice Ao10 x0_1.length co10] ?_; (with_reducible refine (api_Nat_uint32.calls _ _ x0_1 t170 _ ?side1 ?side2 A8.out).mono ?_); (case side1 => exact cU_ ((V_reads' HO_0.out).2.2)); (case side2 => exact (V_reads' HO_0.out).2.1); rintro e w11 ⟨v171, rfl, ho0, hb⟩; refine ⟨_, rfl, ?_⟩; refine nx4_ (V_elder' (vU_ HO_0.out) (R_base ho0) hb) (V_elder' (vU_ HO_1.out) (R_base ho0) hb) (R_lower (R_newM (M := fun k_ => (w.heap.size ≤ k_)) ho0 (below_size (bU_ HB.out)) (fun k_ h_ => h_)) (below_size (bU_ HB.out))) (below_step (bU_ HB.out) hb) ?_; clear HO_0 HO_1 HB; intro HO_0 HO_1 HO172 HB; clear hb ho0))
   go_ret
   exact ⟨_, eW_, R_mono (rU_ HO172.out) (fun _ hk => hk.1), bU_ HB.out⟩

end Go.Proofs.YtbjeemlbjkmhiaaDoor.Q

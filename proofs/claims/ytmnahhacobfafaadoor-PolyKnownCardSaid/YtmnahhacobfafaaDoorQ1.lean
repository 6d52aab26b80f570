import Derived.Test.YtmnahhacobfafaaDoorQ0
namespace Go.Proofs.YtmnahhacobfafaaDoor.Q
open Go.RowKit Go.Proofs.YtmnahhacobfafaaDoorW.PrintWords Go.Proofs.YtmnahhacobfafaaDoorW.PrintLast Go.Proofs.YtmnahhacobfafaaDoorW.PrintMore
open Kd (R_below R_mono R_lower R_new' R_elder' R_base R_lt R_slice R_reads' R_tight R_make C_below R_drew)
attribute [local go_sem] max2_int min2_int max_two min_two max_three min_three max_four min_four   -- for this text's walks alone
set_option linter.unusedVariables false
set_option linter.unusedSimpArgs false

def field_Valid.f (a0 : Int) : Option (Bool) := if a0 ≥ 0 then (some (decide (a0 < 4))) else (some false)
set_option maxHeartbeats 8000000 in
set_option maxRecDepth 100000 in
theorem field_Valid.calls (a0 : Int) (r : Bool) (w : World) (h : field_Valid.f a0 = some r) :
  Calls Tryd.prog 47 #[.int .i64 a0] w fun e w' => e = .returned (.bool r) ∧ Drawn0 w w' := by
 have H : (if a0 ≥ 0 then (some (decide (a0 < 4))) else (some false)) = some r := h
 clear h
 by_cases c2 : a0 ≥ 0
 ·rw [if_pos c2] at H
  have c2b0 : decide (0 ≤ a0) = true := decide_eq_true c2
  clear c2
  obtain rfl := Option.some.inj H
  go_enter Tryd.func47, Tryd.ntmps47
  go_wp2
  go_ret
  exact ⟨by first | rfl | (simp; done) | (simp [*]; done), by repeat (first | exact Drawn0.refl _ | apply Drawn0.step)⟩
 rw [if_neg c2] at H
 have c2b0 : decide (0 ≤ a0) = false := decide_eq_false c2
 clear c2
 obtain rfl := Option.some.inj H
 go_enter Tryd.func47, Tryd.ntmps47
 go_wp2
 go_ret
 exact ⟨by first | rfl | (simp; done) | (simp [*]; done), by repeat (first | exact Drawn0.refl _ | apply Drawn0.step)⟩


def field_P.f (a0 : Int) : Option (Int) := some (pOf a0)
theorem field_P.calls (a0 : Int) (r : Int) (w : World) (hG : Fld w) (h : field_P.f a0 = some r) :
  Calls Tryd.prog 58 #[.int .i64 a0] w fun e w' => e = .returned (.int .u64 r) ∧ Below w.heap.size w w' := by
 obtain rfl := Option.some.inj h
 clear h
 have hfl := fld0
 go_enter Tryd.func58, Tryd.ntmps58
 go_wp2_with (go_at_call 67; (with_reducible refine (of_any a0 _ hG).mono ?_); rintro e w' ⟨va, vn, vc, rfl, hb⟩)
 go_ret
 exact ⟨rfl, hb⟩

def field_Reduce.f (a0 : Int) (a1 : Int) : Option (Int) := (field_Valid.f a0).bind fun t103 => (if t103 = true then ((field_P.f a0).bind fun t104 => (if t104 = 0 then (none) else (some (Int.tmod a1 t104)))) else (some 0))
set_option maxHeartbeats 8000000 in
set_option maxRecDepth 100000 in
theorem field_Reduce.calls (a0 : Int) (a1 : Int) (r : Int) (w : World) (hG : Fld w) (h : field_Reduce.f a0 a1 = some r) :
  Calls Tryd.prog 26 #[.int .i64 a0, .int .u64 a1] w fun e w' => e = .returned (.int .u64 r) ∧ Below w.heap.size w w' := by
 have HG := ak hG
 clear hG
 have HB := ak (Below.refl w.heap.size w)
 have H := h
 clear h
 unfold field_Reduce.f at H
 revert H
 refine bd_ fun t103 A3 H => ?_
 by_cases c4 : t103 = true
 ·subst c4
  rw [if_pos rfl] at H
  revert H
  refine bd_ fun t104 A5 H => ?_
  by_cases c6 : t104 = 0
  ·rw [if_pos c6] at H
   exact absurd H (by simp)
  rw [if_neg c6] at H
  have c6b0 := beq_eq_false_iff_ne.mpr c6
  have c6b1 := bne_iff_ne.mpr c6
  obtain rfl := Option.some.inj H
  go_enter Tryd.func26, Tryd.ntmps26
  go_wp2_with (first | ((with_reducible refine gate_callee (f := 47) rfl ?_); refine gl_ (some 6) Tryd.func47 #[.int .i64 a0] ?_; (with_reducible refine (field_Valid.calls a0 true _ A3.out).mono ?_); rintro e w' ⟨rfl, ⟨nd, rfl⟩⟩; refine ⟨_, rfl, ?_⟩) | ((with_reducible refine gate_callee (f := 58) rfl ?_); refine gl_ (some 10) Tryd.func58 #[.int .i64 a0] ?_; (with_reducible refine (field_P.calls a0 t104 _ ?side1 A5.out).mono ?_); (case side1 => exact fU_ HG.out HB.out); rintro e w7 ⟨rfl, hb⟩; refine ⟨_, rfl, ?_⟩; refine nx1_ (below_step (bU_ HB.out) hb) ?_; clear HB; intro HB; clear hb))
  go_ret
  exact ⟨eW_, bU_ HB.out⟩
 replace c4 := Bool.eq_false_iff.mpr c4
 subst c4
 rw [if_neg (show ¬ (false = true) by decide)] at H
 obtain rfl := Option.some.inj H
 go_enter Tryd.func26, Tryd.ntmps26
 go_wp2_with (first | ((with_reducible refine gate_callee (f := 47) rfl ?_); refine gl_ (some 6) Tryd.func47 #[.int .i64 a0] ?_; (with_reducible refine (field_Valid.calls a0 false _ A3.out).mono ?_); rintro e w' ⟨rfl, ⟨nd, rfl⟩⟩; refine ⟨_, rfl, ?_⟩))
 go_ret
 exact ⟨eW_, bU_ HB.out⟩

def poly_trim.l0 : Nat → List Int → Int → Option (List Int)
 | 0, _, _ => none
 | k + 1, x0, x3 => if x3 > 0 then (if 0 ≤ (wrap64 (x3 - 1)) then (if (wrap64 (x3 - 1)) < (x0.length : Int) then (if (rd x0 (wrap64 (x3 - 1))) = 0 then (poly_trim.l0 k x0 (wrap64 (x3 - 1))) else (if 0 ≤ x3 then (if x3 ≤ (x0.length : Int) then (some (x0.take (x3 : Int).toNat)) else (none)) else (none))) else (none)) else (none)) else (if 0 ≤ x3 then (if x3 ≤ (x0.length : Int) then (some (x0.take (x3 : Int).toNat)) else (none)) else (none))
def poly_trim.f (k : Nat) (l0 : List Int) : Option (List Int) := poly_trim.l0 k l0 (l0.length : Int)
theorem poly_trim.mono_l : ∀ k, (∀ y0 y1, LeO (poly_trim.l0 k y0 y1) (poly_trim.l0 (k + 1) y0 y1))
 | 0 => fun _ _ r h => by simp [poly_trim.l0] at h
 | k + 1 => by
  have ih0 := poly_trim.mono_l k
  ·intro y0 y1
   unfold poly_trim.l0
   with_reducible repeat' first | apply ih0 | exact LeO.refl _ | exact LeO.none _ | refine LeO.ite ?_ ?_ | refine LeO.bind ?_ (fun _ => ?_)
theorem poly_trim.mono : ∀ a0 k, LeO (poly_trim.f k a0) (poly_trim.f (k + 1) a0) := by
 intro a0 k
 have ih0 := poly_trim.mono_l k
 unfold poly_trim.f
 with_reducible repeat' first | apply ih0 | exact LeO.refl _ | exact LeO.none _ | refine LeO.ite ?_ ?_ | refine LeO.bind ?_ (fun _ => ?_)
set_option maxHeartbeats 8000000 in
set_option maxRecDepth 100000 in
theorem poly_trim.calls (k : Nat) (P0_ : Nat → Prop) (u9000_ : Value) (l0 : List Int) (r : List Int) (w0 w : World) (hB : Below w0.heap.size w0 w) (ho0 : Kd.R (Kd.int .u64) 32 w w0.heap.size P0_ u9000_ l0) (h : poly_trim.f k l0 = some r) :
  Calls Tryd.prog 56 #[u9000_] w fun e w' => ∃ v0_ : Value, e = .returned (v0_) ∧ Kd.R (Kd.int .u64) 32 w' w0.heap.size (fun k_ => (P0_ k_ ∨ w.heap.size ≤ k_)) v0_ r ∧ Below w0.heap.size w0 w' ∧ Kept w w' (fun k_ => P0_ k_) := by
 have HO0 := ak (show Kd.R (Kd.int .u64) 32 w w0.heap.size (fun k_ => (P0_ k_ ∨ w.heap.size ≤ k_)) u9000_ l0 from R_mono ho0 (fun k_ hk => (.inl hk)))
 have HK := ak (Kept.refl w (fun k_ => P0_ k_))
 have HW0 := ak hB.size
 have HB := ak hB
 clear hB
 have H : (poly_trim.l0 k l0 (l0.length : Int)) = some r := h
 clear h
 have H' := ak H
 clear H
 obtain ⟨Ao2, co2, eo2⟩ := R_slice HO0.out
 subst eo2
 go_enter Tryd.func56, Tryd.ntmps56
 go_wp2
 go_loopg [3] k (fun kq v3 w' => ∃ (x3_1 : Int), v3 = .int .i64 x3_1 ∧ Aside0 (poly_trim.l0 kq l0 x3_1 = some r) ∧ Aside0 (kq ≤ k) ∧ Aside0 (Kd.R (Kd.int .u64) 32 w' w0.heap.size (fun k_ => (P0_ k_ ∨ w.heap.size ≤ k_)) (.slice Ao2 l0.length co2) l0) ∧ Aside0 (Kept w w' (fun k_ => P0_ k_)) ∧ Aside0 (Below w0.heap.size w0 w'))
 case atStart => exact ⟨((l0.length : Int)), gb_, H', ⟨Nat.le_refl _⟩, ⟨rU_ HO0.out⟩, ⟨kK_⟩, ⟨bU_ HB.out⟩⟩
 case round =>
  clear H'
  try clear p2
  obtain ⟨x3_1, rfl, HA, HK1, HO_0, HK, HB⟩ := hrel
  cases gk with
  | zero => exact absurd HA.out (by simp [poly_trim.l0])
  | succ k1 =>
   have H := HA.out
   clear HA
   simp only [poly_trim.l0] at H
   by_cases c3 : x3_1 > 0
   ·rw [if_pos c3] at H
    have c3b0 : decide (0 < x3_1) = true := decide_eq_true c3
    clear c3
    obtain ⟨ji4, hji4⟩ : ∃ j_ : Int, (wrap64 (x3_1 - 1)) = j_ := ⟨_, rfl⟩
    first | rw [hji4] at H | simp only [hji4] at H
    have hji4w : (IntKind.i64.wrap (x3_1 - 1)) = ji4 := (i64_w _).trans hji4
    obtain ⟨c5, H⟩ : (0 ≤ (ji4)) ∧ _ := it_ H
    have c5b0 := decide_eq_true c5
    clear c5
    obtain ⟨c6, H⟩ : ((ji4) < (l0.length : Int)) ∧ _ := it_ H
    have c6b0 := decide_eq_true c6
    clear c6
    by_cases c7 : (rd l0 (ji4)) = 0
    ·rw [if_pos c7] at H
     have c7b0 := beq_iff_eq.mpr c7
     have c7b1 := bne_eq_false_iff_eq.mpr c7
     clear c7
     have H' := ak H
     clear H
     have p105 : 0 ≤ ((ji4) : Int) := od_
     have q105 : (ji4) < (l0.length : Int) := od_
     obtain ⟨ad105, e105, hx105_0⟩ := Kd.at_int (R_reads' HO_0.out).2.2 (ji4) p105 q105
     cases e105
     replace p105 := eq_true p105
     replace q105 := eq_true q105
     go_wp2
     go_roundg k1
     case measure => have := HK1.out; omega
     case rel => exact ⟨(ji4), (by first | rfl | (simp; done) | (simp only [← hji4] <;> (first | rfl | simp)) | (simp [*]; done)), H', ⟨by have := HK1.out; omega⟩, ⟨rU_ HO_0.out⟩, ⟨kK_⟩, ⟨bU_ HB.out⟩⟩
    rw [if_neg c7] at H
    have c7b0 := beq_eq_false_iff_ne.mpr c7
    have c7b1 := bne_iff_ne.mpr c7
    obtain ⟨c8, H⟩ : (0 ≤ x3_1) ∧ _ := it_ H
    have c8b0 := eq_true c8
    have c8b1 := decide_eq_true c8
    clear c8
    obtain ⟨c9, H⟩ : (x3_1 ≤ (l0.length : Int)) ∧ _ := it_ H
    have c9b0 := eq_true c9
    have c9b1 := decide_eq_true c9
    clear c9
    obtain ⟨y106, hy106⟩ : ∃ y_ : List Int, y_ = (l0.take (x3_1 : Int).toNat) := ⟨_, rfl⟩
    first | rw [Option.bind_some, ← hy106] at H | rw [← hy106] at H
    have Ny106 := ak hy106
    clear hy106
    obtain rfl := Option.some.inj H
    have p105 : 0 ≤ ((ji4) : Int) := od_
    have q105 : (ji4) < (l0.length : Int) := od_
    obtain ⟨ad105, e105, hx105_0⟩ := Kd.at_int (R_reads' HO_0.out).2.2 (ji4) p105 q105
    cases e105
    replace p105 := eq_true p105
    replace q105 := eq_true q105
    have q10 : (x3_1 : Int) ≤ ((l0.length : Int) : Int) := od_
    obtain ⟨i010, hi010, _, hsz10, _⟩ := info_parts info32
    have hcut10 := cut_to (P := Tryd.prog) 22 32 .i64 Tryd.underlying22 hi010 (some ad105) l0.length co2 x3_1 od_ q10 (R_reads' HO_0.out).2.1
    have hr10 := Kd.R_take (m := (x3_1 : Int).toNat) HO_0.out (by omega)
    have hy10 : y106.length = (x3_1 : Int).toNat := (by rw [Ny106.out, List.length_take]; omega)
    rw [← Ny106.out] at hr10
    rw [← hy10] at hr10 hcut10
    clear hy10 hi010 hsz10 HO_0
    have HO108 := ak hr10
    clear hr10
    replace q10 := eq_true q10
    go_wp2
    go_ret
    exact ⟨_, by first | rfl | (simp [errW_none, errW_some] <;> rfl) | (simp only [← hji4]; first | rfl | (simp [errW_none, errW_some] <;> rfl)) | (simp [*, errW_none, errW_some] <;> rfl), rU_ HO108.out, bU_ HB.out, kK_⟩
   rw [if_neg c3] at H
   have c3b0 : decide (0 < x3_1) = false := decide_eq_false c3
   clear c3
   obtain ⟨c11, H⟩ : (0 ≤ x3_1) ∧ _ := it_ H
   have c11b0 := eq_true c11
   have c11b1 := decide_eq_true c11
   clear c11
   obtain ⟨c12, H⟩ : (x3_1 ≤ (l0.length : Int)) ∧ _ := it_ H
   have c12b0 := eq_true c12
   have c12b1 := decide_eq_true c12
   clear c12
   obtain ⟨y109, hy109⟩ : ∃ y_ : List Int, y_ = (l0.take (x3_1 : Int).toNat) := ⟨_, rfl⟩
   first | rw [Option.bind_some, ← hy109] at H | rw [← hy109] at H
   have Ny109 := ak hy109
   clear hy109
   obtain rfl := Option.some.inj H
   have q13 : (x3_1 : Int) ≤ ((l0.length : Int) : Int) := od_
   obtain ⟨i013, hi013, _, hsz13, _⟩ := info_parts info32
   have hcut13 := cut_to (P := Tryd.prog) 22 32 .i64 Tryd.underlying22 hi013 Ao2 l0.length co2 x3_1 od_ q13 (R_reads' HO_0.out).2.1
   have hr13 := Kd.R_take (m := (x3_1 : Int).toNat) HO_0.out (by omega)
   have hy13 : y109.length = (x3_1 : Int).toNat := (by rw [Ny109.out, List.length_take]; omega)
   rw [← Ny109.out] at hr13
   rw [← hy13] at hr13 hcut13
   clear hy13 hi013 hsz13 HO_0
   have HO111 := ak hr13
   clear hr13
   replace q13 := eq_true q13
   go_wp2
   go_ret
   exact ⟨_, eW_, rU_ HO111.out, bU_ HB.out, kK_⟩

set_option maxHeartbeats 8000000 in
set_option maxRecDepth 100000 in
theorem poly_trim.callsB (k : Nat) (P0_ : Nat → Prop) (b0_ : Nat) (u9000_ : Value) (l0 : List Int) (r : List Int) (w : World) (ho0 : Kd.R (Kd.int .u64) 32 w b0_ P0_ u9000_ l0) (h : poly_trim.f k l0 = some r) :
  Calls Tryd.prog 56 #[u9000_] w fun e w' => ∃ v0_ : Value, e = .returned (v0_) ∧ Kd.R (Kd.int .u64) 32 w' b0_ P0_ v0_ r ∧ w' = w := by
 have HO0 := ak (show Kd.R (Kd.int .u64) 32 w b0_ P0_ u9000_ l0 from ho0)
 have H : (poly_trim.l0 k l0 (l0.length : Int)) = some r := h
 clear h
 have H' := ak H
 clear H
 obtain ⟨Ao2, co2, eo2⟩ := R_slice HO0.out
 subst eo2
 go_enter Tryd.func56, Tryd.ntmps56
 go_wp2
 go_loopg [3] k (fun kq v3 w' => ∃ (x3_1 : Int), v3 = .int .i64 x3_1 ∧ Aside0 (poly_trim.l0 kq l0 x3_1 = some r) ∧ Aside0 (kq ≤ k) ∧ Aside0 (Kd.R (Kd.int .u64) 32 w' b0_ P0_ (.slice Ao2 l0.length co2) l0) ∧ Aside0 (w' = w))
 case atStart => exact ⟨((l0.length : Int)), gb_, H', ⟨Nat.le_refl _⟩, ⟨rU_ HO0.out⟩, ⟨rfl⟩⟩
 case round =>
  clear H'
  try clear p2
  obtain ⟨x3_1, rfl, HA, HK1, HO_0, HWW⟩ := hrel
  cases gk with
  | zero => exact absurd HA.out (by simp [poly_trim.l0])
  | succ k1 =>
   have H := HA.out
   clear HA
   simp only [poly_trim.l0] at H
   by_cases c3 : x3_1 > 0
   ·rw [if_pos c3] at H
    have c3b0 : decide (0 < x3_1) = true := decide_eq_true c3
    clear c3
    obtain ⟨ji4, hji4⟩ : ∃ j_ : Int, (wrap64 (x3_1 - 1)) = j_ := ⟨_, rfl⟩
    first | rw [hji4] at H | simp only [hji4] at H
    have hji4w : (IntKind.i64.wrap (x3_1 - 1)) = ji4 := (i64_w _).trans hji4
    obtain ⟨c5, H⟩ : (0 ≤ (ji4)) ∧ _ := it_ H
    have c5b0 := decide_eq_true c5
    clear c5
    obtain ⟨c6, H⟩ : ((ji4) < (l0.length : Int)) ∧ _ := it_ H
    have c6b0 := decide_eq_true c6
    clear c6
    by_cases c7 : (rd l0 (ji4)) = 0
    ·rw [if_pos c7] at H
     have c7b0 := beq_iff_eq.mpr c7
     have c7b1 := bne_eq_false_iff_eq.mpr c7
     clear c7
     have H' := ak H
     clear H
     have p105 : 0 ≤ ((ji4) : Int) := od_
     have q105 : (ji4) < (l0.length : Int) := od_
     obtain ⟨ad105, e105, hx105_0⟩ := Kd.at_int (R_reads' HO_0.out).2.2 (ji4) p105 q105
     cases e105
     replace p105 := eq_true p105
     replace q105 := eq_true q105
     go_wp2
     go_roundg k1
     case measure => have := HK1.out; omega
     case rel => exact ⟨(ji4), (by first | rfl | (simp; done) | (simp only [← hji4] <;> (first | rfl | simp)) | (simp [*]; done)), H', ⟨by have := HK1.out; omega⟩, ⟨rU_ HO_0.out⟩, HWW⟩
    rw [if_neg c7] at H
    have c7b0 := beq_eq_false_iff_ne.mpr c7
    have c7b1 := bne_iff_ne.mpr c7
    obtain ⟨c8, H⟩ : (0 ≤ x3_1) ∧ _ := it_ H
    have c8b0 := eq_true c8
    have c8b1 := decide_eq_true c8
    clear c8
    obtain ⟨c9, H⟩ : (x3_1 ≤ (l0.length : Int)) ∧ _ := it_ H
    have c9b0 := eq_true c9
    have c9b1 := decide_eq_true c9
    clear c9
    obtain ⟨y106, hy106⟩ : ∃ y_ : List Int, y_ = (l0.take (x3_1 : Int).toNat) := ⟨_, rfl⟩
    first | rw [Option.bind_some, ← hy106] at H | rw [← hy106] at H
    have Ny106 := ak hy106
    clear hy106
    obtain rfl := Option.some.inj H
    have p105 : 0 ≤ ((ji4) : Int) := od_
    have q105 : (ji4) < (l0.length : Int) := od_
    obtain ⟨ad105, e105, hx105_0⟩ := Kd.at_int (R_reads' HO_0.out).2.2 (ji4) p105 q105
    cases e105
    replace p105 := eq_true p105
    replace q105 := eq_true q105
    have q10 : (x3_1 : Int) ≤ ((l0.length : Int) : Int) := od_
    obtain ⟨i010, hi010, _, hsz10, _⟩ := info_parts info32
    have hcut10 := cut_to (P := Tryd.prog) 22 32 .i64 Tryd.underlying22 hi010 (some ad105) l0.length co2 x3_1 od_ q10 (R_reads' HO_0.out).2.1
    have hr10 := Kd.R_take (m := (x3_1 : Int).toNat) HO_0.out (by omega)
    have hy10 : y106.length = (x3_1 : Int).toNat := (by rw [Ny106.out, List.length_take]; omega)
    rw [← Ny106.out] at hr10
    rw [← hy10] at hr10 hcut10
    clear hy10 hi010 hsz10 HO_0
    have HO108 := ak hr10
    clear hr10
    replace q10 := eq_true q10
    go_wp2
    go_ret
    exact ⟨_, by first | rfl | (simp [errW_none, errW_some] <;> rfl) | (simp only [← hji4]; first | rfl | (simp [errW_none, errW_some] <;> rfl)) | (simp [*, errW_none, errW_some] <;> rfl), rU_ HO108.out, HWW.out⟩
   rw [if_neg c3] at H
   have c3b0 : decide (0 < x3_1) = false := decide_eq_false c3
   clear c3
   obtain ⟨c11, H⟩ : (0 ≤ x3_1) ∧ _ := it_ H
   have c11b0 := eq_true c11
   have c11b1 := decide_eq_true c11
   clear c11
   obtain ⟨c12, H⟩ : (x3_1 ≤ (l0.length : Int)) ∧ _ := it_ H
   have c12b0 := eq_true c12
   have c12b1 := decide_eq_true c12
   clear c12
   obtain ⟨y109, hy109⟩ : ∃ y_ : List Int, y_ = (l0.take (x3_1 : Int).toNat) := ⟨_, rfl⟩
   first | rw [Option.bind_some, ← hy109] at H | rw [← hy109] at H
   have Ny109 := ak hy109
   clear hy109
   obtain rfl := Option.some.inj H
   have q13 : (x3_1 : Int) ≤ ((l0.length : Int) : Int) := od_
   obtain ⟨i013, hi013, _, hsz13, _⟩ := info_parts info32
   have hcut13 := cut_to (P := Tryd.prog) 22 32 .i64 Tryd.underlying22 hi013 Ao2 l0.length co2 x3_1 od_ q13 (R_reads' HO_0.out).2.1
   have hr13 := Kd.R_take (m := (x3_1 : Int).toNat) HO_0.out (by omega)
   have hy13 : y109.length = (x3_1 : Int).toNat := (by rw [Ny109.out, List.length_take]; omega)
   rw [← Ny109.out] at hr13
   rw [← hy13] at hr13 hcut13
   clear hy13 hi013 hsz13 HO_0
   have HO111 := ak hr13
   clear hr13
   replace q13 := eq_true q13
   go_wp2
   go_ret
   exact ⟨_, eW_, rU_ HO111.out, HWW.out⟩

def poly_Normal.l0 : Nat → Int → List Int → Int → Int → Option (List Int)
 | 0, _, _, _, _ => none
 | k + 1, x0, x5, x17, x18 => if x18 < x17 then (if 0 ≤ x18 then (if x18 < (x5.length : Int) then ((field_Reduce.f x0 (rd x5 x18)).bind fun t119 => (poly_Normal.l0 k x0 (x5.set (x18 : Int).toNat t119) x17 (wrap64 (x18 + 1)))) else (none)) else (none)) else ((poly_trim.f k x5).bind fun t121 => (some t121))
def poly_Normal.f (k : Nat) (a0 : Int) (l1 : List Int) : Option (List Int) := (field_Valid.f a0).bind fun t112 => (if t112 = true then (if 0 ≤ (l1.length : Int) then (if ((l1.length : Int) : Int).toNat ≤ 35184372088832 then ((some (List.replicate ((l1.length : Int) : Int).toNat 0 : List Int)).bind fun y113 => (poly_Normal.l0 k a0 (cpyAt y113 0 l1) (y113.length : Int) 0)) else (none)) else (none)) else (some ([] : List Int)))
theorem poly_Normal.mono_l : ∀ k, (∀ y0 y1 y2 y3, LeO (poly_Normal.l0 k y0 y1 y2 y3) (poly_Normal.l0 (k + 1) y0 y1 y2 y3))
 | 0 => fun _ _ _ _ r h => by simp [poly_Normal.l0] at h
 | k + 1 => by
  have ih0 := poly_Normal.mono_l k
  ·intro y0 y1 y2 y3
   unfold poly_Normal.l0
   with_reducible repeat' first | apply ih0 | apply poly_trim.mono | exact LeO.refl _ | exact LeO.none _ | refine LeO.ite ?_ ?_ | refine LeO.bind ?_ (fun _ => ?_)
theorem poly_Normal.mono : ∀ a0 a1 k, LeO (poly_Normal.f k a0 a1) (poly_Normal.f (k + 1) a0 a1) := by
 intro a0 a1 k
 have ih0 := poly_Normal.mono_l k
 unfold poly_Normal.f
 with_reducible repeat' first | apply ih0 | apply poly_trim.mono | exact LeO.refl _ | exact LeO.none _ | refine LeO.ite ?_ ?_ | refine LeO.bind ?_ (fun _ => ?_)
set_option maxHeartbeats 8000000 in
set_option maxRecDepth 100000 in
theorem poly_Normal.calls (k : Nat) (a0 : Int) (A1 : Option Addr) (c1 : Nat) (l1 : List Int) (r : List Int) (w : World) (hG : Fld w) (hr1 : Kd.C (Kd.int .u64) w A1 l1.length l1) (hc1 : l1.length ≤ c1) (h : poly_Normal.f k a0 l1 = some r) :
  Calls Tryd.prog 23 #[.int .i64 a0, .slice A1 l1.length c1] w fun e w' => ∃ v0_ : Value, e = .returned (v0_) ∧ Kd.R (Kd.int .u64) 32 w' w.heap.size (fun _ => True) v0_ r ∧ Below w.heap.size w w' := by
 have HG := ak hG
 clear hG
 have HR1 := ak hr1
 have HC1 := ak hc1
 clear hr1 hc1
 have HB := ak (Below.refl w.heap.size w)
 have H := h
 clear h
 unfold poly_Normal.f at H
 revert H
 refine bd_ fun t112 A3 H => ?_
 by_cases c4 : t112 = true
 ·subst c4
  rw [if_pos rfl] at H
  obtain ⟨c5, H⟩ : (0 ≤ (l1.length : Int)) ∧ _ := it_ H
  have c5b0 := eq_true c5
  have c5b1 := decide_eq_true c5
  clear c5
  obtain ⟨c6, H⟩ : (((l1.length : Int) : Int).toNat ≤ 35184372088832) ∧ _ := it_ H
  have c6b0 := eq_true c6
  have c6b1 := decide_eq_true c6
  clear c6
  obtain ⟨y113, hy113⟩ : ∃ y_ : List Int, y_ = (List.replicate ((l1.length : Int) : Int).toNat 0) := ⟨_, rfl⟩
  first | rw [Option.bind_some, ← hy113] at H | rw [← hy113] at H
  have Ny113 := ak hy113
  clear hy113
  obtain ⟨y116, hy116⟩ : ∃ y_ : List Int, y_ = (cpyAt y113 0 l1) := ⟨_, rfl⟩
  first | rw [Option.bind_some, ← hy116] at H | rw [← hy116] at H
  have Ny116 := ak hy116
  clear hy116
  have H' := ak H
  clear H
  go_enter Tryd.func23, Tryd.ntmps23
  go_wp2_with (first | ((with_reducible refine gate_callee (f := 47) rfl ?_); refine gl_ (some 8) Tryd.func47 #[.int .i64 a0] ?_; (with_reducible refine (field_Valid.calls a0 true _ A3.out).mono ?_); rintro e w' ⟨rfl, ⟨nd, rfl⟩⟩; refine ⟨_, rfl, ?_⟩) | ((with_reducible refine gate_dst (N := 12) rfl ?_); refine R_make (Kd.int .u64) _ 32 rfl (N := 12) rfl 22 _ _ rfl (l1.length : Int) ?hx ?hy Tryd.underlying22 (.int .u64 0) 8 info32 rfl (by decide) (by omega) 0 (ok := fun _ => True) (okp := fun _ => True) rfl (fun _ hk => hk) trivial od_ (Nat.le_trans (Nat.mul_le_mul_right _ (od_ : (l1.length : Int).toNat ≤ 35184372088832)) (by omega)) (Below.refl _ _) (Nat.le_refl _) ?_; (case hx => first | rfl); (case hy => first | rfl); intro v114 w7 ho8 hb hg_ hnew_; clear hg_ hnew_; (first | rw [← Ny113.out] at ho8 | (simp only [Int.reduceToNat] at ho8; rw [← Ny113.out] at ho8)); refine nx2_ (R_lower ho8 (below_size (bU_ HB.out))) (below_step (bU_ HB.out) hb) ?_; clear HB; intro HO115 HB; clear hb ho8; obtain ⟨Ao10, co10, eo10⟩ := R_slice HO115.out; subst eo10) | ((with_reducible refine gate_builtin (b := .copy) (xs := #[.tmp 13, .tmp 14]) rfl ?_); skip; refine copy_own_ .u64 (w0 := w) w.heap.size rfl (.tmp 13) (.tmp 14) 22 22 32 rfl Tryd.underlying22 (show (Tryd.prog.info? 32).map (·.size) = some 1 by kernel_rfl) (.slice Ao10 y113.length co10) y113 l1 _ _ _ (fun _ => True) rfl rfl ?aO ?aR (fun _ _ h => h) ?aF ?aB ?aS ?_; (case aR => exact cU_ (C_below HR1.out HB.out)); (case aB => exact (bU_ HB.out)); (case aF => exact (fun _ _ => trivial)); (case aO => exact (rU_ HO115.out)); (case aS => exact (below_size (bU_ HB.out))); intro w9 ho hb hg hat; rw [← Ny116.out] at ho; refine nx2_ (hb) (ho) ?_; clear HB HO115; intro HB HO117; clear ho hb hg hat))
  go_loopg [18] k (fun kq v18 w' => ∃ (x5_1 : List Int) (x18_1 : Int), v18 = .int .i64 x18_1 ∧ Aside0 (poly_Normal.l0 kq a0 x5_1 (y113.length : Int) x18_1 = some r) ∧ Aside0 (kq ≤ k) ∧ Aside0 (Kd.R (Kd.int .u64) 32 w' w.heap.size (fun _ => True) (.slice Ao10 y113.length co10) x5_1) ∧ Aside0 (Below w.heap.size w w'))
  case atStart => exact ⟨(y116), (0), gb_, H', ⟨Nat.le_refl _⟩, ⟨rU_ HO117.out⟩, ⟨bU_ HB.out⟩⟩
  case round =>
   clear H'
   (try clear c1); (try clear c2); (try clear p2); (try clear c4); (try clear c5); (try clear c5b0); (try clear c5b1); (try clear c6); (try clear c6b0); (try clear c6b1)
   obtain ⟨x5_1, x18_1, rfl, HA, HK1, HO_5, HB⟩ := hrel
   have hl5_1 := (R_reads' HO_5.out).1
   rw [hl5_1] at HO_5
   (try simp only [hl5_1])
   cases gk with
   | zero => exact absurd HA.out (by simp [poly_Normal.l0])
   | succ k1 =>
    have H := HA.out
    clear HA
    simp only [poly_Normal.l0] at H
    by_cases c11 : x18_1 < (y113.length : Int)
    ·rw [if_pos c11] at H
     have c11b0 := decide_eq_true c11
     (try (have c11b0r0 := c11b0; simp only [hl5_1] at c11b0r0))
     clear c11
     obtain ⟨c12, H⟩ : (0 ≤ x18_1) ∧ _ := it_ H
     have c12b0 := decide_eq_true c12
     clear c12
     obtain ⟨c13, H⟩ : (x18_1 < (x5_1.length : Int)) ∧ _ := it_ H
     have c13b0 := decide_eq_true c13
     clear c13
     revert H
     refine bd_ fun t119 A14 H => ?_
     obtain ⟨y120, hy120⟩ : ∃ y_ : List Int, y_ = (x5_1.set (x18_1 : Int).toNat t119) := ⟨_, rfl⟩
     first | rw [Option.bind_some, ← hy120] at H | rw [← hy120] at H
     have Ny120 := ak hy120
     clear hy120
     have H' := ak H
     clear H
     have pfr16 : 0 ≤ (x18_1 : Int) := od_
     have qfr16 : (x18_1 : Int) < ((x5_1.length : Int) : Int) := od_
     obtain ⟨gofr16, cofr16, eofr16, gbfr16, glfr16, clfr16, HGfr16⟩ := Kd.R_form HO_5.out (by omega)
     (first | cases eofr16 | (injection eofr16 with ea_ en_ ec_; (first | subst ea_ | (injection ea_ with ea_; subst ea_)); subst ec_; clear en_))
     have GBfr16 := ak gbfr16
     have GGfr16 := ak HGfr16
     clear gbfr16 glfr16 HGfr16
     clear pfr16 qfr16
     have p118 : 0 ≤ (x18_1 : Int) := od_
     have q118 : x18_1 < (x5_1.length : Int) := od_
     obtain ⟨ad118, e118, hx118_0⟩ := Kd.at_int (R_reads' HO_5.out).2.2 x18_1 p118 q118
     obtain rfl : (⟨gofr16, 0, none⟩ : Addr) = ad118 := (by injection e118)
     (first | simp only [add_plain] at hx118_0 | simp only [add_at] at hx118_0 | simp only [Addr.add, Nat.zero_add] at hx118_0 | skip)
     replace p118 := eq_true p118
     replace q118 := eq_true q118
     go_wp2_with (first | ((with_reducible refine gate_callee (f := 26) rfl ?_); refine gl_ (some 28) Tryd.func26 #[.int .i64 a0, .int .u64 (rd x5_1 x18_1)] ?_; (with_reducible refine (field_Reduce.calls a0 (rd x5_1 x18_1) t119 _ ?side1 A14.out).mono ?_); (case side1 => exact fU_ HG.out HB.out); rintro e w17 ⟨rfl, hb⟩; refine ⟨_, rfl, ?_⟩; refine nx2_ (R_below (rU_ HO_5.out) hb) (below_step (bU_ HB.out) hb) ?_; clear HO_5 HB; intro HO_5 HB; clear hb; have p15 : 0 ≤ (x18_1 : Int) := od_; have q15 : (x18_1 : Int) < ((x5_1.length : Int) : Int) := od_; obtain ⟨hx15_0, hf15_0⟩ := Kd.R_celln 0 HO_5.out (x18_1 : Int) p15 q15; replace p15 := eq_true p15; replace q15 := eq_true q15; obtain ⟨hy18_, hz18_⟩ := Kd.R_celln 0 HO_5.out (x18_1 : Int) od_ od_; have HP18 := Kd.R_putg HO_5.out (x18_1 : Int) t119) | ((with_reducible refine gate_store (t := 32) (p := 29) rfl ?_); refine store_event (t := 32) (p := 29) (v := ?vo_w19) (w1 := (w17.setCell ⟨gofr16, (x18_1 : Int).toNat, none⟩ (.int .u64 t119))) ?hg ?ho ?hn ?hr ?_; (case ho => rfl); (case hg => rfl); (case hn => rfl); (case hr => first | (go_simp; done) | (go_simp; rfl)); intro w19 hw; have hg : w17.grownBy w19 (some gofr16) := (by rw [hw]; exact HP18.2); have hp_ : Kd.R (Kd.int .u64) 32 w19 w.heap.size (fun _ => True) (.slice (some ⟨gofr16, 0, none⟩) x5_1.length co10) y120 := (by rw [hw, Ny120.out]; exact HP18.1); clear HP18; refine nx2_ (hp_) ((by rw [hw]; exact below_set (HB.out) GBfr16.out : Below w.heap.size w w19)) ?_; clear HO_5 HB; intro HO_5 HB; clear hg hw hp_))
     (try simp only [← hl5_1])
     go_roundg k1
     case measure => have := HK1.out; omega
     case rel => exact ⟨(y120), (wrap64 (x18_1 + 1)), gb_, H', ⟨by have := HK1.out; omega⟩, ⟨by (try simp only [hl5_1]); (with_reducible repeat (first | apply Kd.R_alloc | apply Kd.R_drewN | apply R_drew)); exact HO_5.out⟩, ⟨bU_ HB.out⟩⟩
    rw [if_neg c11] at H
    have c11b0 := decide_eq_false c11
    (try (have c11b0r0 := c11b0; simp only [hl5_1] at c11b0r0))
    clear c11
    revert H
    refine bd_ fun t121 A20 H => ?_
    obtain rfl := Option.some.inj H
    go_wp2_with (first | ((with_reducible refine gate_callee (f := 56) rfl ?_); refine gl_ (some 32) Tryd.func56 #[.slice Ao10 x5_1.length co10] ?_; (with_reducible refine (poly_trim.calls k1 (fun k_ => some k_ = (.slice Ao10 x5_1.length co10 : Value).ownBlock) (.slice Ao10 x5_1.length co10) x5_1 t121 w _ ?side1 ?side2 A20.out).mono ?_); (case side1 => repeat (first | (with_reducible first | exact HB.out | apply below_alloc | apply pw_below_drewN | apply below_drew1) | exact HB.out)); (case side2 => exact R_tight rfl HO_5.out); rintro e w21 ⟨v122, rfl, ho0, hb, hkp⟩; refine ⟨_, rfl, ?_⟩; refine nx2_ (R_mono (ok' := fun k_ => True) ho0 (fun k_ hk_ => trivial)) (hb) ?_; clear HB HO_5; intro HO123 HB; clear hb hkp ho0))
    go_ret
    exact ⟨_, eW_, rU_ HO123.out, bU_ HB.out⟩
 replace c4 := Bool.eq_false_iff.mpr c4
 subst c4
 rw [if_neg (show ¬ (false = true) by decide)] at H
 obtain rfl := Option.some.inj H
 go_enter Tryd.func23, Tryd.ntmps23
 go_wp2_with (first | ((with_reducible refine gate_callee (f := 47) rfl ?_); refine gl_ (some 8) Tryd.func47 #[.int .i64 a0] ?_; (with_reducible refine (field_Valid.calls a0 false _ A3.out).mono ?_); rintro e w' ⟨rfl, ⟨nd, rfl⟩⟩; refine ⟨_, rfl, ?_⟩))
 go_ret
 exact ⟨_, eW_, by first | exact Kd.R_nil _ _ _ _ _ | exact Kd.N_nil _ _ _ _ _ | exact Kd.V_nil _ _ _ _ _ | exact Kd.Q_nil _ _ _ _ _ | exact Kd.S_nil _ _ _ _ _, bU_ HB.out⟩

def field_Add.f (a0 : Int) (a1 : Int) (a2 : Int) : Option (Int) := (field_P.f a0).bind fun t124 => (if t124 = 0 then (some 0) else (if (IntKind.u64.wrap ((Int.tmod a1 t124) + (Int.tmod a2 t124))) ≥ t124 then (some (IntKind.u64.wrap ((IntKind.u64.wrap ((Int.tmod a1 t124) + (Int.tmod a2 t124))) - t124))) else (some (IntKind.u64.wrap ((Int.tmod a1 t124) + (Int.tmod a2 t124))))))
set_option maxHeartbeats 8000000 in
set_option maxRecDepth 100000 in
theorem field_Add.calls (a0 : Int) (a1 : Int) (a2 : Int) (r : Int) (w : World) (hG : Fld w) (h : field_Add.f a0 a1 a2 = some r) :
  Calls Tryd.prog 45 #[.int .i64 a0, .int .u64 a1, .int .u64 a2] w fun e w' => e = .returned (.int .u64 r) ∧ Below w.heap.size w w' := by
 have HG := ak hG
 clear hG
 have HB := ak (Below.refl w.heap.size w)
 have H := h
 clear h
 unfold field_Add.f at H
 revert H
 refine bd_ fun t124 A4 H => ?_
 by_cases c5 : t124 = 0
 ·rw [if_pos c5] at H
  have c5b0 := beq_iff_eq.mpr c5
  have c5b1 := bne_eq_false_iff_eq.mpr c5
  clear c5
  obtain rfl := Option.some.inj H
  go_enter Tryd.func45, Tryd.ntmps45
  go_wp2_with (first | (go_at_call 58; (with_reducible refine (field_P.calls a0 t124 _ ?side1 A4.out).mono ?_); (case side1 => exact fU_ HG.out HB.out); rintro e w6 ⟨rfl, hb⟩; refine nx1_ (below_step (bU_ HB.out) hb) ?_; clear HB; intro HB; clear hb))
  repeat (go_quiet (first | (go_at_call 58; (with_reducible refine (field_P.calls a0 t124 _ ?side1 A4.out).mono ?_); (case side1 => exact fU_ HG.out HB.out); rintro e w6 ⟨rfl, hb⟩; refine nx1_ (below_step (bU_ HB.out) hb) ?_; clear HB; intro HB; clear hb)); try go_wp2_with (first | (go_at_call 58; (with_reducible refine (field_P.calls a0 t124 _ ?side1 A4.out).mono ?_); (case side1 => exact fU_ HG.out HB.out); rintro e w6 ⟨rfl, hb⟩; refine nx1_ (below_step (bU_ HB.out) hb) ?_; clear HB; intro HB; clear hb)))
  go_ret
  exact ⟨eW_, bU_ HB.out⟩
 rw [if_neg c5] at H
 have c5b0 := beq_eq_false_iff_ne.mpr c5
 have c5b1 := bne_iff_ne.mpr c5
 by_cases c7 : (IntKind.u64.wrap ((Int.tmod a1 t124) + (Int.tmod a2 t124))) ≥ t124
 ·rw [if_pos c7] at H
  have c7b0 : decide (t124 ≤ (IntKind.u64.wrap ((Int.tmod a1 t124) + (Int.tmod a2 t124)))) = true := decide_eq_true c7
  clear c7
  obtain rfl := Option.some.inj H
  go_enter Tryd.func45, Tryd.ntmps45
  go_wp2_with (first | (go_at_call 58; (with_reducible refine (field_P.calls a0 t124 _ ?side1 A4.out).mono ?_); (case side1 => exact fU_ HG.out HB.out); rintro e w8 ⟨rfl, hb⟩; refine nx1_ (below_step (bU_ HB.out) hb) ?_; clear HB; intro HB; clear hb))
  repeat (go_quiet (first | (go_at_call 58; (with_reducible refine (field_P.calls a0 t124 _ ?side1 A4.out).mono ?_); (case side1 => exact fU_ HG.out HB.out); rintro e w8 ⟨rfl, hb⟩; refine nx1_ (below_step (bU_ HB.out) hb) ?_; clear HB; intro HB; clear hb)); try go_wp2_with (first | (go_at_call 58; (with_reducible refine (field_P.calls a0 t124 _ ?side1 A4.out).mono ?_); (case side1 => exact fU_ HG.out HB.out); rintro e w8 ⟨rfl, hb⟩; refine nx1_ (below_step (bU_ HB.out) hb) ?_; clear HB; intro HB; clear hb)))
  go_ret
  exact ⟨eW_, bU_ HB.out⟩
 rw [if_neg c7] at H
 have c7b0 : decide (t124 ≤ (IntKind.u64.wrap ((Int.tmod a1 t124) + (Int.tmod a2 t124)))) = false := decide_eq_false c7
 clear c7
 obtain rfl := Option.some.inj H
 go_enter Tryd.func45, Tryd.ntmps45
 go_wp2_with (first | (go_at_call 58; (with_reducible refine (field_P.calls a0 t124 _ ?side1 A4.out).mono ?_); (case side1 => exact fU_ HG.out HB.out); rintro e w9 ⟨rfl, hb⟩; refine nx1_ (below_step (bU_ HB.out) hb) ?_; clear HB; intro HB; clear hb))
 repeat (go_quiet (first | (go_at_call 58; (with_reducible refine (field_P.calls a0 t124 _ ?side1 A4.out).mono ?_); (case side1 => exact fU_ HG.out HB.out); rintro e w9 ⟨rfl, hb⟩; refine nx1_ (below_step (bU_ HB.out) hb) ?_; clear HB; intro HB; clear hb)); try go_wp2_with (first | (go_at_call 58; (with_reducible refine (field_P.calls a0 t124 _ ?side1 A4.out).mono ?_); (case side1 => exact fU_ HG.out HB.out); rintro e w9 ⟨rfl, hb⟩; refine nx1_ (below_step (bU_ HB.out) hb) ?_; clear HB; intro HB; clear hb)))
 go_ret
 exact ⟨eW_, bU_ HB.out⟩

def poly_Add_yes.l0 : Nat → Int → List Int → List Int → Int → Int → Option (List Int)
 | 0, _, _, _, _, _ => none
 | k + 1, x0, x7, x23, x24, x25 => if x25 < x24 then (if 0 ≤ x25 then (if x25 < (x23.length : Int) then (if x25 < (x7.length : Int) then ((field_Add.f x0 (rd x7 x25) (rd x23 x25)).bind fun t132 => (poly_Add_yes.l0 k x0 (x7.set (x25 : Int).toNat t132) x23 x24 (wrap64 (x25 + 1)))) else (none)) else (none)) else (none)) else ((poly_Normal.f k x0 x7).bind fun t134 => (some t134))
def poly_Add_yes.f (k : Nat) (a0 : Int) (l1 : List Int) (l2 : List Int) : Option (List Int) := if 0 ≤ (l2.length : Int) then (if ((l2.length : Int) : Int).toNat ≤ 35184372088832 then (poly_Add_yes.l0 k a0 (cpyAt (List.replicate ((l2.length : Int) : Int).toNat 0) 0 l2) l1 (l1.length : Int) 0) else (none)) else (none)
theorem poly_Add_yes.mono_l : ∀ k, (∀ y0 y1 y2 y3 y4, LeO (poly_Add_yes.l0 k y0 y1 y2 y3 y4) (poly_Add_yes.l0 (k + 1) y0 y1 y2 y3 y4))
 | 0 => fun _ _ _ _ _ r h => by simp [poly_Add_yes.l0] at h
 | k + 1 => by
  have ih0 := poly_Add_yes.mono_l k
  ·intro y0 y1 y2 y3 y4
   unfold poly_Add_yes.l0
   with_reducible repeat' first | apply ih0 | apply poly_Normal.mono | exact LeO.refl _ | exact LeO.none _ | refine LeO.ite ?_ ?_ | refine LeO.bind ?_ (fun _ => ?_)
theorem poly_Add_yes.mono : ∀ a0 a1 a2 k, LeO (poly_Add_yes.f k a0 a1 a2) (poly_Add_yes.f (k + 1) a0 a1 a2) := by
 intro a0 a1 a2 k
 have ih0 := poly_Add_yes.mono_l k
 unfold poly_Add_yes.f
 with_reducible repeat' first | apply ih0 | apply poly_Normal.mono | exact LeO.refl _ | exact LeO.none _ | refine LeO.ite ?_ ?_ | refine LeO.bind ?_ (fun _ => ?_)
set_option maxHeartbeats 8000000 in
set_option maxRecDepth 100000 in
theorem poly_Add_yes.calls (k : Nat) (a0 : Int) (A1 : Option Addr) (c1 : Nat) (l1 : List Int) (A2 : Option Addr) (c2 : Nat) (l2 : List Int) (r : List Int) (w : World) (hX : (l1.length : Int) < (l2.length : Int)) (hG : Fld w) (hr1 : Kd.C (Kd.int .u64) w A1 l1.length l1) (hc1 : l1.length ≤ c1) (hr2 : Kd.C (Kd.int .u64) w A2 l2.length l2) (hc2 : l2.length ≤ c2) (h : poly_Add_yes.f k a0 l1 l2 = some r) :
  Calls Tryd.prog 22 #[.int .i64 a0, .slice A1 l1.length c1, .slice A2 l2.length c2] w fun e w' => ∃ v0_ : Value, e = .returned (v0_) ∧ Kd.R (Kd.int .u64) 32 w' w.heap.size (fun _ => True) v0_ r ∧ Below w.heap.size w w' := by
 have HG := ak hG
 clear hG
 have hXb0 : decide ((l1.length : Int) < (l2.length : Int)) = true := decide_eq_true hX
 have hXb1 : decide (l1.length < l2.length) = true := decide_eq_true (Int.ofNat_lt.mp hX)
 clear hX
 have HR1 := ak hr1
 have HC1 := ak hc1
 clear hr1 hc1
 have HR2 := ak hr2
 have HC2 := ak hc2
 clear hr2 hc2
 have HB := ak (Below.refl w.heap.size w)
 have H := h
 clear h
 unfold poly_Add_yes.f at H
 obtain ⟨c4, H⟩ : (0 ≤ (l2.length : Int)) ∧ _ := it_ H
 have c4b0 := eq_true c4
 have c4b1 := decide_eq_true c4
 clear c4
 obtain ⟨c5, H⟩ : (((l2.length : Int) : Int).toNat ≤ 35184372088832) ∧ _ := it_ H
 have c5b0 := eq_true c5
 have c5b1 := decide_eq_true c5
 clear c5
 obtain ⟨y125, hy125⟩ : ∃ y_ : List Int, y_ = (List.replicate ((l2.length : Int) : Int).toNat 0) := ⟨_, rfl⟩
 first | rw [Option.bind_some, ← hy125] at H | rw [← hy125] at H
 have Ny125 := ak hy125
 clear hy125
 obtain ⟨y128, hy128⟩ : ∃ y_ : List Int, y_ = (cpyAt y125 0 l2) := ⟨_, rfl⟩
 first | rw [Option.bind_some, ← hy128] at H | rw [← hy128] at H
 have Ny128 := ak hy128
 clear hy128
 have H' := ak H
 clear H
 go_enter Tryd.func22, Tryd.ntmps22
 go_wp2_with (first | ((with_reducible refine gate_dst (N := 19) rfl ?_); refine R_make (Kd.int .u64) _ 32 rfl (N := 19) rfl 22 _ _ rfl (l2.length : Int) ?hx ?hy Tryd.underlying22 (.int .u64 0) 8 info32 rfl (by decide) (by omega) 0 (ok := fun _ => True) (okp := fun _ => True) rfl (fun _ hk => hk) trivial od_ (Nat.le_trans (Nat.mul_le_mul_right _ (od_ : (l2.length : Int).toNat ≤ 35184372088832)) (by omega)) (Below.refl _ _) (Nat.le_refl _) ?_; (case hx => first | rfl); (case hy => first | rfl); intro v126 w6 ho7 hb hg_ hnew_; clear hg_ hnew_; (first | rw [← Ny125.out] at ho7 | (simp only [Int.reduceToNat] at ho7; rw [← Ny125.out] at ho7)); refine nx2_ (R_lower ho7 (below_size (bU_ HB.out))) (below_step (bU_ HB.out) hb) ?_; clear HB; intro HO127 HB; clear hb ho7; obtain ⟨Ao9, co9, eo9⟩ := R_slice HO127.out; subst eo9) | ((with_reducible refine gate_builtin (b := .copy) (xs := #[.tmp 20, .tmp 21]) rfl ?_); skip; refine copy_own_ .u64 (w0 := w) w.heap.size rfl (.tmp 20) (.tmp 21) 22 22 32 rfl Tryd.underlying22 (show (Tryd.prog.info? 32).map (·.size) = some 1 by kernel_rfl) (.slice Ao9 y125.length co9) y125 l2 _ _ _ (fun _ => True) rfl rfl ?aO ?aR (fun _ _ h => h) ?aF ?aB ?aS ?_; (case aR => exact cU_ (C_below HR2.out HB.out)); (case aB => exact (bU_ HB.out)); (case aF => exact (fun _ _ => trivial)); (case aO => exact (rU_ HO127.out)); (case aS => exact (below_size (bU_ HB.out))); intro w8 ho hb hg hat; rw [← Ny128.out] at ho; refine nx2_ (hb) (ho) ?_; clear HB HO127; intro HB HO129; clear ho hb hg hat))
 go_loopg [25] k (fun kq v25 w' => ∃ (x7_1 : List Int) (x25_1 : Int), v25 = .int .i64 x25_1 ∧ Aside0 (poly_Add_yes.l0 kq a0 x7_1 l1 (l1.length : Int) x25_1 = some r) ∧ Aside0 (kq ≤ k) ∧ Aside0 (Kd.R (Kd.int .u64) 32 w' w.heap.size (fun _ => True) (.slice Ao9 y125.length co9) x7_1) ∧ Aside0 (Below w.heap.size w w'))
 case atStart => exact ⟨(y128), (0), gb_, H', ⟨Nat.le_refl _⟩, ⟨rU_ HO129.out⟩, ⟨bU_ HB.out⟩⟩
 case round =>
  clear H'
  (try clear c1); (try clear c2); (try clear p2); (try clear c4); (try clear c4b0); (try clear c4b1); (try clear c5); (try clear c5b0); (try clear c5b1)
  obtain ⟨x7_1, x25_1, rfl, HA, HK1, HO_7, HB⟩ := hrel
  have hl7_1 := (R_reads' HO_7.out).1
  rw [hl7_1] at HO_7
  (try simp only [hl7_1])
  cases gk with
  | zero => exact absurd HA.out (by simp [poly_Add_yes.l0])
  | succ k1 =>
   have H := HA.out
   clear HA
   simp only [poly_Add_yes.l0] at H
   by_cases c10 : x25_1 < (l1.length : Int)
   ·rw [if_pos c10] at H
    have c10b0 := decide_eq_true c10
    clear c10
    obtain ⟨c11, H⟩ : (0 ≤ x25_1) ∧ _ := it_ H
    have c11b0 := decide_eq_true c11
    clear c11
    obtain ⟨c12, H⟩ : (x25_1 < (l1.length : Int)) ∧ _ := it_ H
    have c12b0 := decide_eq_true c12
    clear c12
    obtain ⟨c13, H⟩ : (x25_1 < (x7_1.length : Int)) ∧ _ := it_ H
    have c13b0 := decide_eq_true c13
    clear c13
    revert H
    refine bd_ fun t132 A14 H => ?_
    obtain ⟨y133, hy133⟩ : ∃ y_ : List Int, y_ = (x7_1.set (x25_1 : Int).toNat t132) := ⟨_, rfl⟩
    first | rw [Option.bind_some, ← hy133] at H | rw [← hy133] at H
    have Ny133 := ak hy133
    clear hy133
    have H' := ak H
    clear H
    have p130 : 0 ≤ (x25_1 : Int) := od_
    have q130 : x25_1 < (l1.length : Int) := od_
    obtain ⟨ad130, e130, hx130_0⟩ := Kd.at_int HR1.out x25_1 p130 q130
    cases e130
    replace hx130_0 := (HB.out.cell (World.block_lt_of_cell? w _ hx130_0)).trans hx130_0
    replace p130 := eq_true p130
    replace q130 := eq_true q130
    have pfr16 : 0 ≤ (x25_1 : Int) := od_
    have qfr16 : (x25_1 : Int) < ((x7_1.length : Int) : Int) := od_
    obtain ⟨gofr16, cofr16, eofr16, gbfr16, glfr16, clfr16, HGfr16⟩ := Kd.R_form HO_7.out (by omega)
    (first | cases eofr16 | (injection eofr16 with ea_ en_ ec_; (first | subst ea_ | (injection ea_ with ea_; subst ea_)); subst ec_; clear en_))
    have GBfr16 := ak gbfr16
    have GGfr16 := ak HGfr16
    clear gbfr16 glfr16 HGfr16
    clear pfr16 qfr16
    have p131 : 0 ≤ (x25_1 : Int) := od_
    have q131 : x25_1 < (x7_1.length : Int) := od_
    obtain ⟨ad131, e131, hx131_0⟩ := Kd.at_int (R_reads' HO_7.out).2.2 x25_1 p131 q131
    obtain rfl : (⟨gofr16, 0, none⟩ : Addr) = ad131 := (by injection e131)
    (first | simp only [add_plain] at hx131_0 | simp only [add_at] at hx131_0 | simp only [Addr.add, Nat.zero_add] at hx131_0 | skip)
    replace p131 := eq_true p131
    replace q131 := eq_true q131
    go_wp2_with (first | ((with_reducible refine gate_callee (f := 45) rfl ?_); refine gl_ (some 38) Tryd.func45 #[.int .i64 a0, .int .u64 (rd x7_1 x25_1), .int .u64 (rd l1 x25_1)] ?_; (with_reducible refine (field_Add.calls a0 (rd x7_1 x25_1) (rd l1 x25_1) t132 _ ?side1 A14.out).mono ?_); (case side1 => exact fU_ HG.out HB.out); rintro e w17 ⟨rfl, hb⟩; refine ⟨_, rfl, ?_⟩; refine nx2_ (R_below (rU_ HO_7.out) hb) (below_step (bU_ HB.out) hb) ?_; clear HO_7 HB; intro HO_7 HB; clear hb; have p15 : 0 ≤ (x25_1 : Int) := od_; have q15 : (x25_1 : Int) < ((x7_1.length : Int) : Int) := od_; obtain ⟨hx15_0, hf15_0⟩ := Kd.R_celln 0 HO_7.out (x25_1 : Int) p15 q15; replace p15 := eq_true p15; replace q15 := eq_true q15; obtain ⟨hy18_, hz18_⟩ := Kd.R_celln 0 HO_7.out (x25_1 : Int) od_ od_; have HP18 := Kd.R_putg HO_7.out (x25_1 : Int) t132) | ((with_reducible refine gate_store (t := 32) (p := 39) rfl ?_); refine store_event (t := 32) (p := 39) (v := ?vo_w19) (w1 := (w17.setCell ⟨gofr16, (x25_1 : Int).toNat, none⟩ (.int .u64 t132))) ?hg ?ho ?hn ?hr ?_; (case ho => rfl); (case hg => rfl); (case hn => rfl); (case hr => first | (go_simp; done) | (go_simp; rfl)); intro w19 hw; have hg : w17.grownBy w19 (some gofr16) := (by rw [hw]; exact HP18.2); have hp_ : Kd.R (Kd.int .u64) 32 w19 w.heap.size (fun _ => True) (.slice (some ⟨gofr16, 0, none⟩) x7_1.length co9) y133 := (by rw [hw, Ny133.out]; exact HP18.1); clear HP18; refine nx2_ (hp_) ((by rw [hw]; exact below_set (HB.out) GBfr16.out : Below w.heap.size w w19)) ?_; clear HO_7 HB; intro HO_7 HB; clear hg hw hp_))
    (try simp only [← hl7_1])
    go_roundg k1
    case measure => have := HK1.out; omega
    case rel => exact ⟨(y133), (wrap64 (x25_1 + 1)), gb_, H', ⟨by have := HK1.out; omega⟩, ⟨by (try simp only [hl7_1]); (with_reducible repeat (first | apply Kd.R_alloc | apply Kd.R_drewN | apply R_drew)); exact HO_7.out⟩, ⟨bU_ HB.out⟩⟩
   rw [if_neg c10] at H
   have c10b0 := decide_eq_false c10
   clear c10
   revert H
   refine bd_ fun t134 A20 H => ?_
   obtain rfl := Option.some.inj H
   go_wp2_with (first | ((with_reducible refine gate_callee (f := 23) rfl ?_); refine gl_ (some 43) Tryd.func23 #[.int .i64 a0, .slice Ao9 x7_1.length co9] ?_; (with_reducible refine (poly_Normal.calls k1 a0 _ _ x7_1 t134 _ ?side1 ?side2 ?side3 A20.out).mono ?_); (case side1 => exact fU_ HG.out HB.out); (case side2 => exact cU_ ((R_reads' HO_7.out).2.2)); (case side3 => exact (R_reads' HO_7.out).2.1); rintro e w21 ⟨v135, rfl, ho0, hb⟩; refine ⟨_, rfl, ?_⟩; refine nx3_ (R_elder' (rU_ HO_7.out) (R_base ho0) hb) (R_lower (R_new' ho0 (R_lt (rU_ HO_7.out))) (below_size (bU_ HB.out))) (below_step (bU_ HB.out) hb) ?_; clear HO_7 HB; intro HO_7 HO136 HB; clear hb ho0))
   go_ret
   exact ⟨_, eW_, R_mono (rU_ HO136.out) (fun _ hk => trivial), bU_ HB.out⟩

def poly_Add_no.l0 : Nat → Int → List Int → List Int → Int → Int → Option (List Int)
 | 0, _, _, _, _, _ => none
 | k + 1, x0, x7, x23, x24, x25 => if x25 < x24 then (if 0 ≤ x25 then (if x25 < (x23.length : Int) then (if x25 < (x7.length : Int) then ((field_Add.f x0 (rd x7 x25) (rd x23 x25)).bind fun t144 => (poly_Add_no.l0 k x0 (x7.set (x25 : Int).toNat t144) x23 x24 (wrap64 (x25 + 1)))) else (none)) else (none)) else (none)) else ((poly_Normal.f k x0 x7).bind fun t146 => (some t146))
def poly_Add_no.f (k : Nat) (a0 : Int) (l1 : List Int) (l2 : List Int) : Option (List Int) := if 0 ≤ (l1.length : Int) then (if ((l1.length : Int) : Int).toNat ≤ 35184372088832 then (poly_Add_no.l0 k a0 (cpyAt (List.replicate ((l1.length : Int) : Int).toNat 0) 0 l1) l2 (l2.length : Int) 0) else (none)) else (none)
theorem poly_Add_no.mono_l : ∀ k, (∀ y0 y1 y2 y3 y4, LeO (poly_Add_no.l0 k y0 y1 y2 y3 y4) (poly_Add_no.l0 (k + 1) y0 y1 y2 y3 y4))
 | 0 => fun _ _ _ _ _ r h => by simp [poly_Add_no.l0] at h
 | k + 1 => by
  have ih0 := poly_Add_no.mono_l k
  ·intro y0 y1 y2 y3 y4
   unfold poly_Add_no.l0
   with_reducible repeat' first | apply ih0 | apply poly_Normal.mono | exact LeO.refl _ | exact LeO.none _ | refine LeO.ite ?_ ?_ | refine LeO.bind ?_ (fun _ => ?_)
theorem poly_Add_no.mono : ∀ a0 a1 a2 k, LeO (poly_Add_no.f k a0 a1 a2) (poly_Add_no.f (k + 1) a0 a1 a2) := by
 intro a0 a1 a2 k
 have ih0 := poly_Add_no.mono_l k
 unfold poly_Add_no.f
 with_reducible repeat' first | apply ih0 | apply poly_Normal.mono | exact LeO.refl _ | exact LeO.none _ | refine LeO.ite ?_ ?_ | refine LeO.bind ?_ (fun _ => ?_)
set_option maxHeartbeats 8000000 in
set_option maxRecDepth 100000 in
theorem poly_Add_no.calls (k : Nat) (a0 : Int) (A1 : Option Addr) (c1 : Nat) (l1 : List Int) (A2 : Option Addr) (c2 : Nat) (l2 : List Int) (r : List Int) (w : World) (hX : ¬ ((l1.length : Int) < (l2.length : Int))) (hG : Fld w) (hr1 : Kd.C (Kd.int .u64) w A1 l1.length l1) (hc1 : l1.length ≤ c1) (hr2 : Kd.C (Kd.int .u64) w A2 l2.length l2) (hc2 : l2.length ≤ c2) (h : poly_Add_no.f k a0 l1 l2 = some r) :
  Calls Tryd.prog 22 #[.int .i64 a0, .slice A1 l1.length c1, .slice A2 l2.length c2] w fun e w' => ∃ v0_ : Value, e = .returned (v0_) ∧ Kd.R (Kd.int .u64) 32 w' w.heap.size (fun _ => True) v0_ r ∧ Below w.heap.size w w' := by
 have HG := ak hG
 clear hG
 have hXb0 : decide ((l1.length : Int) < (l2.length : Int)) = false := decide_eq_false hX
 have hXb1 : decide (l1.length < l2.length) = false := decide_eq_false (fun h => hX (Int.ofNat_lt.mpr h))
 clear hX
 have HR1 := ak hr1
 have HC1 := ak hc1
 clear hr1 hc1
 have HR2 := ak hr2
 have HC2 := ak hc2
 clear hr2 hc2
 have HB := ak (Below.refl w.heap.size w)
 have H := h
 clear h
 unfold poly_Add_no.f at H
 obtain ⟨c4, H⟩ : (0 ≤ (l1.length : Int)) ∧ _ := it_ H
 have c4b0 := eq_true c4
 have c4b1 := decide_eq_true c4
 clear c4
 obtain ⟨c5, H⟩ : (((l1.length : Int) : Int).toNat ≤ 35184372088832) ∧ _ := it_ H
 have c5b0 := eq_true c5
 have c5b1 := decide_eq_true c5
 clear c5
 obtain ⟨y137, hy137⟩ : ∃ y_ : List Int, y_ = (List.replicate ((l1.length : Int) : Int).toNat 0) := ⟨_, rfl⟩
 first | rw [Option.bind_some, ← hy137] at H | rw [← hy137] at H
 have Ny137 := ak hy137
 clear hy137
 obtain ⟨y140, hy140⟩ : ∃ y_ : List Int, y_ = (cpyAt y137 0 l1) := ⟨_, rfl⟩
 first | rw [Option.bind_some, ← hy140] at H | rw [← hy140] at H
 have Ny140 := ak hy140
 clear hy140
 have H' := ak H
 clear H
 go_enter Tryd.func22, Tryd.ntmps22
 go_wp2_with (first | ((with_reducible refine gate_dst (N := 19) rfl ?_); refine R_make (Kd.int .u64) _ 32 rfl (N := 19) rfl 22 _ _ rfl (l1.length : Int) ?hx ?hy Tryd.underlying22 (.int .u64 0) 8 info32 rfl (by decide) (by omega) 0 (ok := fun _ => True) (okp := fun _ => True) rfl (fun _ hk => hk) trivial od_ (Nat.le_trans (Nat.mul_le_mul_right _ (od_ : (l1.length : Int).toNat ≤ 35184372088832)) (by omega)) (Below.refl _ _) (Nat.le_refl _) ?_; (case hx => first | rfl); (case hy => first | rfl); intro v138 w6 ho7 hb hg_ hnew_; clear hg_ hnew_; (first | rw [← Ny137.out] at ho7 | (simp only [Int.reduceToNat] at ho7; rw [← Ny137.out] at ho7)); refine nx2_ (R_lower ho7 (below_size (bU_ HB.out))) (below_step (bU_ HB.out) hb) ?_; clear HB; intro HO139 HB; clear hb ho7; obtain ⟨Ao9, co9, eo9⟩ := R_slice HO139.out; subst eo9) | ((with_reducible refine gate_builtin (b := .copy) (xs := #[.tmp 20, .tmp 21]) rfl ?_); skip; refine copy_own_ .u64 (w0 := w) w.heap.size rfl (.tmp 20) (.tmp 21) 22 22 32 rfl Tryd.underlying22 (show (Tryd.prog.info? 32).map (·.size) = some 1 by kernel_rfl) (.slice Ao9 y137.length co9) y137 l1 _ _ _ (fun _ => True) rfl rfl ?aO ?aR (fun _ _ h => h) ?aF ?aB ?aS ?_; (case aR => exact cU_ (C_below HR1.out HB.out)); (case aB => exact (bU_ HB.out)); (case aF => exact (fun _ _ => trivial)); (case aO => exact (rU_ HO139.out)); (case aS => exact (below_size (bU_ HB.out))); intro w8 ho hb hg hat; rw [← Ny140.out] at ho; refine nx2_ (hb) (ho) ?_; clear HB HO139; intro HB HO141; clear ho hb hg hat))
 go_loopg [25] k (fun kq v25 w' => ∃ (x7_1 : List Int) (x25_1 : Int), v25 = .int .i64 x25_1 ∧ Aside0 (poly_Add_no.l0 kq a0 x7_1 l2 (l2.length : Int) x25_1 = some r) ∧ Aside0 (kq ≤ k) ∧ Aside0 (Kd.R (Kd.int .u64) 32 w' w.heap.size (fun _ => True) (.slice Ao9 y137.length co9) x7_1) ∧ Aside0 (Below w.heap.size w w'))
 case atStart => exact ⟨(y140), (0), gb_, H', ⟨Nat.le_refl _⟩, ⟨rU_ HO141.out⟩, ⟨bU_ HB.out⟩⟩
 case round =>
  clear H'
  (try clear c1); (try clear c2); (try clear p2); (try clear c4); (try clear c4b0); (try clear c4b1); (try clear c5); (try clear c5b0); (try clear c5b1)
  obtain ⟨x7_1, x25_1, rfl, HA, HK1, HO_7, HB⟩ := hrel
  have hl7_1 := (R_reads' HO_7.out).1
  rw [hl7_1] at HO_7
  (try simp only [hl7_1])
  cases gk with
  | zero => exact absurd HA.out (by simp [poly_Add_no.l0])
  | succ k1 =>
   have H := HA.out
   clear HA
   simp only [poly_Add_no.l0] at H
   by_cases c10 : x25_1 < (l2.length : Int)
   ·rw [if_pos c10] at H
    have c10b0 := decide_eq_true c10
    clear c10
    obtain ⟨c11, H⟩ : (0 ≤ x25_1) ∧ _ := it_ H
    have c11b0 := decide_eq_true c11
    clear c11
    obtain ⟨c12, H⟩ : (x25_1 < (l2.length : Int)) ∧ _ := it_ H
    have c12b0 := decide_eq_true c12
    clear c12
    obtain ⟨c13, H⟩ : (x25_1 < (x7_1.length : Int)) ∧ _ := it_ H
    have c13b0 := decide_eq_true c13
    clear c13
    revert H
    refine bd_ fun t144 A14 H => ?_
    obtain ⟨y145, hy145⟩ : ∃ y_ : List Int, y_ = (x7_1.set (x25_1 : Int).toNat t144) := ⟨_, rfl⟩
    first | rw [Option.bind_some, ← hy145] at H | rw [← hy145] at H
    have Ny145 := ak hy145
    clear hy145
    have H' := ak H
    clear H
    have p142 : 0 ≤ (x25_1 : Int) := od_
    have q142 : x25_1 < (l2.length : Int) := od_
    obtain ⟨ad142, e142, hx142_0⟩ := Kd.at_int HR2.out x25_1 p142 q142
    cases e142
    replace hx142_0 := (HB.out.cell (World.block_lt_of_cell? w _ hx142_0)).trans hx142_0
    replace p142 := eq_true p142
    replace q142 := eq_true q142
    have pfr16 : 0 ≤ (x25_1 : Int) := od_
    have qfr16 : (x25_1 : Int) < ((x7_1.length : Int) : Int) := od_
    obtain ⟨gofr16, cofr16, eofr16, gbfr16, glfr16, clfr16, HGfr16⟩ := Kd.R_form HO_7.out (by omega)
    (first | cases eofr16 | (injection eofr16 with ea_ en_ ec_; (first | subst ea_ | (injection ea_ with ea_; subst ea_)); subst ec_; clear en_))
    have GBfr16 := ak gbfr16
    have GGfr16 := ak HGfr16
    clear gbfr16 glfr16 HGfr16
    clear pfr16 qfr16
    have p143 : 0 ≤ (x25_1 : Int) := od_
    have q143 : x25_1 < (x7_1.length : Int) := od_
    obtain ⟨ad143, e143, hx143_0⟩ := Kd.at_int (R_reads' HO_7.out).2.2 x25_1 p143 q143
    obtain rfl : (⟨gofr16, 0, none⟩ : Addr) = ad143 := (by injection e143)
    (first | simp only [add_plain] at hx143_0 | simp only [add_at] at hx143_0 | simp only [Addr.add, Nat.zero_add] at hx143_0 | skip)
    replace p143 := eq_true p143
    replace q143 := eq_true q143
    go_wp2_with (first | ((with_reducible refine gate_callee (f := 45) rfl ?_); refine gl_ (some 38) Tryd.func45 #[.int .i64 a0, .int .u64 (rd x7_1 x25_1), .int .u64 (rd l2 x25_1)] ?_; (with_reducible refine (field_Add.calls a0 (rd x7_1 x25_1) (rd l2 x25_1) t144 _ ?side1 A14.out).mono ?_); (case side1 => exact fU_ HG.out HB.out); rintro e w17 ⟨rfl, hb⟩; refine ⟨_, rfl, ?_⟩; refine nx2_ (R_below (rU_ HO_7.out) hb) (below_step (bU_ HB.out) hb) ?_; clear HO_7 HB; intro HO_7 HB; clear hb; have p15 : 0 ≤ (x25_1 : Int) := od_; have q15 : (x25_1 : Int) < ((x7_1.length : Int) : Int) := od_; obtain ⟨hx15_0, hf15_0⟩ := Kd.R_celln 0 HO_7.out (x25_1 : Int) p15 q15; replace p15 := eq_true p15; replace q15 := eq_true q15; obtain ⟨hy18_, hz18_⟩ := Kd.R_celln 0 HO_7.out (x25_1 : Int) od_ od_; have HP18 := Kd.R_putg HO_7.out (x25_1 : Int) t144) | ((with_reducible refine gate_store (t := 32) (p := 39) rfl ?_); refine store_event (t := 32) (p := 39) (v := ?vo_w19) (w1 := (w17.setCell ⟨gofr16, (x25_1 : Int).toNat, none⟩ (.int .u64 t144))) ?hg ?ho ?hn ?hr ?_; (case ho => rfl); (case hg => rfl); (case hn => rfl); (case hr => first | (go_simp; done) | (go_simp; rfl)); intro w19 hw; have hg : w17.grownBy w19 (some gofr16) := (by rw [hw]; exact HP18.2); have hp_ : Kd.R (Kd.int .u64) 32 w19 w.heap.size (fun _ => True) (.slice (some ⟨gofr16, 0, none⟩) x7_1.length co9) y145 := (by rw [hw, Ny145.out]; exact HP18.1); clear HP18; refine nx2_ (hp_) ((by rw [hw]; exact below_set (HB.out) GBfr16.out : Below w.heap.size w w19)) ?_; clear HO_7 HB; intro HO_7 HB; clear hg hw hp_))
    (try simp only [← hl7_1])
    go_roundg k1
    case measure => have := HK1.out; omega
    case rel => exact ⟨(y145), (wrap64 (x25_1 + 1)), gb_, H', ⟨by have := HK1.out; omega⟩, ⟨by (try simp only [hl7_1]); (with_reducible repeat (first | apply Kd.R_alloc | apply Kd.R_drewN | apply R_drew)); exact HO_7.out⟩, ⟨bU_ HB.out⟩⟩
   rw [if_neg c10] at H
   have c10b0 := decide_eq_false c10
   clear c10
   revert H
   refine bd_ fun t146 A20 H => ?_
   obtain rfl := Option.some.inj H
   go_wp2_with (first | ((with_reducible refine gate_callee (f := 23) rfl ?_); refine gl_ (some 43) Tryd.func23 #[.int .i64 a0, .slice Ao9 x7_1.length co9] ?_; (with_reducible refine (poly_Normal.calls k1 a0 _ _ x7_1 t146 _ ?side1 ?side2 ?side3 A20.out).mono ?_); (case side1 => exact fU_ HG.out HB.out); (case side2 => exact cU_ ((R_reads' HO_7.out).2.2)); (case side3 => exact (R_reads' HO_7.out).2.1); rintro e w21 ⟨v147, rfl, ho0, hb⟩; refine ⟨_, rfl, ?_⟩; refine nx3_ (R_elder' (rU_ HO_7.out) (R_base ho0) hb) (R_lower (R_new' ho0 (R_lt (rU_ HO_7.out))) (below_size (bU_ HB.out))) (below_step (bU_ HB.out) hb) ?_; clear HO_7 HB; intro HO_7 HO148 HB; clear hb ho0))
   go_ret
   exact ⟨_, eW_, R_mono (rU_ HO148.out) (fun _ hk => trivial), bU_ HB.out⟩

def poly_Add.f (k : Nat) (a0 : Int) (l1 : List Int) (l2 : List Int) : Option (List Int) := if (l1.length : Int) < (l2.length : Int) then poly_Add_yes.f k a0 l1 l2 else poly_Add_no.f k a0 l1 l2
theorem poly_Add.mono : ∀ a0 l1 l2 k, LeO (poly_Add.f k a0 l1 l2) (poly_Add.f (k + 1) a0 l1 l2) := by
 intro a0 l1 l2 k
 unfold poly_Add.f
 exact LeO.ite (poly_Add_yes.mono _ _ _ _) (poly_Add_no.mono _ _ _ _)
theorem poly_Add.calls (k : Nat) (a0 : Int) (A1 : Option Addr) (c1 : Nat) (l1 : List Int) (A2 : Option Addr) (c2 : Nat) (l2 : List Int) (r : List Int) (w : World) (hG : Fld w) (hr1 : Kd.C (Kd.int .u64) w A1 l1.length l1) (hc1 : l1.length ≤ c1) (hr2 : Kd.C (Kd.int .u64) w A2 l2.length l2) (hc2 : l2.length ≤ c2) (h : poly_Add.f k a0 l1 l2 = some r) :
  Calls Tryd.prog 22 #[.int .i64 a0, .slice A1 l1.length c1, .slice A2 l2.length c2] w fun e w' => ∃ v0_ : Value, e = .returned (v0_) ∧ Kd.R (Kd.int .u64) 32 w' w.heap.size (fun _ => True) v0_ r ∧ Below w.heap.size w w' := by
 unfold poly_Add.f at h
 by_cases hX : (l1.length : Int) < (l2.length : Int)
 ·rw [if_pos hX] at h
  exact poly_Add_yes.calls k a0 A1 c1 l1 A2 c2 l2 r w hX hG hr1 hc1 hr2 hc2 h
 rw [if_neg hX] at h
 exact poly_Add_no.calls k a0 A1 c1 l1 A2 c2 l2 r w hX hG hr1 hc1 hr2 hc2 h

def field_Neg.f (a0 : Int) (a1 : Int) : Option (Int) := (field_P.f a0).bind fun t149 => (if t149 = 0 then (some 0) else (if (Int.tmod a1 t149) = 0 then (some 0) else (some (IntKind.u64.wrap (t149 - (Int.tmod a1 t149))))))
set_option maxHeartbeats 8000000 in
set_option maxRecDepth 100000 in
theorem field_Neg.calls (a0 : Int) (a1 : Int) (r : Int) (w : World) (hG : Fld w) (h : field_Neg.f a0 a1 = some r) :
  Calls Tryd.prog 57 #[.int .i64 a0, .int .u64 a1] w fun e w' => e = .returned (.int .u64 r) ∧ Below w.heap.size w w' := by
 have HG := ak hG
 clear hG
 have HB := ak (Below.refl w.heap.size w)
 have H := h
 clear h
 unfold field_Neg.f at H
 revert H
 refine bd_ fun t149 A3 H => ?_
 by_cases c4 : t149 = 0
 ·rw [if_pos c4] at H
  have c4b0 := beq_iff_eq.mpr c4
  have c4b1 := bne_eq_false_iff_eq.mpr c4
  clear c4
  obtain rfl := Option.some.inj H
  go_enter Tryd.func57, Tryd.ntmps57
  go_wp2_with (first | ((with_reducible refine gate_callee (f := 58) rfl ?_); refine gl_ (some 7) Tryd.func58 #[.int .i64 a0] ?_; (with_reducible refine (field_P.calls a0 t149 _ ?side1 A3.out).mono ?_); (case side1 => exact fU_ HG.out HB.out); rintro e w5 ⟨rfl, hb⟩; refine ⟨_, rfl, ?_⟩; refine nx1_ (below_step (bU_ HB.out) hb) ?_; clear HB; intro HB; clear hb))
  go_ret
  exact ⟨eW_, bU_ HB.out⟩
 rw [if_neg c4] at H
 have c4b0 := beq_eq_false_iff_ne.mpr c4
 have c4b1 := bne_iff_ne.mpr c4
 by_cases c6 : (Int.tmod a1 t149) = 0
 ·rw [if_pos c6] at H
  have c6b0 := beq_iff_eq.mpr c6
  have c6b1 := bne_eq_false_iff_eq.mpr c6
  clear c6
  obtain rfl := Option.some.inj H
  go_enter Tryd.func57, Tryd.ntmps57
  go_wp2_with (first | ((with_reducible refine gate_callee (f := 58) rfl ?_); refine gl_ (some 7) Tryd.func58 #[.int .i64 a0] ?_; (with_reducible refine (field_P.calls a0 t149 _ ?side1 A3.out).mono ?_); (case side1 => exact fU_ HG.out HB.out); rintro e w7 ⟨rfl, hb⟩; refine ⟨_, rfl, ?_⟩; refine nx1_ (below_step (bU_ HB.out) hb) ?_; clear HB; intro HB; clear hb))
  go_ret
  exact ⟨eW_, bU_ HB.out⟩
 rw [if_neg c6] at H
 have c6b0 := beq_eq_false_iff_ne.mpr c6
 have c6b1 := bne_iff_ne.mpr c6
 obtain rfl := Option.some.inj H
 go_enter Tryd.func57, Tryd.ntmps57
 go_wp2_with (first | ((with_reducible refine gate_callee (f := 58) rfl ?_); refine gl_ (some 7) Tryd.func58 #[.int .i64 a0] ?_; (with_reducible refine (field_P.calls a0 t149 _ ?side1 A3.out).mono ?_); (case side1 => exact fU_ HG.out HB.out); rintro e w8 ⟨rfl, hb⟩; refine ⟨_, rfl, ?_⟩; refine nx1_ (below_step (bU_ HB.out) hb) ?_; clear HB; intro HB; clear hb))
 go_ret
 exact ⟨eW_, bU_ HB.out⟩

def field_Sub.f (a0 : Int) (a1 : Int) (a2 : Int) : Option (Int) := (field_Neg.f a0 a2).bind fun t150 => ((field_Add.f a0 a1 t150).bind fun t151 => (some t151))
set_option maxHeartbeats 8000000 in
set_option maxRecDepth 100000 in
theorem field_Sub.calls (a0 : Int) (a1 : Int) (a2 : Int) (r : Int) (w : World) (hG : Fld w) (h : field_Sub.f a0 a1 a2 = some r) :
  Calls Tryd.prog 24 #[.int .i64 a0, .int .u64 a1, .int .u64 a2] w fun e w' => e = .returned (.int .u64 r) ∧ Below w.heap.size w w' := by
 have HG := ak hG
 clear hG
 have HB := ak (Below.refl w.heap.size w)
 have H : ((field_Neg.f a0 a2).bind fun t150 => ((field_Add.f a0 a1 t150).bind fun t151 => (some t151))) = some r := h
 clear h
 revert H
 refine bd_ fun t150 A4 H => ?_
 revert H
 refine bd_ fun t151 A5 H => ?_
 obtain rfl := Option.some.inj H
 go_enter Tryd.func24, Tryd.ntmps24
 go_wp2_with (first | ((with_reducible refine gate_callee (f := 57) rfl ?_); refine gl_ (some 11) Tryd.func57 #[.int .i64 a0, .int .u64 a2] ?_; (with_reducible refine (field_Neg.calls a0 a2 t150 _ ?side1 A4.out).mono ?_); (case side1 => exact fU_ HG.out HB.out); rintro e w6 ⟨rfl, hb⟩; refine ⟨_, rfl, ?_⟩; refine nx1_ (below_step (bU_ HB.out) hb) ?_; clear HB; intro HB; clear hb) | ((with_reducible refine gate_callee (f := 45) rfl ?_); refine gl_ (some 12) Tryd.func45 #[.int .i64 a0, .int .u64 a1, .int .u64 t150] ?_; (with_reducible refine (field_Add.calls a0 a1 t150 t151 _ ?side1 A5.out).mono ?_); (case side1 => exact fU_ HG.out HB.out); rintro e w7 ⟨rfl, hb⟩; refine ⟨_, rfl, ?_⟩; refine nx1_ (below_step (bU_ HB.out) hb) ?_; clear HB; intro HB; clear hb))
 go_ret
 exact ⟨eW_, bU_ HB.out⟩

def field_Mul.f (a0 : Int) (a1 : Int) (a2 : Int) : Option (Int) := (field_P.f a0).bind fun t152 => (if t152 = 0 then (some 0) else (some (Int.tmod (IntKind.u64.wrap ((Int.tmod a1 t152) * (Int.tmod a2 t152))) t152)))
set_option maxHeartbeats 8000000 in
set_option maxRecDepth 100000 in
theorem field_Mul.calls (a0 : Int) (a1 : Int) (a2 : Int) (r : Int) (w : World) (hG : Fld w) (h : field_Mul.f a0 a1 a2 = some r) :
  Calls Tryd.prog 44 #[.int .i64 a0, .int .u64 a1, .int .u64 a2] w fun e w' => e = .returned (.int .u64 r) ∧ Below w.heap.size w w' := by
 have HG := ak hG
 clear hG
 have HB := ak (Below.refl w.heap.size w)
 have H := h
 clear h
 unfold field_Mul.f at H
 revert H
 refine bd_ fun t152 A4 H => ?_
 by_cases c5 : t152 = 0
 ·rw [if_pos c5] at H
  have c5b0 := beq_iff_eq.mpr c5
  have c5b1 := bne_eq_false_iff_eq.mpr c5
  clear c5
  obtain rfl := Option.some.inj H
  go_enter Tryd.func44, Tryd.ntmps44
  go_wp2_with (first | (go_at_call 58; (with_reducible refine (field_P.calls a0 t152 _ ?side1 A4.out).mono ?_); (case side1 => exact fU_ HG.out HB.out); rintro e w6 ⟨rfl, hb⟩; refine nx1_ (below_step (bU_ HB.out) hb) ?_; clear HB; intro HB; clear hb))
  repeat (go_quiet (first | (go_at_call 58; (with_reducible refine (field_P.calls a0 t152 _ ?side1 A4.out).mono ?_); (case side1 => exact fU_ HG.out HB.out); rintro e w6 ⟨rfl, hb⟩; refine nx1_ (below_step (bU_ HB.out) hb) ?_; clear HB; intro HB; clear hb)); try go_wp2_with (first | (go_at_call 58; (with_reducible refine (field_P.calls a0 t152 _ ?side1 A4.out).mono ?_); (case side1 => exact fU_ HG.out HB.out); rintro e w6 ⟨rfl, hb⟩; refine nx1_ (below_step (bU_ HB.out) hb) ?_; clear HB; intro HB; clear hb)))
  go_ret
  exact ⟨eW_, bU_ HB.out⟩
 rw [if_neg c5] at H
 have c5b0 := beq_eq_false_iff_ne.mpr c5
 have c5b1 := bne_iff_ne.mpr c5
 obtain rfl := Option.some.inj H
 go_enter Tryd.func44, Tryd.ntmps44
 go_wp2_with (first | (go_at_call 58; (with_reducible refine (field_P.calls a0 t152 _ ?side1 A4.out).mono ?_); (case side1 => exact fU_ HG.out HB.out); rintro e w7 ⟨rfl, hb⟩; refine nx1_ (below_step (bU_ HB.out) hb) ?_; clear HB; intro HB; clear hb))
 repeat (go_quiet (first | (go_at_call 58; (with_reducible refine (field_P.calls a0 t152 _ ?side1 A4.out).mono ?_); (case side1 => exact fU_ HG.out HB.out); rintro e w7 ⟨rfl, hb⟩; refine nx1_ (below_step (bU_ HB.out) hb) ?_; clear HB; intro HB; clear hb)); try go_wp2_with (first | (go_at_call 58; (with_reducible refine (field_P.calls a0 t152 _ ?side1 A4.out).mono ?_); (case side1 => exact fU_ HG.out HB.out); rintro e w7 ⟨rfl, hb⟩; refine nx1_ (below_step (bU_ HB.out) hb) ?_; clear HB; intro HB; clear hb)))
 go_ret
 exact ⟨eW_, bU_ HB.out⟩

def poly_Eval.l0 : Nat → Int → List Int → Int → Int → Int → Int → Option (Int)
 | 0, _, _, _, _, _, _ => none
 | k + 1, x0, x1, x2, x7, x10, x11 => if x11 < x10 then ((field_Mul.f x0 x7 x2).bind fun t153 => (if 0 ≤ (wrap64 ((wrap64 ((x1.length : Int) - 1)) - x11)) then (if (wrap64 ((wrap64 ((x1.length : Int) - 1)) - x11)) < (x1.length : Int) then ((field_Add.f x0 t153 (rd x1 (wrap64 ((wrap64 ((x1.length : Int) - 1)) - x11)))).bind fun t155 => (poly_Eval.l0 k x0 x1 x2 t155 x10 (wrap64 (x11 + 1)))) else (none)) else (none))) else (some x7)
def poly_Eval.f (k : Nat) (a0 : Int) (l1 : List Int) (a2 : Int) : Option (Int) := poly_Eval.l0 k a0 l1 a2 0 (l1.length : Int) 0
theorem poly_Eval.mono_l : ∀ k, (∀ y0 y1 y2 y3 y4 y5, LeO (poly_Eval.l0 k y0 y1 y2 y3 y4 y5) (poly_Eval.l0 (k + 1) y0 y1 y2 y3 y4 y5))
 | 0 => fun _ _ _ _ _ _ r h => by simp [poly_Eval.l0] at h
 | k + 1 => by
  have ih0 := poly_Eval.mono_l k
  ·intro y0 y1 y2 y3 y4 y5
   unfold poly_Eval.l0
   with_reducible repeat' first | apply ih0 | exact LeO.refl _ | exact LeO.none _ | refine LeO.ite ?_ ?_ | refine LeO.bind ?_ (fun _ => ?_)
theorem poly_Eval.mono : ∀ a0 a1 a2 k, LeO (poly_Eval.f k a0 a1 a2) (poly_Eval.f (k + 1) a0 a1 a2) := by
 intro a0 a1 a2 k
 have ih0 := poly_Eval.mono_l k
 unfold poly_Eval.f
 with_reducible repeat' first | apply ih0 | exact LeO.refl _ | exact LeO.none _ | refine LeO.ite ?_ ?_ | refine LeO.bind ?_ (fun _ => ?_)
def poly_Eval.T5 : Bool × List (List Nat × List Nat) := (true, [([], []), ([], []), ([], []), ([], []), ([1, 2, 3], [1, 2, 3]), ([], []), ([], []), ([6], [6]), ([7], [7]), ([], []), ([8, 9], [8, 9]), ([5, 10], [5, 10]), ([11], [11]), ([0, 4, 12, 4], [0, 4, 12]), ([13, 13, 0, 1, 2, 3, 4, 5, 6, 7, 8, 9, 10, 11, 12, 13], [2, 13])])
def poly_Eval.B5 : List Nat := [0, 0, 0, 0, 14, 0, 0, 64, 192, 0, 960, 2016, 4064, 8191, 16383]
theorem poly_Eval.tab5 : rtab .any (opsOf Tryd.f25 5) = poly_Eval.T5 := by kernel_rfl
theorem poly_Eval.bits5 : waitsOk poly_Eval.T5.2 poly_Eval.B5 = true := by kernel_rfl
set_option maxHeartbeats 8000000 in
set_option maxRecDepth 100000 in
theorem poly_Eval.calls (k : Nat) (a0 : Int) (A1 : Option Addr) (c1 : Nat) (l1 : List Int) (a2 : Int) (r : Int) (w : World) (hG : Fld w) (hr1 : Kd.C (Kd.int .u64) w A1 l1.length l1) (hc1 : l1.length ≤ c1) (h : poly_Eval.f k a0 l1 a2 = some r) :
  Calls Tryd.prog 25 #[.int .i64 a0, .slice A1 l1.length c1, .int .u64 a2] w fun e w' => e = .returned (.int .u64 r) ∧ Below w.heap.size w w' := by
 have HG := ak hG
 clear hG
 have HR1 := ak hr1
 have HC1 := ak hc1
 clear hr1 hc1
 have HB := ak (Below.refl w.heap.size w)
 have H : (poly_Eval.l0 k a0 l1 a2 0 (l1.length : Int) 0) = some r := h
 clear h
 have H' := ak H
 clear H
 go_enter Tryd.func25, Tryd.ntmps25
 go_wp2
 go_loopg [7, 11] k (fun kq v7 v11 w' => ∃ (x7_1 : Int) (x11_1 : Int), v7 = .int .u64 x7_1 ∧ v11 = .int .i64 x11_1 ∧ Aside0 (poly_Eval.l0 kq a0 l1 a2 x7_1 (l1.length : Int) x11_1 = some r) ∧ Aside0 (kq ≤ k) ∧ Aside0 (Below w.heap.size w w'))
 case atStart => exact ⟨(0), (0), gb_, gb_, H', ⟨Nat.le_refl _⟩, ⟨bU_ HB.out⟩⟩
 case round =>
  clear H'
  (try clear c1); (try clear c2); (try clear p2)
  obtain ⟨x7_1, x11_1, rfl, rfl, HA, HK1, HB⟩ := hrel
  cases gk with
  | zero => exact absurd HA.out (by simp [poly_Eval.l0])
  | succ k1 =>
   have H := HA.out
   clear HA
   simp only [poly_Eval.l0] at H
   by_cases c4 : x11_1 < (l1.length : Int)
   ·rw [if_pos c4] at H
    have c4b0 := decide_eq_true c4
    clear c4
    revert H
    refine bd_ fun t153 A5 H => ?_
    obtain ⟨ji6, hji6⟩ : ∃ j_ : Int, (wrap64 ((wrap64 ((l1.length : Int) - 1)) - x11_1)) = j_ := ⟨_, rfl⟩
    first | rw [hji6] at H | simp only [hji6] at H
    (try rw [hji6] at A5)
    have hji6w : (IntKind.i64.wrap ((wrap64 ((l1.length : Int) - 1)) - x11_1)) = ji6 := (i64_w _).trans hji6
    obtain ⟨c7, H⟩ : (0 ≤ (ji6)) ∧ _ := it_ H
    have c7b0 := decide_eq_true c7
    clear c7
    obtain ⟨c8, H⟩ : ((ji6) < (l1.length : Int)) ∧ _ := it_ H
    have c8b0 := decide_eq_true c8
    clear c8
    revert H
    refine bd_ fun t155 A9 H => ?_
    have H' := ak H
    clear H
    try go_wp2
    refine nx1_ (below_drew1 HB.out) ?_
    clear HB
    intro HB
    have p154 : 0 ≤ ((ji6) : Int) := od_
    have q154 : (ji6) < (l1.length : Int) := od_
    obtain ⟨ad154, e154, hx154_0⟩ := Kd.at_int HR1.out (ji6) p154 q154
    have hw154_0 := hx154_0
    cases e154
    replace hx154_0 := (HB.out.cell (World.block_lt_of_cell? w _ hx154_0)).trans hx154_0
    replace p154 := eq_true p154
    replace q154 := eq_true q154
    refine start_ (n := 15) (S := fun w' => w'.cell? (ad154.add ((ji6)).toNat) = some (.int .u64 (rd l1 (ji6)))) (ds := []) (bv 15 0) (by kernel_rfl) rfl rfl (((HB.out.cell (World.block_lt_of_cell? w _ hw154_0)).trans hw154_0)) (fun hHeld => ?_); refine with_tabW poly_Eval.tab5 poly_Eval.bits5 (fun HT_ HW_ => ?_)
    generalize wr.drew = w10 at HB hx154_0 hHeld ⊢
    refine pq_ 0 14 15 1 HT_.out ?_
    refine pq_ 1 15 15 3 HT_.out ?_
    refine pq_ 2 16 15 7 HT_.out ?_
    refine pq_ 3 17 15 15 HT_.out ?_
    refine pq_ 5 19 15 47 HT_.out ?_
    refine pq_ 6 20 15 111 HT_.out ?_
    refine pq_ 7 21 15 239 HT_.out ?_
    refine pq_ 8 22 15 495 HT_.out ?_
    refine pq_ 9 23 15 1007 HT_.out ?_
    refine pq_ 10 24 15 2031 HT_.out ?_
    refine pq_ 11 25 15 4079 HT_.out ?_
    refine take_ (i := 12) (N := some 26) (v := ?_) (a' := ?_) (bv 15 8175) rfl rfl (take_ofW HT_.out HW_.out (by kernel_rfl)) (fun _ _ _ h => h) (Or.inl ⟨by rfl, ?_⟩) hHeld ?_ ?_
    rotate_left
    ·intro w' s0
     go_simp
     with_reducible rfl
    rotate_left
    ·simp only [Act.put, s1_, s2_, s3_, i64_w, i32_w]
     rfl
    refine oq_ 4 18 15 8191 HT_.out fun K hK => ?_
    refine gs_ Tryd.func44 #[.int .i64 a0, .int .u64 x7_1, .int .u64 a2] ?_
    with_reducible refine (field_Mul.calls a0 x7_1 a2 t153 _ ?side1 A5.out).mono ?_
    (case side1 => exact fU_ HG.out HB.out)
    rintro e w11 ⟨rfl, hb⟩
    refine ⟨_, rfl, ?_⟩
    refine nx1_ (below_step (bU_ HB.out) hb) ?_
    clear HB
    intro HB
    (try clear hb)
    (try clear hb2)
    (try clear hk)
    (try clear hi)
    refine hK.out _ _ (((HB.out.cell (World.block_lt_of_cell? w _ hw154_0)).trans hw154_0)) (fun hHeld => ?_)
    clear hK K
    refine norm_ (a' := ?_) ?_ ?_
    rotate_left
    ·show Act.put _ (some 18) _ = _
     simp only [Act.put, s1_, s2_, s3_, i64_w, i32_w]
     rfl
    refine oq_ 13 27 15 16383 HT_.out fun K hK => ?_
    refine goes_ Tryd.func45 (by kernel_rfl) rfl #[.int .i64 a0, .int .u64 t153, .int .u64 (rd l1 (ji6))] (by rfl) rfl rfl (by (try simp only [List.map_toArray, List.map_cons, List.map_nil]); first | done | (simp only [hji6]; rfl) | rfl | (simp only [List.length_drop, List.length_take]; rfl)) ?_
    with_reducible refine (field_Add.calls a0 t153 (rd l1 (ji6)) t155 _ ?side1 A9.out).mono ?_
    (case side1 => exact fU_ HG.out HB.out)
    rintro e w12 ⟨rfl, hb⟩
    refine ⟨_, rfl, ?_⟩
    refine nx1_ (below_step (bU_ HB.out) hb) ?_
    clear HB
    intro HB
    (try clear hb)
    (try clear hb2)
    (try clear hk)
    (try clear hi)
    refine hK.out _ _ (((HB.out.cell (World.block_lt_of_cell? w _ hw154_0)).trans hw154_0)) (fun hHeld => ?_)
    clear hK K
    refine norm_ (a' := ?_) ?_ ?_
    rotate_left
    ·show Act.put _ (some 27) _ = _
     simp only [Act.put, s1_, s2_, s3_, i64_w, i32_w]
     rfl
    refine pq_ 14 7 15 32767 HT_.out ?_
    refine done_ (done_of HT_.out (by kernel_rfl)) ?_
    try go_wp2
    go_roundg k1
    case measure => have := HK1.out; omega
    case rel => exact ⟨(t155), (wrap64 (x11_1 + 1)), gb_, gb_, H', ⟨by have := HK1.out; omega⟩, ⟨bU_ HB.out⟩⟩
   rw [if_neg c4] at H
   have c4b0 := decide_eq_false c4
   clear c4
   obtain rfl := Option.some.inj H
   go_wp2
   go_ret
   exact ⟨eW_, bU_ HB.out⟩

def poly_Scale.l0 : Nat → Int → Int → List Int → List Int → Int → Int → Option (List Int)
 | 0, _, _, _, _, _, _ => none
 | k + 1, x0, x2, x7, x13, x14, x15 => if x15 < x14 then (if 0 ≤ x15 then (if x15 < (x13.length : Int) then ((field_Mul.f x0 (rd x13 x15) x2).bind fun t160 => (if x15 < (x7.length : Int) then (poly_Scale.l0 k x0 x2 (x7.set (x15 : Int).toNat t160) x13 x14 (wrap64 (x15 + 1))) else (none))) else (none)) else (none)) else ((poly_trim.f k x7).bind fun t162 => (some t162))
def poly_Scale.f (k : Nat) (a0 : Int) (l1 : List Int) (a2 : Int) : Option (List Int) := if 0 ≤ (l1.length : Int) then (if ((l1.length : Int) : Int).toNat ≤ 35184372088832 then (poly_Scale.l0 k a0 a2 (List.replicate ((l1.length : Int) : Int).toNat 0) l1 (l1.length : Int) 0) else (none)) else (none)
theorem poly_Scale.mono_l : ∀ k, (∀ y0 y1 y2 y3 y4 y5, LeO (poly_Scale.l0 k y0 y1 y2 y3 y4 y5) (poly_Scale.l0 (k + 1) y0 y1 y2 y3 y4 y5))
 | 0 => fun _ _ _ _ _ _ r h => by simp [poly_Scale.l0] at h
 | k + 1 => by
  have ih0 := poly_Scale.mono_l k
  ·intro y0 y1 y2 y3 y4 y5
   unfold poly_Scale.l0
   with_reducible repeat' first | apply ih0 | apply poly_trim.mono | exact LeO.refl _ | exact LeO.none _ | refine LeO.ite ?_ ?_ | refine LeO.bind ?_ (fun _ => ?_)
theorem poly_Scale.mono : ∀ a0 a1 a2 k, LeO (poly_Scale.f k a0 a1 a2) (poly_Scale.f (k + 1) a0 a1 a2) := by
 intro a0 a1 a2 k
 have ih0 := poly_Scale.mono_l k
 unfold poly_Scale.f
 with_reducible repeat' first | apply ih0 | apply poly_trim.mono | exact LeO.refl _ | exact LeO.none _ | refine LeO.ite ?_ ?_ | refine LeO.bind ?_ (fun _ => ?_)
set_option maxHeartbeats 8000000 in
set_option maxRecDepth 100000 in
theorem poly_Scale.calls (k : Nat) (a0 : Int) (A1 : Option Addr) (c1 : Nat) (l1 : List Int) (a2 : Int) (r : List Int) (w : World) (hG : Fld w) (hr1 : Kd.C (Kd.int .u64) w A1 l1.length l1) (hc1 : l1.length ≤ c1) (h : poly_Scale.f k a0 l1 a2 = some r) :
  Calls Tryd.prog 32 #[.int .i64 a0, .slice A1 l1.length c1, .int .u64 a2] w fun e w' => ∃ v0_ : Value, e = .returned (v0_) ∧ Kd.R (Kd.int .u64) 32 w' w.heap.size (fun _ => True) v0_ r ∧ Below w.heap.size w w' := by
 have HG := ak hG
 clear hG
 have HR1 := ak hr1
 have HC1 := ak hc1
 clear hr1 hc1
 have HB := ak (Below.refl w.heap.size w)
 have H := h
 clear h
 unfold poly_Scale.f at H
 obtain ⟨c4, H⟩ : (0 ≤ (l1.length : Int)) ∧ _ := it_ H
 have c4b0 := eq_true c4
 have c4b1 := decide_eq_true c4
 clear c4
 obtain ⟨c5, H⟩ : (((l1.length : Int) : Int).toNat ≤ 35184372088832) ∧ _ := it_ H
 have c5b0 := eq_true c5
 have c5b1 := decide_eq_true c5
 clear c5
 obtain ⟨y156, hy156⟩ : ∃ y_ : List Int, y_ = (List.replicate ((l1.length : Int) : Int).toNat 0) := ⟨_, rfl⟩
 first | rw [Option.bind_some, ← hy156] at H | rw [← hy156] at H
 have Ny156 := ak hy156
 clear hy156
 have H' := ak H
 clear H
 go_enter Tryd.func32, Tryd.ntmps32
 go_wp2_with (first | ((with_reducible refine gate_dst (N := 12) rfl ?_); refine R_make (Kd.int .u64) _ 32 rfl (N := 12) rfl 22 _ _ rfl (l1.length : Int) ?hx ?hy Tryd.underlying22 (.int .u64 0) 8 info32 rfl (by decide) (by omega) 0 (ok := fun _ => True) (okp := fun _ => True) rfl (fun _ hk => hk) trivial od_ (Nat.le_trans (Nat.mul_le_mul_right _ (od_ : (l1.length : Int).toNat ≤ 35184372088832)) (by omega)) (Below.refl _ _) (Nat.le_refl _) ?_; (case hx => first | rfl); (case hy => first | rfl); intro v157 w6 ho7 hb hg_ hnew_; clear hg_ hnew_; (first | rw [← Ny156.out] at ho7 | (simp only [Int.reduceToNat] at ho7; rw [← Ny156.out] at ho7)); refine nx2_ (R_lower ho7 (below_size (bU_ HB.out))) (below_step (bU_ HB.out) hb) ?_; clear HB; intro HO158 HB; clear hb ho7))
 go_loopg [15] k (fun kq v15 w' => ∃ (x7_1 : List Int) (x15_1 : Int), v15 = .int .i64 x15_1 ∧ Aside0 (poly_Scale.l0 kq a0 a2 x7_1 l1 (l1.length : Int) x15_1 = some r) ∧ Aside0 (kq ≤ k) ∧ Aside0 (Kd.R (Kd.int .u64) 32 w' w.heap.size (fun _ => True) v157 x7_1) ∧ Aside0 (Below w.heap.size w w'))
 case atStart => exact ⟨(y156), (0), gb_, H', ⟨Nat.le_refl _⟩, ⟨rU_ HO158.out⟩, ⟨bU_ HB.out⟩⟩
 case round =>
  clear H'
  (try clear c1); (try clear p2); (try clear c3); (try clear c4); (try clear c4b0); (try clear c4b1); (try clear c5); (try clear c5b0); (try clear c5b1)
  obtain ⟨x7_1, x15_1, rfl, HA, HK1, HO_7, HB⟩ := hrel
  cases gk with
  | zero => exact absurd HA.out (by simp [poly_Scale.l0])
  | succ k1 =>
   have H := HA.out
   clear HA
   simp only [poly_Scale.l0] at H
   by_cases c8 : x15_1 < (l1.length : Int)
   ·rw [if_pos c8] at H
    have c8b0 := decide_eq_true c8
    clear c8
    obtain ⟨c9, H⟩ : (0 ≤ x15_1) ∧ _ := it_ H
    have c9b0 := decide_eq_true c9
    clear c9
    obtain ⟨c10, H⟩ : (x15_1 < (l1.length : Int)) ∧ _ := it_ H
    have c10b0 := decide_eq_true c10
    clear c10
    revert H
    refine bd_ fun t160 A11 H => ?_
    obtain ⟨c12, H⟩ : (x15_1 < (x7_1.length : Int)) ∧ _ := it_ H
    have c12b0 := decide_eq_true c12
    clear c12
    obtain ⟨y161, hy161⟩ : ∃ y_ : List Int, y_ = (x7_1.set (x15_1 : Int).toNat t160) := ⟨_, rfl⟩
    first | rw [Option.bind_some, ← hy161] at H | rw [← hy161] at H
    have Ny161 := ak hy161
    clear hy161
    have H' := ak H
    clear H
    have p159 : 0 ≤ (x15_1 : Int) := od_
    have q159 : x15_1 < (l1.length : Int) := od_
    obtain ⟨ad159, e159, hx159_0⟩ := Kd.at_int HR1.out x15_1 p159 q159
    cases e159
    replace hx159_0 := (HB.out.cell (World.block_lt_of_cell? w _ hx159_0)).trans hx159_0
    replace p159 := eq_true p159
    replace q159 := eq_true q159
    go_wp2_with (first | ((with_reducible refine gate_callee (f := 44) rfl ?_); refine gl_ (some 25) Tryd.func44 #[.int .i64 a0, .int .u64 (rd l1 x15_1), .int .u64 a2] ?_; (with_reducible refine (field_Mul.calls a0 (rd l1 x15_1) a2 t160 _ ?side1 A11.out).mono ?_); (case side1 => exact fU_ HG.out HB.out); rintro e w14 ⟨rfl, hb⟩; refine ⟨_, rfl, ?_⟩; refine nx2_ (R_below (rU_ HO_7.out) hb) (below_step (bU_ HB.out) hb) ?_; clear HO_7 HB; intro HO_7 HB; clear hb; have p13 : 0 ≤ (x15_1 : Int) := od_; have q13 : (x15_1 : Int) < ((x7_1.length : Int) : Int) := od_; obtain ⟨go13, co13, eo13, gb13, gl13, cl13, HG13⟩ := Kd.R_form HO_7.out (by omega); (first | cases eo13 | (injection eo13 with ea_ en_ ec_; (first | subst ea_ | (injection ea_ with ea_; subst ea_)); subst ec_; clear en_)); have GB13 := ak gb13; have GG13 := ak HG13; clear gb13 gl13 HG13; obtain ⟨hx13_0, hf13_0⟩ := Kd.R_celln 0 HO_7.out (x15_1 : Int) p13 q13; replace p13 := eq_true p13; replace q13 := eq_true q13; obtain ⟨hy15_, hz15_⟩ := Kd.R_celln 0 HO_7.out (x15_1 : Int) od_ od_; have HP15 := Kd.R_putg HO_7.out (x15_1 : Int) t160) | ((with_reducible refine gate_store (t := 32) (p := 26) rfl ?_); refine store_event (t := 32) (p := 26) (v := ?vo_w16) (w1 := (w14.setCell ⟨go13, (x15_1 : Int).toNat, none⟩ (.int .u64 t160))) ?hg ?ho ?hn ?hr ?_; (case ho => rfl); (case hg => rfl); (case hn => rfl); (case hr => first | (go_simp; done) | (go_simp; rfl)); intro w16 hw; have hg : w14.grownBy w16 (some go13) := (by rw [hw]; exact HP15.2); have hp_ : Kd.R (Kd.int .u64) 32 w16 w.heap.size (fun _ => True) (.slice (some ⟨go13, 0, none⟩) x7_1.length co13) y161 := (by rw [hw, Ny161.out]; exact HP15.1); clear HP15; refine nx2_ (hp_) ((by rw [hw]; exact below_set (HB.out) GB13.out : Below w.heap.size w w16)) ?_; clear HO_7 HB; intro HO_7 HB; clear hg hw hp_))
    go_roundg k1
    case measure => have := HK1.out; omega
    case rel => exact ⟨(y161), (wrap64 (x15_1 + 1)), gb_, H', ⟨by have := HK1.out; omega⟩, ⟨rU_ HO_7.out⟩, ⟨bU_ HB.out⟩⟩
   rw [if_neg c8] at H
   have c8b0 := decide_eq_false c8
   clear c8
   revert H
   refine bd_ fun t162 A17 H => ?_
   obtain rfl := Option.some.inj H
   obtain ⟨Ao18, co18, eo18⟩ := R_slice HO_7.out
   subst eo18
   go_wp2_with (first | ((with_reducible refine gate_callee (f := 56) rfl ?_); refine gl_ (some 29) Tryd.func56 #[.slice Ao18 x7_1.length co18] ?_; (with_reducible refine (poly_trim.calls k1 (fun k_ => some k_ = (.slice Ao18 x7_1.length co18 : Value).ownBlock) (.slice Ao18 x7_1.length co18) x7_1 t162 w _ ?side1 ?side2 A17.out).mono ?_); (case side1 => repeat (first | (with_reducible first | exact HB.out | apply below_alloc | apply pw_below_drewN | apply below_drew1) | exact HB.out)); (case side2 => exact R_tight rfl HO_7.out); rintro e w19 ⟨v163, rfl, ho0, hb, hkp⟩; refine ⟨_, rfl, ?_⟩; refine nx2_ (R_mono (ok' := fun k_ => True) ho0 (fun k_ hk_ => trivial)) (hb) ?_; clear HB HO_7; intro HO164 HB; clear hb hkp ho0))
   go_ret
   exact ⟨_, eW_, rU_ HO164.out, bU_ HB.out⟩


mutual
def field_Inv.j0 : Nat → Int → Int → Bool → Option (Int)
 | 0, _, _, _ => none
 | k + 1, x1, x5, x20 => if x20 = true then (some 0) else (if x5 = 0 then (none) else (field_Inv.l0 k x5 (wrap64 (x5)) (wrap64 (Int.tmod x1 x5)) 0 1))
def field_Inv.l0 : Nat → Int → Int → Int → Int → Int → Option (Int)
 | 0, _, _, _, _, _ => none
 | k + 1, x5, x6, x7, x8, x9 => if x7 = 0 then (if x8 < 0 then (some (IntKind.u64.wrap (wrap64 (x8 + (wrap64 (x5)))))) else (some (IntKind.u64.wrap (x8)))) else (field_Inv.l0 k x5 x7 (wrap64 (x6 - (wrap64 ((wrap64 (Int.tdiv x6 x7)) * x7)))) x9 (wrap64 (x8 - (wrap64 ((wrap64 (Int.tdiv x6 x7)) * x9)))))
end
def field_Inv.f (k : Nat) (a0 : Int) (a1 : Int) : Option (Int) := (field_P.f a0).bind fun t165 => (if t165 = 0 then (field_Inv.j0 k a1 t165 true) else (field_Inv.j0 k a1 t165 ((Int.tmod a1 t165) == 0)))
theorem field_Inv.mono_l : ∀ k, (∀ y0 y1 y2, LeO (field_Inv.j0 k y0 y1 y2) (field_Inv.j0 (k + 1) y0 y1 y2)) ∧ (∀ y0 y1 y2 y3 y4, LeO (field_Inv.l0 k y0 y1 y2 y3 y4) (field_Inv.l0 (k + 1) y0 y1 y2 y3 y4))
 | 0 => ⟨fun _ _ _ r h => by simp [field_Inv.j0] at h, fun _ _ _ _ _ r h => by simp [field_Inv.l0] at h⟩
 | k + 1 => by
  obtain ⟨ih0, ih1⟩ := field_Inv.mono_l k
  refine ⟨?_, ?_⟩
  ·intro y0 y1 y2
   unfold field_Inv.j0
   with_reducible repeat' first | apply ih0 | apply ih1 | exact LeO.refl _ | exact LeO.none _ | refine LeO.ite ?_ ?_ | refine LeO.bind ?_ (fun _ => ?_)
  intro y0 y1 y2 y3 y4
  unfold field_Inv.l0
  with_reducible repeat' first | apply ih0 | apply ih1 | exact LeO.refl _ | exact LeO.none _ | refine LeO.ite ?_ ?_ | refine LeO.bind ?_ (fun _ => ?_)
theorem field_Inv.mono : ∀ a0 a1 k, LeO (field_Inv.f k a0 a1) (field_Inv.f (k + 1) a0 a1) := by
 intro a0 a1 k
 obtain ⟨ih0, ih1⟩ := field_Inv.mono_l k
 unfold field_Inv.f
 with_reducible repeat' first | apply ih0 | apply ih1 | exact LeO.refl _ | exact LeO.none _ | refine LeO.ite ?_ ?_ | refine LeO.bind ?_ (fun _ => ?_)
set_option maxHeartbeats 8000000 in
set_option maxRecDepth 100000 in
theorem field_Inv.calls (k : Nat) (a0 : Int) (a1 : Int) (r : Int) (w : World) (hG : Fld w) (h : field_Inv.f k a0 a1 = some r) :
  Calls Tryd.prog 55 #[.int .i64 a0, .int .u64 a1] w fun e w' => e = .returned (.int .u64 r) ∧ Below w.heap.size w w' := by
 have HG := ak hG
 clear hG
 have HB := ak (Below.refl w.heap.size w)
 have H := h
 clear h
 unfold field_Inv.f at H
 revert H
 refine bd_ fun t165 A3 H => ?_
 have HC4 := ak H
 clear H
 go_enter Tryd.func55, Tryd.ntmps55
 go_upto_region 2 with (first | (go_at_call 58; (with_reducible refine (field_P.calls a0 t165 _ ?side1 A3.out).mono ?_); (case side1 => exact fU_ HG.out HB.out); rintro e w5 ⟨rfl, hb⟩; refine nx1_ (below_step (bU_ HB.out) hb) ?_; clear HB; intro HB; clear hb))
 repeat (go_quiet (first | (go_at_call 58; (with_reducible refine (field_P.calls a0 t165 _ ?side1 A3.out).mono ?_); (case side1 => exact fU_ HG.out HB.out); rintro e w5 ⟨rfl, hb⟩; refine nx1_ (below_step (bU_ HB.out) hb) ?_; clear HB; intro HB; clear hb)); go_upto_region 2 with (first | (go_at_call 58; (with_reducible refine (field_P.calls a0 t165 _ ?side1 A3.out).mono ?_); (case side1 => exact fU_ HG.out HB.out); rintro e w5 ⟨rfl, hb⟩; refine nx1_ (below_step (bU_ HB.out) hb) ?_; clear HB; intro HB; clear hb)))
 (try simp only [Act.put, s1_, s2_, s3_])
 go_cut [20] (fun v20 wc => ∃ (kq : Nat) (x20_3 : Bool), v20 = .bool x20_3 ∧ Aside0 (field_Inv.j0 kq a1 t165 x20_3 = some r) ∧ Aside0 (kq ≤ k) ∧ Aside0 (Below w.heap.size w wc))
 case first =>
  have H := HC4.out
  clear HC4
  by_cases c6 : t165 = 0
  ·rw [if_pos c6] at H
   have c6b0 := beq_iff_eq.mpr c6
   have c6b1 := bne_eq_false_iff_eq.mpr c6
   clear c6
   (first | rw [c6b0] | (simp only [i64_w, i32_w]; rw [c6b0]) | rw [c6b1] | skip)
   have H' := ak H
   clear H
   go_wp2
   repeat (go_quiet (fail); try go_wp2)
   go_meet
   case rel => exact ⟨_, (true), gb_, H', ⟨by first | omega | exact Nat.le_refl _⟩, ⟨bU_ HB.out⟩⟩
  rw [if_neg c6] at H
  have c6b0 := beq_eq_false_iff_ne.mpr c6
  have c6b1 := bne_iff_ne.mpr c6
  (first | rw [c6b0] | (simp only [i64_w, i32_w]; rw [c6b0]) | rw [c6b1] | skip)
  have H' := ak H
  clear H
  go_wp2
  repeat (go_quiet (fail); try go_wp2)
  go_meet
  case rel => exact ⟨_, (((Int.tmod a1 t165) == 0)), gb_, H', ⟨by first | omega | exact Nat.le_refl _⟩, ⟨bU_ HB.out⟩⟩
 case rest =>
  clear HC4
  (try clear p2); (try clear c5); (try clear c6); (try clear c6b0); (try clear c6b1)
  obtain ⟨kq, x20_3, rfl, HA, HJ3, HB⟩ := hcut
  cases kq with
  | zero => exact absurd HA.out (by simp [field_Inv.j0])
  | succ kj3 =>
   have H := HA.out
   clear HA
   simp only [field_Inv.j0] at H
   by_cases c7 : x20_3 = true
   ·subst c7
    rw [if_pos rfl] at H
    obtain rfl := Option.some.inj H
    go_wp2
    repeat (go_quiet (fail); try go_wp2)
    go_ret
    exact ⟨eW_, bU_ HB.out⟩
   replace c7 := Bool.eq_false_iff.mpr c7
   subst c7
   rw [if_neg (show ¬ (false = true) by decide)] at H
   by_cases c8 : t165 = 0
   ·rw [if_pos c8] at H
    exact absurd H (by simp)
   rw [if_neg c8] at H
   have c8b0 := beq_eq_false_iff_ne.mpr c8
   have c8b1 := bne_iff_ne.mpr c8
   have H' := ak H
   clear H
   go_wp2
   repeat (go_quiet (fail); try go_wp2)
   go_loopg [6, 7, 8, 9] kj3 (fun kq v6 v7 v8 v9 w' => ∃ (x6_2 : Int) (x7_2 : Int) (x8_2 : Int) (x9_2 : Int), v6 = .int .i64 x6_2 ∧ v7 = .int .i64 x7_2 ∧ v8 = .int .i64 x8_2 ∧ v9 = .int .i64 x9_2 ∧ Aside0 (field_Inv.l0 kq t165 x6_2 x7_2 x8_2 x9_2 = some r) ∧ Aside0 (kq ≤ kj3) ∧ Aside0 (Below w.heap.size w w'))
   case atStart => exact ⟨(wrap64 (t165)), (wrap64 (Int.tmod a1 t165)), (0), (1), gb_, gb_, gb_, gb_, H', ⟨Nat.le_refl _⟩, ⟨bU_ HB.out⟩⟩
   case round =>
    clear H'
    (try clear p2); (try clear c5); (try clear c6); (try clear c6b0); (try clear c6b1); (try clear p6); (try clear c7); (try clear c8); (try clear c8b0); (try clear c8b1)
    obtain ⟨x6_2, x7_2, x8_2, x9_2, rfl, rfl, rfl, rfl, HA, HK2, HB⟩ := hrel
    cases gk with
    | zero => exact absurd HA.out (by simp [field_Inv.l0])
    | succ k2 =>
     have H := HA.out
     clear HA
     simp only [field_Inv.l0] at H
     by_cases c9 : x7_2 = 0
     ·rw [if_pos c9] at H
      have c9b0 := beq_iff_eq.mpr c9
      have c9b1 := bne_eq_false_iff_eq.mpr c9
      clear c9
      by_cases c10 : x8_2 < 0
      ·rw [if_pos c10] at H
       have c10b0 := decide_eq_true c10
       clear c10
       obtain rfl := Option.some.inj H
       go_wp2
       repeat (go_quiet (fail); try go_wp2)
       go_ret
       exact ⟨eW_, bU_ HB.out⟩
      rw [if_neg c10] at H
      have c10b0 := decide_eq_false c10
      clear c10
      obtain rfl := Option.some.inj H
      go_wp2
      repeat (go_quiet (fail); try go_wp2)
      go_ret
      exact ⟨eW_, bU_ HB.out⟩
     rw [if_neg c9] at H
     have c9b0 := beq_eq_false_iff_ne.mpr c9
     have c9b1 := bne_iff_ne.mpr c9
     have H' := ak H
     clear H
     go_wp2
     repeat (go_quiet (fail); try go_wp2)
     go_roundg k2
     case measure => have := HJ3.out; have := HK2.out; omega
     case rel => exact ⟨(x7_2), (wrap64 (x6_2 - (wrap64 ((wrap64 (Int.tdiv x6_2 x7_2)) * x7_2)))), (x9_2), (wrap64 (x8_2 - (wrap64 ((wrap64 (Int.tdiv x6_2 x7_2)) * x9_2)))), gb_, gb_, gb_, gb_, H', ⟨by have := HJ3.out; have := HK2.out; omega⟩, ⟨bU_ HB.out⟩⟩

def field_Div.f (k : Nat) (a0 : Int) (a1 : Int) (a2 : Int) : Option (Int) := (field_Inv.f k a0 a2).bind fun t166 => ((field_Mul.f a0 a1 t166).bind fun t167 => (some t167))
theorem field_Div.mono : ∀ a0 a1 a2 k, LeO (field_Div.f k a0 a1 a2) (field_Div.f (k + 1) a0 a1 a2) := by
 intro a0 a1 a2 k
 unfold field_Div.f
 with_reducible repeat' first | apply field_Inv.mono | exact LeO.refl _ | exact LeO.none _ | refine LeO.ite ?_ ?_ | refine LeO.bind ?_ (fun _ => ?_)
set_option maxHeartbeats 8000000 in
set_option maxRecDepth 100000 in
theorem field_Div.calls (k : Nat) (a0 : Int) (a1 : Int) (a2 : Int) (r : Int) (w : World) (hG : Fld w) (h : field_Div.f k a0 a1 a2 = some r) :
  Calls Tryd.prog 49 #[.int .i64 a0, .int .u64 a1, .int .u64 a2] w fun e w' => e = .returned (.int .u64 r) ∧ Below w.heap.size w w' := by
 have HG := ak hG
 clear hG
 have HB := ak (Below.refl w.heap.size w)
 have H : ((field_Inv.f k a0 a2).bind fun t166 => ((field_Mul.f a0 a1 t166).bind fun t167 => (some t167))) = some r := h
 clear h
 revert H
 refine bd_ fun t166 A4 H => ?_
 revert H
 refine bd_ fun t167 A5 H => ?_
 obtain rfl := Option.some.inj H
 go_enter Tryd.func49, Tryd.ntmps49
 go_wp2_with (first | ((with_reducible refine gate_callee (f := 55) rfl ?_); refine gl_ (some 11) Tryd.func55 #[.int .i64 a0, .int .u64 a2] ?_; (with_reducible refine (field_Inv.calls k a0 a2 t166 _ ?side1 A4.out).mono ?_); (case side1 => exact fU_ HG.out HB.out); rintro e w6 ⟨rfl, hb⟩; refine ⟨_, rfl, ?_⟩; refine nx1_ (below_step (bU_ HB.out) hb) ?_; clear HB; intro HB; clear hb) | ((with_reducible refine gate_callee (f := 44) rfl ?_); refine gl_ (some 12) Tryd.func44 #[.int .i64 a0, .int .u64 a1, .int .u64 t166] ?_; (with_reducible refine (field_Mul.calls a0 a1 t166 t167 _ ?side1 A5.out).mono ?_); (case side1 => exact fU_ HG.out HB.out); rintro e w7 ⟨rfl, hb⟩; refine ⟨_, rfl, ?_⟩; refine nx1_ (below_step (bU_ HB.out) hb) ?_; clear HB; intro HB; clear hb))
 go_ret
 exact ⟨eW_, bU_ HB.out⟩

def poly_times.l0 : Nat → Int → Int → List Int → List Int → Int → Int → Option (List Int)
 | 0, _, _, _, _, _, _ => none
 | k + 1, x0, x2, x7, x18, x19, x20 => if x20 < x19 then (if 0 ≤ x20 then (if x20 < (x18.length : Int) then (if x20 < (x7.length : Int) then ((field_Mul.f x0 (rd x18 x20) x2).bind fun t179 => ((field_Sub.f x0 (rd x7 x20) t179).bind fun t180 => (poly_times.l0 k x0 x2 (x7.set (x20 : Int).toNat t180) x18 x19 (wrap64 (x20 + 1))))) else (none)) else (none)) else (none)) else (some x7)
def poly_times.f (k : Nat) (a0 : Int) (l1 : List Int) (a2 : Int) : Option (List Int) := if 0 ≤ (wrap64 ((l1.length : Int) + 1)) then (if (wrap64 ((l1.length : Int) + 1) : Int).toNat ≤ 35184372088832 then ((some (List.replicate (wrap64 ((l1.length : Int) + 1) : Int).toNat 0 : List Int)).bind fun y168 => (if 1 ≤ (y168.length : Int) then (poly_times.l0 k a0 a2 (cpyAt y168 1 l1) l1 (l1.length : Int) 0) else (none))) else (none)) else (none)
theorem poly_times.mono_l : ∀ k, (∀ y0 y1 y2 y3 y4 y5, LeO (poly_times.l0 k y0 y1 y2 y3 y4 y5) (poly_times.l0 (k + 1) y0 y1 y2 y3 y4 y5))
 | 0 => fun _ _ _ _ _ _ r h => by simp [poly_times.l0] at h
 | k + 1 => by
  have ih0 := poly_times.mono_l k
  ·intro y0 y1 y2 y3 y4 y5
   unfold poly_times.l0
   with_reducible repeat' first | apply ih0 | exact LeO.refl _ | exact LeO.none _ | refine LeO.ite ?_ ?_ | refine LeO.bind ?_ (fun _ => ?_)
theorem poly_times.mono : ∀ a0 a1 a2 k, LeO (poly_times.f k a0 a1 a2) (poly_times.f (k + 1) a0 a1 a2) := by
 intro a0 a1 a2 k
 have ih0 := poly_times.mono_l k
 unfold poly_times.f
 with_reducible repeat' first | apply ih0 | exact LeO.refl _ | exact LeO.none _ | refine LeO.ite ?_ ?_ | refine LeO.bind ?_ (fun _ => ?_)
def poly_times.T6 : Bool × List (List Nat × List Nat) := (true, [([], []), ([], []), ([], []), ([], []), ([], []), ([3, 4], [3, 4]), ([5], [5]), ([], []), ([], []), ([], []), ([7, 8, 9], [7, 8, 9]), ([2, 6, 10, 10], [2, 6, 10]), ([0, 1, 0, 1, 2, 3, 4, 5, 6, 7, 8, 9, 10, 11], [0, 1]), ([12, 11, 11, 0, 1, 2, 3, 4, 5, 6, 7, 8, 9, 10, 11], [11, 12])])
def poly_times.B6 : List Nat := [0, 0, 0, 0, 0, 24, 56, 0, 0, 0, 896, 2044, 4095, 8191]
theorem poly_times.tab6 : rtab .any (opsOf Tryd.f50 6) = poly_times.T6 := by kernel_rfl
theorem poly_times.bits6 : waitsOk poly_times.T6.2 poly_times.B6 = true := by kernel_rfl
set_option maxHeartbeats 8000000 in
set_option maxRecDepth 100000 in
theorem poly_times.calls (k : Nat) (a0 : Int) (A1 : Option Addr) (c1 : Nat) (l1 : List Int) (a2 : Int) (r : List Int) (w : World) (hG : Fld w) (hr1 : Kd.C (Kd.int .u64) w A1 l1.length l1) (hc1 : l1.length ≤ c1) (h : poly_times.f k a0 l1 a2 = some r) :
  Calls Tryd.prog 50 #[.int .i64 a0, .slice A1 l1.length c1, .int .u64 a2] w fun e w' => ∃ v0_ : Value, e = .returned (v0_) ∧ Kd.R (Kd.int .u64) 32 w' w.heap.size (fun _ => True) v0_ r ∧ Below w.heap.size w w' := by
 have HG := ak hG
 clear hG
 have HR1 := ak hr1
 have HC1 := ak hc1
 clear hr1 hc1
 have HB := ak (Below.refl w.heap.size w)
 have H := h
 clear h
 unfold poly_times.f at H
 obtain ⟨ji4, hji4⟩ : ∃ j_ : Int, (wrap64 ((l1.length : Int) + 1)) = j_ := ⟨_, rfl⟩
 first | rw [hji4] at H | simp only [hji4] at H
 have hji4w : (IntKind.i64.wrap ((l1.length : Int) + 1)) = ji4 := (i64_w _).trans hji4
 obtain ⟨c5, H⟩ : (0 ≤ (ji4)) ∧ _ := it_ H
 have c5b0 := eq_true c5
 have c5b1 := decide_eq_true c5
 clear c5
 obtain ⟨c6, H⟩ : ((ji4 : Int).toNat ≤ 35184372088832) ∧ _ := it_ H
 have c6b0 := eq_true c6
 have c6b1 := decide_eq_true c6
 clear c6
 obtain ⟨y168, hy168⟩ : ∃ y_ : List Int, y_ = (List.replicate (ji4 : Int).toNat 0) := ⟨_, rfl⟩
 first | rw [Option.bind_some, ← hy168] at H | rw [← hy168] at H
 have Ny168 := ak hy168
 clear hy168
 obtain ⟨c7, H⟩ : (1 ≤ (y168.length : Int)) ∧ _ := it_ H
 have c7b0 := eq_true c7
 have c7b1 := decide_eq_true c7
 clear c7
 obtain ⟨y171, hy171⟩ : ∃ y_ : List Int, y_ = (y168.drop 1) := ⟨_, rfl⟩
 replace H : (poly_times.l0 k a0 a2 (cpyAt y168 1 l1) l1 (l1.length : Int) 0) = some r := by first | (rw [hy171]; with_reducible exact H) | (have H2_ := (Option.bind_some _ _).symm.trans H; rw [hy171]; with_reducible exact H2_) | (have H2_ := (Option.bind_some _ _).symm.trans H; with_reducible exact H2_) | with_reducible exact H | (rw [hy171]; exact H) | exact H
 have Ny171 := ak hy171
 clear hy171
 obtain ⟨y175, hy175⟩ : ∃ y_ : List Int, y_ = (cpyAt y168 1 l1) := ⟨_, rfl⟩
 first | rw [Option.bind_some, ← hy175] at H | rw [← hy175] at H
 have Ny175 := ak hy175
 clear hy175
 have H' := ak H
 clear H
 go_enter Tryd.func50, Tryd.ntmps50
 go_wp2_with (first | ((with_reducible refine gate_dst (N := 13) rfl ?_); refine R_make (Kd.int .u64) _ 32 rfl (N := 13) rfl 22 _ _ rfl ji4 ?hx ?hy Tryd.underlying22 (.int .u64 0) 8 info32 rfl (by decide) (by omega) 0 (ok := fun _ => True) (okp := fun _ => True) rfl (fun _ hk => hk) trivial od_ (Nat.le_trans (Nat.mul_le_mul_right _ (od_ : ji4.toNat ≤ 35184372088832)) (by omega)) (Below.refl _ _) (Nat.le_refl _) ?_; (case hx => first | rfl | (simp only [hji4]; rfl)); (case hy => first | rfl | (simp only [hji4]; rfl)); intro v169 w8 ho9 hb hg_ hnew_; clear hg_ hnew_; (first | rw [← Ny168.out] at ho9 | (simp only [Int.reduceToNat] at ho9; rw [← Ny168.out] at ho9)); refine nx2_ (R_lower ho9 (below_size (bU_ HB.out))) (below_step (bU_ HB.out) hb) ?_; clear HB; intro HO170 HB; clear hb ho9; obtain ⟨Ao11, co11, eo11⟩ := R_slice HO170.out; subst eo11; have q10 : (1 : Int) ≤ ((y168.length : Int) : Int) := od_; obtain ⟨i010, hi010, _, hsz10, _⟩ := info_parts info32; have hroom10 : y168.length ≤ co11 := (R_reads' HO170.out).2.1; have hC10 : Kd.C (Kd.int .u64) _ Ao11 y168.length y168 := (R_reads' HO170.out).2.2; have hcut10 := cut_from (P := Tryd.prog) 22 32 .i64 Tryd.underlying22 hi010 1 hsz10 Ao11 y168.length co11 1 (by omega) q10; have hr10 := Kd.C_drop (m := (1 : Int).toNat) (c := co11) hC10 (by omega) hroom10; obtain ⟨A10, hA10⟩ : ∃ A1, A1 = (if co11 = (1 : Int).toNat then Ao11 else (Ao11 : Option Addr).map (·.add ((1 : Int).toNat * 1))) := ⟨_, rfl⟩; obtain ⟨c10, hc10⟩ : ∃ c1, c1 = co11 - (1 : Int).toNat := ⟨_, rfl⟩; have hy10 : y171.length = y168.length - (1 : Int).toNat := (by rw [Ny171.out, List.length_drop] <;> omega); rw [show (y168).drop (1 : Int).toNat = y171 from Ny171.out.symm] at hr10; replace hr10 : Kd.C (Kd.int .u64) _ A10 y171.length y171 := (by rw [hA10]; exact hr10); rw [← hy10, ← hA10, ← hc10] at hcut10; have HR174 := ak hr10; have HC174 := ak (show y171.length ≤ c10 from by rw [hy10, hc10]; exact Nat.sub_le_sub_right hroom10 _); clear hr10 hC10 hroom10 hi010 hsz10 hc10; have KY10 := ak hy10; have KA10 := ak hA10; clear hy10 hA10; have KL10 := ak (show 1 ≤ y168.length from by omega); replace q10 := eq_true q10) | ((with_reducible refine gate_builtin (b := .copy) (xs := #[.tmp 15, .tmp 16]) rfl ?_); skip; refine copy_cut_ .u64 (w0 := w) w.heap.size rfl (.tmp 15) (.tmp 16) 22 22 32 rfl Tryd.underlying22 (show (Tryd.prog.info? 32).map (·.size) = some 1 by kernel_rfl) Ao11 y168.length co11 y168 1 _ _ _ l1 _ _ _ (fun _ => True) rfl rfl KA10.out KY10.out ?aO ?aR (fun _ _ h => h) ?aF ?aB ?aS ?_; (case aR => exact cU_ (C_below HR1.out HB.out)); (case aB => exact (bU_ HB.out)); (case aF => exact (fun _ _ => trivial)); (case aO => exact (rU_ HO170.out)); (case aS => exact (below_size (bU_ HB.out))); intro w12 ho hb hg hat; rw [← Ny175.out] at ho; refine nx2_ (hb) (ho) ?_; clear HB HO170; intro HB HO176; clear ho hb hg hat))
 go_loopg [20] k (fun kq v20 w' => ∃ (x7_1 : List Int) (x20_1 : Int), v20 = .int .i64 x20_1 ∧ Aside0 (poly_times.l0 kq a0 a2 x7_1 l1 (l1.length : Int) x20_1 = some r) ∧ Aside0 (kq ≤ k) ∧ Aside0 (Kd.R (Kd.int .u64) 32 w' w.heap.size (fun _ => True) (.slice Ao11 y168.length co11) x7_1) ∧ Aside0 (Below w.heap.size w w'))
 case atStart => exact ⟨(y175), (0), gb_, H', ⟨Nat.le_refl _⟩, ⟨rU_ HO176.out⟩, ⟨bU_ HB.out⟩⟩
 case round =>
  clear H'
  (try clear c1); (try clear q1); (try clear p2); (try clear c5); (try clear c5b0); (try clear c5b1); (try clear c6); (try clear c6b0); (try clear c6b1); (try clear p6); (try clear c7); (try clear c7b0); (try clear c7b1); (try clear c10); (try clear q10)
  obtain ⟨x7_1, x20_1, rfl, HA, HK1, HO_7, HB⟩ := hrel
  have hl7_1 := (R_reads' HO_7.out).1
  rw [hl7_1] at HO_7
  (try simp only [hl7_1])
  cases gk with
  | zero => exact absurd HA.out (by simp [poly_times.l0])
  | succ k1 =>
   have H := HA.out
   clear HA
   simp only [poly_times.l0] at H
   by_cases c13 : x20_1 < (l1.length : Int)
   ·rw [if_pos c13] at H
    have c13b0 := decide_eq_true c13
    clear c13
    obtain ⟨c14, H⟩ : (0 ≤ x20_1) ∧ _ := it_ H
    have c14b0 := decide_eq_true c14
    clear c14
    obtain ⟨c15, H⟩ : (x20_1 < (l1.length : Int)) ∧ _ := it_ H
    have c15b0 := decide_eq_true c15
    clear c15
    obtain ⟨c16, H⟩ : (x20_1 < (x7_1.length : Int)) ∧ _ := it_ H
    have c16b0 := decide_eq_true c16
    clear c16
    revert H
    refine bd_ fun t179 A17 H => ?_
    revert H
    refine bd_ fun t180 A18 H => ?_
    obtain ⟨y181, hy181⟩ : ∃ y_ : List Int, y_ = (x7_1.set (x20_1 : Int).toNat t180) := ⟨_, rfl⟩
    first | rw [Option.bind_some, ← hy181] at H | rw [← hy181] at H
    have Ny181 := ak hy181
    clear hy181
    have H' := ak H
    clear H
    have p177 : 0 ≤ (x20_1 : Int) := od_
    have q177 : x20_1 < (l1.length : Int) := od_
    obtain ⟨ad177, e177, hx177_0⟩ := Kd.at_int HR1.out x20_1 p177 q177
    cases e177
    replace hx177_0 := (HB.out.cell (World.block_lt_of_cell? w _ hx177_0)).trans hx177_0
    replace p177 := eq_true p177
    replace q177 := eq_true q177
    try go_wp2
    refine nx2_ (R_drew HO_7.out) (below_drew1 HB.out) ?_
    clear HO_7 HB
    intro HO_7 HB
    have pfr21 : 0 ≤ (x20_1 : Int) := od_
    have qfr21 : (x20_1 : Int) < ((x7_1.length : Int) : Int) := od_
    obtain ⟨gofr21, cofr21, eofr21, gbfr21, glfr21, clfr21, HGfr21⟩ := Kd.R_form HO_7.out (by omega)
    (first | cases eofr21 | (injection eofr21 with ea_ en_ ec_; (first | subst ea_ | (injection ea_ with ea_; subst ea_)); subst ec_; clear en_))
    have GBfr21 := ak gbfr21
    have GGfr21 := ak HGfr21
    clear gbfr21 glfr21 HGfr21
    clear pfr21 qfr21
    have p178 : 0 ≤ (x20_1 : Int) := od_
    have q178 : x20_1 < (x7_1.length : Int) := od_
    obtain ⟨ad178, e178, hx178_0⟩ := Kd.at_int (R_reads' HO_7.out).2.2 x20_1 p178 q178
    obtain rfl : (⟨gofr21, 0, none⟩ : Addr) = ad178 := (by injection e178)
    (first | simp only [add_plain] at hx178_0 | simp only [add_at] at hx178_0 | simp only [Addr.add, Nat.zero_add] at hx178_0 | skip)
    replace p178 := eq_true p178
    replace q178 := eq_true q178
    refine start_ (n := 14) (S := fun w' => w'.cell? ⟨gofr21, (x20_1).toNat, none⟩ = some (.int .u64 (rd x7_1 x20_1))) (ds := [13]) (bv 14 0) (by kernel_rfl) rfl rfl (hx178_0) (fun hHeld => ?_); refine with_tabW poly_times.tab6 poly_times.bits6 (fun HT_ HW_ => ?_)
    generalize wr.drew = w20 at HO_7 HB hx178_0 hHeld ⊢
    refine pq_ 0 25 14 1 HT_.out ?_
    refine pq_ 1 26 14 3 HT_.out ?_
    refine pq_ 2 27 14 7 HT_.out ?_
    refine pq_ 3 28 14 15 HT_.out ?_
    refine pq_ 4 29 14 31 HT_.out ?_
    refine pq_ 5 30 14 63 HT_.out ?_
    refine pq_ 7 32 14 191 HT_.out ?_
    refine pq_ 8 33 14 447 HT_.out ?_
    refine pq_ 9 34 14 959 HT_.out ?_
    refine take_ (i := 6) (N := some 31) (v := ?_) (a' := ?_) (bv 14 1023) rfl rfl (take_ofW HT_.out HW_.out (by kernel_rfl)) (fun _ _ _ h => h) (Or.inl ⟨by rfl, ?_⟩) hHeld ?_ ?_
    rotate_left
    ·intro w' s0
     go_simp
     with_reducible rfl
    rotate_left
    ·simp only [Act.put, s1_, s2_, s3_, i64_w, i32_w]
     rfl
    refine oq_ 10 35 14 2047 HT_.out fun K hK => ?_
    refine gs_ Tryd.func44 #[.int .i64 a0, .int .u64 (rd l1 x20_1), .int .u64 a2] ?_
    with_reducible refine (field_Mul.calls a0 (rd l1 x20_1) a2 t179 _ ?side1 A17.out).mono ?_
    (case side1 => exact fU_ HG.out HB.out)
    rintro e w22 ⟨rfl, hb⟩
    have HS0_ := (hb.cell (World.block_lt_of_cell? _ _ (hHeld))).trans (hHeld)
    refine ⟨_, rfl, ?_⟩
    refine nx2_ (R_below (rU_ HO_7.out) hb) (below_step (bU_ HB.out) hb) ?_
    clear HO_7 HB
    intro HO_7 HB
    (try clear hb)
    (try clear hb2)
    (try clear hk)
    (try clear hi)
    refine hK.out _ _ (HS0_) (fun hHeld => ?_)
    clear hK K
    refine norm_ (a' := ?_) ?_ ?_
    rotate_left
    ·show Act.put _ (some 35) _ = _
     simp only [Act.put, s1_, s2_, s3_, i64_w, i32_w]
     rfl
    refine oq_ 11 36 14 4095 HT_.out fun K hK => ?_
    refine gs_ Tryd.func24 #[.int .i64 a0, .int .u64 (rd x7_1 x20_1), .int .u64 t179] ?_
    with_reducible refine (field_Sub.calls a0 (rd x7_1 x20_1) t179 t180 _ ?side1 A18.out).mono ?_
    (case side1 => exact fU_ HG.out HB.out)
    rintro e w23 ⟨rfl, hb⟩
    have HS0_ := (hb.cell (World.block_lt_of_cell? _ _ (hHeld))).trans (hHeld)
    refine ⟨_, rfl, ?_⟩
    refine nx2_ (R_below (rU_ HO_7.out) hb) (below_step (bU_ HB.out) hb) ?_
    clear HO_7 HB
    intro HO_7 HB
    (try clear hb)
    (try clear hb2)
    (try clear hk)
    (try clear hi)
    have p19 : 0 ≤ (x20_1 : Int) := od_
    have q19 : (x20_1 : Int) < ((x7_1.length : Int) : Int) := od_
    obtain ⟨hx19_0, hf19_0⟩ := Kd.R_celln 0 HO_7.out (x20_1 : Int) p19 q19
    replace p19 := eq_true p19
    replace q19 := eq_true q19
    have HP24 := Kd.R_putn HO_7.out (x20_1 : Int) t180
    rw [← Ny181.out] at HP24
    have HQ24 := ak HP24
    clear HP24
    refine hK.out _ _ (HS0_) (fun hHeld => ?_)
    clear hK K
    refine norm_ (a' := ?_) ?_ ?_
    rotate_left
    ·show Act.put _ (some 36) _ = _
     simp only [Act.put, s1_, s2_, s3_, i64_w, i32_w]
     rfl
    refine pq_ 12 37 14 8191 HT_.out ?_
    refine last_ (i := 13) (N := none) #[true, true, true, true, true, true, true, true, true, true, true, true, true, true] rfl rfl (one_of HT_.out (by kernel_rfl)) (by decide) (fun K hK => ?_)
    refine skip_ (w1 := ?_) (by rfl) rfl ?_ ?_
    rotate_left
    ·go_simp
     rfl
    refine hK.out _ _ ?_
    clear hK K
    refine done_ (done_of HT_.out (by kernel_rfl)) ?_
    try go_wp2
    (try simp only [← hl7_1])
    go_roundg k1
    case measure => have := HK1.out; omega
    case rel => exact ⟨(y181), (wrap64 (x20_1 + 1)), gb_, H', ⟨by have := HK1.out; omega⟩, ⟨by (try simp only [hl7_1]); (with_reducible repeat (first | apply Kd.R_alloc | apply Kd.R_drewN | apply R_drew)); exact HQ24.out⟩, ⟨sU_⟩⟩
   rw [if_neg c13] at H
   have c13b0 := decide_eq_false c13
   clear c13
   obtain rfl := Option.some.inj H
   go_wp2
   go_ret
   exact ⟨_, by first | rfl | (simp [errW_none, errW_some] <;> rfl) | (simp only [← hji4]; first | rfl | (simp [errW_none, errW_some] <;> rfl)) | (simp [*, errW_none, errW_some] <;> rfl), rU_ HO_7.out, bU_ HB.out⟩

section
open Go.Shelf
attribute [local go_sem] Oper.semAt_some

def at64 (l : List Int) (j : Nat) : Int := l.getD j 0
def pairOf (xs ys : List Int) (j : Nat) : Int × Int := (at64 xs j, at64 ys j)
def uptoP (xs ys : List Int) (k : Nat) : List (Int × Int) := (List.range k).map (pairOf xs ys)
abbrev encsP (p : Int × Int) : Array Value := #[.int .u64 p.1, .int .u64 p.2]

def Holds64 (P : Nat → Prop) (W : World) (A : Option Addr) (l : List Int) : Prop := ∀ j, j < l.length → ∃ ad, A = some ad ∧ P ad.block ∧ W.cell? (ad.add j) = some (.int .u64 (at64 l j))
theorem Holds64.keeps {P : Nat → Prop} {W W' : World} {A : Option Addr} {l : List Int} (h : Holds64 P W A l) (hb : KeepsP P W W') : Holds64 P W' A l := fun j hj => by
 obtain ⟨ad, e, hlt, hc⟩ := h j hj
 exact ⟨ad, e, hlt, (hb.cell (q := ad.add j) (by rw [add_block]; exact hlt)).trans hc⟩
theorem Holds64.imp {P P' : Nat → Prop} {W : World} {A : Option Addr} {l : List Int} (h : Holds64 P W A l) (hp : ∀ b, P b → P' b) : Holds64 P' W A l := fun j hj => by
 obtain ⟨ad, e, hlt, hc⟩ := h j hj
 exact ⟨ad, e, hp _ hlt, hc⟩
theorem Holds64.of_C {W : World} {A : Option Addr} {l : List Int} (h : Kd.C (Kd.int .u64) W A l.length l) : Holds64 (· < W.heap.size) W A l := fun j hj => by
 obtain ⟨ad, e, hc⟩ := Kd.at_int h (j : Int) (by omega) (by omega)
 have hc' : W.cell? (ad.add j) = some (.int .u64 (at64 l j)) := by simpa [rd, at64] using hc
 refine ⟨ad, e, ?_, hc'⟩
 have := World.block_lt_of_cell? _ _ hc'
 rwa [add_block] at this

theorem uptoP_get (xs ys : List Int) (n k : Nat) (h : k < ((uptoP xs ys n).map encsP).length) : ((uptoP xs ys n).map encsP)[k] = #[.int .u64 (at64 xs k), .int .u64 (at64 ys k)] := by
 simp [uptoP, encsP, pairOf]

set_option maxRecDepth 100000 in
set_option maxHeartbeats 2000000 in
theorem pts_run (F : Fence) (n : Nat) (h64 : F.fn 64) (hro : F.round = none) (hn : 1 ≤ n) (Bx By : Nat) (p : Nat → Prop) (A1 A2 : Option Addr) (c1 c2 : Nat) (xs ys : List Int) (HXY : Hid (xs.length = ys.length)) (hm : xs.length ≤ 9223372036854775807) (hBx : p Bx) (hBy : p By)
  (w : World) (hn0 : ∀ b, p b → b < w.heap.size) (hX : w.cell? ⟨Bx, 0, none⟩ = some (.slice A1 xs.length c1)) (hYc : w.cell? ⟨By, 0, none⟩ = some (.slice A2 ys.length c2)) (hx : Holds64 p w A1 xs) (hy : Holds64 p w A2 ys) :
  SeqRun F n Tryd.prog 64 #[.pointer (some ⟨Bx, 0, none⟩), .pointer (some ⟨By, 0, none⟩)] ((uptoP xs ys xs.length).map encsP) (KeepsP p) w := by
 intro l J W hW _ hY h0
 have hW' : KeepsP p w W := KeepsP.of_below hW hn0
 have hX1 := (hW'.cell (q := ⟨Bx, 0, none⟩) hBx).trans hX
 have hY1 := (hW'.cell (q := ⟨By, 0, none⟩) hBy).trans hYc
 have hx1 := hx.keeps hW'
 have hy1 := hy.keeps hW'
 have hlen : ((uptoP xs ys xs.length).map encsP).length = xs.length := by simp [uptoP]
 have hJ : Aside0 (J xs.length = J ((uptoP xs ys xs.length).map encsP).length) := ⟨by rw [hlen]⟩
 have HLEN := ak hlen
 clear hX hYc hx hy hW hW' hlen
 refine callsIn_of_wp Tryd.func64 rfl h64 ?_ hro
 rw [← hJ.out]
 simp only [Tryd.ntmps64, List.size_toArray, List.length_cons, List.length_nil, Nat.reduceAdd, Nat.reduceSub, Array.replicate_succ, Array.replicate_zero, List.push_toArray, List.append_toArray, List.nil_append, List.cons_append]
 gi_wp2
 gi_loopw [8] (fun i wr => ∃ k : Nat, k ≤ xs.length ∧ i = .int .i64 k ∧ J k wr ∧ KeepsP p W wr)
  (fun i _ => xs.length - (intOf i).toNat)
 case atStart => exact ⟨0, Nat.zero_le _, rfl, h0, KeepsP.refl _ _⟩
 case round =>
  obtain ⟨k, hk, rfl, hJs, hnx⟩ := hrel
  have hYr := (hnx.cell (q := ⟨By, 0, none⟩) hBy).trans hY1
  by_cases hlt : k < xs.length
  ·obtain ⟨ad1, rfl, hb1, hc1⟩ := (hx1.keeps hnx) k hlt
   obtain ⟨ad2, rfl, hb2, hc2⟩ := (hy1.keeps hnx) k (by have := HXY.out; omega)
   have hlt2 : k < ys.length := by have := HXY.out; omega
   have hlt3 : k < ((uptoP xs ys xs.length).map encsP).length := by rw [HLEN.out]; exact hlt
   obtain ⟨fn, tmps, assign, body, hy', hR⟩ := hY k hlt3 wr hJs
   rw [uptoP_get] at hy'
   clear hX1 hY1 hlt3
   gi_wp2
   refine hR.mono ?_
   rintro e W3 ⟨rfl, hJ3, hk3⟩
   gi_wp2
   go_roundw
   case rel => exact ⟨k + 1, by omega, by simp, hJ3, hnx.trans hk3⟩
   case measure => simp [intOf]; omega
  obtain rfl : k = xs.length := by omega
  gi_wp2
  go_end0
  exact ⟨⟨_, rfl⟩, hJs⟩
end

section
theorem points_calls (A1 A2 : Option Addr) (n1 n2 c1 c2 : Nat) (w : World) :
  Calls Tryd.prog 48 #[.slice A1 n1 c1, .slice A2 n2 c2] w fun e w' => e = .returned (.func (.func 64) #[] #[.pointer (some ⟨w.heap.size, 0, none⟩), .pointer (some ⟨w.heap.size + 1, 0, none⟩)]) ∧ w' = (w.alloc (.cells #[.slice A1 n1 c1] 22)).alloc (.cells #[.slice A2 n2 c2] 22) := by
 go_enter Tryd.func48, Tryd.ntmps48
 go_wp2
 go_ret
 exact ⟨rfl, rfl⟩

theorem plainElem_bool_inv_ {H : Type} {P : Program} {e : TypeId} (he : P.underlying e = some .bool) {v : Value} {z : DataW H × List MemPlace} (h : plainElem P e v = some z) : ∃ a, v = .bool a ∧ z = (.lit (.bool a), []) := by
 unfold plainElem at h
 rw [he] at h
 cases v <;> simp at h
 exact ⟨_, rfl, h.symm⟩

def SeenMap (w : World) (b n : Nat) (S : List Int) : Prop :=
 ∃ D : DataW Unit, w.ownsMap Tryd.prog 32 (plainElem Tryd.prog 4) b n D ∧ Maps.IsMap D ∧ ∀ x, D.atKey (.int .u64 x) (.lit (.bool false)) = .lit (.bool (decide (x ∈ S)))

theorem SeenMap.made (w : World) : SeenMap (w.alloc (.map #[] 0)) w.heap.size 0 [] :=
 ⟨.map [], World.ownsMap_made w _ _ _, ⟨[], rfl⟩, fun x => by simp [DataW.atKey]⟩

theorem SeenMap.below {w w' : World} {b n : Nat} {S : List Int} (h : SeenMap w b n S) (hb : Below w.heap.size w w') : SeenMap w' b n S := by
 obtain ⟨D, ⟨es, clock, h1, h2, h3, h4⟩, hD, hat⟩ := h
 have hlt : b < w.heap.size := (Array.getElem?_eq_some_iff.1 h1).1
 exact ⟨D, ⟨es, clock, (hb.block b hlt).trans h1, h2, h3, h4⟩, hD, hat⟩
theorem SeenMap.lt {w : World} {b n : Nat} {S : List Int} (h : SeenMap w b n S) : b < w.heap.size := by
 obtain ⟨D, ⟨es, clock, h1, h2, h3, h4⟩, hD, hat⟩ := h
 exact (Array.getElem?_eq_some_iff.1 h1).1

theorem zeroBool (w : World) : (zeroValue 4).run Tryd.prog w = .ok (.bool false) w := by kernel_rfl

section
variable {ops : Array Oper} {rest : List Oper} {o : Oper} {a : Act} {Q : Exit → Act → World → Prop}
theorem wpList_seen {w : World} (hg : o.guard = none) (m x : Operand) (hop : o.op = Op.lookup 52 m x false) (b n : Nat) (S : List Int) (z : Int)
  (hm : a.eval m = .map (some b)) (hS : SeenMap w b n S) (hx : a.eval x = .int .u64 z) (hz : 0 ≤ z ∧ z < 18446744073709551616)
  (hK : wpList Tryd.prog ops Q rest (a.put o.dst (.bool (decide (z ∈ S)))) w) : wpList Tryd.prog ops Q (o :: rest) a w := by
 refine wpList_plain hg fun K' hK' => ?_
 obtain ⟨D, hown, hD, hat⟩ := hS
 have hkey := Maps.keyOf_int_mk (P := Tryd.prog) Tryd.underlying32 (a := z) (show (Lit.int .u64 z).wf = true by simp only [Lit.wf, IntKind.min, IntKind.max, IntKind.bits, IntKind.signed]; first | (simp; omega) | decide)
 obtain ⟨v, ps, hrun, hv⟩ := hown.lookup (Maps.int_keyed Tryd.underlying32) Tryd.underlying52 (zeroBool w) (plainElem_bool Tryd.underlying4 false) hkey
 obtain ⟨c, rfl, hc⟩ := plainElem_bool_inv_ Tryd.underlying4 hv
 have hc' : c = decide (z ∈ S) := by
  have h1 := congrArg Prod.fst hc
  simp only at h1
  rw [hat z] at h1
  simpa using h1.symm
 subst hc'
 unfold Oper.wp
 simp [execOp, hop, hm, hx, hrun, Result.andThen]
 exact hK' _ _ hK

theorem wpList_see {w : World} (hg : o.guard = none) (m x v : Operand) (hop : o.op = Op.mapUpdate 52 m x v) (b n : Nat) (S : List Int) (z : Int)
  (hm : a.eval m = .map (some b)) (hS : SeenMap w b n S) (hn : n < maxLen) (hx : a.eval x = .int .u64 z) (hz : 0 ≤ z ∧ z < 18446744073709551616) (hv : a.eval v = .bool true)
  (hK : ∀ w', SeenMap w' b (n + 1) (z :: S) → w.grownBy w' (some b) → wpList Tryd.prog ops Q rest (a.put o.dst undef) w') : wpList Tryd.prog ops Q (o :: rest) a w := by
 obtain ⟨D, hown, hD, hat⟩ := hS
 have hkey := Maps.keyOf_int_mk (P := Tryd.prog) Tryd.underlying32 (a := z) (show (Lit.int .u64 z).wf = true by simp only [Lit.wf, IntKind.min, IntKind.max, IntKind.bits, IntKind.signed]; first | (simp; omega) | decide)
 refine wpList_mapUpdate_own w hg m x v _ hop 32 4 (Maps.int_keyed Tryd.underlying32) Tryd.underlying52 (plainElem Tryd.prog 4) b n D hm hown hn (.int .u64 z) (.bool true) (.int .u64 z) hx hv hkey (.lit (.bool true)) [] (plainElem_bool Tryd.underlying4 true) ?_
 intro w1 hown1 hgr
 refine hK w1 ⟨_, hown1, hD.put _ _, fun y => ?_⟩ hgr
 by_cases e : y = z
 ·subst e
  rw [Maps.atKey_put_same hD (show WideAt.IsKeyLit (.int .u64 y) from trivial)]
  simp
 rw [Maps.atKey_put_other (by intro h; injection h with _ h; exact e h), hat y]
 simp [e]
end
end

def poly_Through.l0 (a0 : Int) : List Int → List Int → Option Bool
 | [], _ => some false
 | x :: r, S => (field_Reduce.f a0 x).bind fun t => if 0 ≤ t ∧ t < 18446744073709551616 then (if t ∈ S then some true else poly_Through.l0 a0 r (t :: S)) else none
def poly_Through.l1 (k : Nat) (a0 : Int) : List (Int × Int) → List Int → List Int → Option (List Int)
 | [], p, _ => some p
 | z :: r, p, v => (poly_Eval.f k a0 p z.1).bind fun e1 => (field_Sub.f a0 z.2 e1).bind fun s => (poly_Eval.f k a0 v z.1).bind fun e2 => (field_Div.f k a0 s e2).bind fun c =>
   (poly_Scale.f k a0 v c).bind fun sc => (poly_Add.f k a0 p sc).bind fun p' => (poly_times.f k a0 v z.1).bind fun v' => poly_Through.l1 k a0 r p' v'
def poly_Through.f (k : Nat) (a0 : Int) (l1 : List Int) (l2 : List Int) : Option (List Int × Int) :=
 (field_Valid.f a0).bind fun t => if t = true ∧ l1.length = l2.length then (if l1.length ≤ 1024 then ((poly_Through.l0 a0 l1 []).bind fun d => if d = true then some ([], 6) else ((poly_Through.l1 k a0 (uptoP l1 l2 l1.length) [] [1]).bind fun p => some (p, 0))) else some ([], 3)) else some ([], 1)

theorem size_two_ (w : World) (a0 : Int) (nd : Nat) : ((w.alloc (.cells #[.int .i64 a0] 3)).drewN nd).heap.size = w.heap.size + 1 := by
 show (w.alloc _).heap.size = _
 simp
theorem cell_two_ (w : World) (a0 : Int) (nd : Nat) : (((w.alloc (.cells #[.int .i64 a0] 3)).drewN nd).alloc (.map #[] 0)).cell? ⟨w.heap.size, 0, none⟩ = some (.int .i64 a0) := by
 rw [World.cell?_alloc_lt _ _ _ (by rw [size_two_]; exact Nat.lt_succ_self _)]
 show (w.alloc _).cell? _ = _
 simp
theorem drop_at64 (l : List Int) (j : Nat) (h : j < l.length) : l.drop j = at64 l j :: l.drop (j + 1) := by
 rw [List.drop_eq_getElem_cons h]; simp [at64, h]
theorem grown_cell_ {w w' : World} {b : Nat} {p : Addr} {v : Value} (hg : w.grownBy w' (some b)) (hc : w.cell? p = some v) (hne : p.block ≠ b) : w'.cell? p = some v :=
 cell_grown hg hc (fun e => hne (Option.some.inj e))


def wThru (wr : World) (A1 A2 : Option Addr) (n1 n2 c1 c2 : Nat) : World :=
 ((((wr.alloc (.cells #[.slice none 0 0] 22)).alloc (.cells #[.int .u64 1] 32)).alloc (.cells #[.slice (some ⟨wr.heap.size + 1, 0, none⟩) 1 1] 22)).alloc (.cells #[.slice A1 n1 c1] 22)).alloc (.cells #[.slice A2 n2 c2] 22)
theorem wThru_size (wr : World) (A1 A2 : Option Addr) (n1 n2 c1 c2 : Nat) : (wThru wr A1 A2 n1 n2 c1 c2).heap.size = wr.heap.size + 5 := by simp [wThru]
theorem wThru_below (wr : World) (A1 A2 : Option Addr) (n1 n2 c1 c2 : Nat) : Below wr.heap.size wr (wThru wr A1 A2 n1 n2 c1 c2) := by
 unfold wThru; repeat (first | exact Below.refl _ _ | apply below_alloc)
theorem alloc_new_ (W : World) (o : Obj) (b : Nat) (h : W.heap.size = b) : (W.alloc o).heap[b]? = some o := by subst h; exact World.alloc_heap_new W o
theorem alloc_old_ (W : World) (o o' : Obj) (b : Nat) (h : W.heap[b]? = some o') : (W.alloc o).heap[b]? = some o' := (Below.heap_alloc W o b (Array.getElem?_eq_some_iff.1 h).1).trans h
theorem wThru_p (wr : World) (A1 A2 : Option Addr) (n1 n2 c1 c2 : Nat) : (wThru wr A1 A2 n1 n2 c1 c2).heap[wr.heap.size]? = some (.cells #[.slice none 0 0] 22 (0, 0)) := by
 unfold wThru; exact alloc_old_ _ _ _ _ (alloc_old_ _ _ _ _ (alloc_old_ _ _ _ _ (alloc_old_ _ _ _ _ (alloc_new_ _ _ _ rfl))))
theorem wThru_v (wr : World) (A1 A2 : Option Addr) (n1 n2 c1 c2 : Nat) : (wThru wr A1 A2 n1 n2 c1 c2).heap[wr.heap.size + 2]? = some (.cells #[.slice (some ⟨wr.heap.size + 1, 0, none⟩) 1 1] 22 (0, 0)) := by
 unfold wThru; exact alloc_old_ _ _ _ _ (alloc_old_ _ _ _ _ (alloc_new_ _ _ _ (by simp)))
theorem wThru_x (wr : World) (A1 A2 : Option Addr) (n1 n2 c1 c2 : Nat) : (wThru wr A1 A2 n1 n2 c1 c2).heap[wr.heap.size + 3]? = some (.cells #[.slice A1 n1 c1] 22 (0, 0)) := by
 unfold wThru; exact alloc_old_ _ _ _ _ (alloc_new_ _ _ _ (by simp))
theorem wThru_y (wr : World) (A1 A2 : Option Addr) (n1 n2 c1 c2 : Nat) : (wThru wr A1 A2 n1 n2 c1 c2).heap[wr.heap.size + 4]? = some (.cells #[.slice A2 n2 c2] 22 (0, 0)) := by
 unfold wThru; exact alloc_new_ _ _ _ (by simp)

structure ThruB (a0 : Int) (w : World) (s : Nat) (W : World) (p v : List Int) (vp vv : Value) : Prop where
 cp : W.heap[s]? = some (.cells #[vp] 22 (0, 0))
 cv : W.heap[s + 1 + 1]? = some (.cells #[vv] 22 (0, 0))
 rp : Kd.R (Kd.int .u64) 32 W w.heap.size (fun _ => True) vp p
 rv : Kd.R (Kd.int .u64) 32 W w.heap.size (fun _ => True) vv v
 bel : Below w.heap.size w W
 cf : W.cell? ⟨w.heap.size, 0, none⟩ = some (.int .i64 a0)
 sz : s + 5 ≤ W.heap.size
def ThruX (k : Nat) (a0 : Int) (l1 l2 r1 : List Int) (w : World) (s i : Nat) (W : World) : Prop := ∃ p v vp vv, poly_Through.l1 k a0 ((uptoP l1 l2 l1.length).drop i) p v = some r1 ∧ ThruB a0 w s W p v vp vv

theorem rowOf_grown {α : Type} {d : Kd α} {e : Nat} {W W' : World} {base : Nat} {v : Value} {xs : List α} {row : Option Nat} (h : d.R e W base (fun _ => True) v xs) (hg : W.grownBy W' row) (hr : ∀ r, row = some r → ∃ o : Obj, W.heap[r]? = some o ∧ o.isCells = false) (hE : d.E = []) : d.R e W' base (fun _ => True) v xs := by
 refine R_mono (Kd.R_grown (R_tight hE h) hg ?_) (fun _ _ => trivial)
 intro k hk e2
 obtain ⟨o, ho, hc⟩ := hr k e2.symm
 obtain ⟨cells, hcl⟩ := own_typed h.2.choose_spec.1 k hk.symm
 rw [ho] at hcl
 cases hcl
 simp [Obj.isCells] at hc

theorem thruX_own (k : Nat) (a0 : Int) (l1 l2 r1 : List Int) (w : World) (s B : Nat) (hB : w.heap.size ≤ B) : OwnFrom B (ThruX k a0 l1 l2 r1 w s) := by
 rintro i W W' row ⟨p, v, vp, vv, on, h⟩ hg hr
 have hne : ∀ {b : Nat} {c : Array Value} {t : TypeId} {f : Nat × Nat}, W.heap[b]? = some (.cells c t f) → some b ≠ row := by
  intro b c t f hb e
  obtain ⟨_, o, ho, hc⟩ := hr b e.symm
  rw [hb] at ho
  cases ho
  simp [Obj.isCells] at hc
 exact ⟨p, v, vp, vv, on, blk_grown h.cp hg (hne h.cp), blk_grown h.cv hg (hne h.cv), rowOf_grown h.rp hg (fun r e => (hr r e).2) rfl, rowOf_grown h.rv hg (fun r e => (hr r e).2) rfl,
  h.bel.grown hg h.bel.size (fun b e => Nat.le_trans hB (hr b e).1), cell_kept h.cf hg (fun r e => (hr r e).2), Nat.le_trans h.sz hg.size⟩

section
variable {a0 : Int} {w W W' : World} {s : Nat} {p v : List Int} {vp vv : Value}
theorem ThruB.below (h : ThruB a0 w s W p v vp vv) (hb : Below W.heap.size W W') : ThruB a0 w s W' p v vp vv :=
 ⟨(hb.block _ (lt_of_block h.cp)).trans h.cp, (hb.block _ (lt_of_block h.cv)).trans h.cv, R_below h.rp hb, R_below h.rv hb, below_step h.bel hb, (hb.cell (World.block_lt_of_cell? _ _ h.cf)).trans h.cf, Nat.le_trans h.sz hb.size⟩
theorem u64_apart : ∀ q, q ∈ 32 :: (Kd.int .u64).E → q ≠ 22 := by
 intro q hq
 have e : (Kd.int .u64).E = [] := rfl
 rw [e] at hq
 simp at hq
 subst hq
 decide
theorem ThruB.putP (h : ThruB a0 w s W p v vp vv) (hs : w.heap.size < s) {p' : List Int} {vp' : Value} (hr : Kd.R (Kd.int .u64) 32 W w.heap.size (fun _ => True) vp' p') : ThruB a0 w s (W.setCell ⟨s, 0, none⟩ vp') p' v vp' vv :=
 ⟨one_setCell h.cp, (heap_setCell_other _ _ _ _ (by show s + 1 + 1 ≠ s; omega)).trans h.cv, Kd.R_set hr h.cp u64_apart _ _, Kd.R_set h.rv h.cp u64_apart _ _,
  h.bel.setCell (p := ⟨s, 0, none⟩) (by show w.heap.size ≤ s; omega) _, (World.cell?_setCell_other _ _ _ _ (by intro e; injection e with e; omega)).trans h.cf, by simpa using h.sz⟩
theorem ThruB.putV (h : ThruB a0 w s W p v vp vv) (hs : w.heap.size < s) {v' : List Int} {vv' : Value} (hr : Kd.R (Kd.int .u64) 32 W w.heap.size (fun _ => True) vv' v') : ThruB a0 w s (W.setCell ⟨s + 1 + 1, 0, none⟩ vv') p v' vp vv' :=
 ⟨(heap_setCell_other _ _ _ _ (by show s ≠ s + 1 + 1; omega)).trans h.cp, one_setCell h.cv, Kd.R_set h.rp h.cv u64_apart _ _, Kd.R_set hr h.cv u64_apart _ _,
  h.bel.setCell (p := ⟨s + 1 + 1, 0, none⟩) (by show w.heap.size ≤ s + 1 + 1; omega) _, (World.cell?_setCell_other _ _ _ _ (by intro e; injection e with e; omega)).trans h.cf, by simpa using h.sz⟩
theorem KeepsP.setCell {p : Nat → Prop} {A B : World} (h : KeepsP p A B) {b : Nat} (u : Value) (hp : ¬ p b) : KeepsP p A (B.setCell ⟨b, 0, none⟩ u) :=
 ⟨by simpa using h.size, fun c hc => (heap_setCell_other _ _ _ _ (by show c ≠ b; intro e; exact hp (e ▸ hc))).trans (h.same c hc)⟩
theorem keepsFrom_setCell {B b : Nat} {A C : World} (h : KeepsFrom B A C) {cs : Array Value} {t : TypeId} {f : Nat × Nat} (hc : C.heap[b]? = some (.cells cs t f)) (u : Value) : KeepsFrom B A (C.setCell ⟨b, 0, none⟩ u) :=
 ⟨by simpa using h.size, fun k o hk ho hn => by
  have h1 := h.same k o hk ho hn
  refine (heap_setCell_other _ _ _ _ ?_).trans h1
  rintro rfl
  rw [hc] at h1
  cases h1
  simp [Obj.isCells] at hn⟩
end

theorem uptoP_drop (xs ys : List Int) (i n : Nat) (h : i < n) : (uptoP xs ys n).drop i = pairOf xs ys i :: (uptoP xs ys n).drop (i + 1) := by
 rw [List.drop_eq_getElem_cons (by simpa [uptoP] using h)]
 simp [uptoP]
theorem keepsP_step {s : Nat} {a0 : Int} {w A W W' : World} {p v : List Int} {vp vv : Value} (h : KeepsP (fun b => b < w.heap.size ∨ b = s + 3 ∨ b = s + 4) A W) (ht : ThruB a0 w s W p v vp vv) (hb : Below W.heap.size W W') : KeepsP (fun b => b < w.heap.size ∨ b = s + 3 ∨ b = s + 4) A W' :=
 h.trans (KeepsP.of_below hb (fun b hq => by have := ht.sz; have := ht.bel.size; rcases hq with h | h | h <;> omega))
theorem keepsFrom_step {B : Nat} {A W W' : World} (h : KeepsFrom B A W) (hb : Below W.heap.size W W') : KeepsFrom B A W' :=
 ⟨Nat.le_trans h.size hb.size, fun k o hk ho hn => have h1 := h.same k o hk ho hn; (hb.block k (lt_of_block h1)).trans h1⟩

theorem thruX_start (k : Nat) (a0 : Int) (l1 l2 r1 : List Int) (w wr : World) (A1 A2 : Option Addr) (n1 n2 c1 c2 : Nat) (h : poly_Through.l1 k a0 (uptoP l1 l2 l1.length) [] [1] = some r1) (hb : Below w.heap.size w wr)
  (hc : wr.cell? ⟨w.heap.size, 0, none⟩ = some (.int .i64 a0)) : ThruX k a0 l1 l2 r1 w wr.heap.size 0 (wThru wr A1 A2 n1 n2 c1 c2) := by
 refine ⟨[], [1], .slice none 0 0, .slice (some ⟨wr.heap.size + 1, 0, none⟩) 1 1, by simpa using h, wThru_p .., wThru_v .., Kd.R_nil _ _ _ _ _, ?_, ?_, ?_, by rw [wThru_size]; exact Nat.le_refl _⟩
 ·unfold wThru
  refine Kd.R_alloc (Kd.R_alloc (Kd.R_alloc ?_ _) _) _
  have := own_lit_of (enc := Value.int .u64) (wr.alloc (.cells #[.slice none 0 0] 22)) w.heap.size 32 [1] (by have := hb.size; simp; omega) (by simp)
  refine Kd.R_of_own ?_ (fun _ _ => trivial)
  have e : (encs (Value.int .u64) [1]).toArray = #[.int .u64 1] := rfl
  rw [e] at this
  simpa using this
 ·exact hb.trans ((wThru_below wr A1 A2 n1 n2 c1 c2).mono hb.size)
 exact ((wThru_below wr A1 A2 n1 n2 c1 c2).cell (World.block_lt_of_cell? _ _ hc)).trans hc

theorem through_seq (n : Nat) (hn : 1 ≤ n) (w wr : World) (A1 A2 : Option Addr) (c1 c2 : Nat) (l1 l2 : List Int) (HL : Hid (l1.length = l2.length)) (hs : l1.length ≤ 1024) (hb : Below w.heap.size w wr) (h1 : Kd.C (Kd.int .u64) w A1 l1.length l1) (h2 : Kd.C (Kd.int .u64) w A2 l2.length l2) :
  SeqRun Fence.wide n Tryd.prog 64 #[.pointer (some ⟨wr.heap.size + 1 + 1 + 1, 0, none⟩), .pointer (some ⟨wr.heap.size + 1 + 1 + 1 + 1, 0, none⟩)] ((uptoP l1 l2 l1.length).map encsP) (KeepsP fun b => b < w.heap.size ∨ b = wr.heap.size + 3 ∨ b = wr.heap.size + 4) (wThru wr A1 A2 l1.length l2.length c1 c2) := by
 have hsz := wThru_size wr A1 A2 l1.length l2.length c1 c2
 have hk : KeepsP (· < w.heap.size) w (wThru wr A1 A2 l1.length l2.length c1 c2) := KeepsP.of_below (hb.trans ((wThru_below wr A1 A2 l1.length l2.length c1 c2).mono hb.size)) (fun _ h => h)
 have := hb.size
 exact pts_run Fence.wide n trivial rfl hn _ _ _ A1 A2 c1 c2 l1 l2 HL (by omega) (Or.inr (Or.inl rfl)) (Or.inr (Or.inr rfl)) _ (fun b hb' => by rw [hsz]; rcases hb' with h | h | h <;> omega)
  (cell_of_one (wThru_x ..)) (cell_of_one (wThru_y ..)) (((Holds64.of_C h1).keeps hk).imp fun b h => Or.inl h) (((Holds64.of_C h2).keeps hk).imp fun b h => Or.inl h)

set_option maxRecDepth 100000 in
set_option maxHeartbeats 4000000 in
theorem through_dup (k : Nat) (a0 : Int) (A1 : Option Addr) (c1 : Nat) (l1 : List Int) (A2 : Option Addr) (c2 : Nat) (l2 : List Int) (r1 : List Int) (r2 : Int) (w : World) (HG : Aside0 (Fld w)) (HR1 : Aside0 (Kd.C (Kd.int .u64) w A1 l1.length l1))
  (HT : Aside0 (field_Valid.f a0 = some true)) (finR : Aside0 (∀ W, Kd.R (Kd.int .u64) 32 W w.heap.size (fun _ => True) (.slice none 0 0) [])) (hc1 : l1.length ≤ c1) (hs : l1.length ≤ 1024) (HL : Hid (l1.length = l2.length))
  (e1 : (((l1.length : Nat) : Int) != ((l2.length : Nat) : Int)) = false) (e2 : decide ((1024 : Int) < (l1.length : Int)) = false) (HD : Aside0 (poly_Through.l0 a0 l1 [] = some true)) (h : [] = r1 ∧ 6 = r2) :
  Calls Tryd.prog 12 #[.int .i64 a0, .slice A1 l1.length c1, .slice A2 l2.length c2] w fun e w' => ∃ v0_ : Value, e = .returned (.tuple #[v0_, .int .i64 r2]) ∧ Kd.R (Kd.int .u64) 32 w' w.heap.size (fun _ => True) v0_ r1 ∧ Below w.heap.size w w' := by
 obtain ⟨rfl, rfl⟩ := h
 have hmm := @run_makeMap Tryd.prog
 go_enter Tryd.func12, Tryd.ntmps12
 go_wp2_with (go_at_call 47; (with_reducible refine (field_Valid.calls a0 true _ HT.out).mono ?_); rintro e w' ⟨rfl, ⟨nd, rfl⟩⟩)
 have hb0 : Below w.heap.size w (((w.alloc (.cells #[.int .i64 a0] 3)).drewN nd).alloc (.map #[] 0)) := by repeat (first | exact Below.refl _ _ | apply below_alloc | apply pw_below_drewN)
 have hc0 : (((w.alloc (.cells #[.int .i64 a0] 3)).drewN nd).alloc (.map #[] 0)).cell? ⟨w.heap.size, 0, none⟩ = some (.int .i64 a0) := cell_two_ w a0 nd
 have hS0 : SeenMap (((w.alloc (.cells #[.int .i64 a0] 3)).drewN nd).alloc (.map #[] 0)) (w.heap.size + 1) 0 [] := by
  have := SeenMap.made ((w.alloc (.cells #[.int .i64 a0] 3)).drewN nd)
  rwa [show ((w.alloc (.cells #[.int .i64 a0] 3)).drewN nd).heap.size = w.heap.size + 1 from size_two_ w a0 nd] at this
 have HS0 := ak hS0
 have HC0 := ak hc0
 have HB0 := ak hb0
 clear hS0 hc0 hb0 hmm
 go_loopw [34] (fun i wr => ∃ (j : Nat) (S : List Int), i = .int .i64 j ∧ Aside0 (j ≤ l1.length) ∧ Aside0 (poly_Through.l0 a0 (l1.drop j) S = some true) ∧ Aside0 (SeenMap wr (w.heap.size + 1) j S) ∧ Aside0 (Below w.heap.size w wr) ∧ Aside0 (wr.cell? ⟨w.heap.size, 0, none⟩ = some (.int .i64 a0))) (fun i _ => l1.length - (intOf i).toNat)
 case atStart => exact ⟨0, [], rfl, ⟨Nat.zero_le _⟩, ⟨HD.out⟩, HS0, HB0, HC0⟩
 case round =>
  obtain ⟨j, S, rfl, hj, hl0, hSM, hB, hcf⟩ := hrel
  by_cases hlt : j < l1.length
  ·have h0 := hl0.out
   rw [drop_at64 l1 j hlt] at h0
   simp only [poly_Through.l0] at h0
   obtain ⟨t, ht, h0⟩ := Option.bind_eq_some_iff.1 h0
   have hG2 := ak (Fld.below HG.out hB.out)
   have hcell := hcf.out
   obtain ⟨ad1, rfl, hb1, hx⟩ := (Holds64.of_C HR1.out).keeps (KeepsP.of_below hB.out (fun _ h => h)) j hlt
   have HT2 := ak ht
   clear ht hb1
   by_cases hz : 0 ≤ t ∧ t < 18446744073709551616
   ·rw [if_pos hz] at h0
    have HZ := ak hz
    clear hz
    by_cases hin : t ∈ S
    ·have HIN : decide (t ∈ S) = true := decide_eq_true hin
     clear hin h0
     go_wp2_with (first | (go_at_call 26; (with_reducible refine (field_Reduce.calls a0 (at64 l1 j) t _ ?sG HT2.out).mono ?_); (case sG => exact hG2.out); rintro e w3 ⟨rfl, hb3⟩; have HS3 := ak (hSM.out.below hb3); have HB3 := ak (below_step hB.out hb3); clear hb3) | (at_lookup; refine wpList_seen rfl (.tmp 41) (.tmp 42) rfl (w.heap.size + 1) j S t rfl HS3.out rfl HZ.out ?_; rw [HIN]))
     go_ret2
     exact ⟨_, rfl, finR.out _, HB3.out⟩
    rw [if_neg hin] at h0
    have HIN : decide (t ∈ S) = false := decide_eq_false hin
    have H0 := ak h0
    clear hin h0
    go_wp2_with (first | (go_at_call 26; (with_reducible refine (field_Reduce.calls a0 (at64 l1 j) t _ ?sG HT2.out).mono ?_); (case sG => exact hG2.out); rintro e w3 ⟨rfl, hb3⟩; have HS3 := ak (hSM.out.below hb3); have HB3 := ak (below_step hB.out hb3); have HC3 := ak ((hb3.cell (p := ⟨w.heap.size, 0, none⟩) (Nat.lt_trans (Nat.lt_succ_self _) hSM.out.lt)).trans hcf.out); clear hb3) | (at_lookup; refine wpList_seen rfl (.tmp 41) (.tmp 42) rfl (w.heap.size + 1) j S t rfl HS3.out rfl HZ.out ?_; rw [HIN]) | (at_mapUpdate; refine wpList_see rfl (.tmp 44) (.tmp 45) (.const (.bool true)) rfl (w.heap.size + 1) j S t rfl HS3.out (by unfold maxLen; omega) rfl HZ.out rfl ?_; intro w4 hs4 hg4; have HS4 := ak hs4; have HB4 := ak (HB3.out.grown hg4 HB3.out.size (fun k_ e_ => by cases e_; omega)); have HC4 := ak (grown_cell_ hg4 HC3.out (by show w.heap.size ≠ w.heap.size + 1; omega) ); clear hs4 hg4))
    go_roundw
    case rel => exact ⟨j + 1, t :: S, by go_num, ⟨by omega⟩, H0, HS4, HB4, HC4⟩
    case measure => simp [intOf]; omega
   rw [if_neg hz] at h0
   cases h0
  have h0 := hl0.out
  rw [List.drop_of_length_le (by omega)] at h0
  simp [poly_Through.l0] at h0


set_option maxRecDepth 100000 in
set_option maxHeartbeats 4000000 in
theorem through_fine (k : Nat) (a0 : Int) (A1 : Option Addr) (c1 : Nat) (l1 : List Int) (A2 : Option Addr) (c2 : Nat) (l2 : List Int) (r1 : List Int) (r2 : Int) (w : World) (HG : Aside0 (Fld w)) (HR1 : Aside0 (Kd.C (Kd.int .u64) w A1 l1.length l1)) (HR2 : Aside0 (Kd.C (Kd.int .u64) w A2 l2.length l2))
  (HT : Aside0 (field_Valid.f a0 = some true)) (finR : Aside0 (∀ W, Kd.R (Kd.int .u64) 32 W w.heap.size (fun _ => True) (.slice none 0 0) [])) (hc1 : l1.length ≤ c1) (hs : l1.length ≤ 1024) (HL : Hid (l1.length = l2.length))
  (e1 : (((l1.length : Nat) : Int) != ((l2.length : Nat) : Int)) = false) (e2 : decide ((1024 : Int) < (l1.length : Int)) = false) (HD : Aside0 (poly_Through.l0 a0 l1 [] = some false)) (HP : Aside0 (poly_Through.l1 k a0 (uptoP l1 l2 l1.length) [] [1] = some r1)) (h : 0 = r2) :
  Calls Tryd.prog 12 #[.int .i64 a0, .slice A1 l1.length c1, .slice A2 l2.length c2] w fun e w' => ∃ v0_ : Value, e = .returned (.tuple #[v0_, .int .i64 r2]) ∧ Kd.R (Kd.int .u64) 32 w' w.heap.size (fun _ => True) v0_ r1 ∧ Below w.heap.size w w' := by
 obtain rfl := h
 have hmm := @run_makeMap Tryd.prog
 refine (callsIn_wide (n := 5)).1 (callsIn_of_wp_marks Tryd.func12 rfl trivial ((wpIn_wide (n := 5)).2 ?_) rfl)
 simp only [Tryd.ntmps12, List.size_toArray, List.length_cons, List.length_nil, Nat.reduceAdd, Nat.reduceSub, Array.replicate_succ, Array.replicate_zero, List.push_toArray, List.append_toArray, List.nil_append, List.cons_append]
 go_wp2_with (go_at_call 47; (with_reducible refine (field_Valid.calls a0 true _ HT.out).mono ?_); rintro e w' ⟨rfl, ⟨nd, rfl⟩⟩)
 have hb0 : Below w.heap.size w (((w.alloc (.cells #[.int .i64 a0] 3)).drewN nd).alloc (.map #[] 0)) := by repeat (first | exact Below.refl _ _ | apply below_alloc | apply pw_below_drewN)
 have hc0 : (((w.alloc (.cells #[.int .i64 a0] 3)).drewN nd).alloc (.map #[] 0)).cell? ⟨w.heap.size, 0, none⟩ = some (.int .i64 a0) := cell_two_ w a0 nd
 have hS0 : SeenMap (((w.alloc (.cells #[.int .i64 a0] 3)).drewN nd).alloc (.map #[] 0)) (w.heap.size + 1) 0 [] := by
  have := SeenMap.made ((w.alloc (.cells #[.int .i64 a0] 3)).drewN nd)
  rwa [show ((w.alloc (.cells #[.int .i64 a0] 3)).drewN nd).heap.size = w.heap.size + 1 from size_two_ w a0 nd] at this
 have HS0 := ak hS0
 have HC0 := ak hc0
 have HB0 := ak hb0
 clear hS0 hc0 hb0 hmm
 go_loopw [34] (fun i wr => ∃ (j : Nat) (S : List Int), i = .int .i64 j ∧ Aside0 (j ≤ l1.length) ∧ Aside0 (poly_Through.l0 a0 (l1.drop j) S = some false) ∧ Aside0 (SeenMap wr (w.heap.size + 1) j S) ∧ Aside0 (Below w.heap.size w wr) ∧ Aside0 (wr.cell? ⟨w.heap.size, 0, none⟩ = some (.int .i64 a0))) (fun i _ => l1.length - (intOf i).toNat)
 case atStart => exact ⟨0, [], rfl, ⟨Nat.zero_le _⟩, ⟨HD.out⟩, HS0, HB0, HC0⟩
 case round =>
  obtain ⟨j, S, rfl, hj, hl0, hSM, hB, hcf⟩ := hrel
  by_cases hlt : j < l1.length
  ·have h0 := hl0.out
   rw [drop_at64 l1 j hlt] at h0
   simp only [poly_Through.l0] at h0
   obtain ⟨t, ht, h0⟩ := Option.bind_eq_some_iff.1 h0
   have hG2 := ak (Fld.below HG.out hB.out)
   have hcell := hcf.out
   obtain ⟨ad1, rfl, hb1, hx⟩ := (Holds64.of_C HR1.out).keeps (KeepsP.of_below hB.out (fun _ h => h)) j hlt
   have HT2 := ak ht
   clear ht hb1
   by_cases hz : 0 ≤ t ∧ t < 18446744073709551616
   ·rw [if_pos hz] at h0
    have HZ := ak hz
    clear hz
    by_cases hin : t ∈ S
    ·rw [if_pos hin] at h0
     cases h0
    rw [if_neg hin] at h0
    have HIN : decide (t ∈ S) = false := decide_eq_false hin
    have H0 := ak h0
    clear hin h0
    go_wp2_with (first | (go_at_call 26; (with_reducible refine (field_Reduce.calls a0 (at64 l1 j) t _ ?sG HT2.out).mono ?_); (case sG => exact hG2.out); rintro e w3 ⟨rfl, hb3⟩; have HS3 := ak (hSM.out.below hb3); have HB3 := ak (below_step hB.out hb3); have HC3 := ak ((hb3.cell (p := ⟨w.heap.size, 0, none⟩) (Nat.lt_trans (Nat.lt_succ_self _) hSM.out.lt)).trans hcf.out); clear hb3) | (at_lookup; refine wpList_seen rfl (.tmp 41) (.tmp 42) rfl (w.heap.size + 1) j S t rfl HS3.out rfl HZ.out ?_; rw [HIN]) | (at_mapUpdate; refine wpList_see rfl (.tmp 44) (.tmp 45) (.const (.bool true)) rfl (w.heap.size + 1) j S t rfl HS3.out (by unfold maxLen; omega) rfl HZ.out rfl ?_; intro w4 hs4 hg4; have HS4 := ak hs4; have HB4 := ak (HB3.out.grown hg4 HB3.out.size (fun k_ e_ => by cases e_; omega)); have HC4 := ak (grown_cell_ hg4 HC3.out (by show w.heap.size ≠ w.heap.size + 1; omega) ); clear hs4 hg4))
    go_roundw
    case rel => exact ⟨j + 1, t :: S, by go_num, ⟨by omega⟩, H0, HS4, HB4, HC4⟩
    case measure => simp [intOf]; omega
   rw [if_neg hz] at h0
   cases h0
  have hge : l1.length ≤ j := by omega
  have hcell := hcf.out
  have hwr : w.heap.size + 1 < wr.heap.size := hSM.out.lt
  have hx0_ := ak (thruX_start k a0 l1 l2 r1 w wr A1 A2 l1.length l2.length c1 c2 HP.out hB.out hcell)
  have hsq_ := ak (through_seq 4 (by decide) w wr A1 A2 c1 c2 l1 l2 HL hs hB.out HR1.out HR2.out)
  clear hl0 HD hlt
  go_wp2_with (go_at_call 48; refine (points_calls A1 A2 l1.length l2.length c1 c2 _).mono ?_; rintro e wThru ⟨rfl, rfl⟩)
  refine (wpIn_wide (n := 5)).1 ?_
  refine wpIn_rangeSeq (F := Fence.wide) (n := 5) rfl (by decide) (gf := 64) (lb := #[.pointer (some ⟨wr.heap.size + 1 + 1 + 1, 0, none⟩), .pointer (some ⟨wr.heap.size + 1 + 1 + 1 + 1, 0, none⟩)]) rfl trivial (enters_of Tryd.func64 (by kernel_rfl) rfl) (xs := (uptoP l1 l2 l1.length).map encsP) (K := KeepsP (fun b => b < w.heap.size ∨ b = wr.heap.size + 3 ∨ b = wr.heap.size + 4)) (w0 := wThru wr A1 A2 l1.length l2.length c1 c2) hsq_.out KeepsP.trans ?hKb (Below.refl _ _) ?hps (ThruX k a0 l1 l2 r1 w wr.heap.size) (thruX_own k a0 l1 l2 r1 w wr.heap.size _ ?hB) hx0_.out (fun i => ⟨#[.int .i64 a0, .slice A1 l1.length c1, .slice A2 l2.length c2, .pointer (some ⟨w.heap.size, 0, none⟩), undef, undef, u6, u7, .map (some (w.heap.size + 1)), undef, u10, .pointer (some ⟨wr.heap.size, 0, none⟩), .pointer (some ⟨wr.heap.size + 1 + 1, 0, none⟩), .int .u64 (at64 l1 i), .int .u64 (at64 l2 i), undef, .bool false, .int .i64 a0, .bool true, .bool false, .bool false, .slice A1 l1.length c1, .int .i64 (l1.length : Int), .slice A2 l2.length c2, .int .i64 (l2.length : Int), .bool false, .bool false, .bool false, .slice A1 l1.length c1, .int .i64 (l1.length : Int), .bool false, .map (some (w.heap.size + 1)), .slice A1 l1.length c1, .int .i64 (l1.length : Int), .int .i64 (j : Int), .bool false, u36, u37, u38, u39, u40, u41, u42, u43, u44, u45, u46, .slice (some ⟨wr.heap.size + 1, 0, none⟩) 1 1, .slice A1 l1.length c1, .slice A2 l2.length c2, .func (.func 64) #[] #[.pointer (some ⟨wr.heap.size + 1 + 1 + 1, 0, none⟩), .pointer (some ⟨wr.heap.size + 1 + 1 + 1 + 1, 0, none⟩)], .int .u64 (at64 l1 i), .int .u64 (at64 l2 i), undef, undef, undef, undef, undef, undef, undef, undef, undef, undef, undef, undef, undef, undef, undef, undef, undef, undef, undef, undef, undef, undef, undef, undef, undef], []⟩) ?assign ?body ?done
  case hKb => intro W l o o' hl _ _ _; refine KeepsP.put o' (fun b hb => ?_); have hsz := wThru_size wr A1 A2 l1.length l2.length c1 c2; have hl' : (wThru wr A1 A2 l1.length l2.length c1 c2).heap.size ≤ l := hl; rw [hsz] at hl'; rcases hb with h | h | h <;> omega
  case hps => intro x hx; obtain ⟨z, hz, rfl⟩ := List.mem_map.1 hx; rfl
  case hB => have hsz := wThru_size wr A1 A2 l1.length l2.length c1 c2; show w.heap.size ≤ (wThru wr A1 A2 l1.length l2.length c1 c2).heap.size; omega
  case assign =>
   intro l i hi W K' hK'
   rw [uptoP_get]
   simp only [List.zip_toArray, List.zip_cons_cons, List.zip_nil_right, List.foldl_toArray, List.foldl_cons, List.foldl_nil, List.setIfInBounds_toArray, List.set_cons_zero, List.set_cons_succ]
   refine wpIn_seq (regIn_list (by simp [noDefer]) (fun ⟨_, _, h⟩ => h) ?_)
   go_wp2
   show Code.wpIn _ _ _ _ _ _ _
   refine regIn_list (by simp [noDefer]) (fun ⟨_, _, h⟩ => h) ?_
   go_wp2
   exact hK'
  case body =>
   intro l i W hi hX
   replace hi : i < l1.length := by simpa [uptoP] using hi
   obtain ⟨p, v, vp, vv, on, hb⟩ := hX
   rw [uptoP_drop l1 l2 i l1.length hi] at on
   simp only [poly_Through.l1, pairOf] at on
   obtain ⟨t1, h1, on⟩ := Option.bind_eq_some_iff.1 on
   obtain ⟨t2, h2, on⟩ := Option.bind_eq_some_iff.1 on
   obtain ⟨t3, h3, on⟩ := Option.bind_eq_some_iff.1 on
   obtain ⟨t4, h4, on⟩ := Option.bind_eq_some_iff.1 on
   obtain ⟨t5, h5, on⟩ := Option.bind_eq_some_iff.1 on
   obtain ⟨t6, h6, on⟩ := Option.bind_eq_some_iff.1 on
   obtain ⟨t7, h7, on⟩ := Option.bind_eq_some_iff.1 on
   obtain ⟨Ap, cp, rfl, hcp, hCp⟩ := Kd.R_reads hb.rp
   obtain ⟨Av, cv, rfl, hcv, hCv⟩ := Kd.R_reads hb.rv
   have H1 := ak h1; have H2 := ak h2; have H3 := ak h3; have H4 := ak h4; have H5 := ak h5; have H6 := ak h6; have H7 := ak h7; have ON := ak on; have HTB := ak hb
   have HCP := ak hcp; have HCV := ak hcv
   clear h1 h2 h3 h4 h5 h6 h7 on hb hcp hcv hCp hCv
   refine wpIn_block ?_
   have hkk_ := ak (KeepsP.refl (fun b => b < w.heap.size ∨ b = wr.heap.size + 3 ∨ b = wr.heap.size + 4) W)
   have hkf_ := ak (KeepsFrom.refl (wThru wr A1 A2 l1.length l2.length c1 c2).heap.size W)
   refine wpIn_seq ?_
   have hb : Below W.heap.size W W.drew := below_drew1 (Below.refl _ _)
   have nt_ := ak (HTB.out.below hb)
   have nk_ := ak (keepsP_step hkk_.out HTB.out hb)
   have nf_ := ak (keepsFrom_step hkf_.out hb)
   clear HTB hkk_ hkf_ hb
   have HTB := nt_
   have hkk_ := nk_
   have hkf_ := nf_
   clear nt_ nk_ nf_
   refine startIn_ (n := 14) (by simp [noDefer]) (fun ⟨_, _, h⟩ => h) (S := fun w' => w'.cell? ⟨w.heap.size, 0, none⟩ = some (.int .i64 a0) ∧ w'.cell? ⟨wr.heap.size, 0, none⟩ = some (.slice Ap p.length cp) ∧ w'.cell? ⟨wr.heap.size + 1 + 1, 0, none⟩ = some (.slice Av v.length cv)) (ds := []) #[false, false, false, false, false, false, false, false, false, false, false, false, false, false] (by kernel_rfl) rfl rfl ⟨HTB.out.cf, cell_of_one HTB.out.cp, cell_of_one HTB.out.cv⟩ (fun hHeld => ?_)
   refine pure_ (i := 2) (N := some 55) (v := ?_) (a' := ?_) (bv 14 4) rfl rfl (by kernel_rfl) (fun _ _ _ h => h) (Or.inl ⟨by rfl, ?_⟩) ?_ ?_
   rotate_left
   ·intro w'
    go_simp
    with_reducible rfl
   rotate_left
   ·simp only [Act.put, s1_, s2_, s3_, i64_w, i32_w]
    rfl
   refine pure_ (i := 5) (N := some 58) (v := ?_) (a' := ?_) (bv 14 36) rfl rfl (by kernel_rfl) (fun _ _ _ h => h) (Or.inl ⟨by rfl, ?_⟩) ?_ ?_
   rotate_left
   ·intro w'
    go_simp
    with_reducible rfl
   rotate_left
   ·simp only [Act.put, s1_, s2_, s3_, i64_w, i32_w]
    rfl
   refine pure_ (i := 10) (N := some 63) (v := ?_) (a' := ?_) (bv 14 1060) rfl rfl (by kernel_rfl) (fun _ _ _ h => h) (Or.inl ⟨by rfl, ?_⟩) ?_ ?_
   rotate_left
   ·intro w'
    go_simp
    with_reducible rfl
   rotate_left
   ·simp only [Act.put, s1_, s2_, s3_, i64_w, i32_w]
    rfl
   refine take_ (i := 0) (N := some 53) (v := ?_) (a' := ?_) (bv 14 1061) rfl rfl (by kernel_rfl) (fun _ _ _ h => h) (Or.inl ⟨by rfl, ?_⟩) hHeld ?_ ?_
   rotate_left
   ·rintro w' ⟨s0, s1, s2⟩
    go_simp
    with_reducible rfl
   rotate_left
   ·simp only [Act.put, s1_, s2_, s3_, i64_w, i32_w]
    rfl
   refine take_ (i := 1) (N := some 54) (v := ?_) (a' := ?_) (bv 14 1063) rfl rfl (by kernel_rfl) (fun _ _ _ h => h) (Or.inl ⟨by rfl, ?_⟩) hHeld ?_ ?_
   rotate_left
   ·rintro w' ⟨s0, s1, s2⟩
    go_simp
    with_reducible rfl
   rotate_left
   ·simp only [Act.put, s1_, s2_, s3_, i64_w, i32_w]
    rfl
   refine take_ (i := 3) (N := some 56) (v := ?_) (a' := ?_) (bv 14 1071) rfl rfl (by kernel_rfl) (fun _ _ _ h => h) (Or.inl ⟨by rfl, ?_⟩) hHeld ?_ ?_
   rotate_left
   ·rintro w' ⟨s0, s1, s2⟩
    go_simp
    with_reducible rfl
   rotate_left
   ·simp only [Act.put, s1_, s2_, s3_, i64_w, i32_w]
    rfl
   refine take_ (i := 4) (N := some 57) (v := ?_) (a' := ?_) (bv 14 1087) rfl rfl (by kernel_rfl) (fun _ _ _ h => h) (Or.inl ⟨by rfl, ?_⟩) hHeld ?_ ?_
   rotate_left
   ·rintro w' ⟨s0, s1, s2⟩
    go_simp
    with_reducible rfl
   rotate_left
   ·simp only [Act.put, s1_, s2_, s3_, i64_w, i32_w]
    rfl
   refine take_ (i := 8) (N := some 61) (v := ?_) (a' := ?_) (bv 14 1343) rfl rfl (by kernel_rfl) (fun _ _ _ h => h) (Or.inl ⟨by rfl, ?_⟩) hHeld ?_ ?_
   rotate_left
   ·rintro w' ⟨s0, s1, s2⟩
    go_simp
    with_reducible rfl
   rotate_left
   ·simp only [Act.put, s1_, s2_, s3_, i64_w, i32_w]
    rfl
   refine take_ (i := 9) (N := some 62) (v := ?_) (a' := ?_) (bv 14 1855) rfl rfl (by kernel_rfl) (fun _ _ _ h => h) (Or.inl ⟨by rfl, ?_⟩) hHeld ?_ ?_
   rotate_left
   ·rintro w' ⟨s0, s1, s2⟩
    go_simp
    with_reducible rfl
   rotate_left
   ·simp only [Act.put, s1_, s2_, s3_, i64_w, i32_w]
    rfl
   refine one_ (i := 6) (N := some 59) (bv 14 1919) rfl rfl (by kernel_rfl) (by decide) (fun K hK => ?_)
   refine goes_ Tryd.func25 (by kernel_rfl) rfl #[.int .i64 a0, .slice Ap p.length cp, .int .u64 (at64 l1 i)] (by rfl) rfl rfl (by simp only [List.map_toArray, List.map_cons, List.map_nil]; rfl) ?_
   with_reducible refine (poly_Eval.calls k a0 Ap cp p (at64 l1 i) t1 _ (Fld.below HG.out HTB.out.bel) (R_reads' HTB.out.rp).2.2 HCP.out H1.out).mono ?_
   rintro e w3 ⟨rfl, hb⟩
   refine ⟨_, rfl, ?_⟩
   have nt_ := ak (HTB.out.below hb)
   have nk_ := ak (keepsP_step hkk_.out HTB.out hb)
   have nf_ := ak (keepsFrom_step hkf_.out hb)
   clear HTB hkk_ hkf_ hb
   have HTB := nt_
   have hkk_ := nk_
   have hkf_ := nf_
   clear nt_ nk_ nf_
   refine hK.out _ _ ⟨HTB.out.cf, cell_of_one HTB.out.cp, cell_of_one HTB.out.cv⟩ (fun hHeld => ?_)
   clear hK K
   refine norm_ (a' := ?_) ?_ ?_
   rotate_left
   ·show Act.put _ (some 59) _ = _
    simp only [Act.put, s1_, s2_, s3_, i64_w, i32_w]
    rfl
   refine one_ (i := 7) (N := some 60) (bv 14 2047) rfl rfl (by kernel_rfl) (by decide) (fun K hK => ?_)
   refine goes_ Tryd.func24 (by kernel_rfl) rfl #[.int .i64 a0, .int .u64 (at64 l2 i), .int .u64 t1] (by rfl) rfl rfl (by simp only [List.map_toArray, List.map_cons, List.map_nil]; rfl) ?_
   with_reducible refine (field_Sub.calls a0 (at64 l2 i) t1 t2 _ (Fld.below HG.out HTB.out.bel) H2.out).mono ?_
   rintro e w3 ⟨rfl, hb⟩
   refine ⟨_, rfl, ?_⟩
   have nt_ := ak (HTB.out.below hb)
   have nk_ := ak (keepsP_step hkk_.out HTB.out hb)
   have nf_ := ak (keepsFrom_step hkf_.out hb)
   clear HTB hkk_ hkf_ hb
   have HTB := nt_
   have hkk_ := nk_
   have hkf_ := nf_
   clear nt_ nk_ nf_
   refine hK.out _ _ ⟨HTB.out.cf, cell_of_one HTB.out.cp, cell_of_one HTB.out.cv⟩ (fun hHeld => ?_)
   clear hK K
   refine norm_ (a' := ?_) ?_ ?_
   rotate_left
   ·show Act.put _ (some 60) _ = _
    simp only [Act.put, s1_, s2_, s3_, i64_w, i32_w]
    rfl
   refine one_ (i := 11) (N := some 64) (bv 14 4095) rfl rfl (by kernel_rfl) (by decide) (fun K hK => ?_)
   refine goes_ Tryd.func25 (by kernel_rfl) rfl #[.int .i64 a0, .slice Av v.length cv, .int .u64 (at64 l1 i)] (by rfl) rfl rfl (by simp only [List.map_toArray, List.map_cons, List.map_nil]; rfl) ?_
   with_reducible refine (poly_Eval.calls k a0 Av cv v (at64 l1 i) t3 _ (Fld.below HG.out HTB.out.bel) (R_reads' HTB.out.rv).2.2 HCV.out H3.out).mono ?_
   rintro e w3 ⟨rfl, hb⟩
   refine ⟨_, rfl, ?_⟩
   have nt_ := ak (HTB.out.below hb)
   have nk_ := ak (keepsP_step hkk_.out HTB.out hb)
   have nf_ := ak (keepsFrom_step hkf_.out hb)
   clear HTB hkk_ hkf_ hb
   have HTB := nt_
   have hkk_ := nk_
   have hkf_ := nf_
   clear nt_ nk_ nf_
   refine hK.out _ _ ⟨HTB.out.cf, cell_of_one HTB.out.cp, cell_of_one HTB.out.cv⟩ (fun hHeld => ?_)
   clear hK K
   refine norm_ (a' := ?_) ?_ ?_
   rotate_left
   ·show Act.put _ (some 64) _ = _
    simp only [Act.put, s1_, s2_, s3_, i64_w, i32_w]
    rfl
   refine one_ (i := 12) (N := some 65) (bv 14 8191) rfl rfl (by kernel_rfl) (by decide) (fun K hK => ?_)
   refine goes_ Tryd.func49 (by kernel_rfl) rfl #[.int .i64 a0, .int .u64 t2, .int .u64 t3] (by rfl) rfl rfl (by simp only [List.map_toArray, List.map_cons, List.map_nil]; rfl) ?_
   with_reducible refine (field_Div.calls k a0 t2 t3 t4 _ (Fld.below HG.out HTB.out.bel) H4.out).mono ?_
   rintro e w3 ⟨rfl, hb⟩
   refine ⟨_, rfl, ?_⟩
   have nt_ := ak (HTB.out.below hb)
   have nk_ := ak (keepsP_step hkk_.out HTB.out hb)
   have nf_ := ak (keepsFrom_step hkf_.out hb)
   clear HTB hkk_ hkf_ hb
   have HTB := nt_
   have hkk_ := nk_
   have hkf_ := nf_
   clear nt_ nk_ nf_
   refine hK.out _ _ ⟨HTB.out.cf, cell_of_one HTB.out.cp, cell_of_one HTB.out.cv⟩ (fun hHeld => ?_)
   clear hK K
   refine norm_ (a' := ?_) ?_ ?_
   rotate_left
   ·show Act.put _ (some 65) _ = _
    simp only [Act.put, s1_, s2_, s3_, i64_w, i32_w]
    rfl
   refine pure_ (i := 13) (N := some 15) (v := ?_) (a' := ?_) (bv 14 16383) rfl rfl (by kernel_rfl) (fun _ _ _ h => h) (Or.inl ⟨by rfl, ?_⟩) ?_ ?_
   rotate_left
   ·intro w'
    go_simp
    with_reducible rfl
   rotate_left
   ·simp only [Act.put, s1_, s2_, s3_, i64_w, i32_w]
    rfl
   refine done_ (by kernel_rfl) ?_
   show Code.wpIn _ _ _ _ _ _ _
   refine wpIn_seq ?_
   have hb : Below w3.heap.size w3 w3.drew := below_drew1 (Below.refl _ _)
   have nt_ := ak (HTB.out.below hb)
   have nk_ := ak (keepsP_step hkk_.out HTB.out hb)
   have nf_ := ak (keepsFrom_step hkf_.out hb)
   clear HTB hkk_ hkf_ hb
   have HTB := nt_
   have hkk_ := nk_
   have hkf_ := nf_
   clear nt_ nk_ nf_
   refine startIn_ (n := 8) (by simp [noDefer]) (fun ⟨_, _, h⟩ => h) (S := fun w' => w'.cell? ⟨w.heap.size, 0, none⟩ = some (.int .i64 a0) ∧ w'.cell? ⟨wr.heap.size, 0, none⟩ = some (.slice Ap p.length cp) ∧ w'.cell? ⟨wr.heap.size + 1 + 1, 0, none⟩ = some (.slice Av v.length cv)) (ds := [7]) #[false, false, false, false, false, false, false, false] (by kernel_rfl) rfl rfl ⟨HTB.out.cf, cell_of_one HTB.out.cp, cell_of_one HTB.out.cv⟩ (fun hHeld => ?_)
   refine pure_ (i := 4) (N := some 70) (v := ?_) (a' := ?_) (bv 8 16) rfl rfl (by kernel_rfl) (fun _ _ _ h => h) (Or.inl ⟨by rfl, ?_⟩) ?_ ?_
   rotate_left
   ·intro w'
    go_simp
    with_reducible rfl
   rotate_left
   ·simp only [Act.put, s1_, s2_, s3_, i64_w, i32_w]
    rfl
   refine take_ (i := 0) (N := some 66) (v := ?_) (a' := ?_) (bv 8 17) rfl rfl (by kernel_rfl) (fun _ _ _ h => h) (Or.inl ⟨by rfl, ?_⟩) hHeld ?_ ?_
   rotate_left
   ·rintro w' ⟨s0, s1, s2⟩
    go_simp
    with_reducible rfl
   rotate_left
   ·simp only [Act.put, s1_, s2_, s3_, i64_w, i32_w]
    rfl
   refine take_ (i := 1) (N := some 67) (v := ?_) (a' := ?_) (bv 8 19) rfl rfl (by kernel_rfl) (fun _ _ _ h => h) (Or.inl ⟨by rfl, ?_⟩) hHeld ?_ ?_
   rotate_left
   ·rintro w' ⟨s0, s1, s2⟩
    go_simp
    with_reducible rfl
   rotate_left
   ·simp only [Act.put, s1_, s2_, s3_, i64_w, i32_w]
    rfl
   refine take_ (i := 2) (N := some 68) (v := ?_) (a' := ?_) (bv 8 23) rfl rfl (by kernel_rfl) (fun _ _ _ h => h) (Or.inl ⟨by rfl, ?_⟩) hHeld ?_ ?_
   rotate_left
   ·rintro w' ⟨s0, s1, s2⟩
    go_simp
    with_reducible rfl
   rotate_left
   ·simp only [Act.put, s1_, s2_, s3_, i64_w, i32_w]
    rfl
   refine take_ (i := 3) (N := some 69) (v := ?_) (a' := ?_) (bv 8 31) rfl rfl (by kernel_rfl) (fun _ _ _ h => h) (Or.inl ⟨by rfl, ?_⟩) hHeld ?_ ?_
   rotate_left
   ·rintro w' ⟨s0, s1, s2⟩
    go_simp
    with_reducible rfl
   rotate_left
   ·simp only [Act.put, s1_, s2_, s3_, i64_w, i32_w]
    rfl
   refine one_ (i := 5) (N := some 71) (bv 8 63) rfl rfl (by kernel_rfl) (by decide) (fun K hK => ?_)
   refine goes_ Tryd.func32 (by kernel_rfl) rfl #[.int .i64 a0, .slice Av v.length cv, .int .u64 t4] (by rfl) rfl rfl (by simp only [List.map_toArray, List.map_cons, List.map_nil]; rfl) ?_
   with_reducible refine (poly_Scale.calls k a0 Av cv v t4 t5 _ (Fld.below HG.out HTB.out.bel) (R_reads' HTB.out.rv).2.2 HCV.out H5.out).mono ?_
   rintro e w3 ⟨v0_, rfl, hR, hb⟩
   obtain ⟨Asc, csc, rfl, hsc, _⟩ := Kd.R_reads hR
   refine ⟨_, rfl, ?_⟩
   have Hsc := ak hsc
   have Rsc := ak (R_mono (R_lower hR HTB.out.bel.size) (fun _ _ => trivial) : Kd.R (Kd.int .u64) 32 w3 w.heap.size (fun _ => True) _ _)
   clear hsc hR
   have nt_ := ak (HTB.out.below hb)
   have nk_ := ak (keepsP_step hkk_.out HTB.out hb)
   have nf_ := ak (keepsFrom_step hkf_.out hb)
   clear HTB hkk_ hkf_ hb
   have HTB := nt_
   have hkk_ := nk_
   have hkf_ := nf_
   clear nt_ nk_ nf_
   refine hK.out _ _ ⟨HTB.out.cf, cell_of_one HTB.out.cp, cell_of_one HTB.out.cv⟩ (fun hHeld => ?_)
   clear hK K
   refine norm_ (a' := ?_) ?_ ?_
   rotate_left
   ·show Act.put _ (some 71) _ = _
    simp only [Act.put, s1_, s2_, s3_, i64_w, i32_w]
    rfl
   refine one_ (i := 6) (N := some 72) (bv 8 127) rfl rfl (by kernel_rfl) (by decide) (fun K hK => ?_)
   refine goes_ Tryd.func22 (by kernel_rfl) rfl #[.int .i64 a0, .slice Ap p.length cp, .slice Asc t5.length csc] (by rfl) rfl rfl (by simp only [List.map_toArray, List.map_cons, List.map_nil]; rfl) ?_
   with_reducible refine (poly_Add.calls k a0 Ap cp p Asc csc t5 t6 _ (Fld.below HG.out HTB.out.bel) (R_reads' HTB.out.rp).2.2 HCP.out (R_reads' Rsc.out).2.2 Hsc.out H6.out).mono ?_
   rintro e w3 ⟨v0_, rfl, hR, hb⟩
   obtain ⟨Aad, cad, rfl, had, _⟩ := Kd.R_reads hR
   refine ⟨_, rfl, ?_⟩
   have Had := ak had
   have Rad := ak (R_mono (R_lower hR HTB.out.bel.size) (fun _ _ => trivial) : Kd.R (Kd.int .u64) 32 w3 w.heap.size (fun _ => True) _ _)
   clear had hR
   have nt_ := ak (HTB.out.below hb)
   have nk_ := ak (keepsP_step hkk_.out HTB.out hb)
   have nf_ := ak (keepsFrom_step hkf_.out hb)
   clear HTB hkk_ hkf_ hb
   have HTB := nt_
   have hkk_ := nk_
   have hkf_ := nf_
   clear nt_ nk_ nf_
   refine hK.out _ _ ⟨HTB.out.cf, cell_of_one HTB.out.cp, cell_of_one HTB.out.cv⟩ (fun hHeld => ?_)
   clear hK K
   refine norm_ (a' := ?_) ?_ ?_
   rotate_left
   ·show Act.put _ (some 72) _ = _
    simp only [Act.put, s1_, s2_, s3_, i64_w, i32_w]
    rfl
   refine last_ (i := 7) (N := none) #[true, true, true, true, true, true, true, true] rfl rfl (by kernel_rfl) (by decide) (fun K hK => ?_)
   have hcP_ := cell_of_one HTB.out.cp
   have hfP_ := free_of_one HTB.out.cp
   refine skip_ (w1 := ?_) (by rfl) rfl ?_ ?_
   rotate_left
   ·go_simp
    rfl
   refine hK.out _ _ ?_
   clear hK K
   refine done_ (by kernel_rfl) ?_
   have nt_ := ak (HTB.out.putP (Nat.lt_of_succ_lt hwr) Rad.out)
   have nk_ := ak (KeepsP.setCell hkk_.out (b := wr.heap.size) (.slice Aad t6.length cad) (by rintro (h | h | h) <;> omega))
   have nf_ := ak (keepsFrom_setCell hkf_.out HTB.out.cp (.slice Aad t6.length cad))
   clear HTB hkk_ hkf_
   have HTB := nt_
   have hkk_ := nk_
   have hkf_ := nf_
   clear nt_ nk_ nf_
   clear hcP_ hfP_ hHeld
   show Code.wpIn _ _ _ _ _ _ _
   refine regIn_list (by simp [noDefer]) (fun ⟨_, _, h⟩ => h) ?_
   have hc1_ := HTB.out.cf
   have hc2_ := cell_of_one HTB.out.cv
   go_wp2_with (go_at_call 50; (with_reducible refine (poly_times.calls k a0 Av cv v (at64 l1 i) t7 _ (Fld.below HG.out HTB.out.bel) ((R_reads' HTB.out.rv).2.2) ?sc H7.out).mono ?_); (case sc => exact HCV.out); rintro e w3 ⟨v0_, rfl, hR, hb⟩; obtain ⟨Atm, ctm, rfl, htm, _⟩ := Kd.R_reads hR; have Rtm := ak (R_mono (R_lower hR HTB.out.bel.size) (fun _ _ => trivial) : Kd.R (Kd.int .u64) 32 w3 w.heap.size (fun _ => True) _ _); clear htm hR; have nt_ := ak (HTB.out.below hb); have nk_ := ak (keepsP_step hkk_.out HTB.out hb); have nf_ := ak (keepsFrom_step hkf_.out hb); clear HTB hkk_ hkf_ hb; have HTB := nt_; have hkk_ := nk_; have hkf_ := nf_; clear nt_ nk_ nf_; have hc3_ := cell_of_one HTB.out.cv; have hf3_ := free_of_one HTB.out.cv)
   have nt_ := ak (HTB.out.putV (Nat.lt_of_succ_lt hwr) Rtm.out)
   have nk_ := ak (KeepsP.setCell hkk_.out (b := wr.heap.size + 1 + 1) (.slice Atm t7.length ctm) (by rintro (h | h | h) <;> omega))
   have nf_ := ak (keepsFrom_setCell hkf_.out HTB.out.cv (.slice Atm t7.length ctm))
   clear HTB hkk_ hkf_
   have HTB := nt_
   have hkk_ := nk_
   have hkf_ := nf_
   clear nt_ nk_ nf_
   exact ⟨hkf_.out, hkk_.out, _, _, _, _, ON.out, HTB.out⟩
  case done =>
   intro D W hD hX hDf
   rw [show ((uptoP l1 l2 l1.length).map encsP).length = l1.length by simp [uptoP]] at hX
   obtain ⟨p, v, vp, vv, on, hb⟩ := hX
   rw [List.drop_of_length_le (by simp [uptoP])] at on
   simp only [poly_Through.l1, Option.some.injEq] at on
   subst on
   obtain ⟨Ap, cp, rfl, hcp, hCp⟩ := Kd.R_reads hb.rp
   have HTB := ak hb
   have hc1_ := cell_of_one hb.cp
   have HCP := ak hcp
   clear hb hCp hcp
   go_wp2
   refine ⟨by simp, .inl ⟨_, _, rfl, run_takeDeferred hDf, ?_⟩⟩
   refine ⟨_, results_tmp2 rfl _ _ _, _, rfl, ?_, ?_⟩
   ·exact rowOf_grown HTB.out.rp (grownBy_putObj' _ _ _) (fun r e => by cases e; exact ⟨_, hDf, rfl⟩) rfl
   exact HTB.out.bel.grown (grownBy_putObj' _ _ _) HTB.out.bel.size (fun b e => by cases e; have := wThru_size wr A1 A2 l1.length l2.length c1 c2; have h : (wThru wr A1 A2 l1.length l2.length c1 c2).heap.size ≤ D := hD; omega)

set_option maxRecDepth 100000 in
set_option maxHeartbeats 4000000 in
theorem poly_Through.calls (k : Nat) (a0 : Int) (A1 : Option Addr) (c1 : Nat) (l1 : List Int) (A2 : Option Addr) (c2 : Nat) (l2 : List Int) (r1 : List Int) (r2 : Int) (w : World) (hG : Fld w) (hr1 : Kd.C (Kd.int .u64) w A1 l1.length l1) (hc1 : l1.length ≤ c1) (hr2 : Kd.C (Kd.int .u64) w A2 l2.length l2) (hc2 : l2.length ≤ c2)
  (h : poly_Through.f k a0 l1 l2 = some (r1, r2)) :
  Calls Tryd.prog 12 #[.int .i64 a0, .slice A1 l1.length c1, .slice A2 l2.length c2] w fun e w' => ∃ v0_ : Value, e = .returned (.tuple #[v0_, .int .i64 r2]) ∧ Kd.R (Kd.int .u64) 32 w' w.heap.size (fun _ => True) v0_ r1 ∧ Below w.heap.size w w' := by
 unfold poly_Through.f at h
 obtain ⟨t, ht, h⟩ := Option.bind_eq_some_iff.1 h
 have HG := ak hG
 have HR1 := ak hr1
 have HR2 := ak hr2
 have HT := ak ht
 clear hG hr1 hr2 ht
 have finR : Aside0 (∀ W, Kd.R (Kd.int .u64) 32 W w.heap.size (fun _ => True) (.slice none 0 0) []) := ⟨fun _ => Kd.R_nil _ _ _ _ _⟩
 cases t with
 | false =>
  rw [if_neg (by simp)] at h
  simp only [Option.some.injEq, Prod.mk.injEq] at h
  obtain ⟨rfl, rfl⟩ := h
  go_enter Tryd.func12, Tryd.ntmps12
  go_wp2_with (go_at_call 47; (with_reducible refine (field_Valid.calls a0 false _ HT.out).mono ?_); rintro e w' ⟨rfl, ⟨nd, rfl⟩⟩)
  go_ret2
  exact ⟨_, rfl, finR.out _, by repeat (first | exact Below.refl _ _ | apply below_alloc | apply pw_below_drewN | apply below_drew1)⟩
 | true =>
  by_cases hl : l1.length = l2.length
  ·rw [if_pos ⟨rfl, hl⟩] at h
   by_cases hs : l1.length ≤ 1024
   ·rw [if_pos hs] at h
    obtain ⟨d, hd, h⟩ := Option.bind_eq_some_iff.1 h
    have e1 : (((l1.length : Nat) : Int) != ((l2.length : Nat) : Int)) = false := by simp [hl]
    have e2 : decide ((1024 : Int) < (l1.length : Int)) = false := by simp; omega
    cases d with
    | true =>
     rw [if_pos rfl] at h
     simp only [Option.some.injEq, Prod.mk.injEq] at h
     exact through_dup k a0 A1 c1 l1 A2 c2 l2 r1 r2 w HG HR1 HT finR hc1 hs (Lib.hid hl) e1 e2 ⟨hd⟩ h
    | false =>
     rw [if_neg (by simp)] at h
     obtain ⟨p, hp, h2⟩ := Option.bind_eq_some_iff.1 h
     simp only [Option.some.injEq, Prod.mk.injEq] at h2
     obtain ⟨h3, h4⟩ := h2
     subst h3
     exact through_fine k a0 A1 c1 l1 A2 c2 l2 p r2 w HG HR1 HR2 HT finR hc1 hs (Lib.hid hl) e1 e2 ⟨hd⟩ ⟨hp⟩ h4
   rw [if_neg hs] at h
   simp only [Option.some.injEq, Prod.mk.injEq] at h
   obtain ⟨rfl, rfl⟩ := h
   have e1 : (((l1.length : Nat) : Int) != ((l2.length : Nat) : Int)) = false := by simp [hl]
   have e2 : decide ((1024 : Int) < (l1.length : Int)) = true := by simp; omega
   have HL := Lib.hid hl
   clear hl
   go_enter Tryd.func12, Tryd.ntmps12
   go_wp2_with (go_at_call 47; (with_reducible refine (field_Valid.calls a0 true _ HT.out).mono ?_); rintro e w' ⟨rfl, ⟨nd, rfl⟩⟩)
   go_ret2
   exact ⟨_, rfl, finR.out _, by repeat (first | exact Below.refl _ _ | apply below_alloc | apply pw_below_drewN | apply below_drew1)⟩
  rw [if_neg (by simp [hl])] at h
  simp only [Option.some.injEq, Prod.mk.injEq] at h
  obtain ⟨rfl, rfl⟩ := h
  have e1 : (((l1.length : Nat) : Int) != ((l2.length : Nat) : Int)) = true := by simp; omega
  have e3 : (l1.length == l2.length) = false := by simpa using hl
  clear hl
  go_enter Tryd.func12, Tryd.ntmps12
  go_wp2_with (go_at_call 47; (with_reducible refine (field_Valid.calls a0 true _ HT.out).mono ?_); rintro e w' ⟨rfl, ⟨nd, rfl⟩⟩)
  go_ret2
  exact ⟨_, rfl, finR.out _, by repeat (first | exact Below.refl _ _ | apply below_alloc | apply pw_below_drewN | apply below_drew1)⟩
theorem poly_Through.mono_l : ∀ (a0 : Int) (l : List (Int × Int)) (p v : List Int) (k : Nat), LeO (poly_Through.l1 k a0 l p v) (poly_Through.l1 (k + 1) a0 l p v)
 | _, [], _, _, _ => LeO.refl _
 | a0, z :: r, p, v, k => by
  simp only [poly_Through.l1]
  exact LeO.bind (poly_Eval.mono _ _ _ _) fun _ => LeO.bind (LeO.refl _) fun _ => LeO.bind (poly_Eval.mono _ _ _ _) fun _ => LeO.bind (field_Div.mono _ _ _ _) fun _ => LeO.bind (poly_Scale.mono _ _ _ _) fun _ => LeO.bind (poly_Add.mono _ _ _ _) fun _ => LeO.bind (poly_times.mono _ _ _ _) fun _ => poly_Through.mono_l _ _ _ _ _
theorem poly_Through.mono : ∀ a0 l1 l2 k, LeO (poly_Through.f k a0 l1 l2) (poly_Through.f (k + 1) a0 l1 l2) := by
 intro a0 l1 l2 k
 unfold poly_Through.f
 refine LeO.bind (LeO.refl _) (fun _ => LeO.ite (LeO.ite (LeO.bind (LeO.refl _) fun _ => LeO.ite (LeO.refl _) (LeO.bind (poly_Through.mono_l _ _ _ _ _) fun _ => LeO.refl _)) (LeO.refl _)) (LeO.refl _))

end Go.Proofs.YtmnahhacobfafaaDoor.Q
